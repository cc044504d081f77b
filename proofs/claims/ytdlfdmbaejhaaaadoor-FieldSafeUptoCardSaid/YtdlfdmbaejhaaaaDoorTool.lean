/- Plain laws on bytes, lists and rounds; no program stands in them. -/
import Derived.Test.YtdlfdmbaejhaaaaDoorWMore
import Derived.Lib.Strings
import Derived.Lib.IndexBytes
import Derived.Laws.BytesArg
set_option linter.unusedVariables false
set_option linter.unusedSimpArgs false
namespace Go.Proofs.YtdlfdmbaejhaaaaDoor.Q
open Go.RowKit Go.Proofs.YtdlfdmbaejhaaaaDoorW.PrintWords Go.Proofs.YtdlfdmbaejhaaaaDoorW.PrintLast Go.Proofs.YtdlfdmbaejhaaaaDoorW.PrintMore

/-! ### rounds -/
theorem Ev.at_ {α : Type} {g : Nat → Option α} {r : α} (h : ∀ k, g k = some r) : Ev g r := ⟨0, fun k _ => h k⟩
theorem Ev.loop {σ α : Type} {F : Nat → σ → Option α} {r : σ → α} (I : σ → Prop) (m : σ → Nat)
    (h : ∀ s, I s → (∀ s', I s' → m s' < m s → Ev (fun k => F k s') (r s')) → Ev (fun k => F (k + 1) s) (r s)) : ∀ s, I s → Ev (fun k => F k s) (r s) := by
  have H : ∀ n s, m s < n → I s → Ev (fun k => F k s) (r s) := by
    intro n
    induction n with
    | zero => intro s hs; omega
    | succ n ih =>
      intro s hs hI
      exact Ev.step (f := fun k => F (k + 1) s) (fun _ => rfl) (h s hI (fun s' hI' hm => ih s' (by omega) hI'))
  intro s hI
  exact H (m s + 1) s (by omega) hI
theorem Ev.if_pos {α : Type} {c : Prop} [Decidable c] {g f : Nat → Option α} {r : α} (hc : c) (h : Ev g r) : Ev (fun k => if c then g k else f k) r := by
  obtain ⟨K, h⟩ := h
  exact ⟨K, fun k hk => (_root_.if_pos hc).trans (h k hk)⟩
theorem Ev.if_neg {α : Type} {c : Prop} [Decidable c] {g f : Nat → Option α} {r : α} (hc : ¬ c) (h : Ev f r) : Ev (fun k => if c then g k else f k) r := by
  obtain ⟨K, h⟩ := h
  exact ⟨K, fun k hk => (_root_.if_neg hc).trans (h k hk)⟩
theorem Ev.if_ {α : Type} {c : Prop} [Decidable c] {g f : Nat → Option α} {a b : α} (h1 : c → Ev g a) (h2 : ¬ c → Ev f b) : Ev (fun k => if c then g k else f k) (if c then a else b) := by
  by_cases hc : c
  · rw [_root_.if_pos hc]; exact Ev.if_pos hc (h1 hc)
  · rw [_root_.if_neg hc]; exact Ev.if_neg hc (h2 hc)
theorem Ev.some_bind {α β : Type} {g : Nat → Option α} {f : Nat → α → Option β} {a : α} {r : β} (h : ∀ k, g k = some a) (k : Ev (fun n => f n a) r) : Ev (fun n => (g n).bind (f n)) r := Ev.bind (Ev.at_ h) k
theorem Ev.eq {α : Type} {g : Nat → Option α} {a b : α} (h : Ev g a) (e : a = b) : Ev g b := e ▸ h

theorem opt_bind_some {α : Type} (o : Option α) : (o.bind fun t => some t) = o := by cases o <;> rfl

/-! ### bytes -/
theorem wrap64_of {x : Int} (h : -9223372036854775808 ≤ x ∧ x ≤ 9223372036854775807) : wrap64 x = x := by unfold wrap64; omega
theorem bt_eq (s : ByteArray) (i : Int) : bt s i = (bytesOf s).getD i.toNat 0 := (rd_bytesOf s i).symm
theorem bt_nat (s : ByteArray) (i : Nat) : bt s (i : Int) = (bytesOf s).getD i 0 := by rw [bt_eq]; simp
theorem bytesOf_range {s : ByteArray} {x : Int} (h : x ∈ bytesOf s) : 0 ≤ x ∧ x ≤ 255 := by
  unfold bytesOf at h
  obtain ⟨b, _, rfl⟩ := List.mem_map.1 h
  have := b.toNat_lt
  omega
theorem bytesOf_inj {s t : ByteArray} (h : bytesOf s = bytesOf t) : s = t := by
  unfold bytesOf at h
  have h2 : s.data.toList = t.data.toList := (List.map_inj_right (fun a b e => UInt8.toNat_inj.1 (Int.ofNat.inj e))).1 h
  cases s; cases t
  simpa using h2
theorem bytesOf_eq {s t : ByteArray} : bytesOf s = bytesOf t ↔ s = t := ⟨bytesOf_inj, fun h => by rw [h]⟩
theorem toList_eq_iff {s t : ByteArray} : s.toList = t.toList ↔ s = t := by
  rw [ByteArray.toList_eq, ByteArray.toList_eq]
  constructor
  · intro h; cases s; cases t; simpa using h
  · intro h; rw [h]
theorem toList_beq (s t : ByteArray) : (s.toList == t.toList) = decide (s = t) := by
  rw [Bool.eq_iff_iff]; simp [toList_eq_iff]
theorem toList_bne (s t : ByteArray) : (s.toList != t.toList) = !decide (s = t) := by
  rw [bne, toList_beq]
theorem bytesOf_mk (l : List UInt8) : bytesOf ⟨l.toArray⟩ = l.map fun b => (b.toNat : Int) := by simp [bytesOf]
theorem toList_lit (s : ByteArray) (l : List UInt8) : s.toList = l ↔ s = ⟨l.toArray⟩ := by
  rw [ByteArray.toList_eq]
  constructor
  · intro h; cases s; simp only [ByteArray.mk.injEq]; rw [← h]
  · intro h; rw [h]
theorem toList_nil {s : ByteArray} : s.toList = [] ↔ bytesOf s = [] := by
  rw [ByteArray.toList_eq]; simp [bytesOf]
theorem bytesOf_append (s t : ByteArray) : bytesOf (s ++ t) = bytesOf s ++ bytesOf t := by
  unfold bytesOf; simp
theorem bytesOf_extract (s : ByteArray) (a b : Nat) : bytesOf (s.extract a b) = ((bytesOf s).take b).drop a := by
  unfold bytesOf
  rw [Lib.extract_data, List.map_take, List.map_drop, List.drop_take]
theorem bytesOf_extract_to_end (s : ByteArray) (a : Nat) : bytesOf (s.extract a s.size) = (bytesOf s).drop a := by
  unfold bytesOf
  rw [Lib.extract_to_end, List.map_drop]
theorem bytesOf_strOfNums {xs : List Int} (h : ∀ x ∈ xs, 0 ≤ x ∧ x ≤ 255) : bytesOf (strOfNums xs) = xs := by
  unfold bytesOf
  rw [strOfNums_data, List.map_map]
  conv => rhs; rw [← List.map_id xs]
  refine List.map_congr_left fun x hx => ?_
  have := h x hx
  simp only [Function.comp, id, UInt8.toNat_ofNat']
  omega
theorem strOfNums_bytesOf (s : ByteArray) : strOfNums (bytesOf s) = s := bytesOf_inj (bytesOf_strOfNums fun _ h => bytesOf_range h)
theorem size_eq (s : ByteArray) : s.size = (bytesOf s).length := (bytesOf_length s).symm
theorem ext_bytes {s t : ByteArray} (h : bytesOf s = bytesOf t) : s = t := bytesOf_inj h
theorem getD_range {s : ByteArray} (i : Nat) : 0 ≤ (bytesOf s).getD i 0 ∧ (bytesOf s).getD i 0 ≤ 255 := by
  rw [← bt_nat]; exact bt_range s i
theorem drop_cons {α : Type} (l : List α) (i : Nat) (d : α) (h : i < l.length) : l.drop i = l.getD i d :: l.drop (i + 1) := by
  rw [List.drop_eq_getElem_cons h]; simp [List.getD_eq_getElem?_getD, h]
theorem take_snoc {α : Type} (l : List α) (i : Nat) (d : α) (h : i < l.length) : l.take (i + 1) = l.take i ++ [l.getD i d] := by
  rw [List.take_succ_eq_append_getElem h]; simp [List.getD_eq_getElem?_getD, h]
end Go.Proofs.YtdlfdmbaejhaaaaDoor.Q
