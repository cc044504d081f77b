/- The call of field.low answers the text with its letters A to Z made small. Conditions: the text has at most 140737488351232 bytes. -/
import Derived.Test.YtbkhgmmlacdhoaaDoorProg
import Derived.Test.YtbkhgmmlacdhoaaDoorWMore
import Derived.Lib.Hide
set_option linter.unusedVariables false
set_option linter.unusedSimpArgs false
namespace Go.Proofs.YtbkhgmmlacdhoaaDoor.Q
open Go.RowKit Go.Proofs.YtbkhgmmlacdhoaaDoorW.PrintWords Go.Proofs.YtbkhgmmlacdhoaaDoorW.PrintLast Go.Proofs.YtbkhgmmlacdhoaaDoorW.PrintMore

/-- A letter A to Z made small. -/
def lowI (c : Int) : Int := if 65 ≤ c then (if c ≤ 90 then c + 32 else c) else c
theorem lowI_yes {c : Int} (h0 : 65 ≤ c) (h1 : c ≤ 90) : lowI c = c + 32 := by unfold lowI; rw [if_pos h0, if_pos h1]
theorem lowI_no {c : Int} (h : ¬ (65 ≤ c ∧ c ≤ 90)) : lowI c = c := by
  unfold lowI
  split
  · rw [if_neg (by omega)]
  · rfl
/-- The bytes of s, the first k of them made small. -/
def lowTo (s : ByteArray) (k : Nat) : List Int := ((bytesOf s).take k).map lowI ++ (bytesOf s).drop k
theorem lowTo_zero (s : ByteArray) : lowTo s 0 = bytesOf s := by simp [lowTo]
theorem lowTo_all (s : ByteArray) : lowTo s s.size = (bytesOf s).map lowI := by
  have h := bytesOf_length s
  simp [lowTo, List.take_of_length_le (Nat.le_of_eq h), List.drop_eq_nil_of_le (Nat.le_of_eq h)]
theorem lowTo_length (s : ByteArray) (k : Nat) : (lowTo s k).length = s.size := by
  have h := bytesOf_length s
  simp [lowTo]; omega
theorem lowTo_succ (s : ByteArray) (k : Nat) (hk : k < s.size) : lowTo s (k + 1) = (lowTo s k).set k (lowI (bt s k)) := by
  have h := bytesOf_length s
  have hr := rd_bytesOf s k
  unfold rd at hr
  have hg : (bytesOf s).getD k 0 = bt s k := by simpa using hr
  apply List.ext_getElem?
  intro i
  rw [List.getElem?_set]
  unfold lowTo
  simp only [List.length_append, List.length_map, List.length_take, List.length_drop, h]
  by_cases hik : k = i
  · subst hik
    rw [if_pos rfl, if_pos (by omega), List.getElem?_append_left (by simp; omega)]
    rw [List.getElem?_map, List.getElem?_take, if_pos (by omega), List.getElem?_eq_getElem (by omega)]
    simp [List.getD_eq_getElem?_getD, List.getElem?_eq_getElem (show k < (bytesOf s).length by omega)] at hg
    simp [hg]
  · rw [if_neg hik]
    by_cases hi : i < k
    · rw [List.getElem?_append_left (by simp; omega), List.getElem?_append_left (by simp; omega)]
      rw [List.getElem?_map, List.getElem?_map, List.getElem?_take, List.getElem?_take, if_pos (by omega), if_pos hi]
    · rw [List.getElem?_append_right (by simp; omega), List.getElem?_append_right (by simp; omega)]
      simp only [List.length_map, List.length_take, h, List.getElem?_drop]
      congr 1; omega
/-- Block B holds these bytes (and may hold more behind them). -/
def HasBytes (e : TypeId) (B : Nat) (xs : List Int) (w : World) : Prop := ∃ cs : Array Value, ∃ m : Nat, w.heap[B]? = some (.cells cs e (m, m + 1)) ∧ xs.length ≤ m ∧ m = cs.size ∧ ∀ j, j < xs.length → cs[j]? = some (.int .u8 (xs.getD j 0))
theorem HasBytes.start (w : World) (e : TypeId) (s : ByteArray) : HasBytes e w.heap.size (bytesOf s) (Lib.bytesWorld w e s) := by
  refine ⟨_, _, Lib.bytesWorld_at_new w e s, ?_, rfl, ?_⟩
  · rw [bytesOf_length]; simp [Lib.bytesCells]
  · intro j hj
    rw [bytesOf_length] at hj
    have h' : j < s.data.toList.length := by rw [data_length]; exact hj
    have h2 : j < s.data.size := hj
    simp only [Lib.bytesCells, Array.getElem?_append, bytesOf, List.getD_eq_getElem?_getD, Array.size_map]
    rw [if_pos h2]
    simp [Array.getElem?_eq_getElem h2]
theorem HasBytes.cell {e : TypeId} {B : Nat} {xs : List Int} {w : World} (h : HasBytes e B xs w) (i : Nat) (hi : i < xs.length) : w.cell? ⟨B, i, none⟩ = some (.int .u8 (xs.getD i 0)) := by
  obtain ⟨cs, m, hb, hm, hc, hx⟩ := h
  rw [cell_of_row w B i cs e _ hb]; exact hx i hi
theorem HasBytes.free {e : TypeId} {B : Nat} {xs : List Int} {w : World} (h : HasBytes e B xs w) (i : Nat) (hi : i < xs.length) : w.frozen? ⟨B, i, none⟩ = false := by
  obtain ⟨cs, m, hb, hm, hc, hx⟩ := h
  simp [World.frozen?, hb]; omega
theorem HasBytes.set {e : TypeId} {B : Nat} {xs : List Int} {w : World} (h : HasBytes e B xs w) (i : Nat) (hi : i < xs.length) (v : Int) : HasBytes e B (xs.set i v) (w.setCell ⟨B, i, none⟩ (.int .u8 v)) := by
  obtain ⟨cs, m, hb, hm, hc, hx⟩ := h
  refine ⟨cs.setIfInBounds i (.int .u8 v), m, by simp [World.setCell, Array.getElem?_modify, hb], by simpa using hm, by simpa using hc, ?_⟩
  intro j hj
  simp only [List.length_set] at hj
  by_cases hij : i = j
  · subst hij
    rw [Array.getElem?_setIfInBounds_self_of_lt (by omega)]
    simp [List.getD_eq_getElem?_getD, hi]
  · rw [Array.getElem?_setIfInBounds_ne hij, hx j hj]
    simp [List.getD_eq_getElem?_getD, hij]
theorem HasBytes.drewN {e : TypeId} {B : Nat} {xs : List Int} {w : World} (h : HasBytes e B xs w) (n : Nat) : HasBytes e B xs (w.drewN n) := h
theorem HasBytes.reads {e : TypeId} {B : Nat} {xs : List Int} {w : World} (h : HasBytes e B xs w) (hs : xs.length ≤ 9223372036854775807) : ReadsInt w .u8 (some ⟨B, 0, none⟩) xs.length xs := by
  refine ⟨rfl, hs, fun _ => ⟨_, rfl, fun j hj => ?_⟩⟩
  rw [add_plain]; exact h.cell j hj

theorem low_same {e : TypeId} {B : Nat} {xs : List Int} {w : World} (h : HasBytes e B xs w) (k : Nat) (hk : k < xs.length) {c : Int} (hc : w.cell? ⟨B, k, none⟩ = some (.int .u8 c)) : HasBytes e B (xs.set k c) w := by
  have h1 := h.cell k hk
  rw [hc] at h1
  injection h1 with h1
  injection h1 with _ h1
  rw [h1]
  simpa [List.getD_eq_getElem?_getD, hk] using h
/-- What field.low answers. -/
def field_low.f (a0 : ByteArray) : Option ByteArray := if a0.size ≤ 140737488351232 then some (strOfNums ((bytesOf a0).map lowI)) else none

set_option maxHeartbeats 1000000 in
theorem field_low.calls (a0 : ByteArray) (r : ByteArray) (w : World) (h : field_low.f a0 = some r) :
    Calls Tryd.prog 65 #[.string a0] w fun e w' => e = .returned (.string r) ∧ Below w.heap.size w w' := by
  have hs : a0.size ≤ 140737488351232 := by
    unfold field_low.f at h; split at h
    · assumption
    · cases h
  have hr : r = strOfNums (lowTo a0 a0.size) := by
    unfold field_low.f at h; rw [if_pos hs] at h; injection h with h; rw [lowTo_all, ← h]
  clear h
  have HR := Aside0.mk hr
  clear hr
  have kb := fun W => print_bytes (P := Tryd.prog) 9 74 5 Tryd.underlying9 Tryd.underlying74 Tryd.underlying5 a0 W
  have hst := Aside0.mk (HasBytes.start w 5 a0)
  have hbl := Aside0.mk (bytes_below (Below.refl w.heap.size w) (Nat.le_refl _) 5 a0)
  go_enter Tryd.func65, Tryd.ntmps65
  go_wp2
  generalize grownCap w a0.size 0 5 = cp
  generalize Lib.bytesWorld w 5 a0 = wb at *
  clear kb
  go_loopw [10] (fun i wr => ∃ k : Nat, k ≤ a0.size ∧ i = .int .i64 k ∧ Aside0 (HasBytes 5 w.heap.size (lowTo a0 k) wr) ∧ Aside0 (Below w.heap.size w wr)) (fun i _ => a0.size - (intOf i).toNat)
  case atStart => exact ⟨0, Nat.zero_le _, rfl, ⟨by rw [lowTo_zero]; exact hst.out⟩, hbl⟩
  case round =>
    clear hst hbl
    obtain ⟨k, hk, rfl, HC, HB⟩ := hrel
    have hl := lowTo_length a0 k
    have hl' := Aside0.mk hl
    clear hl
    by_cases hlt : k < a0.size
    · have hcell : wr.cell? ⟨w.heap.size, k, none⟩ = some (.int .u8 (bt a0 k)) := by
        have := HC.out.cell k (by rw [hl'.out]; exact hlt)
        rw [this]
        have hg : (lowTo a0 k).getD k 0 = bt a0 k := by
          have h := bytesOf_length a0
          have hr := rd_bytesOf a0 k
          unfold rd at hr
          simp only [Int.toNat_natCast] at hr
          rw [← hr]
          simp only [lowTo, List.getD_eq_getElem?_getD]
          rw [List.getElem?_append_right (by simp; omega)]
          simp only [List.length_map, List.length_take, h, List.getElem?_drop]
          congr 2; omega
        rw [hg]
      have hfree := HC.out.free k (by rw [hl'.out]; exact hlt)
      obtain ⟨b0, b1⟩ := bt_range a0 k
      generalize hb : bt a0 k = c at *
      have hb' := Aside0.mk hb
      clear hb
      go_wp2
      · have hy := lowI_yes (c := c) (by assumption) (by assumption)
        go_roundw
        case rel => exact ⟨k + 1, by omega, by go_num, ⟨by rw [lowTo_succ a0 k hlt, hb'.out, hy, show c + 32 = c + 97 - 65 from by omega]; exact HC.out.set k (by rw [hl'.out]; exact hlt) _⟩, ⟨HB.out.setCell (Nat.le_refl _) _⟩⟩
        case measure => simp [intOf]; omega
      all_goals
        have hy : lowI c = c := lowI_no (by omega)
        go_roundw
        case rel => exact ⟨k + 1, by omega, by go_num, ⟨by rw [lowTo_succ a0 k hlt, hb'.out, hy]; exact low_same HC.out k (by rw [hl'.out]; exact hlt) hcell⟩, HB⟩
        case measure => simp [intOf]; omega
    · obtain rfl : k = a0.size := by omega
      have hrd : ReadsInt wr .u8 (some ⟨w.heap.size, 0, none⟩) a0.size (lowTo a0 a0.size) := by
        have := HC.out.reads (by rw [hl'.out]; omega)
        rwa [hl'.out] at this
      have hcv := fun c => string_of_reads (P := Tryd.prog) (c := c) Tryd.underlying74 Tryd.underlying5 Tryd.underlying9 hrd
      clear hrd
      go_wp2
      go_ret
      exact ⟨by rw [HR.out]; rfl, HB.out⟩
end Go.Proofs.YtbkhgmmlacdhoaaDoor.Q
