/- From 'this value reads as data' to the printed words' own readings of it: numbers, texts, lists, structs. Plain laws over any program. -/
import Derived.Test.YtdlfdmbaejhaaaaDoorWMore
import Derived.ProofKit
import Derived.Deep.Slices
import Derived.SizedLaws
set_option linter.unusedVariables false
set_option linter.unusedSimpArgs false
namespace Go.Proofs.YtdlfdmbaejhaaaaDoor.Q
open Go.RowKit Go.Proofs.YtdlfdmbaejhaaaaDoorW.PrintWords Go.Proofs.YtdlfdmbaejhaaaaDoorW.PrintLast Go.Proofs.YtdlfdmbaejhaaaaDoorW.PrintMore
open Go.ChangeShapes Go.WideShapes Go.ChangeAt

/-- Are all sizes within the form's reach? -/
def Fits (l : List Nat) : Prop := l.all (· ≤ reachBytes) = true
theorem Fits.left {a b : List Nat} (h : Fits (a ++ b)) : Fits a := by unfold Fits at *; rw [List.all_append] at h; simp only [Bool.and_eq_true] at h; exact h.1
theorem Fits.right {a b : List Nat} (h : Fits (a ++ b)) : Fits b := by unfold Fits at *; rw [List.all_append] at h; simp only [Bool.and_eq_true] at h; exact h.2
theorem Fits.head {n : Nat} {b : List Nat} (h : Fits (n :: b)) : n ≤ 140737488351232 := by
  unfold Fits at h; simp only [List.all_cons, Bool.and_eq_true, decide_eq_true_eq] at h; exact h.1
theorem Fits.tail {n : Nat} {b : List Nat} (h : Fits (n :: b)) : Fits b := by
  unfold Fits at *; simp only [List.all_cons, Bool.and_eq_true] at h; exact h.2
/-- What reads as data of type t, within the reach, reads as a value of this kind; what is known of its size. -/
def Reads {α : Type} (P : Program) (t : TypeId) (k : Kd α) (Sz : α → Prop) : Prop :=
  ∀ {H : Type} (enc : TypeId × Value → H) (w : World) (fuel : Nat) (cs : List Value) (x : DataW H × List MemPlace),
    DataW.trod enc P w 0 (fun _ => true) true fuel t cs = some x → Fits (DataW.weights P t x.1) → ∃ a, k.K w a cs ∧ Sz a
section
variable {P : Program} {t : TypeId}
theorem Reads.int {k : IntKind} (ht : P.underlying t = some (.int k)) : Reads P t (Kd.int k) (fun x => (Lit.int k x).wf = true) := by
  intro H enc w fuel cs x h _
  obtain ⟨n, rfl, rfl, h1⟩ := DataW.trod_int ht h
  exact ⟨n, rfl, h1⟩
theorem Reads.bool (ht : P.underlying t = some .bool) : Reads P t Kd.bool (fun _ => True) := by
  intro H enc w fuel cs x h _
  obtain ⟨b, rfl, rfl⟩ := DataW.trod_bool ht h
  exact ⟨b, rfl, trivial⟩
theorem Reads.string (ht : P.underlying t = some .string) : Reads P t Kd.string (fun s => s.size ≤ 140737488351232) := by
  intro H enc w fuel cs x h hf
  obtain ⟨s, rfl, rfl, _⟩ := DataW.trod_string ht h
  refine ⟨s, rfl, ?_⟩
  unfold DataW.weights at hf
  simpa using hf.head
theorem list_choose {α : Type} {p : Nat → α → Prop} : ∀ n : Nat, (∀ i, i < n → ∃ a, p i a) → ∃ xs : List α, xs.length = n ∧ ∀ i a, xs[i]? = some a → p i a
  | 0, _ => ⟨[], rfl, fun i a h => by simp at h⟩
  | n + 1, h => by
    obtain ⟨xs, hl, hx⟩ := list_choose n (fun i hi => h i (by omega))
    obtain ⟨a, ha⟩ := h n (by omega)
    refine ⟨xs ++ [a], by simp [hl], fun i b hb => ?_⟩
    rcases Nat.lt_or_ge i n with hi | hi
    · rw [List.getElem?_append_left (by omega)] at hb; exact hx i b hb
    · have hi2 : i < (xs ++ [a]).length := (List.getElem?_eq_some_iff.1 hb).1
      simp [hl] at hi2
      obtain rfl : i = n := by omega
      rw [List.getElem?_append_right (by omega)] at hb
      simp [hl] at hb
      subst hb; exact ha
theorem weightsAll_mem {H : Type} {e : TypeId} {d : DataW H} {l : List (DataW H)} (h : Fits (DataW.weightsAll P e l)) (hd : d ∈ l) : Fits (DataW.weights P e d) := by
  induction l with
  | nil => cases hd
  | cons x r ih =>
    unfold DataW.weightsAll at h
    rcases List.mem_cons.1 hd with e | e
    · subst e; exact h.left
    · exact ih h.right e
theorem Reads.slice {α : Type} {e b : Nat} {k : Kd α} {Sz : α → Prop} (ht : P.underlying t = some (.slice e)) (hsz : P.cellsOf e = k.sz) (hb : P.bytesOf e = b) (he : Reads P e k Sz) :
    Reads P t (Kd.slice e k) (fun xs => xs.length * b ≤ 140737488351232 ∧ ∀ x ∈ xs, Sz x) := by
  intro H enc w fuel cs x h hf
  rcases Deep.open_slice ht h with ⟨rfl, rfl⟩ | ⟨a, len, cap, m, n, D, Pl, rfl, _, hl, hm, hmm, rfl, hx⟩
  · exact ⟨[], ⟨none, 0, rfl, Nat.le_refl _, rfl, by simp, fun h => absurd h (by simp)⟩, by simp, fun x hx => by cases hx⟩
  · unfold DataW.weights at hf
    simp only [ht] at hf
    have h0 := hf.head
    have h1 := hf.tail.left
    simp only [List.length_map, List.length_range, hb] at h0
    simp only [if_true] at hmm
    subst hmm
    obtain ⟨xs, hlen, hxs⟩ := list_choose (p := fun i y => ∃ c, c.length = k.sz ∧ k.K w y c ∧ Sz y ∧ ∀ j u, c[j]? = some u → w.cell? (a.add (i * k.sz + j)) = some u) len (fun i hi => by
      obtain ⟨cs', hc, hd⟩ := hx i (by omega)
      obtain ⟨y, hy, hs⟩ := he enc w n cs' _ hd (weightsAll_mem h1 (List.mem_map.2 ⟨i, by simpa using hi, rfl⟩))
      obtain ⟨_, hcl, hcc⟩ := World.cells?_some hc
      rw [hsz] at hcl hcc
      refine ⟨y, cs', hcl, hy, hs, fun j u hj => ?_⟩
      have hjl : j < k.sz := by rw [← hcl]; exact (List.getElem?_eq_some_iff.1 hj).1
      have := hcc j hjl
      rw [Addr.add_add] at this
      rw [this]; exact hj)
    unfold maxLen at hm
    refine ⟨xs, ⟨some a, m, by rw [hlen], by omega, rfl, by omega, fun hp => ⟨a, rfl, fun j p hj => ?_⟩⟩, ?_, fun y hy => ?_⟩
    · obtain ⟨c, h1, h2, _, h3⟩ := hxs j p hj
      exact ⟨c, h1, h2, h3⟩
    · have h2 : xs.length * b ≤ (len + (m - len)) * b := Nat.mul_le_mul_right _ (by omega)
      omega
    · obtain ⟨i, hi, e⟩ := List.getElem_of_mem hy
      obtain ⟨c, _, _, hs, _⟩ := hxs i y (by rw [← e]; exact List.getElem?_eq_getElem hi)
      exact hs
/-- The fields of a struct from one on. -/
def ReadsF {α : Type} (P : Program) (off : Nat) (fs : List Field) (k : Kd α) (Sz : α → Prop) : Prop :=
  ∀ {H : Type} (enc : TypeId × Value → H) (w : World) (n : Nat) (cs : List Value) (xs : List (DataW H × List MemPlace)), cs.length = off + k.sz →
    xs.length = fs.length → (∀ (i : Nat) (f : Field), fs[i]? = some f → DataW.trod enc P w 0 (fun _ => true) true n f.type ((cs.drop f.offset).take (P.cellsOf f.type)) = xs[i]?) →
    Fits (DataW.weightsEach P (fs.map (·.type)) (xs.map (·.1))) → ∃ a, k.K w a (cs.drop off) ∧ Sz a
theorem ReadsF.last {α : Type} {f : Field} {off : Nat} {k : Kd α} {Sz : α → Prop} (ho : f.offset = off) (hc : P.cellsOf f.type = k.sz) (h : Reads P f.type k Sz) : ReadsF P off [f] k Sz := by
  intro H enc w n cs xs hl hn hx hf
  match xs, hn with
  | [x], _ =>
    have h0 := hx 0 f rfl
    rw [ho, hc, List.take_of_length_le (by rw [List.length_drop]; omega)] at h0
    simp only [List.map_cons, List.map_nil] at hf
    unfold DataW.weightsEach at hf
    exact h enc w n _ x h0 hf.left
theorem ReadsF.cons {α β : Type} {f : Field} {fs : List Field} {off : Nat} {k : Kd α} {k' : Kd β} {Sz : α → Prop} {Sz' : β → Prop} (ho : f.offset = off) (hc : P.cellsOf f.type = k.sz) (h : Reads P f.type k Sz)
    (hr : ReadsF P (off + k.sz) fs k' Sz') : ReadsF P off (f :: fs) (Kd.pair k k') (fun x => Sz x.1 ∧ Sz' x.2) := by
  intro H enc w n cs xs hl hn hx hf
  match xs, hn with
  | x :: xs, hn =>
    have h0 := hx 0 f rfl
    rw [ho, hc] at h0
    simp only [List.map_cons] at hf
    unfold DataW.weightsEach at hf
    have hps : (Kd.pair k k').sz = k.sz + k'.sz := rfl
    obtain ⟨a, ha, hs⟩ := h enc w n _ x h0 hf.left
    obtain ⟨b, hb, hs'⟩ := hr enc w n cs xs (by omega) (by simpa using hn) (fun i g hg => hx (i + 1) g hg) hf.right
    refine ⟨(a, b), ⟨_, _, ?_, ha, hb⟩, hs, hs'⟩
    rw [← List.drop_drop, List.take_append_drop]
theorem Reads.struct {α : Type} {fs : Array Field} {k : Kd α} {Sz : α → Prop} (ht : P.underlying t = some (.struct fs)) (hc : P.cellsOf t = k.sz) (h : ReadsF P 0 fs.toList k Sz) : Reads P t k Sz := by
  intro H enc w fuel cs x hx hf
  obtain ⟨xs, n, rfl, rfl, hl, hn, hfs⟩ := DataW.trod_struct ht hx
  unfold DataW.weights at hf
  simp only [ht] at hf
  have := h enc w n cs xs (by omega) (by simpa using hn) (fun i f hi => hfs i f (by simpa using hi)) hf
  simpa using this
/-- The same under another shape. -/
theorem Reads.iso {α β : Type} {k : Kd α} {Sz : α → Prop} {f : β → α} {g : α → β} {Sz' : β → Prop} (h : Reads P t k Sz) (hg : ∀ a, f (g a) = a) (hS : ∀ a, Sz a → Sz' (g a)) : Reads P t (Kd.iso k f) Sz' := by
  intro H enc w fuel cs x hx hf
  obtain ⟨a, ha, hs⟩ := h enc w fuel cs x hx hf
  exact ⟨g a, by show k.K w (f (g a)) cs; rw [hg]; exact ha, hS a hs⟩
theorem Reads.get {α : Type} {k : Kd α} {Sz : α → Prop} (h : Reads P t k Sz) {H : Type} (enc : TypeId × Value → H) (w : World) (fuel : Nat) (cs : List Value) (x : DataW H × List MemPlace) (hx : DataW.trod enc P w 0 (fun _ => true) true fuel t cs = some x) (hf : Fits (DataW.weights P t x.1)) : ∃ a, k.K w a cs ∧ Sz a := h enc w fuel cs x hx hf
end
attribute [irreducible] Reads ReadsF
end Go.Proofs.YtdlfdmbaejhaaaaDoor.Q
