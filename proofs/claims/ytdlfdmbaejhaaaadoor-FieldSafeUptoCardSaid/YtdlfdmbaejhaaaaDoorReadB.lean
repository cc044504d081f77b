/- What reads as data, with the bulk that the second form of the statements counts. Conditions: those of the reading. -/
import Derived.Test.YtdlfdmbaejhaaaaDoorRead
import Derived.Test.YtdlfdmbaejhaaaaDoorRows
set_option linter.unusedVariables false
set_option linter.unusedSimpArgs false
namespace Go.Proofs.YtdlfdmbaejhaaaaDoor.Q
open Go.RowKit Go.Proofs.YtdlfdmbaejhaaaaDoorW.PrintWords Go.Proofs.YtdlfdmbaejhaaaaDoorW.PrintLast Go.Proofs.YtdlfdmbaejhaaaaDoorW.PrintMore
open Go.ChangeShapes Go.WideShapes Go.ChangeAt
theorem bulkAll_sum {H : Type} : ∀ l : List (DataW H), Rows.uptoBulkAll l = (l.map Rows.uptoBulk).sum
  | [] => by simp [Rows.uptoBulkAll]
  | d :: r => by simp [Rows.uptoBulkAll, bulkAll_sum r]
theorem sum_le_at {α : Type} {f : α → Nat} {g : Nat → Nat} : ∀ (xs : List α) (n : Nat), xs.length = n → (∀ i a, xs[i]? = some a → f a ≤ g i) → (xs.map f).sum ≤ ((List.range n).map g).sum
  | [], n, h, _ => by simp at h; subst h; simp
  | x :: xs, n, h, hx => by
    obtain ⟨m, rfl⟩ : ∃ m, n = m + 1 := ⟨n - 1, by simp at h; omega⟩
    rw [List.range_succ_eq_map, List.map_cons, List.sum_cons, List.map_cons, List.sum_cons, List.map_map]
    have h1 := hx 0 x rfl
    have h2 := sum_le_at (f := f) (g := g ∘ Nat.succ) xs m (by simpa using h) (fun i a e => hx (i + 1) a (by simpa using e))
    omega
/-- What reads as data of type t, within the reach, reads as a value of this kind; what is known of its size, and of its bulk. -/
def ReadsB {α : Type} (P : Program) (t : TypeId) (k : Kd α) (Sz : α → Prop) (Bk : α → Nat) : Prop :=
  ∀ {H : Type} (enc : TypeId × Value → H) (w : World) (fuel : Nat) (cs : List Value) (x : DataW H × List MemPlace),
    DataW.trod enc P w 0 (fun _ => true) true fuel t cs = some x → Fits (DataW.weights P t x.1) → ∃ a, k.K w a cs ∧ Sz a ∧ Bk a ≤ Rows.uptoBulk x.1
section
variable {P : Program} {t : TypeId}
theorem ReadsB.int {k : IntKind} (ht : P.underlying t = some (.int k)) : ReadsB P t (Kd.int k) (fun x => (Lit.int k x).wf = true) (fun _ => 0) := by
  intro H enc w fuel cs x h _
  obtain ⟨n, rfl, rfl, h1⟩ := DataW.trod_int ht h
  exact ⟨n, rfl, h1, Nat.zero_le _⟩
theorem ReadsB.bool (ht : P.underlying t = some .bool) : ReadsB P t Kd.bool (fun _ => True) (fun _ => 0) := by
  intro H enc w fuel cs x h _
  obtain ⟨b, rfl, rfl⟩ := DataW.trod_bool ht h
  exact ⟨b, rfl, trivial, Nat.zero_le _⟩
theorem ReadsB.string (ht : P.underlying t = some .string) : ReadsB P t Kd.string (fun s => s.size ≤ 140737488351232) (fun s => s.size) := by
  intro H enc w fuel cs x h hf
  obtain ⟨s, rfl, rfl, _⟩ := DataW.trod_string ht h
  refine ⟨s, rfl, ?_, ?_⟩
  · unfold DataW.weights at hf
    simpa using hf.head
  · simp only [Rows.uptoBulk]
    show s.data.size ≤ _
    rw [← Array.length_toList]
    omega
theorem ReadsB.slice {α : Type} {e b : Nat} {k : Kd α} {Sz : α → Prop} {Bk : α → Nat} (ht : P.underlying t = some (.slice e)) (hsz : P.cellsOf e = k.sz) (hb : P.bytesOf e = b) (he : ReadsB P e k Sz Bk) :
    ReadsB P t (Kd.slice e k) (fun xs => xs.length * b ≤ 140737488351232 ∧ ∀ x ∈ xs, Sz x) (fun xs => (xs.map Bk).sum) := by
  intro H enc w fuel cs x h hf
  rcases Deep.open_slice ht h with ⟨rfl, rfl⟩ | ⟨a, len, cap, m, n, D, Pl, rfl, _, hl, hm, hmm, rfl, hx⟩
  · exact ⟨[], ⟨none, 0, rfl, Nat.le_refl _, rfl, by simp, fun h => absurd h (by simp)⟩, ⟨by simp, fun x hx => by cases hx⟩, by simp⟩
  · unfold DataW.weights at hf
    simp only [ht] at hf
    have h0 := hf.head
    have h1 := hf.tail.left
    simp only [List.length_map, List.length_range, hb] at h0
    simp only [if_true] at hmm
    subst hmm
    obtain ⟨xs, hlen, hxs⟩ := list_choose (p := fun i y => ∃ c, c.length = k.sz ∧ k.K w y c ∧ (Sz y ∧ Bk y ≤ Rows.uptoBulk (D i)) ∧ ∀ j u, c[j]? = some u → w.cell? (a.add (i * k.sz + j)) = some u) len (fun i hi => by
      obtain ⟨cs', hc, hd⟩ := hx i (by omega)
      obtain ⟨y, hy, hs⟩ := he enc w n cs' _ hd (weightsAll_mem h1 (List.mem_map.2 ⟨i, by simpa using hi, rfl⟩))
      obtain ⟨_, hcl, hcc⟩ := World.cells?_some hc
      rw [hsz] at hcl hcc
      refine ⟨y, cs', hcl, hy, hs, fun j u hj => ?_⟩
      have hjl : j < k.sz := by rw [← hcl]; exact (List.getElem?_eq_some_iff.1 hj).1
      have := hcc j hjl
      rw [Addr.add_add] at this
      rw [this]; exact hj)
    unfold maxLen at hm
    refine ⟨xs, ⟨some a, m, by rw [hlen], by omega, rfl, by omega, fun hp => ⟨a, rfl, fun j p hj => ?_⟩⟩, ⟨?_, fun y hy => ?_⟩, ?_⟩
    · obtain ⟨c, h1, h2, _, h3⟩ := hxs j p hj
      exact ⟨c, h1, h2, h3⟩
    · have h2 : xs.length * b ≤ (len + (m - len)) * b := Nat.mul_le_mul_right _ (by omega)
      omega
    · obtain ⟨i, hi, e⟩ := List.getElem_of_mem hy
      obtain ⟨c, _, _, hs, _⟩ := hxs i y (by rw [← e]; exact List.getElem?_eq_getElem hi)
      exact hs.1
    · have h2 := sum_le_at (f := Bk) (g := fun i => Rows.uptoBulk (D i)) xs len hlen (fun i y hy => by
        obtain ⟨c, _, _, hs, _⟩ := hxs i y hy
        exact hs.2)
      simp only [Rows.uptoBulk]
      rw [bulkAll_sum, List.map_map]
      have h3 : ((List.range len).map fun i => Rows.uptoBulk (D i)) = (List.range len).map (Rows.uptoBulk ∘ D) := rfl
      rw [← h3]
      omega
/-- The fields of a struct from one on. -/
def ReadsFB {α : Type} (P : Program) (off : Nat) (fs : List Field) (k : Kd α) (Sz : α → Prop) (Bk : α → Nat) : Prop :=
  ∀ {H : Type} (enc : TypeId × Value → H) (w : World) (n : Nat) (cs : List Value) (xs : List (DataW H × List MemPlace)), cs.length = off + k.sz →
    xs.length = fs.length → (∀ (i : Nat) (f : Field), fs[i]? = some f → DataW.trod enc P w 0 (fun _ => true) true n f.type ((cs.drop f.offset).take (P.cellsOf f.type)) = xs[i]?) →
    Fits (DataW.weightsEach P (fs.map (·.type)) (xs.map (·.1))) → ∃ a, k.K w a (cs.drop off) ∧ Sz a ∧ Bk a ≤ Rows.uptoBulkAll (xs.map (·.1))
theorem ReadsFB.last {α : Type} {f : Field} {off : Nat} {k : Kd α} {Sz : α → Prop} {Bk : α → Nat} (ho : f.offset = off) (hc : P.cellsOf f.type = k.sz) (h : ReadsB P f.type k Sz Bk) : ReadsFB P off [f] k Sz Bk := by
  intro H enc w n cs xs hl hn hx hf
  match xs, hn with
  | [x], _ =>
    have h0 := hx 0 f rfl
    rw [ho, hc, List.take_of_length_le (by rw [List.length_drop]; omega)] at h0
    simp only [List.map_cons, List.map_nil] at hf
    unfold DataW.weightsEach at hf
    obtain ⟨a, h1, h2, h3⟩ := h enc w n _ x h0 hf.left
    exact ⟨a, h1, h2, by simp only [List.map_cons, List.map_nil, Rows.uptoBulkAll]; omega⟩
theorem ReadsFB.cons {α β : Type} {f : Field} {fs : List Field} {off : Nat} {k : Kd α} {k' : Kd β} {Sz : α → Prop} {Sz' : β → Prop} {Bk : α → Nat} {Bk' : β → Nat} (ho : f.offset = off) (hc : P.cellsOf f.type = k.sz) (h : ReadsB P f.type k Sz Bk)
    (hr : ReadsFB P (off + k.sz) fs k' Sz' Bk') : ReadsFB P off (f :: fs) (Kd.pair k k') (fun x => Sz x.1 ∧ Sz' x.2) (fun x => Bk x.1 + Bk' x.2) := by
  intro H enc w n cs xs hl hn hx hf
  match xs, hn with
  | x :: xs, hn =>
    have h0 := hx 0 f rfl
    rw [ho, hc] at h0
    simp only [List.map_cons] at hf
    unfold DataW.weightsEach at hf
    have hps : (Kd.pair k k').sz = k.sz + k'.sz := rfl
    obtain ⟨a, ha, hs, hk⟩ := h enc w n _ x h0 hf.left
    obtain ⟨b, hb, hs', hk'⟩ := hr enc w n cs xs (by omega) (by simpa using hn) (fun i g hg => hx (i + 1) g hg) hf.right
    refine ⟨(a, b), ⟨_, _, ?_, ha, hb⟩, ⟨hs, hs'⟩, ?_⟩
    · rw [← List.drop_drop, List.take_append_drop]
    · simp only [List.map_cons, Rows.uptoBulkAll]; omega
theorem ReadsB.struct {α : Type} {fs : Array Field} {k : Kd α} {Sz : α → Prop} {Bk : α → Nat} (ht : P.underlying t = some (.struct fs)) (hc : P.cellsOf t = k.sz) (h : ReadsFB P 0 fs.toList k Sz Bk) : ReadsB P t k Sz Bk := by
  intro H enc w fuel cs x hx hf
  obtain ⟨xs, n, rfl, rfl, hl, hn, hfs⟩ := DataW.trod_struct ht hx
  unfold DataW.weights at hf
  simp only [ht] at hf
  obtain ⟨a, h1, h2, h3⟩ := h enc w n cs xs (by omega) (by simpa using hn) (fun i f hi => hfs i f (by simpa using hi)) hf
  refine ⟨a, by simpa using h1, h2, ?_⟩
  simp only [Rows.uptoBulk]
  omega
/-- The same under another shape. -/
theorem ReadsB.iso {α β : Type} {k : Kd α} {Sz : α → Prop} {Bk : α → Nat} {f : β → α} {g : α → β} {Sz' : β → Prop} {Bk' : β → Nat} (h : ReadsB P t k Sz Bk) (hg : ∀ a, f (g a) = a) (hS : ∀ a, Sz a → Sz' (g a)) (hB : ∀ a, Bk' (g a) ≤ Bk a) : ReadsB P t (Kd.iso k f) Sz' Bk' := by
  intro H enc w fuel cs x hx hf
  obtain ⟨a, ha, hs, hk⟩ := h enc w fuel cs x hx hf
  exact ⟨g a, by show k.K w (f (g a)) cs; rw [hg]; exact ha, hS a hs, Nat.le_trans (hB a) hk⟩
theorem ReadsB.get {α : Type} {k : Kd α} {Sz : α → Prop} {Bk : α → Nat} (h : ReadsB P t k Sz Bk) {H : Type} (enc : TypeId × Value → H) (w : World) (fuel : Nat) (cs : List Value) (x : DataW H × List MemPlace) (hx : DataW.trod enc P w 0 (fun _ => true) true fuel t cs = some x) (hf : Fits (DataW.weights P t x.1)) : ∃ a, k.K w a cs ∧ Sz a ∧ Bk a ≤ Rows.uptoBulk x.1 := h enc w fuel cs x hx hf
end
attribute [irreducible] ReadsB ReadsFB
end Go.Proofs.YtdlfdmbaejhaaaaDoor.Q
