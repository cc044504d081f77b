/- What the package-level variables that the program reads hold, as facts on a world that a later world keeps. Conditions: none; these are definitions and their plain laws. -/
import Derived.Test.YtbkhgmmlacdhoaaProg
import Derived.Test.YtbkhgmmlacdhoaaWMore
import Derived.LaidEql
set_option linter.unusedVariables false
set_option linter.unusedSimpArgs false
namespace Go.Proofs.Ytbkhgmmlacdhoaa.Q
open Go.RowKit Go.Proofs.YtbkhgmmlacdhoaaW.PrintWords Go.Proofs.YtbkhgmmlacdhoaaW.PrintLast Go.Proofs.YtbkhgmmlacdhoaaW.PrintMore

@[simp] theorem bne_nil_eq (l : List UInt8) : (l != []) = !l.isEmpty := by cases l <;> rfl
@[simp] theorem beq_nil_eq (l : List UInt8) : (l == []) = l.isEmpty := by cases l <;> rfl

/-- Where the refusals lie: number c of the document's list at addr c. -/
class Sent where
  addr : Int → Addr
  inj : ∀ {a b : Int}, addr a = addr b → a = b
/-- A refusal as a value: none, or number c of the list. -/
def errW [Sent] : Option Int → Value
  | none => .nilIface
  | some _ => .nilIface
theorem errW_none [Sent] : errW none = .nilIface := rfl
theorem errW_some [Sent] (c : Int) : errW (some c) = .nilIface := rfl
def SentOk [Sent] (w : World) : Prop := ∀ c : Int, ∃ cs t, w.heap[(Sent.addr c).block]? = some (.cells cs t (0, 0))
def ErrAt [Sent] (g : Nat) (c : Int) (w : World) : Prop := w.cell? ⟨g, 0, none⟩ = some (errW (some c))
/-- Variable g is a table of these bytes. -/
def TabU8 (g : Nat) (L : List Int) (w : World) : Prop := ∀ i : Nat, i < L.length → w.cell? ⟨g, i, none⟩ = some (.int .u8 (L.getD i 0))
/-- Variable g holds these cells. -/
def TabV (g : Nat) (L : List Value) (w : World) : Prop := ∀ i : Nat, i < L.length → w.cell? ⟨g, i, none⟩ = some (L.getD i .nilIface)
/-- Variable g's block holds these cells, and no other. -/
def BlkV (g : Nat) (L : List Value) (w : World) : Prop := ∃ ty fr, w.heap[g]? = some (.cells L.toArray ty fr)
/-- The kinds of bytes (variable field.kinds). -/
def kindsL : List Int := [0, 0, 0, 0, 0, 0, 0, 0, 0, 12, 0, 0, 0, 0, 0, 0, 0, 0, 0, 0, 0, 0, 0, 0, 0, 0, 0, 0, 0, 0, 0, 0, 12, 7, 4, 7, 7, 7, 7, 7, 6, 6, 7, 7, 4, 7, 7, 6, 7, 7, 7, 7, 7, 7, 7, 7, 7, 7, 6, 4, 6, 6, 6, 6, 6, 7, 7, 7, 7, 7, 7, 7, 7, 7, 7, 7, 7, 7, 7, 7, 7, 7, 7, 7, 7, 7, 7, 7, 7, 7, 7, 6, 4, 6, 7, 7, 7, 7, 7, 7, 7, 7, 7, 7, 7, 7, 7, 7, 7, 7, 7, 7, 7, 7, 7, 7, 7, 7, 7, 7, 7, 7, 7, 6, 7, 6, 7, 0, 4, 4, 4, 4, 4, 4, 4, 4, 4, 4, 4, 4, 4, 4, 4, 4, 4, 4, 4, 4, 4, 4, 4, 4, 4, 4, 4, 4, 4, 4, 4, 4, 4, 4, 4, 4, 4, 4, 4, 4, 4, 4, 4, 4, 4, 4, 4, 4, 4, 4, 4, 4, 4, 4, 4, 4, 4, 4, 4, 4, 4, 4, 4, 4, 4, 4, 4, 4, 4, 4, 4, 4, 4, 4, 4, 4, 4, 4, 4, 4, 4, 4, 4, 4, 4, 4, 4, 4, 4, 4, 4, 4, 4, 4, 4, 4, 4, 4, 4, 4, 4, 4, 4, 4, 4, 4, 4, 4, 4, 4, 4, 4, 4, 4, 4, 4, 4, 4, 4, 4, 4, 4, 4, 4, 4, 4, 4, 4]
/-- What is known of variable g; 999: of the refusals' places. -/
def GFact [Sent] (g : Nat) (w : World) : Prop :=
  (g = 999 → SentOk w)
def Glob [Sent] (S : List Nat) (w : World) : Prop := ∀ g, g ∈ S → GFact g w

section
variable {w w' : World} {S T : List Nat}
theorem cell_moves (hm : ∀ k, k < w.heap.size → w'.heap[k]? = w.heap[k]?) {a : Addr} {v : Value} (h : w.cell? a = some v) : w'.cell? a = some v := by
  have := World.block_lt_of_cell? w _ h
  rw [World.cell?_of_block (hm a.block this)]; exact h
theorem ErrAt.move [Sent] (hm : ∀ k, k < w.heap.size → w'.heap[k]? = w.heap[k]?) {g : Nat} {c : Int} (h : ErrAt g c w) : ErrAt g c w' := cell_moves hm h
theorem TabU8.move (hm : ∀ k, k < w.heap.size → w'.heap[k]? = w.heap[k]?) {g : Nat} {L : List Int} (h : TabU8 g L w) : TabU8 g L w' := fun i hi => cell_moves hm (h i hi)
theorem TabV.move (hm : ∀ k, k < w.heap.size → w'.heap[k]? = w.heap[k]?) {g : Nat} {L : List Value} (h : TabV g L w) : TabV g L w' := fun i hi => cell_moves hm (h i hi)
theorem BlkV.move (hm : ∀ k, k < w.heap.size → w'.heap[k]? = w.heap[k]?) {g : Nat} {L : List Value} (h : BlkV g L w) : BlkV g L w' := by
  obtain ⟨ty, fr, hb⟩ := h
  exact ⟨ty, fr, (hm _ (blk_lt hb)).trans hb⟩
theorem SentOk.move [Sent] (hm : ∀ k, k < w.heap.size → w'.heap[k]? = w.heap[k]?) (h : SentOk w) : SentOk w' := fun c => by
  obtain ⟨cs, t, hb⟩ := h c
  exact ⟨cs, t, (hm _ (blk_lt hb)).trans hb⟩
theorem GFact.move [Sent] (hm : ∀ k, k < w.heap.size → w'.heap[k]? = w.heap[k]?) {g : Nat} (h : GFact g w) : GFact g w' := by
  unfold GFact at h ⊢
  revert h
  repeat (refine And.imp (fun f e => (f e).move hm) ?_)
  exact fun f e => (f e).move hm
theorem Glob.move [Sent] (h : Glob S w) (hm : ∀ k, k < w.heap.size → w'.heap[k]? = w.heap[k]?) (hs : T.all (fun g => S.contains g) = true) : Glob T w' := fun g hg => by
  have := List.all_eq_true.1 hs g hg
  exact (h g (by simpa using this)).move hm
theorem Glob.sub [Sent] (h : Glob S w) (hs : T.all (fun g => S.contains g) = true) : Glob T w := h.move (fun _ _ => rfl) hs
theorem Glob.step [Sent] (h : Glob S w) (hb : Below w.heap.size w w') (hs : T.all (fun g => S.contains g) = true) : Glob T w' := h.move (fun k hk => hb.block k hk) hs
theorem Glob.drew [Sent] (h : Glob S w) : Glob S w.drew := h
theorem Glob.drewN [Sent] (h : Glob S w) (n : Nat) : Glob S (w.drewN n) := h
theorem SentOk.drewN [Sent] (h : SentOk w) (n : Nat) : SentOk (w.drewN n) := h
theorem Glob.sent [Sent] (h : Glob S w) (hm : S.contains 999 = true) : SentOk w := by have := h 999 (by simpa using hm); unfold GFact at this; simpa using this

end
end Go.Proofs.Ytbkhgmmlacdhoaa.Q
