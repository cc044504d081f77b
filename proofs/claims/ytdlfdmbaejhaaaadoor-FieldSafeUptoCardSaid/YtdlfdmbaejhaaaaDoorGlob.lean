/- What the package-level variables that the program reads hold, as facts on a world that a later world keeps. Conditions: none; these are definitions and their plain laws. -/
import Derived.Test.YtdlfdmbaejhaaaaDoorProg
import Derived.Test.YtdlfdmbaejhaaaaDoorWMore
import Derived.LaidEql
import Derived.Stop.IfaceNil
import Derived.Lib.LaidTab
import Derived.Lib.ItoaNum
set_option linter.unusedVariables false
set_option linter.unusedSimpArgs false
namespace Go.Proofs.YtdlfdmbaejhaaaaDoor.Q
open Go.RowKit Go.Proofs.YtdlfdmbaejhaaaaDoorW.PrintWords Go.Proofs.YtdlfdmbaejhaaaaDoorW.PrintLast Go.Proofs.YtdlfdmbaejhaaaaDoorW.PrintMore

@[simp] theorem bne_nil_eq (l : List UInt8) : (l != []) = !l.isEmpty := by cases l <;> rfl
@[simp] theorem beq_nil_eq (l : List UInt8) : (l == []) = l.isEmpty := by cases l <;> rfl

/-- Where the refusals lie: number c of the document's list at addr c. -/
class Sent where
  addr : Int → Addr
  inj : ∀ {a b : Int}, addr a = addr b → a = b
/-- A refusal as a value: none, or number c of the list. -/
def errW [Sent] : Option Int → Value
  | none => .nilIface
  | some c => .iface 143 (.pointer (some (Sent.addr c)))
theorem errW_none [Sent] : errW none = .nilIface := rfl
theorem errW_some [Sent] (c : Int) : errW (some c) = .iface 143 (.pointer (some (Sent.addr c))) := rfl
def SentOk [Sent] (w : World) : Prop := ∀ c : Int, ∃ cs t, w.heap[(Sent.addr c).block]? = some (.cells cs t (0, 0))
def ErrAt [Sent] (g : Nat) (c : Int) (w : World) : Prop := w.cell? ⟨g, 0, none⟩ = some (.iface 143 (.pointer (some (Sent.addr c))))
/-- Variable g is a table of these bytes. -/
def TabU8 (g : Nat) (L : List Int) (w : World) : Prop := ∀ i : Nat, i < L.length → w.cell? ⟨g, i, none⟩ = some (.int .u8 (L.getD i 0))
/-- Variable g holds these cells. -/
def TabV (g : Nat) (L : List Value) (w : World) : Prop := ∀ i : Nat, i < L.length → w.cell? ⟨g, i, none⟩ = some (L.getD i .nilIface)
/-- Variable g's block holds these cells, and no other. -/
def BlkV (g : Nat) (L : List Value) (w : World) : Prop := ∃ ty fr, w.heap[g]? = some (.cells L.toArray ty fr)
-- tables {
/-- The table reply.phrases. -/
def phrasesL : List (Int × List UInt8) := [(200, [79, 75]), (302, [70, 111, 117, 110, 100]), (303, [83, 101, 101, 32, 79, 116, 104, 101, 114]), (400, [66, 97, 100, 32, 82, 101, 113, 117, 101, 115, 116]), (401, [85, 110, 97, 117, 116, 104, 111, 114, 105, 122, 101, 100]), (403, [70, 111, 114, 98, 105, 100, 100, 101, 110]), (404, [78, 111, 116, 32, 70, 111, 117, 110, 100]), (405, [77, 101, 116, 104, 111, 100, 32, 78, 111, 116, 32, 65, 108, 108, 111, 119, 101, 100]), (413, [67, 111, 110, 116, 101, 110, 116, 32, 84, 111, 111, 32, 76, 97, 114, 103, 101]), (415, [85, 110, 115, 117, 112, 112, 111, 114, 116, 101, 100, 32, 77, 101, 100, 105, 97, 32, 84, 121, 112, 101]), (417, [69, 120, 112, 101, 99, 116, 97, 116, 105, 111, 110, 32, 70, 97, 105, 108, 101, 100]), (429, [84, 111, 111, 32, 77, 97, 110, 121, 32, 82, 101, 113, 117, 101, 115, 116, 115]), (431, [82, 101, 113, 117, 101, 115, 116, 32, 72, 101, 97, 100, 101, 114, 32, 70, 105, 101, 108, 100, 115, 32, 84, 111, 111, 32, 76, 97, 114, 103, 101]), (500, [73, 110, 116, 101, 114, 110, 97, 108, 32, 83, 101, 114, 118, 101, 114, 32, 69, 114, 114, 111, 114]), (501, [78, 111, 116, 32, 73, 109, 112, 108, 101, 109, 101, 110, 116, 101, 100]), (503, [83, 101, 114, 118, 105, 99, 101, 32, 85, 110, 97, 118, 97, 105, 108, 97, 98, 108, 101]), (505, [72, 84, 84, 80, 32, 86, 101, 114, 115, 105, 111, 110, 32, 78, 111, 116, 32, 83, 117, 112, 112, 111, 114, 116, 101, 100])]
def phrasesV : List Value := phrasesL.flatMap fun x => [.int .i64 x.1, .string ⟨x.2.toArray⟩]
/-- The table reply.own. -/
def ownL : List (List UInt8) := [[99, 111, 110, 116, 101, 110, 116, 45, 108, 101, 110, 103, 116, 104], [99, 111, 110, 110, 101, 99, 116, 105, 111, 110], [116, 114, 97, 110, 115, 102, 101, 114, 45, 101, 110, 99, 111, 100, 105, 110, 103]]
def ownV : List Value := ownL.flatMap fun x => [.string ⟨x.toArray⟩]
/-- The table usherlaw8.statuses. -/
def statusesL : List (Int) := [200, 302, 303, 400, 401, 403, 404, 405, 413, 415, 417, 429, 431, 500, 501, 503, 505]
def statusesV : List Value := statusesL.flatMap fun x => [.int .i64 x]
-- }
/-- The kinds of bytes (variable field.kinds). -/
def kindsL : List Int := [0, 0, 0, 0, 0, 0, 0, 0, 0, 12, 0, 0, 0, 0, 0, 0, 0, 0, 0, 0, 0, 0, 0, 0, 0, 0, 0, 0, 0, 0, 0, 0, 12, 7, 4, 7, 7, 7, 7, 7, 6, 6, 7, 7, 4, 7, 7, 6, 7, 7, 7, 7, 7, 7, 7, 7, 7, 7, 6, 4, 6, 6, 6, 6, 6, 7, 7, 7, 7, 7, 7, 7, 7, 7, 7, 7, 7, 7, 7, 7, 7, 7, 7, 7, 7, 7, 7, 7, 7, 7, 7, 6, 4, 6, 7, 7, 7, 7, 7, 7, 7, 7, 7, 7, 7, 7, 7, 7, 7, 7, 7, 7, 7, 7, 7, 7, 7, 7, 7, 7, 7, 7, 7, 6, 7, 6, 7, 0, 4, 4, 4, 4, 4, 4, 4, 4, 4, 4, 4, 4, 4, 4, 4, 4, 4, 4, 4, 4, 4, 4, 4, 4, 4, 4, 4, 4, 4, 4, 4, 4, 4, 4, 4, 4, 4, 4, 4, 4, 4, 4, 4, 4, 4, 4, 4, 4, 4, 4, 4, 4, 4, 4, 4, 4, 4, 4, 4, 4, 4, 4, 4, 4, 4, 4, 4, 4, 4, 4, 4, 4, 4, 4, 4, 4, 4, 4, 4, 4, 4, 4, 4, 4, 4, 4, 4, 4, 4, 4, 4, 4, 4, 4, 4, 4, 4, 4, 4, 4, 4, 4, 4, 4, 4, 4, 4, 4, 4, 4, 4, 4, 4, 4, 4, 4, 4, 4, 4, 4, 4, 4, 4, 4, 4, 4, 4, 4]
/-- Variable g, of this name, is a table of these integers. -/
def TabN (g : Nat) (name : String) (k : IntKind) (L : List Int) (w : World) : Prop := Tryd.prog.globalNamed name = some g ∧ Lib.TabIs Tryd.prog w name k L
/-- Variable g holds these integers. -/
def TabI (g : Nat) (k : IntKind) (L : List Int) (w : World) : Prop := ∀ i : Nat, i < L.length → w.cell? ⟨g, i, none⟩ = some (.int k (L.getD i 0))
/-- Variable g holds some number. -/
def SomeInt (g : Nat) (w : World) : Prop := ∃ m : Int, w.cell? ⟨g, 0, none⟩ = some (.int .i64 m)
/-- RFC 3986's bytes, a bit for each of the first 128 (variable pct.unreserved). -/
def unresL : List Int := [0, 67067904, 2281701374, 1207959550]
/-- What is known of variable g; 999: of the refusals' places. -/
def GFact [Sent] (g : Nat) (w : World) : Prop :=
  (g = 2 → ErrAt 2 1 w) ∧
  (g = 1 → ErrAt 1 2 w) ∧
  (g = 0 → ErrAt 0 3 w) ∧
  (g = 3 → ErrAt 3 4 w) ∧
  (g = 4 → ErrAt 4 5 w) ∧
  (g = 5 → ErrAt 5 6 w) ∧
  (g = 6 → ErrAt 6 7 w) ∧
  (g = 10 → ErrAt 10 8 w) ∧
  (g = 11 → ErrAt 11 9 w) ∧
  (g = 12 → ErrAt 12 10 w) ∧
  (g = 13 → ErrAt 13 11 w) ∧
  (g = 14 → ErrAt 14 12 w) ∧
  (g = 15 → ErrAt 15 13 w) ∧
  -- tabfacts {
  (g = 8 → BlkV 8 phrasesV w) ∧
  (g = 9 → BlkV 9 ownV w) ∧
  (g = 7 → BlkV 7 statusesV w) ∧
  -- }
  (g = 16 → TabU8 16 kindsL w) ∧
  (g = 19 → TabN 19 "internal/strconv.uint64pow10" .u64 Lib.pow10Tab w) ∧
  (g = 17 → TabI 17 .u32 unresL w) ∧
  (g = 18 → SomeInt 18 w) ∧
  (g = 999 → SentOk w)
def Glob [Sent] (S : List Nat) (w : World) : Prop := ∀ g, g ∈ S → GFact g w

section
variable {w w' : World} {S T : List Nat}
theorem cell_moves (hm : ∀ k, k < w.heap.size → w'.heap[k]? = w.heap[k]?) {a : Addr} {v : Value} (h : w.cell? a = some v) : w'.cell? a = some v := by
  have := World.block_lt_of_cell? w _ h
  rw [World.cell?_of_block (hm a.block this)]; exact h
theorem ErrAt.move [Sent] (hm : ∀ k, k < w.heap.size → w'.heap[k]? = w.heap[k]?) {g : Nat} {c : Int} (h : ErrAt g c w) : ErrAt g c w' := cell_moves hm h
theorem TabU8.move (hm : ∀ k, k < w.heap.size → w'.heap[k]? = w.heap[k]?) {g : Nat} {L : List Int} (h : TabU8 g L w) : TabU8 g L w' := fun i hi => cell_moves hm (h i hi)
theorem TabV.move (hm : ∀ k, k < w.heap.size → w'.heap[k]? = w.heap[k]?) {g : Nat} {L : List Value} (h : TabV g L w) : TabV g L w' := fun i hi => cell_moves hm (h i hi)
theorem BlkV.move (hm : ∀ k, k < w.heap.size → w'.heap[k]? = w.heap[k]?) {g : Nat} {L : List Value} (h : BlkV g L w) : BlkV g L w' := by
  obtain ⟨ty, fr, hb⟩ := h
  exact ⟨ty, fr, (hm _ (blk_lt hb)).trans hb⟩
theorem SentOk.move [Sent] (hm : ∀ k, k < w.heap.size → w'.heap[k]? = w.heap[k]?) (h : SentOk w) : SentOk w' := fun c => by
  obtain ⟨cs, t, hb⟩ := h c
  exact ⟨cs, t, (hm _ (blk_lt hb)).trans hb⟩
theorem TabN.move (hm : ∀ k, k < w.heap.size → w'.heap[k]? = w.heap[k]?) {g : Nat} {name : String} {k : IntKind} {L : List Int} (h : TabN g name k L w) : TabN g name k L w' := by
  obtain ⟨hg, h⟩ := h
  refine ⟨hg, ?_⟩
  unfold Lib.TabIs World.var? at h ⊢
  rw [hg] at h ⊢
  simp only [Option.bind_some] at h ⊢
  have hlt : g < w.heap.size := by
    rcases Nat.lt_or_ge g w.heap.size with h' | h'
    · exact h'
    · rw [Array.getElem?_eq_none h'] at h; cases h
  rw [hm g hlt]
  exact h
theorem TabI.move (hm : ∀ k, k < w.heap.size → w'.heap[k]? = w.heap[k]?) {g : Nat} {k : IntKind} {L : List Int} (h : TabI g k L w) : TabI g k L w' := fun i hi => cell_moves hm (h i hi)
theorem SomeInt.move (hm : ∀ k, k < w.heap.size → w'.heap[k]? = w.heap[k]?) {g : Nat} (h : SomeInt g w) : SomeInt g w' := by
  obtain ⟨m, h⟩ := h
  exact ⟨m, cell_moves hm h⟩
theorem GFact.move [Sent] (hm : ∀ k, k < w.heap.size → w'.heap[k]? = w.heap[k]?) {g : Nat} (h : GFact g w) : GFact g w' := by
  unfold GFact at h ⊢
  revert h
  repeat (refine And.imp (fun f e => (f e).move hm) ?_)
  exact fun f e => (f e).move hm
theorem Glob.move [Sent] (h : Glob S w) (hm : ∀ k, k < w.heap.size → w'.heap[k]? = w.heap[k]?) (hs : T.all (fun g => S.contains g) = true) : Glob T w' := fun g hg => by
  have := List.all_eq_true.1 hs g hg
  exact (h g (by simpa using this)).move hm
theorem Glob.sub [Sent] (h : Glob S w) (hs : T.all (fun g => S.contains g) = true) : Glob T w := h.move (fun _ _ => rfl) hs
theorem Glob.step [Sent] (h : Glob S w) (hb : Below w.heap.size w w') (hs : T.all (fun g => S.contains g) = true) : Glob T w' := h.move (fun k hk => hb.block k hk) hs
theorem Glob.drew [Sent] (h : Glob S w) : Glob S w.drew := h
theorem Glob.drewN [Sent] (h : Glob S w) (n : Nat) : Glob S (w.drewN n) := h
theorem SentOk.drewN [Sent] (h : SentOk w) (n : Nat) : SentOk (w.drewN n) := h
theorem Glob.err1 [Sent] (h : Glob S w) (hm : S.contains 2 = true) : w.cell? ⟨2, 0, none⟩ = some (.iface 143 (.pointer (some (Sent.addr 1)))) := by have := h 2 (by simpa using hm); unfold GFact at this; simpa [ErrAt] using this
theorem Glob.err2 [Sent] (h : Glob S w) (hm : S.contains 1 = true) : w.cell? ⟨1, 0, none⟩ = some (.iface 143 (.pointer (some (Sent.addr 2)))) := by have := h 1 (by simpa using hm); unfold GFact at this; simpa [ErrAt] using this
theorem Glob.err3 [Sent] (h : Glob S w) (hm : S.contains 0 = true) : w.cell? ⟨0, 0, none⟩ = some (.iface 143 (.pointer (some (Sent.addr 3)))) := by have := h 0 (by simpa using hm); unfold GFact at this; simpa [ErrAt] using this
theorem Glob.err4 [Sent] (h : Glob S w) (hm : S.contains 3 = true) : w.cell? ⟨3, 0, none⟩ = some (.iface 143 (.pointer (some (Sent.addr 4)))) := by have := h 3 (by simpa using hm); unfold GFact at this; simpa [ErrAt] using this
theorem Glob.err5 [Sent] (h : Glob S w) (hm : S.contains 4 = true) : w.cell? ⟨4, 0, none⟩ = some (.iface 143 (.pointer (some (Sent.addr 5)))) := by have := h 4 (by simpa using hm); unfold GFact at this; simpa [ErrAt] using this
theorem Glob.err6 [Sent] (h : Glob S w) (hm : S.contains 5 = true) : w.cell? ⟨5, 0, none⟩ = some (.iface 143 (.pointer (some (Sent.addr 6)))) := by have := h 5 (by simpa using hm); unfold GFact at this; simpa [ErrAt] using this
theorem Glob.err7 [Sent] (h : Glob S w) (hm : S.contains 6 = true) : w.cell? ⟨6, 0, none⟩ = some (.iface 143 (.pointer (some (Sent.addr 7)))) := by have := h 6 (by simpa using hm); unfold GFact at this; simpa [ErrAt] using this
theorem Glob.err8 [Sent] (h : Glob S w) (hm : S.contains 10 = true) : w.cell? ⟨10, 0, none⟩ = some (.iface 143 (.pointer (some (Sent.addr 8)))) := by have := h 10 (by simpa using hm); unfold GFact at this; simpa [ErrAt] using this
theorem Glob.err9 [Sent] (h : Glob S w) (hm : S.contains 11 = true) : w.cell? ⟨11, 0, none⟩ = some (.iface 143 (.pointer (some (Sent.addr 9)))) := by have := h 11 (by simpa using hm); unfold GFact at this; simpa [ErrAt] using this
theorem Glob.err10 [Sent] (h : Glob S w) (hm : S.contains 12 = true) : w.cell? ⟨12, 0, none⟩ = some (.iface 143 (.pointer (some (Sent.addr 10)))) := by have := h 12 (by simpa using hm); unfold GFact at this; simpa [ErrAt] using this
theorem Glob.err11 [Sent] (h : Glob S w) (hm : S.contains 13 = true) : w.cell? ⟨13, 0, none⟩ = some (.iface 143 (.pointer (some (Sent.addr 11)))) := by have := h 13 (by simpa using hm); unfold GFact at this; simpa [ErrAt] using this
theorem Glob.err12 [Sent] (h : Glob S w) (hm : S.contains 14 = true) : w.cell? ⟨14, 0, none⟩ = some (.iface 143 (.pointer (some (Sent.addr 12)))) := by have := h 14 (by simpa using hm); unfold GFact at this; simpa [ErrAt] using this
theorem Glob.err13 [Sent] (h : Glob S w) (hm : S.contains 15 = true) : w.cell? ⟨15, 0, none⟩ = some (.iface 143 (.pointer (some (Sent.addr 13)))) := by have := h 15 (by simpa using hm); unfold GFact at this; simpa [ErrAt] using this
theorem Glob.sent [Sent] (h : Glob S w) (hm : S.contains 999 = true) : SentOk w := by have := h 999 (by simpa using hm); unfold GFact at this; simpa using this
theorem Glob.kinds [Sent] (h : Glob S w) (hm : S.contains 16 = true) : TabU8 16 kindsL w := by have := h 16 (by simpa using hm); unfold GFact at this; simpa using this

theorem Glob.pow10 [Sent] (h : Glob S w) (hm : S.contains 19 = true) : Lib.TabIs Tryd.prog w "internal/strconv.uint64pow10" .u64 Lib.pow10Tab := by have := h 19 (by simpa using hm); unfold GFact TabN at this; simp at this; exact this.2
theorem Glob.unreserved [Sent] (h : Glob S w) (hm : S.contains 17 = true) : TabI 17 .u32 unresL w := by have := h 17 (by simpa using hm); unfold GFact at this; simpa using this
theorem Glob.maxLen [Sent] (h : Glob S w) (hm : S.contains 18 = true) : SomeInt 18 w := by have := h 18 (by simpa using hm); unfold GFact at this; simpa using this
-- tabths {
theorem Glob.phrases [Sent] (h : Glob S w) (hm : S.contains 8 = true) : BlkV 8 phrasesV w := by have := h 8 (by simpa using hm); unfold GFact at this; simpa using this
theorem Glob.own [Sent] (h : Glob S w) (hm : S.contains 9 = true) : BlkV 9 ownV w := by have := h 9 (by simpa using hm); unfold GFact at this; simpa using this
theorem Glob.statuses [Sent] (h : Glob S w) (hm : S.contains 7 = true) : BlkV 7 statusesV w := by have := h 7 (by simpa using hm); unfold GFact at this; simpa using this
-- }
theorem info_err : (Tryd.prog.info? 143).map (fun i => i.comparable) = some true := by kernel_rfl
theorem info_errs : (Tryd.prog.info? 158).map (fun i => i.size) = some 1 := by kernel_rfl
theorem run_nil_err [Sent] (W : World) (c : Int) : (binOp .eql 28 .nilIface (.iface 143 (.pointer (some (Sent.addr c))))).run Tryd.prog W = .ok (.bool false) W :=
  run_eql_iface_nil_left W _ _ Tryd.underlying28
theorem run_same_err [Sent] (W : World) (c : Int) : (binOp .eql 28 (.iface 143 (.pointer (some (Sent.addr c)))) (.iface 143 (.pointer (some (Sent.addr c))))).run Tryd.prog W = .ok (.bool true) W := by
  obtain ⟨i, hi, hc⟩ := Option.map_eq_some_iff.1 info_err
  obtain ⟨j, hj, _⟩ := Option.map_eq_some_iff.1 info_errs
  exact run_eql_iface_ptr_same W _ Tryd.underlying28 Tryd.underlying143 hi hc hj
theorem run_eq_err [Sent] {W : World} (h : SentOk W) (a b : Int) : (binOp .eql 28 (.iface 143 (.pointer (some (Sent.addr a)))) (.iface 143 (.pointer (some (Sent.addr b))))).run Tryd.prog W = .ok (.bool (a == b)) W := by
  by_cases e : a = b
  · subst e
    rw [run_same_err]; simp
  · obtain ⟨i, hi, hc⟩ := Option.map_eq_some_iff.1 info_err
    obtain ⟨j, hj, hs⟩ := Option.map_eq_some_iff.1 info_errs
    obtain ⟨ca, ta, ha⟩ := h a
    obtain ⟨cb, tb, hb⟩ := h b
    rw [run_eql_iface_ptr_other W Tryd.underlying28 Tryd.underlying143 hi hc hj (by rw [hs]; decide) (fun q => e (Sent.inj q)) ha hb, beq_eq_false_iff_ne.2 e]
theorem run_eq_err_r [Sent] {W : World} (h : SentOk W) (a b : Int) : (binOp .eql 28 (.iface 143 (.pointer (some (Sent.addr a)))) (.iface 143 (.pointer (some (Sent.addr b))))).run Tryd.prog W = .ok (.bool (b == a)) W := by
  rw [run_eq_err h a b, show (a == b) = (b == a) by rw [Bool.eq_iff_iff]; simp only [beq_iff_eq]; exact eq_comm]
theorem run_err_nil [Sent] (W : World) (c : Int) : (binOp .eql 28 (.iface 143 (.pointer (some (Sent.addr c)))) .nilIface).run Tryd.prog W = .ok (.bool false) W :=
  run_eql_iface_nil W 28 (by kernel_rfl) _ _
end
end Go.Proofs.YtdlfdmbaejhaaaaDoor.Q
