/- Answers that may be: what Render and Read make of them; SameReply of an answer and itself. Conditions: what goes in has at most 1048576 bytes in all. -/
import Derived.Test.YtdlfdmbaejhaaaaDoorPReadU
import Derived.Test.YtdlfdmbaejhaaaaDoorQ2
set_option linter.unusedVariables false
set_option linter.unusedSimpArgs false
namespace Go.Proofs.YtdlfdmbaejhaaaaDoor.Q
open Go.RowKit Go.Proofs.YtdlfdmbaejhaaaaDoorW.PrintWords Go.Proofs.YtdlfdmbaejhaaaaDoorW.PrintLast Go.Proofs.YtdlfdmbaejhaaaaDoorW.PrintMore
theorem SamePairs_self (l : List S26) (hl : l.length < 4611686018427387904) : Ev (fun k => usherref0_SamePairs.f k l l) true := by
  have H := Ev.loop (F := fun k (i : Nat) => usherref0_SamePairs.l0 k l l (i : Int)) (r := fun _ => true) (fun i => i ≤ l.length) (fun i => l.length - i) (by
    intro i hi ih
    simp only [usherref0_SamePairs.l0]
    by_cases h : i < l.length
    · refine Ev.if_pos (by omega) (Ev.if_pos (by omega) (Ev.if_pos (by omega) (Ev.if_neg (by simp) ?_)))
      rw [wrap64_of (by omega)]
      exact ih (i + 1) (by omega) (by omega)
    · exact Ev.if_neg (by omega) (Ev.now _)) 0 (by omega)
  simp only [usherref0_SamePairs.f]
  exact Ev.if_pos trivial H
theorem SameReply_self (s : Int) (l : List S26) (b : ByteArray) (c : Bool) (hl : l.length < 4611686018427387904) : Ev (fun k => usherref0_SameReply.f k s l b c s l b c) true := by
  simp only [usherref0_SameReply.f]
  refine (SamePairs_self l hl).bind ?_
  simp only [beq_self_eq_true, if_true]
  exact Ev.now _
/-! ### Read of what Render writes -/
theorem lines_headLs (p : Int × List UInt8) (fs : List PU) (n : Nat) (c : Bool) (hp : p ∈ phrasesL) (hn : n ≤ 1048576) : (joinL (headLs p fs n c)).length ≤ 200 + bulkP fs := by
  have hj := congrArg List.length (linesU_join (headLs p fs n c) (by simp [headLs]))
  obtain ⟨_, _, hc, hd, _, _⟩ := phr_props hp
  have hi := itoa_len n (by omega)
  have hl : (linesU (headLs p fs n c)).length = 15 + p.2.length + bulkP fs + (linesU (tailLs n c)).length := by
    show (stU p ++ (crlf ++ linesU (fs.map fieldU ++ tailLs n c))).length = _
    rw [linesU_app]
    simp only [List.length_append, linesU_fields]
    have : (stU p).length = 13 + p.2.length := by simp [stU, hc]; omega
    rw [this]; simp only [crlf, List.length_cons, List.length_nil]; omega
  have ht : (linesU (tailLs n c)).length ≤ 60 := by
    cases c <;> simp [tailLs, linesU, connU, clenU, crlf] <;> omega
  rw [List.length_append] at hj
  omega
theorem renderU_valid {p : Int × List UInt8} {fs : List PU} {b : List UInt8} (h : Valid p fs b.length) (c bare : Bool) : renderU p.1 fs b c bare = (textU p fs b c bare, none) := by
  have h1 := h.cnt
  have h2 := h.big
  unfold renderU
  rw [if_neg (by omega), phrOf_at p h.phr]
  dsimp only
  rw [if_pos h.may]
/-- The text of an answer begins with its head and an empty line. -/
theorem head_empty {p : Int × List UInt8} {fs : List PU} {n : Nat} (h : Valid p fs n) (c : Bool) (r : List UInt8) : Lib.index (joinL (headLs p fs n c) ++ (emptyL ++ r)) emptyL = ((joinL (headLs p fs n c)).length : Int) := by
  have hl := head_lines h c
  exact index_empty _ r hl.1 hl.2.1 hl.2.2
theorem readU_back {p : Int × List UInt8} {fs : List PU} {b : List UInt8} (h : Valid p fs b.length) (c : Bool) (r : List UInt8) :
    readU (textU p fs b c false ++ r) = (p.1, fs.map unP, mk b, c, ((textU p fs b c false).length : Int), none) := by
  have hl := head_lines h c
  have e : textU p fs b c false ++ r = joinL (headLs p fs b.length c) ++ (emptyL ++ (b ++ r)) := by
    unfold textU; rw [if_neg (by simp)]; simp only [List.append_assoc]; rfl
  have hi := head_empty h c (b ++ r)
  have hs := scan_valid h c _ rfl
  have htl : (textU p fs b c false).length = (joinL (headLs p fs b.length c)).length + 4 + b.length := by
    unfold textU; rw [if_neg (by simp), List.length_append, List.length_append]; simp only [List.length_cons, List.length_nil]; omega
  rw [e]
  unfold readU
  rw [hi, if_neg (by omega)]
  dsimp only
  rw [Int.toNat_natCast, List.take_left, splitU_join _ hl.1 hl.2.1, hs]
  dsimp only
  rw [if_pos rfl, if_neg (by simp only [List.length_append]; have : emptyL.length = 4 := rfl; omega)]
  have hd : (joinL (headLs p fs b.length c) ++ (emptyL ++ (b ++ r))).drop ((joinL (headLs p fs b.length c)).length + 4) = b ++ r := by
    rw [← List.append_assoc]
    have : (joinL (headLs p fs b.length c) ++ emptyL).length = (joinL (headLs p fs b.length c)).length + 4 := by rw [List.length_append]; rfl
    rw [← this, List.drop_left]
  rw [hd, Int.toNat_natCast, List.take_left, htl]
  have : ((joinL (headLs p fs b.length c)).length : Int) + 4 + (b.length : Int) = (((joinL (headLs p fs b.length c)).length + 4 + b.length : Nat) : Int) := by omega
  rw [this]
theorem bulk_of (fs : List S26) : bulkP (fs.map pU) = (fs.map fun x => x.f0.size + x.f1.size).sum + 4 * fs.length := by
  induction fs with
  | nil => rfl
  | cons x fs ih =>
    have e1 : bulkP ((x :: fs).map pU) = (U x.f0).length + (U x.f1).length + 4 + bulkP (fs.map pU) := rfl
    rw [e1, ih, List.map_cons, List.sum_cons, List.length_cons, size_U, size_U]; omega
theorem bulk_mem {fs : List S26} {x : S26} (h : x ∈ fs) : x.f0.size + x.f1.size ≤ (fs.map fun x => x.f0.size + x.f1.size).sum := by
  induction fs with
  | nil => cases h
  | cons y fs ih =>
    rw [List.map_cons, List.sum_cons]
    rcases List.mem_cons.1 h with rfl | h
    · omega
    · have := ih h; omega
theorem textU_len {p : Int × List UInt8} {gs : List PU} {b : List UInt8} (hp : p ∈ phrasesL) (hv : Valid p gs b.length) (c bare : Bool) : (textU p gs b c bare).length ≤ 300 + bulkP gs + b.length := by
  have h := lines_headLs p gs b.length c hp hv.big
  unfold textU
  rw [List.length_append, List.length_append]
  cases bare
  · rw [if_neg (by simp)]; simp only [List.length_cons, List.length_nil]; omega
  · rw [if_pos rfl]; simp only [List.length_cons, List.length_nil]; omega
end Go.Proofs.YtdlfdmbaejhaaaaDoor.Q
