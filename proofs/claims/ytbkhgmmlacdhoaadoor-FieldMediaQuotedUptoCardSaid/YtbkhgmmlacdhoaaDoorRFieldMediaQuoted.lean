/- The law usherlaw6.FieldMediaQuoted holds of the program: for every input that can be read, the call answers true and the input reads as it did. Conditions: the row's own. -/
import Derived.Test.YtbkhgmmlacdhoaaDoorQ3
import Derived.Test.YtbkhgmmlacdhoaaDoorPMQ
import Derived.Test.YtbkhgmmlacdhoaaDoorReadB
import Derived.Test.YtbkhgmmlacdhoaaDoorRows
import Derived.Test.YtbkhgmmlacdhoaaDoorCards
import Derived.Test.YtbkhgmmlacdhoaaDoorTie
import Derived.Test.YtbkhgmmlacdhoaaDoorSent
import Derived.WalkKit
import Derived.ProofKit
import Derived.OpenShut
import Derived.ChangeOld
import Derived.Below
import Derived.SizedLaws
import Derived.Deep.DeepHandedRow
import Derived.Deep.DeepWitnessRowRef
import Derived.LaidMore
import Derived.Lib.LaidTab
import Derived.SevenTiedAt
set_option linter.unusedVariables false
set_option linter.unusedSimpArgs false
namespace Go.Proofs.YtbkhgmmlacdhoaaDoor.fieldMediaQuoted
open Go.ChangeShapes Go.WideShapes Go.ChangeAt Go.RowKit Go.Proofs.YtbkhgmmlacdhoaaDoor.Q Go.Proofs.YtbkhgmmlacdhoaaDoorW.PrintWords Go.Proofs.YtbkhgmmlacdhoaaDoorW.PrintLast Go.Proofs.YtbkhgmmlacdhoaaDoorW.PrintMore
theorem own : ownKnob Tryd.prog.godebug = none := by kernel_rfl
theorem laidOut : laidOutB Tryd.prog = true := by kernel_rfl
theorem reads9 : ReadsB Tryd.prog 9 Kd.string (fun s : ByteArray => s.size ≤ 140737488351232) (fun s : ByteArray => s.size) := ReadsB.string Tryd.underlying9
theorem reads44_ : ReadsB Tryd.prog 44 (Kd.pair Kd.string (Kd.pair Kd.string (Kd.pair Kd.string Kd.string))) (fun x : ByteArray × ByteArray × ByteArray × ByteArray => (fun s : ByteArray => s.size ≤ 140737488351232) x.1 ∧ (fun x : ByteArray × ByteArray × ByteArray => (fun s : ByteArray => s.size ≤ 140737488351232) x.1 ∧ (fun x : ByteArray × ByteArray => (fun s : ByteArray => s.size ≤ 140737488351232) x.1 ∧ (fun s : ByteArray => s.size ≤ 140737488351232) x.2) x.2) x.2) (fun x : ByteArray × ByteArray × ByteArray × ByteArray => (fun s : ByteArray => s.size) x.1 + (fun x : ByteArray × ByteArray × ByteArray => (fun s : ByteArray => s.size) x.1 + (fun x : ByteArray × ByteArray => (fun s : ByteArray => s.size) x.1 + (fun s : ByteArray => s.size) x.2) x.2) x.2) := by
  refine ReadsB.struct Tryd.underlying44 (by kernel_rfl) ?_
  refine ReadsFB.cons (Sz := (fun s : ByteArray => s.size ≤ 140737488351232)) (Sz' := (fun x : ByteArray × ByteArray × ByteArray => (fun s : ByteArray => s.size ≤ 140737488351232) x.1 ∧ (fun x : ByteArray × ByteArray => (fun s : ByteArray => s.size ≤ 140737488351232) x.1 ∧ (fun s : ByteArray => s.size ≤ 140737488351232) x.2) x.2)) (Bk := (fun s : ByteArray => s.size)) (Bk' := (fun x : ByteArray × ByteArray × ByteArray => (fun s : ByteArray => s.size) x.1 + (fun x : ByteArray × ByteArray => (fun s : ByteArray => s.size) x.1 + (fun s : ByteArray => s.size) x.2) x.2)) ?_ ?_ ?_ ?_
  · rfl
  · kernel_rfl
  · exact reads9
  refine ReadsFB.cons (Sz := (fun s : ByteArray => s.size ≤ 140737488351232)) (Sz' := (fun x : ByteArray × ByteArray => (fun s : ByteArray => s.size ≤ 140737488351232) x.1 ∧ (fun s : ByteArray => s.size ≤ 140737488351232) x.2)) (Bk := (fun s : ByteArray => s.size)) (Bk' := (fun x : ByteArray × ByteArray => (fun s : ByteArray => s.size) x.1 + (fun s : ByteArray => s.size) x.2)) ?_ ?_ ?_ ?_
  · rfl
  · kernel_rfl
  · exact reads9
  refine ReadsFB.cons (Sz := (fun s : ByteArray => s.size ≤ 140737488351232)) (Sz' := (fun s : ByteArray => s.size ≤ 140737488351232)) (Bk := (fun s : ByteArray => s.size)) (Bk' := (fun s : ByteArray => s.size)) ?_ ?_ ?_ ?_
  · rfl
  · kernel_rfl
  · exact reads9
  refine ReadsFB.last ?_ ?_ ?_
  · rfl
  · kernel_rfl
  · exact reads9
theorem reads44 : ReadsB Tryd.prog 44 (Kd.pair Kd.string (Kd.pair Kd.string (Kd.pair Kd.string Kd.string))) (fun x : ByteArray × ByteArray × ByteArray × ByteArray => (fun s : ByteArray => s.size ≤ 140737488351232) x.1 ∧ (fun x : ByteArray × ByteArray × ByteArray => (fun s : ByteArray => s.size ≤ 140737488351232) x.1 ∧ (fun x : ByteArray × ByteArray => (fun s : ByteArray => s.size ≤ 140737488351232) x.1 ∧ (fun s : ByteArray => s.size ≤ 140737488351232) x.2) x.2) x.2) (fun x : ByteArray × ByteArray × ByteArray × ByteArray => (fun s : ByteArray => s.size) x.1 + (fun x : ByteArray × ByteArray × ByteArray => (fun s : ByteArray => s.size) x.1 + (fun x : ByteArray × ByteArray => (fun s : ByteArray => s.size) x.1 + (fun s : ByteArray => s.size) x.2) x.2) x.2) := reads44_
theorem glob {W : World} (hL : laidMetH Tryd.prog Rows.fieldMediaQuotedRow.laid W) : ∃ inst : Sent, @Glob inst [0, 8, 999] W := by
  have h : laidMet Tryd.prog Rows.fieldMediaQuotedRow.laid W := hL
  obtain ⟨inst, he, hs⟩ := mk_sent h (by kernel_rfl) (by decide +kernel) (by intro n hn m hm c h1 h2; exact code_once n m c h1 h2)
  refine ⟨inst, fun g hg => ?_⟩
  simp only [List.mem_cons, List.not_mem_nil, or_false] at hg
  rcases hg with rfl | rfl | rfl
  · have hf := he "usher/api.ErrText" (by decide +kernel) 2 0 (by decide +kernel) (by kernel_rfl)
    unfold GFact; simpa using hf
  · have hf := field_kinds_laid (List.mem_of_getElem? (i := 1) (by kernel_rfl)) h
    unfold GFact; simpa using hf
  · have hf := hs (by decide +kernel)
    unfold GFact; simpa using hf
set_option maxRecDepth 100000 in
theorem contract (H : Type) (enc : TypeId × Value → H) (W : World) (base : Nat) (args : Array Value) (ds gs : List (DataW H)) (before : List MemPlace)
    (hval0 : ∀ (j : Nat) t v, Tryd.f8.params[j]? = some t → args[j]? = some v → Value.okWide Tryd.prog W .any base t v)
    (hW : DataW.Whole enc Tryd.prog Tryd.f8.params.toList Rows.fieldMediaQuotedSpec.vars false W args.toList ds gs before)
    (hsz0 : (DataW.weightsEach Tryd.prog (Tryd.f8.params.toList ++ Rows.fieldMediaQuotedSpec.plain.varTypes Tryd.prog) (ds ++ gs)).all (· ≤ reachBytes) = true) (hL : laidMetH Tryd.prog Rows.fieldMediaQuotedRow.laid W) (hk : Rows.uptoSmall H (ds ++ gs) = true) :
    Calls Tryd.prog 8 args W fun e W' => ∃ v, e = .returned v ∧ Rows.fieldMediaQuotedSpec.post enc Tryd.prog Tryd.f8 false true false false W args v W' := by
  have hval : ∀ (j : Nat) t v, Tryd.f8.params[j]? = some t → args[j]? = some v → Value.okWide Tryd.prog W .any base t v := hval0
  have hsz : Fits (DataW.weightsEach Tryd.prog (Tryd.f8.params.toList ++ Rows.fieldMediaQuotedSpec.plain.varTypes Tryd.prog) (ds ++ gs)) := hsz0
  have hW' := hW
  obtain ⟨p, q, hA0, hV, rfl, hfz, hnd⟩ := hW
  have hA : DataW.TrodAll enc Tryd.prog W 0 (fun _ => true) true Tryd.f8.params.toList args.toList ds p := hA0
  rw [Tryd.params8] at hA hval hsz
  obtain ⟨v0, vs0, d0, ds0, p0, q0, hargs, rfl, rfl, h0, r0⟩ := trodAll_cons hA
  obtain ⟨rfl, rfl, rfl⟩ := trodAll_nil r0
  obtain rfl : args = #[v0] := by cases args; simp_all
  obtain ⟨rfl, rfl⟩ := trodVars_none hV
  have k0 := h0
  have lt0 : ∀ x ∈ p0, x.block < W.heap.size := by obtain ⟨m, hm⟩ := k0; exact DataW.trod_lt m _ _ _ hm
  have fit : Fits (DataW.weights Tryd.prog 44 d0) := by
    have h := hsz
    simp only [List.cons_append, List.nil_append] at h
    unfold DataW.weightsEach at h
    exact h.left
  obtain ⟨fuel, hf⟩ := h0
  obtain ⟨x, hK, hS, hBk⟩ := reads44.get enc W fuel _ _ hf fit
  clear hA0 hval0 hsz0 hsz
  have hbulk : Rows.uptoBulk d0 ≤ 1048576 := by
    have h := of_decide_eq_true hk
    simp only [List.append_nil, Rows.uptoBulkAll] at h
    omega
  have hbk := Nat.le_trans hBk hbulk
  obtain ⟨cs, rfl, _⟩ := okWide_struct Tryd.underlying44 (hval 0 44 v0 rfl rfl)
  have hKc : (Kd.pair Kd.string (Kd.pair Kd.string (Kd.pair Kd.string Kd.string))).K W x cs.toList := hK
  obtain ⟨l⟩ := cs
  obtain ⟨c2, d2_, e2, g2, r2⟩ := hKc
  have z3 := g2
  obtain ⟨c4, d4_, e4, g4, r4⟩ := r2
  have z5 := g4
  obtain ⟨c6, d6_, e6, g6, r6⟩ := r4
  have z7 := g6
  have z8 := r6
  obtain rfl : l = [.string x.1, .string x.2.1, .string x.2.2.1, .string x.2.2.2] := by
    simp_all [Kd.int, Kd.bool, Kd.string, Kd.scalar]
  obtain ⟨inst, hG⟩ := glob hL
  obtain ⟨k, hp⟩ := FieldMediaQuoted_pure x.1 x.2.1 x.2.2.1 x.2.2.2 hS.1 hS.2.1 hS.2.2.1 hS.2.2.2 hbk
  refine (usherlaw6_FieldMediaQuoted.calls k x.1 x.2.1 x.2.2.1 x.2.2.2 true W  hp hG).mono ?_
  rintro e W' ⟨rfl, hd⟩
  have bel : Below W.heap.size W W' := hd
  exact ⟨_, rfl, _, _, _, [], _, [], hW', trodAll_mk1 (shut_bool Tryd.underlying4 _), (trodAll_cons_mk (Below.trod laidOut (by kernel_rfl) (of_decide_eq_true (by kernel_rfl)) k0 bel lt0) trodAll_mk0), rfl, bel.frame _, fun h => by cases h⟩
theorem laid_met (os : Os) : laidMetH Tryd.prog Rows.fieldMediaQuotedRow.laid ((World.doorLaid Tryd.prog 325 os).forCall (fun _ _ => 0) ⟨#[], #[.agg #[.string ByteArray.empty, .string ByteArray.empty, .string ByteArray.empty, .string ByteArray.empty]], []⟩).memory :=
  laidMetH_of_parts3 (fuel := 8) (laidMet_by_bits 8 257 (by kernel_rfl)) (by kernel_rfl) (by kernel_rfl)
theorem reads_wit (os : Os) {H : Type} (enc : TypeId × Value → H) : ∃ places, DataW.whole enc Tryd.prog ((World.doorLaid Tryd.prog 325 os).forCall (fun _ _ => 0) ⟨#[], #[.agg #[.string ByteArray.empty, .string ByteArray.empty, .string ByteArray.empty, .string ByteArray.empty]], []⟩).memory Tryd.f8.params.toList Rows.fieldMediaQuotedSpec.vars false #[(.agg #[.string ByteArray.empty, .string ByteArray.empty, .string ByteArray.empty, .string ByteArray.empty] : Value)].toList 8 = some ([.agg [.lit (.string []), .lit (.string []), .lit (.string []), .lit (.string [])]], [], places) :=
  ⟨[], by kernel_rfl⟩
set_option maxRecDepth 100000 in
theorem lifted (os : Os) (started : os.Started) (H : Type) (enc : TypeId × Value → H) (F : Stop.Interp) :
    ReturnsInHanded {} Tryd.checked os 8 .any ((Rows.OpenSpec.upto Rows.fieldMediaQuotedSpec).preRow enc Tryd.prog Tryd.f8 Rows.fieldMediaQuotedUptoRow.domain false Rows.fieldMediaQuotedUptoRow.laid) (((Rows.OpenSpec.upto Rows.fieldMediaQuotedSpec).at F).post enc Tryd.prog Tryd.f8 false true false false) := by
  obtain ⟨places, hx⟩ := reads_wit os enc
  refine returnsInHanded_of_row (C := Tryd.checked) (s := (Rows.OpenSpec.upto Rows.fieldMediaQuotedSpec)) own started (by kernel_rfl) Tryd.func8
    (witness_row_atRef (enc := enc) (C := Tryd.checked) false (World.doorLaid Tryd.prog 325 os) #[.agg #[.string ByteArray.empty, .string ByteArray.empty, .string ByteArray.empty, .string ByteArray.empty]] rfl (by kernel_rfl) (by kernel_rfl) (by kernel_rfl)
      (OpenSpec.preRow_of_cond 8 hx (by kernel_rfl) (fun k hk => by cases hk; kernel_rfl) (by kernel_rfl) (laid_met os))) ?_
  intro W base args ds gs before hval hW hcnd hcond hsz hL hsh _
  exact contract H enc W base args ds gs before hval hW hsz hL (hcond _ rfl)
theorem said : Rows.FieldMediaQuotedUptoSaid :=
  OpenClaim.holds_of_cond 8 Tryd.f8 rfl rfl rfl rfl rfl rfl rfl ⟨rfl, rfl, rfl, rfl, rfl⟩ rfl rfl rfl rfl rfl (by kernel_rfl) Tryd.func8 (by kernel_rfl)
    (of_decide_eq_true (by kernel_rfl)) (by unfold Func.isWrapper; first | (rw [if_pos (by decide +kernel)]; kernel_rfl) | (rw [if_neg (by decide +kernel)]; exact ⟨rfl, rfl⟩))
    (fun os started H enc _ F => by rw [OpenClaim.pre_eq_preRow]; exact lifted os started H enc F)
theorem plain (f : FuncId) (fn : Func) (hf : Tryd.pinned.checked.prog.funcNamed "usher/usherlaw6.FieldMediaQuoted" = some f) (hfn : Tryd.pinned.checked.prog.funcs[f]? = some fn) :
    true = Tryd.pinned.checked.prog.looks [] ∧ ∀ (j : Nat) t, fn.params[j]? = some t → Tryd.pinned.checked.prog.wantsStandIn t = false := by
  obtain rfl : f = 8 := Option.some.inj ((show Tryd.prog.funcNamed "usher/usherlaw6.FieldMediaQuoted" = some 8 by kernel_rfl).symm.trans hf) |>.symm
  obtain rfl : fn = Tryd.f8 := (Option.some.inj (Tryd.func8.symm.trans hfn)).symm
  refine ⟨by kernel_rfl, fun j t ht => ?_⟩
  rw [Tryd.params8] at ht
  obtain rfl : t = 44 := by simpa using Array.mem_of_getElem? ht
  exact (show Tryd.prog.wantsStandIn 44 = false by kernel_rfl)
theorem card : Rows.FieldMediaQuotedUptoCardSaid :=
  Claim7.holds_tied_plain_at .later [] _ _ _ _ said (fun _ h => by cases h) (by kernel_rfl) (fun _ h => by cases h) fieldMediaQuotedUpto_row_tie rfl ⟨rfl, rfl⟩ (by kernel_rfl) rfl plain (by kernel_rfl)
end Go.Proofs.YtbkhgmmlacdhoaaDoor.fieldMediaQuoted
namespace Go.Proofs.YtbkhgmmlacdhoaaDoor
theorem fieldMediaQuotedUpto_holds : Rows.FieldMediaQuotedUptoCardSaid := fieldMediaQuoted.card
#print axioms fieldMediaQuotedUpto_holds
end Go.Proofs.YtbkhgmmlacdhoaaDoor
