/- The law usherlaw8.ReplyLimits holds of the program: for every input that can be read, the call answers true and the input reads as it did. Conditions: the row's own. -/
import Derived.Test.YtdlfdmbaejhaaaaDoorQ15
import Derived.Test.YtdlfdmbaejhaaaaDoorPLimits
import Derived.Test.YtdlfdmbaejhaaaaDoorRead
import Derived.Test.YtdlfdmbaejhaaaaDoorRows
import Derived.Test.YtdlfdmbaejhaaaaDoorCards
import Derived.Test.YtdlfdmbaejhaaaaDoorTie
import Derived.Test.YtdlfdmbaejhaaaaDoorSent
import Derived.WalkKit
import Derived.ProofKit
import Derived.OpenShut
import Derived.ChangeOld
import Derived.Below
import Derived.SizedLaws
import Derived.Deep.DeepHandedRow
import Derived.Deep.DeepWitnessRowRef
import Derived.LaidMore
import Derived.Lib.LaidTab
import Derived.SevenTiedAt
set_option linter.unusedVariables false
set_option linter.unusedSimpArgs false
namespace Go.Proofs.YtdlfdmbaejhaaaaDoor.replyLimits
open Go.ChangeShapes Go.WideShapes Go.ChangeAt Go.RowKit Go.Proofs.YtdlfdmbaejhaaaaDoor.Q Go.Proofs.YtdlfdmbaejhaaaaDoorW.PrintWords Go.Proofs.YtdlfdmbaejhaaaaDoorW.PrintLast Go.Proofs.YtdlfdmbaejhaaaaDoorW.PrintMore
theorem own : ownKnob Tryd.prog.godebug = none := by kernel_rfl
theorem laidOut : laidOutB Tryd.prog = true := by kernel_rfl
theorem reads3 : Reads Tryd.prog 3 (Kd.int .i64) (fun x => (Lit.int .i64 x).wf = true) := Reads.int Tryd.underlying3
theorem reads4 : Reads Tryd.prog 4 Kd.bool (fun _ => True) := Reads.bool Tryd.underlying4
theorem reads59_ : Reads Tryd.prog 59 (Kd.pair (Kd.int .i64) (Kd.pair (Kd.int .i64) Kd.bool)) (fun x : Int × Int × Bool => (fun x : Int => (Lit.int .i64 x).wf = true) x.1 ∧ (fun x : Int × Bool => (fun x : Int => (Lit.int .i64 x).wf = true) x.1 ∧ (fun _ : Bool => True) x.2) x.2) := by
  refine Reads.struct Tryd.underlying59 (by kernel_rfl) ?_
  refine ReadsF.cons (Sz := (fun x : Int => (Lit.int .i64 x).wf = true)) (Sz' := (fun x : Int × Bool => (fun x : Int => (Lit.int .i64 x).wf = true) x.1 ∧ (fun _ : Bool => True) x.2)) ?_ ?_ ?_ ?_
  · rfl
  · kernel_rfl
  · exact reads3
  refine ReadsF.cons (Sz := (fun x : Int => (Lit.int .i64 x).wf = true)) (Sz' := (fun _ : Bool => True)) ?_ ?_ ?_ ?_
  · rfl
  · kernel_rfl
  · exact reads3
  refine ReadsF.last ?_ ?_ ?_
  · rfl
  · kernel_rfl
  · exact reads4
theorem reads59 : Reads Tryd.prog 59 (Kd.pair (Kd.int .i64) (Kd.pair (Kd.int .i64) Kd.bool)) (fun x : Int × Int × Bool => (fun x : Int => (Lit.int .i64 x).wf = true) x.1 ∧ (fun x : Int × Bool => (fun x : Int => (Lit.int .i64 x).wf = true) x.1 ∧ (fun _ : Bool => True) x.2) x.2) := reads59_
theorem glob {W : World} (hL : laidMetH Tryd.prog Rows.replyLimitsRow.laid W) (hsh : W.ShapedOpen Tryd.prog) : ∃ inst : Sent, @Glob inst [0, 1, 2, 3, 4, 5, 6, 8, 9, 10, 11, 12, 13, 14, 15, 16, 18, 19, 999] W := by
  have h : laidMet Tryd.prog Rows.replyLimitsRow.laid W := hL
  obtain ⟨inst, he, hs⟩ := mk_sent h (by kernel_rfl) (by decide +kernel) (by intro n hn m hm c h1 h2; exact code_once n m c h1 h2)
  refine ⟨inst, fun g hg => ?_⟩
  simp only [List.mem_cons, List.not_mem_nil, or_false] at hg
  rcases hg with rfl | rfl | rfl | rfl | rfl | rfl | rfl | rfl | rfl | rfl | rfl | rfl | rfl | rfl | rfl | rfl | rfl | rfl | rfl
  · have hf := he "usher/api.ErrMany" (by decide +kernel) 3 0 (by decide +kernel) (by kernel_rfl)
    unfold GFact; simpa using hf
  · have hf := he "usher/api.ErrText" (by decide +kernel) 2 1 (by decide +kernel) (by kernel_rfl)
    unfold GFact; simpa using hf
  · have hf := he "usher/api.ErrArg" (by decide +kernel) 1 2 (by decide +kernel) (by kernel_rfl)
    unfold GFact; simpa using hf
  · have hf := he "usher/api.ErrTwice" (by decide +kernel) 4 3 (by decide +kernel) (by kernel_rfl)
    unfold GFact; simpa using hf
  · have hf := he "usher/api.ErrScheme" (by decide +kernel) 5 4 (by decide +kernel) (by kernel_rfl)
    unfold GFact; simpa using hf
  · have hf := he "usher/api.ErrShort" (by decide +kernel) 6 5 (by decide +kernel) (by kernel_rfl)
    unfold GFact; simpa using hf
  · have hf := he "usher/api.ErrDry" (by decide +kernel) 7 6 (by decide +kernel) (by kernel_rfl)
    unfold GFact; simpa using hf
  · have hf := reply_phrases_laid (List.mem_of_getElem? (i := 18) (by kernel_rfl)) h
    unfold GFact; simpa using hf
  · have hf := reply_own_laid (List.mem_of_getElem? (i := 19) (by kernel_rfl)) h
    unfold GFact; simpa using hf
  · have hf := he "usher/api.ErrTaken" (by decide +kernel) 8 10 (by decide +kernel) (by kernel_rfl)
    unfold GFact; simpa using hf
  · have hf := he "usher/api.ErrFull" (by decide +kernel) 9 11 (by decide +kernel) (by kernel_rfl)
    unfold GFact; simpa using hf
  · have hf := he "usher/api.ErrDead" (by decide +kernel) 10 12 (by decide +kernel) (by kernel_rfl)
    unfold GFact; simpa using hf
  · have hf := he "usher/api.ErrLog" (by decide +kernel) 11 13 (by decide +kernel) (by kernel_rfl)
    unfold GFact; simpa using hf
  · have hf := he "usher/api.ErrLost" (by decide +kernel) 12 14 (by decide +kernel) (by kernel_rfl)
    unfold GFact; simpa using hf
  · have hf := he "usher/api.ErrDenied" (by decide +kernel) 13 15 (by decide +kernel) (by kernel_rfl)
    unfold GFact; simpa using hf
  · have hf := field_kinds_laid (List.mem_of_getElem? (i := 17) (by kernel_rfl)) h
    unfold GFact; simpa using hf
  · have hf := maxLen_shaped hsh
    unfold GFact; simpa using hf
  · have hf := strconv_uint64pow10_laid (List.mem_of_getElem? (i := 2) (by kernel_rfl)) h
    unfold GFact; simpa using hf
  · have hf := hs (by decide +kernel)
    unfold GFact; simpa using hf
set_option maxRecDepth 100000 in
theorem contract (H : Type) (enc : TypeId × Value → H) (W : World) (base : Nat) (args : Array Value) (ds gs : List (DataW H)) (before : List MemPlace)
    (hval0 : ∀ (j : Nat) t v, Tryd.f8.params[j]? = some t → args[j]? = some v → Value.okWide Tryd.prog W .any base t v)
    (hW : DataW.Whole enc Tryd.prog Tryd.f8.params.toList Rows.replyLimitsSpec.vars false W args.toList ds gs before)
    (hsz0 : (DataW.weightsEach Tryd.prog (Tryd.f8.params.toList ++ Rows.replyLimitsSpec.plain.varTypes Tryd.prog) (ds ++ gs)).all (· ≤ reachBytes) = true) (hL : laidMetH Tryd.prog Rows.replyLimitsRow.laid W) (hsh : W.ShapedOpen Tryd.prog) :
    Calls Tryd.prog 8 args W fun e W' => ∃ v, e = .returned v ∧ Rows.replyLimitsSpec.post enc Tryd.prog Tryd.f8 false true false false W args v W' := by
  have hval : ∀ (j : Nat) t v, Tryd.f8.params[j]? = some t → args[j]? = some v → Value.okWide Tryd.prog W .any base t v := hval0
  have hsz : Fits (DataW.weightsEach Tryd.prog (Tryd.f8.params.toList ++ Rows.replyLimitsSpec.plain.varTypes Tryd.prog) (ds ++ gs)) := hsz0
  have hW' := hW
  obtain ⟨p, q, hA0, hV, rfl, hfz, hnd⟩ := hW
  have hA : DataW.TrodAll enc Tryd.prog W 0 (fun _ => true) true Tryd.f8.params.toList args.toList ds p := hA0
  rw [Tryd.params8] at hA hval hsz
  obtain ⟨v0, vs0, d0, ds0, p0, q0, hargs, rfl, rfl, h0, r0⟩ := trodAll_cons hA
  obtain ⟨rfl, rfl, rfl⟩ := trodAll_nil r0
  obtain rfl : args = #[v0] := by cases args; simp_all
  obtain ⟨rfl, rfl⟩ := trodVars_none hV
  have k0 := h0
  have lt0 : ∀ x ∈ p0, x.block < W.heap.size := by obtain ⟨m, hm⟩ := k0; exact DataW.trod_lt m _ _ _ hm
  have fit : Fits (DataW.weights Tryd.prog 59 d0) := by
    have h := hsz
    simp only [List.cons_append, List.nil_append] at h
    unfold DataW.weightsEach at h
    exact h.left
  obtain ⟨fuel, hf⟩ := h0
  obtain ⟨x, hK, hS⟩ := reads59.get enc W fuel _ _ hf fit
  clear hA0 hval0 hsz0 hsz
  obtain ⟨cs, rfl, _⟩ := okWide_struct Tryd.underlying59 (hval 0 59 v0 rfl rfl)
  have hKc : (Kd.pair (Kd.int .i64) (Kd.pair (Kd.int .i64) Kd.bool)).K W x cs.toList := hK
  obtain ⟨l⟩ := cs
  obtain ⟨c2, d2_, e2, g2, r2⟩ := hKc
  have z3 := g2
  obtain ⟨c4, d4_, e4, g4, r4⟩ := r2
  have z5 := g4
  have z6 := r4
  obtain rfl : l = [.int .i64 x.1, .int .i64 x.2.1, .bool x.2.2] := by
    simp_all [Kd.int, Kd.bool, Kd.string, Kd.scalar]
  obtain ⟨inst, hG⟩ := glob hL hsh
  obtain ⟨k, hp⟩ := ReplyLimits_pure x.1 x.2.1 x.2.2 hS.1 hS.2.1
  refine (usherlaw8_ReplyLimits.calls k x.1 x.2.1 x.2.2 true W  hp hG).mono ?_
  rintro e W' ⟨rfl, hd⟩
  have bel : Below W.heap.size W W' := hd
  exact ⟨_, rfl, _, _, _, [], _, [], hW', trodAll_mk1 (shut_bool Tryd.underlying4 _), (trodAll_cons_mk (Below.trod laidOut (by kernel_rfl) (of_decide_eq_true (by kernel_rfl)) k0 bel lt0) trodAll_mk0), rfl, bel.frame _, fun h => by cases h⟩
theorem laid_met (os : Os) : laidMetH Tryd.prog Rows.replyLimitsRow.laid ((pinAt (World.doorLaid Tryd.prog 323 os)).forCall (fun _ _ => 0) ⟨#[], #[.agg #[.int .i64 0, .int .i64 0, .bool false]], []⟩).memory :=
  laidMetH_of_parts3 (fuel := 8) (laidMet_by_bits 8 257 (by kernel_rfl)) (by kernel_rfl) (by kernel_rfl)
theorem reads_wit (os : Os) {H : Type} (enc : TypeId × Value → H) : ∃ places, DataW.whole enc Tryd.prog ((pinAt (World.doorLaid Tryd.prog 323 os)).forCall (fun _ _ => 0) ⟨#[], #[.agg #[.int .i64 0, .int .i64 0, .bool false]], []⟩).memory Tryd.f8.params.toList Rows.replyLimitsSpec.vars false #[(.agg #[.int .i64 0, .int .i64 0, .bool false] : Value)].toList 8 = some ([.agg [.lit (.int .i64 0), .lit (.int .i64 0), .lit (.bool false)]], [], places) :=
  ⟨[], by kernel_rfl⟩
set_option maxRecDepth 100000 in
theorem lifted (os : Os) (started : os.Started) (H : Type) (enc : TypeId × Value → H) (F : Stop.Interp) :
    ReturnsInHanded {} Tryd.checked os 8 .any ((OpenSpec.ofChange Rows.replyLimitsSpec).preRow enc Tryd.prog Tryd.f8 Rows.replyLimitsRow.domain false Rows.replyLimitsRow.laid) (((OpenSpec.ofChange Rows.replyLimitsSpec).at F).post enc Tryd.prog Tryd.f8 false true false false) := by
  obtain ⟨places, hx⟩ := reads_wit os enc
  refine returnsInHanded_of_row (C := Tryd.checked) (s := (OpenSpec.ofChange Rows.replyLimitsSpec)) own started (by kernel_rfl) Tryd.func8
    (witness_row_atRef (enc := enc) (C := Tryd.checked) false (pinAt (World.doorLaid Tryd.prog 323 os)) #[.agg #[.int .i64 0, .int .i64 0, .bool false]] rfl (by kernel_rfl) (by kernel_rfl) (by kernel_rfl)
      (OpenSpec.preRow_of_cond 8 hx (by kernel_rfl) (fun k hk => by cases hk) (by kernel_rfl) (laid_met os))) ?_
  intro W base args ds gs before hval hW hcnd hcond hsz hL hsh _
  exact contract H enc W base args ds gs before hval hW hsz hL hsh
theorem said : Rows.ReplyLimitsSaid :=
  OpenClaim.holds_of_cond 8 Tryd.f8 rfl rfl rfl rfl rfl rfl rfl ⟨rfl, rfl, rfl, rfl, rfl⟩ rfl rfl rfl rfl rfl (by kernel_rfl) Tryd.func8 (by kernel_rfl)
    (of_decide_eq_true (by kernel_rfl)) (by unfold Func.isWrapper; first | (rw [if_pos (by decide +kernel)]; kernel_rfl) | (rw [if_neg (by decide +kernel)]; exact ⟨rfl, rfl⟩))
    (fun os started H enc _ F => by rw [OpenClaim.pre_eq_preRow]; exact lifted os started H enc F)
theorem plain (f : FuncId) (fn : Func) (hf : Tryd.pinned.checked.prog.funcNamed "usher/usherlaw8.ReplyLimits" = some f) (hfn : Tryd.pinned.checked.prog.funcs[f]? = some fn) :
    true = Tryd.pinned.checked.prog.looks [] ∧ ∀ (j : Nat) t, fn.params[j]? = some t → Tryd.pinned.checked.prog.wantsStandIn t = false := by
  obtain rfl : f = 8 := Option.some.inj ((show Tryd.prog.funcNamed "usher/usherlaw8.ReplyLimits" = some 8 by kernel_rfl).symm.trans hf) |>.symm
  obtain rfl : fn = Tryd.f8 := (Option.some.inj (Tryd.func8.symm.trans hfn)).symm
  refine ⟨by kernel_rfl, fun j t ht => ?_⟩
  rw [Tryd.params8] at ht
  obtain rfl : t = 59 := by simpa using Array.mem_of_getElem? ht
  exact (show Tryd.prog.wantsStandIn 59 = false by kernel_rfl)
theorem card : Rows.ReplyLimitsCardSaid :=
  Claim7.holds_tied_plain_at .later [] _ _ _ _ said (fun _ h => by cases h) (by kernel_rfl) (fun _ h => by cases h) replyLimits_row_tie rfl ⟨rfl, rfl⟩ (by kernel_rfl) rfl plain (by kernel_rfl)
end Go.Proofs.YtdlfdmbaejhaaaaDoor.replyLimits
namespace Go.Proofs.YtdlfdmbaejhaaaaDoor
theorem replyLimits_holds : Rows.ReplyLimitsCardSaid := replyLimits.card
#print axioms replyLimits_holds
end Go.Proofs.YtdlfdmbaejhaaaaDoor
