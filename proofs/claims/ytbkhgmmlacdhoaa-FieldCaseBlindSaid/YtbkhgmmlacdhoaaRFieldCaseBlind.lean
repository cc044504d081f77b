/- The law usherlaw6.FieldCaseBlind holds of the program: for every input that can be read, the call answers true and the input reads as it did. Conditions: the row's own. -/
import Derived.Test.YtbkhgmmlacdhoaaQ5
import Derived.Test.YtbkhgmmlacdhoaaPLook
import Derived.Test.YtbkhgmmlacdhoaaRead
import Derived.Test.YtbkhgmmlacdhoaaRows
import Derived.WalkKit
import Derived.ProofKit
import Derived.OpenShut
import Derived.ChangeOld
import Derived.Below
import Derived.SizedLaws
import Derived.Deep.DeepHandedRow
import Derived.Deep.DeepWitnessRowRef
import Derived.LaidMore
import Derived.Lib.LaidTab
set_option linter.unusedVariables false
set_option linter.unusedSimpArgs false
namespace Go.Proofs.Ytbkhgmmlacdhoaa.fieldCaseBlind
open Go.ChangeShapes Go.WideShapes Go.ChangeAt Go.RowKit Go.Proofs.Ytbkhgmmlacdhoaa.Q Go.Proofs.YtbkhgmmlacdhoaaW.PrintWords Go.Proofs.YtbkhgmmlacdhoaaW.PrintLast Go.Proofs.YtbkhgmmlacdhoaaW.PrintMore
theorem own : ownKnob Try.prog.godebug = none := by kernel_rfl
theorem laidOut : laidOutB Try.prog = true := by kernel_rfl
theorem reads9 : Reads Try.prog 9 Kd.string (fun s => s.size ≤ 140737488351232) := Reads.string Try.underlying9
theorem reads34_ : Reads Try.prog 34 (Kd.pair Kd.string Kd.string) (fun x : ByteArray × ByteArray => (fun s : ByteArray => s.size ≤ 140737488351232) x.1 ∧ (fun s : ByteArray => s.size ≤ 140737488351232) x.2) := by
  refine Reads.struct Try.underlying34 (by kernel_rfl) ?_
  refine ReadsF.cons (Sz := (fun s : ByteArray => s.size ≤ 140737488351232)) (Sz' := (fun s : ByteArray => s.size ≤ 140737488351232)) ?_ ?_ ?_ ?_
  · rfl
  · kernel_rfl
  · exact reads9
  refine ReadsF.last ?_ ?_ ?_
  · rfl
  · kernel_rfl
  · exact reads9
theorem reads34 : Reads Try.prog 34 k34 (fun x : S34 => (fun s : ByteArray => s.size ≤ 140737488351232) x.f0 ∧ (fun s : ByteArray => s.size ≤ 140737488351232) x.f1) := Reads.iso reads34_ (g := fun a => (⟨a.1, a.2⟩ : S34)) (fun _ => rfl) (fun a h => ⟨h.1, h.2⟩)
theorem reads22 : Reads Try.prog 22 (Kd.slice 34 k34) (fun xs => xs.length * 32 ≤ 140737488351232 ∧ ∀ x ∈ xs, (fun x : S34 => (fun s : ByteArray => s.size ≤ 140737488351232) x.f0 ∧ (fun s : ByteArray => s.size ≤ 140737488351232) x.f1) x) := Reads.slice Try.underlying22 (by kernel_rfl) (by kernel_rfl) reads34
theorem reads3 : Reads Try.prog 3 (Kd.int .i64) (fun x => (Lit.int .i64 x).wf = true) := Reads.int Try.underlying3
theorem reads31_ : Reads Try.prog 31 (Kd.pair (Kd.slice 34 k34) (Kd.pair Kd.string (Kd.int .i64))) (fun x : (List S34) × ByteArray × Int => (fun xs : List S34 => xs.length * 32 ≤ 140737488351232 ∧ ∀ x ∈ xs, (fun x : S34 => (fun s : ByteArray => s.size ≤ 140737488351232) x.f0 ∧ (fun s : ByteArray => s.size ≤ 140737488351232) x.f1) x) x.1 ∧ (fun x : ByteArray × Int => (fun s : ByteArray => s.size ≤ 140737488351232) x.1 ∧ (fun x : Int => (Lit.int .i64 x).wf = true) x.2) x.2) := by
  refine Reads.struct Try.underlying31 (by kernel_rfl) ?_
  refine ReadsF.cons (Sz := (fun xs : List S34 => xs.length * 32 ≤ 140737488351232 ∧ ∀ x ∈ xs, (fun x : S34 => (fun s : ByteArray => s.size ≤ 140737488351232) x.f0 ∧ (fun s : ByteArray => s.size ≤ 140737488351232) x.f1) x)) (Sz' := (fun x : ByteArray × Int => (fun s : ByteArray => s.size ≤ 140737488351232) x.1 ∧ (fun x : Int => (Lit.int .i64 x).wf = true) x.2)) ?_ ?_ ?_ ?_
  · rfl
  · kernel_rfl
  · exact reads22
  refine ReadsF.cons (Sz := (fun s : ByteArray => s.size ≤ 140737488351232)) (Sz' := (fun x : Int => (Lit.int .i64 x).wf = true)) ?_ ?_ ?_ ?_
  · rfl
  · kernel_rfl
  · exact reads9
  refine ReadsF.last ?_ ?_ ?_
  · rfl
  · kernel_rfl
  · exact reads3
theorem reads31 : Reads Try.prog 31 (Kd.pair (Kd.slice 34 k34) (Kd.pair Kd.string (Kd.int .i64))) (fun x : (List S34) × ByteArray × Int => (fun xs : List S34 => xs.length * 32 ≤ 140737488351232 ∧ ∀ x ∈ xs, (fun x : S34 => (fun s : ByteArray => s.size ≤ 140737488351232) x.f0 ∧ (fun s : ByteArray => s.size ≤ 140737488351232) x.f1) x) x.1 ∧ (fun x : ByteArray × Int => (fun s : ByteArray => s.size ≤ 140737488351232) x.1 ∧ (fun x : Int => (Lit.int .i64 x).wf = true) x.2) x.2) := reads31_
set_option maxRecDepth 100000 in
theorem contract (H : Type) (enc : TypeId × Value → H) (W : World) (base : Nat) (args : Array Value) (ds gs : List (DataW H)) (before : List MemPlace)
    (hval0 : ∀ (j : Nat) t v, Try.f4.params[j]? = some t → args[j]? = some v → Value.okWide Try.prog W .any base t v)
    (hW : DataW.Whole enc Try.prog Try.f4.params.toList Rows.fieldCaseBlindSpec.vars false W args.toList ds gs before)
    (hsz0 : (DataW.weightsEach Try.prog (Try.f4.params.toList ++ Rows.fieldCaseBlindSpec.plain.varTypes Try.prog) (ds ++ gs)).all (· ≤ reachBytes) = true) :
    Calls Try.prog 4 args W fun e W' => ∃ v, e = .returned v ∧ Rows.fieldCaseBlindSpec.post enc Try.prog Try.f4 false true false false W args v W' := by
  have hval : ∀ (j : Nat) t v, Try.f4.params[j]? = some t → args[j]? = some v → Value.okWide Try.prog W .any base t v := hval0
  have hsz : Fits (DataW.weightsEach Try.prog (Try.f4.params.toList ++ Rows.fieldCaseBlindSpec.plain.varTypes Try.prog) (ds ++ gs)) := hsz0
  have hW' := hW
  obtain ⟨p, q, hA0, hV, rfl, hfz, hnd⟩ := hW
  have hA : DataW.TrodAll enc Try.prog W 0 (fun _ => true) true Try.f4.params.toList args.toList ds p := hA0
  rw [Try.params4] at hA hval hsz
  obtain ⟨v0, vs0, d0, ds0, p0, q0, hargs, rfl, rfl, h0, r0⟩ := trodAll_cons hA
  obtain ⟨rfl, rfl, rfl⟩ := trodAll_nil r0
  obtain rfl : args = #[v0] := by cases args; simp_all
  obtain ⟨rfl, rfl⟩ := trodVars_none hV
  have k0 := h0
  have lt0 : ∀ x ∈ p0, x.block < W.heap.size := by obtain ⟨m, hm⟩ := k0; exact DataW.trod_lt m _ _ _ hm
  have fit : Fits (DataW.weights Try.prog 31 d0) := by
    have h := hsz
    simp only [List.cons_append, List.nil_append] at h
    unfold DataW.weightsEach at h
    exact h.left
  obtain ⟨fuel, hf⟩ := h0
  obtain ⟨x, hK, hS⟩ := reads31.get enc W fuel _ _ hf fit
  clear hA0 hval0 hsz0 hsz
  obtain ⟨cs, rfl, _⟩ := okWide_struct Try.underlying31 (hval 0 31 v0 rfl rfl)
  have hKc : (Kd.pair (Kd.slice 34 k34) (Kd.pair Kd.string (Kd.int .i64))).K W x cs.toList := hK
  obtain ⟨l⟩ := cs
  obtain ⟨c2, d2_, e2, g2, r2⟩ := hKc
  obtain ⟨A3, cp3, z3, hc3, hr3⟩ := g2
  obtain ⟨c4, d4_, e4, g4, r4⟩ := r2
  have z5 := g4
  have z6 := r4
  obtain rfl : l = [.slice A3 x.1.length cp3, .string x.2.1, .int .i64 x.2.2] := by
    simp_all [Kd.int, Kd.bool, Kd.string, Kd.scalar]
  obtain ⟨k, hp⟩ := FieldCaseBlind_pure x.1 x.2.1 x.2.2 hS.1 hS.2.1 hS.2.2
  refine (usherlaw6_FieldCaseBlind.calls k A3 cp3 x.1 x.2.1 x.2.2 true W hr3 hc3 hp).mono ?_
  rintro e W' ⟨rfl, hd⟩
  have bel : Below W.heap.size W W' := hd
  exact ⟨_, rfl, _, _, _, [], _, [], hW', trodAll_mk1 (shut_bool Try.underlying4 _), (trodAll_cons_mk (Below.trod laidOut (by kernel_rfl) (of_decide_eq_true (by kernel_rfl)) k0 bel lt0) trodAll_mk0), rfl, bel.frame _, fun h => by cases h⟩
set_option maxRecDepth 100000 in
theorem lifted (os : Os) (started : os.Started) (H : Type) (enc : TypeId × Value → H) :
    ReturnsInHanded {} Try.checked os 4 .any (Rows.fieldCaseBlindSpec.pre6 enc Try.prog Try.f4 Rows.fieldCaseBlindRow.domain false) (Rows.fieldCaseBlindSpec.post enc Try.prog Try.f4 false true false false) := by
  refine returnsInHanded_of_change_sized (C := Try.checked) own started (by kernel_rfl) Try.func4
    (ChangeSpec.witness6 (enc := enc) (C := Try.checked) false ⟨#[], #[.agg #[.slice none 0 0, .string ByteArray.empty, .int .i64 0]], []⟩ 8 (by kernel_rfl) (by kernel_rfl) (by kernel_rfl) (by kernel_rfl)) ?_
  intro W base args ds gs before hval hW hcnd hsz _
  exact contract H enc W base args ds gs before hval hW hsz
theorem said : Rows.FieldCaseBlindSaid :=
  OpenClaim.holds_of_wide 4 Try.f4 rfl rfl rfl rfl rfl rfl rfl ⟨rfl, rfl, rfl, rfl, rfl⟩ rfl rfl rfl rfl rfl (by kernel_rfl) Try.func4 (by kernel_rfl)
    (of_decide_eq_true (by kernel_rfl)) (by unfold Func.isWrapper; first | (rw [if_pos (by decide +kernel)]; kernel_rfl) | (rw [if_neg (by decide +kernel)]; exact ⟨rfl, rfl⟩))
    (fun os started H enc _ => lifted os started H enc)
end Go.Proofs.Ytbkhgmmlacdhoaa.fieldCaseBlind
namespace Go.Proofs.Ytbkhgmmlacdhoaa
theorem fieldCaseBlind_holds : Rows.FieldCaseBlindSaid := fieldCaseBlind.said
#print axioms fieldCaseBlind_holds
end Go.Proofs.Ytbkhgmmlacdhoaa
