/- The law usherlaw6.FieldSafe holds of the program: for every input that can be read, the call answers true and the input reads as it did. Conditions: the row's own. -/
import Derived.Test.YtdlfdmbaejhaaaaDoorQ4
import Derived.Test.YtdlfdmbaejhaaaaDoorPSafe
import Derived.Test.YtdlfdmbaejhaaaaDoorReadB
import Derived.Test.YtdlfdmbaejhaaaaDoorRows
import Derived.Test.YtdlfdmbaejhaaaaDoorCards
import Derived.Test.YtdlfdmbaejhaaaaDoorTie
import Derived.Test.YtdlfdmbaejhaaaaDoorSent
import Derived.WalkKit
import Derived.ProofKit
import Derived.OpenShut
import Derived.ChangeOld
import Derived.Below
import Derived.SizedLaws
import Derived.Deep.DeepHandedRow
import Derived.Deep.DeepWitnessRowRef
import Derived.LaidMore
import Derived.Lib.LaidTab
import Derived.SevenTiedAt
set_option linter.unusedVariables false
set_option linter.unusedSimpArgs false
namespace Go.Proofs.YtdlfdmbaejhaaaaDoor.fieldSafe
open Go.ChangeShapes Go.WideShapes Go.ChangeAt Go.RowKit Go.Proofs.YtdlfdmbaejhaaaaDoor.Q Go.Proofs.YtdlfdmbaejhaaaaDoorW.PrintWords Go.Proofs.YtdlfdmbaejhaaaaDoorW.PrintLast Go.Proofs.YtdlfdmbaejhaaaaDoorW.PrintMore
theorem own : ownKnob Tryd.prog.godebug = none := by kernel_rfl
theorem laidOut : laidOutB Tryd.prog = true := by kernel_rfl
theorem reads9 : ReadsB Tryd.prog 9 Kd.string (fun s : ByteArray => s.size ≤ 140737488351232) (fun s : ByteArray => s.size) := ReadsB.string Tryd.underlying9
theorem reads26_ : ReadsB Tryd.prog 26 (Kd.pair Kd.string Kd.string) (fun x : ByteArray × ByteArray => (fun s : ByteArray => s.size ≤ 140737488351232) x.1 ∧ (fun s : ByteArray => s.size ≤ 140737488351232) x.2) (fun x : ByteArray × ByteArray => (fun s : ByteArray => s.size) x.1 + (fun s : ByteArray => s.size) x.2) := by
  refine ReadsB.struct Tryd.underlying26 (by kernel_rfl) ?_
  refine ReadsFB.cons (Sz := (fun s : ByteArray => s.size ≤ 140737488351232)) (Sz' := (fun s : ByteArray => s.size ≤ 140737488351232)) (Bk := (fun s : ByteArray => s.size)) (Bk' := (fun s : ByteArray => s.size)) ?_ ?_ ?_ ?_
  · rfl
  · kernel_rfl
  · exact reads9
  refine ReadsFB.last ?_ ?_ ?_
  · rfl
  · kernel_rfl
  · exact reads9
theorem reads26 : ReadsB Tryd.prog 26 k26 (fun x : S26 => (fun s : ByteArray => s.size ≤ 140737488351232) x.f0 ∧ (fun s : ByteArray => s.size ≤ 140737488351232) x.f1) (fun x : S26 => (fun s : ByteArray => s.size) x.f0 + (fun s : ByteArray => s.size) x.f1) := by
  refine ReadsB.iso (g := fun a => (⟨a.1, a.2⟩ : S26)) reads26_ ?_ ?_ ?_
  · intro a; rfl
  · rintro a ⟨h0, h1⟩; exact ⟨h0, h1⟩
  · intro a; dsimp only; omega
theorem reads22 : ReadsB Tryd.prog 22 (Kd.slice 26 k26) (fun xs : List S26 => xs.length * 32 ≤ 140737488351232 ∧ ∀ x ∈ xs, (fun x : S26 => (fun s : ByteArray => s.size ≤ 140737488351232) x.f0 ∧ (fun s : ByteArray => s.size ≤ 140737488351232) x.f1) x) (fun xs : List S26 => (xs.map (fun x : S26 => (fun s : ByteArray => s.size) x.f0 + (fun s : ByteArray => s.size) x.f1)).sum) := ReadsB.slice Tryd.underlying22 (by kernel_rfl) (by kernel_rfl) reads26
theorem reads3 : ReadsB Tryd.prog 3 (Kd.int .i64) (fun x : Int => (Lit.int .i64 x).wf = true) (fun _ : Int => 0) := ReadsB.int Tryd.underlying3
theorem reads47_ : ReadsB Tryd.prog 47 (Kd.pair Kd.string (Kd.pair Kd.string (Kd.int .i64))) (fun x : ByteArray × ByteArray × Int => (fun s : ByteArray => s.size ≤ 140737488351232) x.1 ∧ (fun x : ByteArray × Int => (fun s : ByteArray => s.size ≤ 140737488351232) x.1 ∧ (fun x : Int => (Lit.int .i64 x).wf = true) x.2) x.2) (fun x : ByteArray × ByteArray × Int => (fun s : ByteArray => s.size) x.1 + (fun x : ByteArray × Int => (fun s : ByteArray => s.size) x.1 + (fun _ : Int => 0) x.2) x.2) := by
  refine ReadsB.struct Tryd.underlying47 (by kernel_rfl) ?_
  refine ReadsFB.cons (Sz := (fun s : ByteArray => s.size ≤ 140737488351232)) (Sz' := (fun x : ByteArray × Int => (fun s : ByteArray => s.size ≤ 140737488351232) x.1 ∧ (fun x : Int => (Lit.int .i64 x).wf = true) x.2)) (Bk := (fun s : ByteArray => s.size)) (Bk' := (fun x : ByteArray × Int => (fun s : ByteArray => s.size) x.1 + (fun _ : Int => 0) x.2)) ?_ ?_ ?_ ?_
  · rfl
  · kernel_rfl
  · exact reads9
  refine ReadsFB.cons (Sz := (fun s : ByteArray => s.size ≤ 140737488351232)) (Sz' := (fun x : Int => (Lit.int .i64 x).wf = true)) (Bk := (fun s : ByteArray => s.size)) (Bk' := (fun _ : Int => 0)) ?_ ?_ ?_ ?_
  · rfl
  · kernel_rfl
  · exact reads9
  refine ReadsFB.last ?_ ?_ ?_
  · rfl
  · kernel_rfl
  · exact reads3
theorem reads47 : ReadsB Tryd.prog 47 (Kd.pair Kd.string (Kd.pair Kd.string (Kd.int .i64))) (fun x : ByteArray × ByteArray × Int => (fun s : ByteArray => s.size ≤ 140737488351232) x.1 ∧ (fun x : ByteArray × Int => (fun s : ByteArray => s.size ≤ 140737488351232) x.1 ∧ (fun x : Int => (Lit.int .i64 x).wf = true) x.2) x.2) (fun x : ByteArray × ByteArray × Int => (fun s : ByteArray => s.size) x.1 + (fun x : ByteArray × Int => (fun s : ByteArray => s.size) x.1 + (fun _ : Int => 0) x.2) x.2) := reads47_
theorem reads49_ : ReadsB Tryd.prog 49 (Kd.pair (Kd.slice 26 k26) (Kd.pair (Kd.pair Kd.string (Kd.pair Kd.string (Kd.int .i64))) (Kd.pair Kd.string Kd.string))) (fun x : (List S26) × (ByteArray × ByteArray × Int) × ByteArray × ByteArray => (fun xs : List S26 => xs.length * 32 ≤ 140737488351232 ∧ ∀ x ∈ xs, (fun x : S26 => (fun s : ByteArray => s.size ≤ 140737488351232) x.f0 ∧ (fun s : ByteArray => s.size ≤ 140737488351232) x.f1) x) x.1 ∧ (fun x : (ByteArray × ByteArray × Int) × ByteArray × ByteArray => (fun x : ByteArray × ByteArray × Int => (fun s : ByteArray => s.size ≤ 140737488351232) x.1 ∧ (fun x : ByteArray × Int => (fun s : ByteArray => s.size ≤ 140737488351232) x.1 ∧ (fun x : Int => (Lit.int .i64 x).wf = true) x.2) x.2) x.1 ∧ (fun x : ByteArray × ByteArray => (fun s : ByteArray => s.size ≤ 140737488351232) x.1 ∧ (fun s : ByteArray => s.size ≤ 140737488351232) x.2) x.2) x.2) (fun x : (List S26) × (ByteArray × ByteArray × Int) × ByteArray × ByteArray => (fun xs : List S26 => (xs.map (fun x : S26 => (fun s : ByteArray => s.size) x.f0 + (fun s : ByteArray => s.size) x.f1)).sum) x.1 + (fun x : (ByteArray × ByteArray × Int) × ByteArray × ByteArray => (fun x : ByteArray × ByteArray × Int => (fun s : ByteArray => s.size) x.1 + (fun x : ByteArray × Int => (fun s : ByteArray => s.size) x.1 + (fun _ : Int => 0) x.2) x.2) x.1 + (fun x : ByteArray × ByteArray => (fun s : ByteArray => s.size) x.1 + (fun s : ByteArray => s.size) x.2) x.2) x.2) := by
  refine ReadsB.struct Tryd.underlying49 (by kernel_rfl) ?_
  refine ReadsFB.cons (Sz := (fun xs : List S26 => xs.length * 32 ≤ 140737488351232 ∧ ∀ x ∈ xs, (fun x : S26 => (fun s : ByteArray => s.size ≤ 140737488351232) x.f0 ∧ (fun s : ByteArray => s.size ≤ 140737488351232) x.f1) x)) (Sz' := (fun x : (ByteArray × ByteArray × Int) × ByteArray × ByteArray => (fun x : ByteArray × ByteArray × Int => (fun s : ByteArray => s.size ≤ 140737488351232) x.1 ∧ (fun x : ByteArray × Int => (fun s : ByteArray => s.size ≤ 140737488351232) x.1 ∧ (fun x : Int => (Lit.int .i64 x).wf = true) x.2) x.2) x.1 ∧ (fun x : ByteArray × ByteArray => (fun s : ByteArray => s.size ≤ 140737488351232) x.1 ∧ (fun s : ByteArray => s.size ≤ 140737488351232) x.2) x.2)) (Bk := (fun xs : List S26 => (xs.map (fun x : S26 => (fun s : ByteArray => s.size) x.f0 + (fun s : ByteArray => s.size) x.f1)).sum)) (Bk' := (fun x : (ByteArray × ByteArray × Int) × ByteArray × ByteArray => (fun x : ByteArray × ByteArray × Int => (fun s : ByteArray => s.size) x.1 + (fun x : ByteArray × Int => (fun s : ByteArray => s.size) x.1 + (fun _ : Int => 0) x.2) x.2) x.1 + (fun x : ByteArray × ByteArray => (fun s : ByteArray => s.size) x.1 + (fun s : ByteArray => s.size) x.2) x.2)) ?_ ?_ ?_ ?_
  · rfl
  · kernel_rfl
  · exact reads22
  refine ReadsFB.cons (Sz := (fun x : ByteArray × ByteArray × Int => (fun s : ByteArray => s.size ≤ 140737488351232) x.1 ∧ (fun x : ByteArray × Int => (fun s : ByteArray => s.size ≤ 140737488351232) x.1 ∧ (fun x : Int => (Lit.int .i64 x).wf = true) x.2) x.2)) (Sz' := (fun x : ByteArray × ByteArray => (fun s : ByteArray => s.size ≤ 140737488351232) x.1 ∧ (fun s : ByteArray => s.size ≤ 140737488351232) x.2)) (Bk := (fun x : ByteArray × ByteArray × Int => (fun s : ByteArray => s.size) x.1 + (fun x : ByteArray × Int => (fun s : ByteArray => s.size) x.1 + (fun _ : Int => 0) x.2) x.2)) (Bk' := (fun x : ByteArray × ByteArray => (fun s : ByteArray => s.size) x.1 + (fun s : ByteArray => s.size) x.2)) ?_ ?_ ?_ ?_
  · rfl
  · kernel_rfl
  · exact reads47
  refine ReadsFB.cons (Sz := (fun s : ByteArray => s.size ≤ 140737488351232)) (Sz' := (fun s : ByteArray => s.size ≤ 140737488351232)) (Bk := (fun s : ByteArray => s.size)) (Bk' := (fun s : ByteArray => s.size)) ?_ ?_ ?_ ?_
  · rfl
  · kernel_rfl
  · exact reads9
  refine ReadsFB.last ?_ ?_ ?_
  · rfl
  · kernel_rfl
  · exact reads9
theorem reads49 : ReadsB Tryd.prog 49 (Kd.pair (Kd.slice 26 k26) (Kd.pair (Kd.pair Kd.string (Kd.pair Kd.string (Kd.int .i64))) (Kd.pair Kd.string Kd.string))) (fun x : (List S26) × (ByteArray × ByteArray × Int) × ByteArray × ByteArray => (fun xs : List S26 => xs.length * 32 ≤ 140737488351232 ∧ ∀ x ∈ xs, (fun x : S26 => (fun s : ByteArray => s.size ≤ 140737488351232) x.f0 ∧ (fun s : ByteArray => s.size ≤ 140737488351232) x.f1) x) x.1 ∧ (fun x : (ByteArray × ByteArray × Int) × ByteArray × ByteArray => (fun x : ByteArray × ByteArray × Int => (fun s : ByteArray => s.size ≤ 140737488351232) x.1 ∧ (fun x : ByteArray × Int => (fun s : ByteArray => s.size ≤ 140737488351232) x.1 ∧ (fun x : Int => (Lit.int .i64 x).wf = true) x.2) x.2) x.1 ∧ (fun x : ByteArray × ByteArray => (fun s : ByteArray => s.size ≤ 140737488351232) x.1 ∧ (fun s : ByteArray => s.size ≤ 140737488351232) x.2) x.2) x.2) (fun x : (List S26) × (ByteArray × ByteArray × Int) × ByteArray × ByteArray => (fun xs : List S26 => (xs.map (fun x : S26 => (fun s : ByteArray => s.size) x.f0 + (fun s : ByteArray => s.size) x.f1)).sum) x.1 + (fun x : (ByteArray × ByteArray × Int) × ByteArray × ByteArray => (fun x : ByteArray × ByteArray × Int => (fun s : ByteArray => s.size) x.1 + (fun x : ByteArray × Int => (fun s : ByteArray => s.size) x.1 + (fun _ : Int => 0) x.2) x.2) x.1 + (fun x : ByteArray × ByteArray => (fun s : ByteArray => s.size) x.1 + (fun s : ByteArray => s.size) x.2) x.2) x.2) := reads49_
theorem glob {W : World} (hL : laidMetH Tryd.prog Rows.fieldSafeRow.laid W) : ∃ inst : Sent, @Glob inst [0, 1, 16, 17, 19] W := by
  have h : laidMet Tryd.prog Rows.fieldSafeRow.laid W := hL
  obtain ⟨inst, he, hs⟩ := mk_sent h (by kernel_rfl) (by decide +kernel) (by intro n hn m hm c h1 h2; exact code_once n m c h1 h2)
  refine ⟨inst, fun g hg => ?_⟩
  simp only [List.mem_cons, List.not_mem_nil, or_false] at hg
  rcases hg with rfl | rfl | rfl | rfl | rfl
  · have hf := he "usher/api.ErrMany" (by decide +kernel) 3 0 (by decide +kernel) (by kernel_rfl)
    unfold GFact; simpa using hf
  · have hf := he "usher/api.ErrText" (by decide +kernel) 2 1 (by decide +kernel) (by kernel_rfl)
    unfold GFact; simpa using hf
  · have hf := field_kinds_laid (List.mem_of_getElem? (i := 6) (by kernel_rfl)) h
    unfold GFact; simpa using hf
  · have hf := pct_unreserved_laid (List.mem_of_getElem? (i := 5) (by kernel_rfl)) h
    unfold GFact; simpa using hf
  · have hf := strconv_uint64pow10_laid (List.mem_of_getElem? (i := 2) (by kernel_rfl)) h
    unfold GFact; simpa using hf
set_option maxRecDepth 100000 in
theorem contract (H : Type) (enc : TypeId × Value → H) (W : World) (base : Nat) (args : Array Value) (ds gs : List (DataW H)) (before : List MemPlace)
    (hval0 : ∀ (j : Nat) t v, Tryd.f6.params[j]? = some t → args[j]? = some v → Value.okWide Tryd.prog W .any base t v)
    (hW : DataW.Whole enc Tryd.prog Tryd.f6.params.toList Rows.fieldSafeSpec.vars false W args.toList ds gs before)
    (hsz0 : (DataW.weightsEach Tryd.prog (Tryd.f6.params.toList ++ Rows.fieldSafeSpec.plain.varTypes Tryd.prog) (ds ++ gs)).all (· ≤ reachBytes) = true) (hL : laidMetH Tryd.prog Rows.fieldSafeRow.laid W) (hk : Rows.uptoSmall H (ds ++ gs) = true) :
    Calls Tryd.prog 6 args W fun e W' => ∃ v, e = .returned v ∧ Rows.fieldSafeSpec.post enc Tryd.prog Tryd.f6 false true false false W args v W' := by
  have hval : ∀ (j : Nat) t v, Tryd.f6.params[j]? = some t → args[j]? = some v → Value.okWide Tryd.prog W .any base t v := hval0
  have hsz : Fits (DataW.weightsEach Tryd.prog (Tryd.f6.params.toList ++ Rows.fieldSafeSpec.plain.varTypes Tryd.prog) (ds ++ gs)) := hsz0
  have hW' := hW
  obtain ⟨p, q, hA0, hV, rfl, hfz, hnd⟩ := hW
  have hA : DataW.TrodAll enc Tryd.prog W 0 (fun _ => true) true Tryd.f6.params.toList args.toList ds p := hA0
  rw [Tryd.params6] at hA hval hsz
  obtain ⟨v0, vs0, d0, ds0, p0, q0, hargs, rfl, rfl, h0, r0⟩ := trodAll_cons hA
  obtain ⟨rfl, rfl, rfl⟩ := trodAll_nil r0
  obtain rfl : args = #[v0] := by cases args; simp_all
  obtain ⟨rfl, rfl⟩ := trodVars_none hV
  have k0 := h0
  have lt0 : ∀ x ∈ p0, x.block < W.heap.size := by obtain ⟨m, hm⟩ := k0; exact DataW.trod_lt m _ _ _ hm
  have fit : Fits (DataW.weights Tryd.prog 49 d0) := by
    have h := hsz
    simp only [List.cons_append, List.nil_append] at h
    unfold DataW.weightsEach at h
    exact h.left
  obtain ⟨fuel, hf⟩ := h0
  obtain ⟨x, hK, hS, hBk⟩ := reads49.get enc W fuel _ _ hf fit
  clear hA0 hval0 hsz0 hsz
  have hbulk : Rows.uptoBulk d0 ≤ 1048576 := by
    have h := of_decide_eq_true hk
    simp only [List.append_nil, Rows.uptoBulkAll] at h
    omega
  have hbk := Nat.le_trans hBk hbulk
  obtain ⟨cs, rfl, _⟩ := okWide_struct Tryd.underlying49 (hval 0 49 v0 rfl rfl)
  have hKc : (Kd.pair (Kd.slice 26 k26) (Kd.pair (Kd.pair Kd.string (Kd.pair Kd.string (Kd.int .i64))) (Kd.pair Kd.string Kd.string))).K W x cs.toList := hK
  obtain ⟨l⟩ := cs
  obtain ⟨c2, d2_, e2, g2, r2⟩ := hKc
  obtain ⟨A3, cp3, z3, hc3, hr3⟩ := g2
  obtain ⟨c4, d4_, e4, g4, r4⟩ := r2
  obtain ⟨c6, d6_, e6, g6, r6⟩ := g4
  have z7 := g6
  obtain ⟨c8, d8_, e8, g8, r8⟩ := r6
  have z9 := g8
  have z10 := r8
  obtain ⟨c11, d11_, e11, g11, r11⟩ := r4
  have z12 := g11
  have z13 := r11
  obtain rfl : l = [.slice A3 x.1.length cp3, .string x.2.1.1, .string x.2.1.2.1, .int .i64 x.2.1.2.2, .string x.2.2.1, .string x.2.2.2] := by
    simp_all [Kd.int, Kd.bool, Kd.string, Kd.scalar]
  obtain ⟨inst, hG⟩ := glob hL
  obtain ⟨k, hp⟩ := FieldSafe_pure x.1 x.2.1.1 x.2.1.2.1 x.2.1.2.2 x.2.2.1 x.2.2.2 hS.1 hS.2.1.1 hS.2.1.2.1 hS.2.1.2.2 hS.2.2.1 hS.2.2.2 hbk
  refine (usherlaw6_FieldSafe.calls k A3 cp3 x.1 x.2.1.1 x.2.1.2.1 x.2.1.2.2 x.2.2.1 x.2.2.2 true W hr3 hc3 hp hG).mono ?_
  rintro e W' ⟨rfl, hd⟩
  have bel : Below W.heap.size W W' := hd
  exact ⟨_, rfl, _, _, _, [], _, [], hW', trodAll_mk1 (shut_bool Tryd.underlying4 _), (trodAll_cons_mk (Below.trod laidOut (by kernel_rfl) (of_decide_eq_true (by kernel_rfl)) k0 bel lt0) trodAll_mk0), rfl, bel.frame _, fun h => by cases h⟩
theorem laid_met (os : Os) : laidMetH Tryd.prog Rows.fieldSafeRow.laid ((World.doorLaid Tryd.prog 323 os).forCall (fun _ _ => 0) ⟨#[], #[.agg #[.slice none 0 0, .string ByteArray.empty, .string ByteArray.empty, .int .i64 0, .string ByteArray.empty, .string ByteArray.empty]], []⟩).memory :=
  laidMetH_of_parts3 (fuel := 8) (laidMet_by_bits 8 257 (by kernel_rfl)) (by kernel_rfl) (by kernel_rfl)
theorem reads_wit (os : Os) {H : Type} (enc : TypeId × Value → H) : ∃ places, DataW.whole enc Tryd.prog ((World.doorLaid Tryd.prog 323 os).forCall (fun _ _ => 0) ⟨#[], #[.agg #[.slice none 0 0, .string ByteArray.empty, .string ByteArray.empty, .int .i64 0, .string ByteArray.empty, .string ByteArray.empty]], []⟩).memory Tryd.f6.params.toList Rows.fieldSafeSpec.vars false #[(.agg #[.slice none 0 0, .string ByteArray.empty, .string ByteArray.empty, .int .i64 0, .string ByteArray.empty, .string ByteArray.empty] : Value)].toList 8 = some ([.agg [.nil, .agg [.lit (.string []), .lit (.string []), .lit (.int .i64 0)], .lit (.string []), .lit (.string [])]], [], places) :=
  ⟨[], by kernel_rfl⟩
set_option maxRecDepth 100000 in
theorem lifted (os : Os) (started : os.Started) (H : Type) (enc : TypeId × Value → H) (F : Stop.Interp) :
    ReturnsInHanded {} Tryd.checked os 6 .any ((Rows.OpenSpec.upto Rows.fieldSafeSpec).preRow enc Tryd.prog Tryd.f6 Rows.fieldSafeUptoRow.domain false Rows.fieldSafeUptoRow.laid) (((Rows.OpenSpec.upto Rows.fieldSafeSpec).at F).post enc Tryd.prog Tryd.f6 false true false false) := by
  obtain ⟨places, hx⟩ := reads_wit os enc
  refine returnsInHanded_of_row (C := Tryd.checked) (s := (Rows.OpenSpec.upto Rows.fieldSafeSpec)) own started (by kernel_rfl) Tryd.func6
    (witness_row_atRef (enc := enc) (C := Tryd.checked) false (World.doorLaid Tryd.prog 323 os) #[.agg #[.slice none 0 0, .string ByteArray.empty, .string ByteArray.empty, .int .i64 0, .string ByteArray.empty, .string ByteArray.empty]] rfl (by kernel_rfl) (by kernel_rfl) (by kernel_rfl)
      (OpenSpec.preRow_of_cond 8 hx (by kernel_rfl) (fun k hk => by cases hk; kernel_rfl) (by kernel_rfl) (laid_met os))) ?_
  intro W base args ds gs before hval hW hcnd hcond hsz hL hsh _
  exact contract H enc W base args ds gs before hval hW hsz hL (hcond _ rfl)
theorem said : Rows.FieldSafeUptoSaid :=
  OpenClaim.holds_of_cond 6 Tryd.f6 rfl rfl rfl rfl rfl rfl rfl ⟨rfl, rfl, rfl, rfl, rfl⟩ rfl rfl rfl rfl rfl (by kernel_rfl) Tryd.func6 (by kernel_rfl)
    (of_decide_eq_true (by kernel_rfl)) (by unfold Func.isWrapper; first | (rw [if_pos (by decide +kernel)]; kernel_rfl) | (rw [if_neg (by decide +kernel)]; exact ⟨rfl, rfl⟩))
    (fun os started H enc _ F => by rw [OpenClaim.pre_eq_preRow]; exact lifted os started H enc F)
theorem plain (f : FuncId) (fn : Func) (hf : Tryd.pinned.checked.prog.funcNamed "usher/usherlaw6.FieldSafe" = some f) (hfn : Tryd.pinned.checked.prog.funcs[f]? = some fn) :
    true = Tryd.pinned.checked.prog.looks [] ∧ ∀ (j : Nat) t, fn.params[j]? = some t → Tryd.pinned.checked.prog.wantsStandIn t = false := by
  obtain rfl : f = 6 := Option.some.inj ((show Tryd.prog.funcNamed "usher/usherlaw6.FieldSafe" = some 6 by kernel_rfl).symm.trans hf) |>.symm
  obtain rfl : fn = Tryd.f6 := (Option.some.inj (Tryd.func6.symm.trans hfn)).symm
  refine ⟨by kernel_rfl, fun j t ht => ?_⟩
  rw [Tryd.params6] at ht
  obtain rfl : t = 49 := by simpa using Array.mem_of_getElem? ht
  exact (show Tryd.prog.wantsStandIn 49 = false by kernel_rfl)
theorem card : Rows.FieldSafeUptoCardSaid :=
  Claim7.holds_tied_plain_at .later [] _ _ _ _ said (fun _ h => by cases h) (by kernel_rfl) (fun _ h => by cases h) fieldSafeUpto_row_tie rfl ⟨rfl, rfl⟩ (by kernel_rfl) rfl plain (by kernel_rfl)
end Go.Proofs.YtdlfdmbaejhaaaaDoor.fieldSafe
namespace Go.Proofs.YtdlfdmbaejhaaaaDoor
theorem fieldSafeUpto_holds : Rows.FieldSafeUptoCardSaid := fieldSafe.card
#print axioms fieldSafeUpto_holds
end Go.Proofs.YtdlfdmbaejhaaaaDoor
