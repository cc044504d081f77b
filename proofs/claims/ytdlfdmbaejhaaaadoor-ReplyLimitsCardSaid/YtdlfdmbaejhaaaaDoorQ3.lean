/- The plain Lean functions that calls of the program answer, and proofs that they do. Printed by program out of the translation; Lean checks it. -/
import Derived.Test.YtdlfdmbaejhaaaaDoorQ0
import Derived.Test.YtdlfdmbaejhaaaaDoorQ2
import Derived.Test.YtdlfdmbaejhaaaaDoorIs
import Derived.Test.YtdlfdmbaejhaaaaDoorLowR
import Derived.Test.YtdlfdmbaejhaaaaDoorTabs
namespace Go.Proofs.YtdlfdmbaejhaaaaDoor.Q
open Go.RowKit Go.Proofs.YtdlfdmbaejhaaaaDoorW.PrintWords Go.Proofs.YtdlfdmbaejhaaaaDoorW.PrintLast Go.Proofs.YtdlfdmbaejhaaaaDoorW.PrintMore
attribute [local go_sem] max2_int min2_int max_two min_two max_three min_three max_four min_four   -- for this text's walks alone
set_option linter.unusedVariables false
set_option linter.unusedSimpArgs false

theorem Aq3 {p : Prop} (h : p) : Aside0 p := ⟨h⟩
theorem tq3_0 {P : Prop} (h : P := by first | omega | exact Nat.le_refl _) : P := h
theorem tq3_1 {P : Prop} (h : P := by first | rfl | (simp; done) | (simp [*]; done)) : P := h
theorem tq3_2 {P : Prop} (h : P := by first | (with_reducible assumption) | assumption) : P := h
theorem tq3_3 {P : Prop} (h : P := by repeat (first | exact Drawn0.refl _ | apply Drawn0.step)) : P := h
theorem tq3_4 {P : Prop} (h : P := by first | rfl | (simp; done) | (simp only [← hji10] <;> (first | rfl | simp)) | (simp [*]; done)) : P := h
theorem tq3_5 {P : Prop} (h : P := by first | rfl | (simp [errW_none, errW_some] <;> rfl) | (simp [*, errW_none, errW_some] <;> rfl)) : P := h
theorem tq3_6 {P Q0 : Prop} (y0 : Q0) (h : Q0 → P := by intro y0_; repeat (first | exact y0_ | refine blk_drewN ?_ _ | refine blk_drew ?_ | refine blk_alloc ?_ _)) : P := h y0
theorem tq3_7 {P Q0 : Prop} (y0 : Q0) (h : Q0 → P := by intro y0_; (with_reducible repeat (first | refine blk_drewN ?_ _ | refine blk_drew ?_ | refine blk_alloc ?_ _)); exact y0_) : P := h y0
theorem tq3_8 {P : Prop} (h : P := by repeat (first | (with_reducible first | exact HB.out | apply below_alloc | apply pw_below_drewN | apply below_drew1) | exact HB.out)) : P := h
theorem tq3_9 {P Q0 : Prop} (y0 : Q0) (h : Q0 → P := by intro y0_; repeat (first | (with_reducible first | exact HB.out | apply below_alloc | apply pw_below_drewN | apply below_drew1 | refine below_set ?_ y0_) | exact HB.out)) : P := h y0
/-! ### field_Trim: function 49 -/
mutual
def field_Trim.j1 : Nat → ByteArray → Option (ByteArray)
 | 0, _ => none
 | k + 1, x0 => field_Trim.l1 k x0
def field_Trim.l1 : Nat → ByteArray → Option (ByteArray)
 | 0, _ => none
 | k + 1, x0 => if x0.toList = ([] : List UInt8) then (some x0) else (if 0 ≤ (wrap64 ((x0.size : Int) - 1)) then (if (wrap64 ((x0.size : Int) - 1)) < (x0.size : Int) then ((field_is.f (bt x0 (wrap64 ((x0.size : Int) - 1))) 8).bind fun t113 => (if t113 = true then (if (wrap64 ((x0.size : Int) - 1)) ≤ (x0.size : Int) then (field_Trim.l1 k (x0.extract 0 ((wrap64 ((x0.size : Int) - 1)) : Int).toNat)) else (none)) else (some x0))) else (none)) else (none))
def field_Trim.l0 : Nat → ByteArray → Option (ByteArray)
 | 0, _ => none
 | k + 1, x0 => if x0.toList = ([] : List UInt8) then (field_Trim.j1 k x0) else (if 0 < (x0.size : Int) then ((field_is.f (bt x0 0) 8).bind fun t112 => (if t112 = true then (if 1 ≤ (x0.size : Int) then (field_Trim.l0 k (x0.extract 1 x0.size)) else (none)) else (field_Trim.j1 k x0))) else (none))
end
def field_Trim.f (k : Nat) (a0 : ByteArray) : Option (ByteArray) := field_Trim.l0 k a0
theorem field_Trim.mono_l : ∀ k, (∀ y0, LeO (field_Trim.j1 k y0) (field_Trim.j1 (k + 1) y0)) ∧ (∀ y0, LeO (field_Trim.l1 k y0) (field_Trim.l1 (k + 1) y0)) ∧ (∀ y0, LeO (field_Trim.l0 k y0) (field_Trim.l0 (k + 1) y0))
 | 0 => ⟨fun _ r h => by simp [field_Trim.j1] at h, fun _ r h => by simp [field_Trim.l1] at h, fun _ r h => by simp [field_Trim.l0] at h⟩
 | k + 1 => by
  obtain ⟨ih0, ih1, ih2⟩ := field_Trim.mono_l k
  refine ⟨?_, ?_, ?_⟩
  ·intro y0
   unfold field_Trim.j1
   repeat' first
   | (with_reducible exact ih0 _)
   | (with_reducible exact ih1 _)
   | (with_reducible exact ih2 _)
   | (with_reducible exact LeO.refl _)
   | (with_reducible exact LeO.none _)
   | (with_reducible refine LeO.ite ?_ ?_)
   | (with_reducible refine LeO.bind ?_ (fun _ => ?_))
   | exact ih0 _
   | exact ih1 _
   | exact ih2 _
   | exact LeO.none _
   | refine LeO.ite ?_ ?_
   | refine LeO.bind ?_ (fun _ => ?_)
  ·intro y0
   unfold field_Trim.l1
   repeat' first
   | (with_reducible exact ih0 _)
   | (with_reducible exact ih1 _)
   | (with_reducible exact ih2 _)
   | (with_reducible exact LeO.refl _)
   | (with_reducible exact LeO.none _)
   | (with_reducible refine LeO.ite ?_ ?_)
   | (with_reducible refine LeO.bind ?_ (fun _ => ?_))
   | exact ih0 _
   | exact ih1 _
   | exact ih2 _
   | exact LeO.none _
   | refine LeO.ite ?_ ?_
   | refine LeO.bind ?_ (fun _ => ?_)
  ·intro y0
   unfold field_Trim.l0
   repeat' first
   | (with_reducible exact ih0 _)
   | (with_reducible exact ih1 _)
   | (with_reducible exact ih2 _)
   | (with_reducible exact LeO.refl _)
   | (with_reducible exact LeO.none _)
   | (with_reducible refine LeO.ite ?_ ?_)
   | (with_reducible refine LeO.bind ?_ (fun _ => ?_))
   | exact ih0 _
   | exact ih1 _
   | exact ih2 _
   | exact LeO.none _
   | refine LeO.ite ?_ ?_
   | refine LeO.bind ?_ (fun _ => ?_)
theorem field_Trim.mono : ∀ a0 k, LeO (field_Trim.f k a0) (field_Trim.f (k + 1) a0) := by
 intro a0 k
 obtain ⟨ih0, ih1, ih2⟩ := field_Trim.mono_l k
 unfold field_Trim.f
 repeat' first
   | (with_reducible exact ih0 _)
   | (with_reducible exact ih1 _)
   | (with_reducible exact ih2 _)
   | (with_reducible exact LeO.refl _)
   | (with_reducible exact LeO.none _)
   | (with_reducible refine LeO.ite ?_ ?_)
   | (with_reducible refine LeO.bind ?_ (fun _ => ?_))
   | exact ih0 _
   | exact ih1 _
   | exact ih2 _
   | exact LeO.none _
   | refine LeO.ite ?_ ?_
   | refine LeO.bind ?_ (fun _ => ?_)
set_option maxHeartbeats 8000000 in
set_option maxRecDepth 100000 in
theorem field_Trim.calls [Sent] (k : Nat) (a0 : ByteArray) (r : ByteArray) (w : World) (h : field_Trim.f k a0 = some r) (hG : Glob [16] w) :
  Calls Tryd.prog 49 #[.string a0] w fun e w' => e = .returned (.string r) ∧ Drawn0 w w' := by
 have HG := Aq3 hG
 clear hG
 have H : (field_Trim.l0 k a0) = some r := h
 clear h
 have HC2 := Aq3 H
 clear H
 go_enter Tryd.func49, Tryd.ntmps49
 go_upto_block 0 with (fail)
 go_cut [0] (fun v0 wc => ∃ (kq : Nat) (x0_1 : ByteArray), v0 = .string x0_1 ∧ Aside0 (field_Trim.j1 kq x0_1 = some r) ∧ Aside0 (kq ≤ k) ∧ Drawn0 w wc)
 case first =>
  have H := HC2.out
  clear HC2
  have H' := Aq3 H
  clear H
  go_wp2
  go_loopg [0] k (fun kq v0 w' => ∃ (x0_1 : ByteArray), v0 = .string x0_1 ∧ Aside0 (field_Trim.l0 kq x0_1 = some r) ∧ Aside0 (kq ≤ k) ∧ Drawn0 w w')
  case atStart => exact ⟨(a0), tq3_1, H', ⟨Nat.le_refl _⟩, tq3_3⟩
  case round =>
   clear H'
   try clear p2
   obtain ⟨x0_1, rfl, HA, HK1, ⟨m1, rfl⟩⟩ := hrel
   cases gk with
   | zero => exact absurd HA.out (by simp [field_Trim.l0])
   | succ k1 =>
    have H := HA.out
    clear HA
    simp only [field_Trim.l0] at H
    by_cases c3 : x0_1.toList = ([] : List UInt8)
    ·rw [if_pos c3] at H
     have c3b0 : (x0_1.toList == ([] : List UInt8)) = true := beq_iff_eq.mpr c3
     have c3b1 : (x0_1.toList != ([] : List UInt8)) = false := bne_eq_false_iff_eq.mpr c3
     clear c3
     (first | rw [c3b0] | (simp only [i64_w, i32_w]; rw [c3b0]) | skip)
     have H' := Aq3 H
     clear H
     go_wp2
     go_meet
     case rel => exact ⟨_, (x0_1), tq3_1, H', ⟨by have := HK1.out; first | omega | exact Nat.le_refl _⟩, tq3_3⟩
    ·rw [if_neg c3] at H
     have c3b0 : (x0_1.toList == ([] : List UInt8)) = false := beq_eq_false_iff_ne.mpr c3
     have c3b1 : (x0_1.toList != ([] : List UInt8)) = true := bne_iff_ne.mpr c3
     (first | rw [c3b0] | (simp only [i64_w, i32_w]; rw [c3b0]) | skip)
     by_cases c4 : 0 < (x0_1.size : Int)
     ·rw [if_pos c4] at H
      have c4b0 : decide (0 < (x0_1.size : Int)) = true := decide_eq_true c4
      have c4b1 : decide (0 < x0_1.size) = true := decide_eq_true (by omega)
      clear c4
      replace H := Option.bind_eq_some_iff.mp H
      obtain ⟨t112, A60, H⟩ := H
      replace H : (if t112 = true then (if 1 ≤ (x0_1.size : Int) then (field_Trim.l0 k1 (x0_1.extract 1 x0_1.size)) else (none)) else (field_Trim.j1 k1 x0_1)) = some r := H
      have A6 := Aq3 A60
      clear A60
      by_cases c7 : t112 = true
      ·subst c7
       have H1 : (if 1 ≤ (x0_1.size : Int) then (field_Trim.l0 k1 (x0_1.extract 1 x0_1.size)) else (none)) = some r := by rw [if_pos rfl] at H; exact H
       clear H
       have H := H1
       clear H1
       by_cases c8 : 1 ≤ (x0_1.size : Int)
       ·rw [if_pos c8] at H
        have c8b0 := eq_true c8
        have c8b1 : decide (1 ≤ (x0_1.size : Int)) = true := decide_eq_true c8
        clear c8
        have H' := Aq3 H
        clear H
        have p5 : 0 ≤ (0 : Int) := (by omega)
        have q5 : 0 < x0_1.size := (by have : (0 : Int) < (x0_1.size : Int) := of_decide_eq_true tq3_2; omega)
        have hx5 : ∀ h : 0 < x0_1.size, ((x0_1[0]'h).toNat : Int) = bt x0_1 0 := bt_at x0_1 0
        clear p5
        have qi5 : (0 < (x0_1.size : Int)) = True := eq_true (of_decide_eq_true tq3_2)
        replace q5 := eq_true q5
        go_wp2_with (first | (go_at_call 51; (with_reducible refine (field_is.calls (bt x0_1 0) 8 true _ A6.out ?side1).mono ?_); (case side1 => repeat (first | exact HG.out.sub rfl | refine Glob.drewN ?_ _ | refine Glob.drew ?_)); rintro e w' ⟨rfl, ⟨nd, rfl⟩⟩))
        go_roundg k1
        case measure => have := HK1.out; omega
        case rel => exact ⟨(x0_1.extract 1 x0_1.size), tq3_1, H', ⟨by have := HK1.out; omega⟩, tq3_3⟩
       ·rw [if_neg c8] at H
        exact absurd H (by simp)
      ·replace c7 := Bool.eq_false_iff.mpr c7
       subst c7
       have H1 : (field_Trim.j1 k1 x0_1) = some r := by rw [if_neg (show ¬ (false = true) by decide)] at H; exact H
       clear H
       have H := H1
       clear H1
       have H' := Aq3 H
       clear H
       have p5 : 0 ≤ (0 : Int) := (by omega)
       have q5 : 0 < x0_1.size := (by have : (0 : Int) < (x0_1.size : Int) := of_decide_eq_true tq3_2; omega)
       have hx5 : ∀ h : 0 < x0_1.size, ((x0_1[0]'h).toNat : Int) = bt x0_1 0 := bt_at x0_1 0
       clear p5
       have qi5 : (0 < (x0_1.size : Int)) = True := eq_true (of_decide_eq_true tq3_2)
       replace q5 := eq_true q5
       go_wp2_with (first | (go_at_call 51; (with_reducible refine (field_is.calls (bt x0_1 0) 8 false _ A6.out ?side1).mono ?_); (case side1 => repeat (first | exact HG.out.sub rfl | refine Glob.drewN ?_ _ | refine Glob.drew ?_)); rintro e w' ⟨rfl, ⟨nd, rfl⟩⟩))
       go_meet
       case rel => exact ⟨_, (x0_1), tq3_1, H', ⟨by have := HK1.out; first | omega | exact Nat.le_refl _⟩, tq3_3⟩
     ·rw [if_neg c4] at H
      exact absurd H (by simp)
 case rest =>
  clear HC2
  try clear p2
  try clear c3
  try clear c3b0
  try clear c3b1
  try clear c4
  try clear c4b0
  try clear c4b1
  try clear p5
  try clear q5
  try clear hx5
  try clear qi5
  try clear c7
  try clear c8
  try clear c8b0
  try clear c8b1
  try clear p2
  try clear p5
  try clear q5
  obtain ⟨kq, x0_1, rfl, HA, HJ1, ⟨mc1, rfl⟩⟩ := hcut
  cases kq with
  | zero => exact absurd HA.out (by simp [field_Trim.j1])
  | succ kj1 =>
   have H := HA.out
   clear HA
   simp only [field_Trim.j1] at H
   have H' := Aq3 H
   clear H
   go_wp2
   go_loopg [0] kj1 (fun kq v0 w' => ∃ (x0_2 : ByteArray), v0 = .string x0_2 ∧ Aside0 (field_Trim.l1 kq x0_2 = some r) ∧ Aside0 (kq ≤ kj1) ∧ Drawn0 w w')
   case atStart => exact ⟨(x0_1), tq3_1, H', ⟨Nat.le_refl _⟩, tq3_3⟩
   case round =>
    clear H'
    try clear c1
    try clear p2
    try clear c3
    try clear c3b0
    try clear c3b1
    try clear c4
    try clear c4b0
    try clear c4b1
    try clear p5
    try clear q5
    try clear hx5
    try clear qi5
    try clear c7
    try clear c8
    try clear c8b0
    try clear c8b1
    try clear p2
    try clear p5
    try clear q5
    obtain ⟨x0_2, rfl, HA, HK2, ⟨m2, rfl⟩⟩ := hrel
    cases gk with
    | zero => exact absurd HA.out (by simp [field_Trim.l1])
    | succ k2 =>
     have H := HA.out
     clear HA
     simp only [field_Trim.l1] at H
     by_cases c9 : x0_2.toList = ([] : List UInt8)
     ·rw [if_pos c9] at H
      have c9b0 : (x0_2.toList == ([] : List UInt8)) = true := beq_iff_eq.mpr c9
      have c9b1 : (x0_2.toList != ([] : List UInt8)) = false := bne_eq_false_iff_eq.mpr c9
      clear c9
      obtain rfl := Option.some.inj H
      go_wp2
      go_ret
      exact ⟨tq3_1, tq3_3⟩
     ·rw [if_neg c9] at H
      have c9b0 : (x0_2.toList == ([] : List UInt8)) = false := beq_eq_false_iff_ne.mpr c9
      have c9b1 : (x0_2.toList != ([] : List UInt8)) = true := bne_iff_ne.mpr c9
      obtain ⟨ji10, hji10⟩ : ∃ j_ : Int, (wrap64 ((x0_2.size : Int) - 1)) = j_ := ⟨_, rfl⟩
      replace H : (if 0 ≤ (ji10) then (if (ji10) < (x0_2.size : Int) then ((field_is.f (bt x0_2 (ji10)) 8).bind fun t113 => (if t113 = true then (if (ji10) ≤ (x0_2.size : Int) then (field_Trim.l1 k2 (x0_2.extract 0 ((ji10) : Int).toNat)) else (none)) else (some x0_2))) else (none)) else (none)) = some r := by first | (rw [hji10] at H; exact H) | (simp only [hji10] at H ⊢; exact H)
      have hji10w : (IntKind.i64.wrap ((x0_2.size : Int) - 1)) = ji10 := (i64_w _).trans hji10
      by_cases c11 : 0 ≤ (ji10)
      ·rw [if_pos c11] at H
       have c11b0 : decide (0 ≤ (ji10)) = true := decide_eq_true c11
       clear c11
       by_cases c12 : (ji10) < (x0_2.size : Int)
       ·rw [if_pos c12] at H
        have c12b0 : decide ((ji10) < (x0_2.size : Int)) = true := decide_eq_true c12
        clear c12
        replace H := Option.bind_eq_some_iff.mp H
        obtain ⟨t113, A140, H⟩ := H
        replace H : (if t113 = true then (if (ji10) ≤ (x0_2.size : Int) then (field_Trim.l1 k2 (x0_2.extract 0 ((ji10) : Int).toNat)) else (none)) else (some x0_2)) = some r := H
        have A14 := Aq3 A140
        clear A140
        by_cases c15 : t113 = true
        ·subst c15
         have H1 : (if (ji10) ≤ (x0_2.size : Int) then (field_Trim.l1 k2 (x0_2.extract 0 ((ji10) : Int).toNat)) else (none)) = some r := by rw [if_pos rfl] at H; exact H
         clear H
         have H := H1
         clear H1
         have c16b0 := eq_true (of_decide_eq_true tq3_2 : 0 ≤ (ji10))
         by_cases c17 : (ji10) ≤ (x0_2.size : Int)
         ·rw [if_pos c17] at H
          have c17b0 := eq_true c17
          have c17b1 : decide ((ji10) ≤ (x0_2.size : Int)) = true := decide_eq_true c17
          clear c17
          have H' := Aq3 H
          clear H
          have p13 : 0 ≤ ((ji10) : Int) := of_decide_eq_true tq3_2
          have q13 : (ji10) < (x0_2.size : Int) := of_decide_eq_true tq3_2
          have hx13 := bt_at x0_2 (ji10)
          replace p13 := eq_true p13
          replace q13 := eq_true q13
          go_wp2_with (first | (go_at_call 51; (with_reducible refine (field_is.calls (bt x0_2 (ji10)) 8 true _ A14.out ?side1).mono ?_); (case side1 => repeat (first | exact HG.out.sub rfl | refine Glob.drewN ?_ _ | refine Glob.drew ?_)); rintro e w' ⟨rfl, ⟨nd, rfl⟩⟩))
          go_roundg k2
          case measure => have := HJ1.out; have := HK2.out; omega
          case rel => exact ⟨(x0_2.extract 0 ((ji10) : Int).toNat), tq3_4, (by first | exact H' | (simp only [hji10]; exact H') | (simp only [hji10] at *; exact H')), ⟨by have := HJ1.out; have := HK2.out; omega⟩, tq3_3⟩
         ·rw [if_neg c17] at H
          exact absurd H (by simp)
        ·replace c15 := Bool.eq_false_iff.mpr c15
         subst c15
         have H1 : (some x0_2) = some r := by rw [if_neg (show ¬ (false = true) by decide)] at H; exact H
         clear H
         have H := H1
         clear H1
         obtain rfl := Option.some.inj H
         have p13 : 0 ≤ ((ji10) : Int) := of_decide_eq_true tq3_2
         have q13 : (ji10) < (x0_2.size : Int) := of_decide_eq_true tq3_2
         have hx13 := bt_at x0_2 (ji10)
         replace p13 := eq_true p13
         replace q13 := eq_true q13
         go_wp2_with (first | (go_at_call 51; (with_reducible refine (field_is.calls (bt x0_2 (ji10)) 8 false _ A14.out ?side1).mono ?_); (case side1 => repeat (first | exact HG.out.sub rfl | refine Glob.drewN ?_ _ | refine Glob.drew ?_)); rintro e w' ⟨rfl, ⟨nd, rfl⟩⟩))
         go_ret
         exact ⟨tq3_4, tq3_3⟩
       ·rw [if_neg c12] at H
        exact absurd H (by simp)
      ·rw [if_neg c11] at H
       exact absurd H (by simp)

/-! ### reply_may: function 40 -/
mutual
def reply_may.j0 : Nat → Bool → ByteArray → ByteArray → Option (Bool)
 | 0, _, _, _ => none
 | k + 1, x23, x115000, x115001 => if x23 = true then (some false) else ((reply_lower.f x115000).bind fun t118 => (reply_may.l0 k t118 0))
def reply_may.l0 : Nat → ByteArray → Int → Option (Bool)
 | 0, _, _ => none
 | k + 1, x3, x28 => if x28 < 3 then (if 0 ≤ x28 then (if x3.toList = (reply_own.c0 x28).toList then (some false) else (reply_may.l0 k x3 (wrap64 (x28 + 1)))) else (none)) else (some true)
end
def reply_may.f (k : Nat) (a0_0 : ByteArray) (a0_1 : ByteArray) : Option (Bool) := (field_Token.f k a0_0).bind fun t115 => (if t115 = true then ((field_Value.f k a0_1).bind fun t116 => (if t116 = true then ((field_Trim.f k a0_1).bind fun t117 => (reply_may.j0 k (t117.toList != a0_1.toList) a0_0 a0_1)) else (reply_may.j0 k true a0_0 a0_1))) else (reply_may.j0 k true a0_0 a0_1))
theorem reply_may.mono_l : ∀ k, (∀ y0 y1 y2, LeO (reply_may.j0 k y0 y1 y2) (reply_may.j0 (k + 1) y0 y1 y2)) ∧ (∀ y0 y1, LeO (reply_may.l0 k y0 y1) (reply_may.l0 (k + 1) y0 y1))
 | 0 => ⟨fun _ _ _ r h => by simp [reply_may.j0] at h, fun _ _ r h => by simp [reply_may.l0] at h⟩
 | k + 1 => by
  obtain ⟨ih0, ih1⟩ := reply_may.mono_l k
  refine ⟨?_, ?_⟩
  ·intro y0 y1 y2
   unfold reply_may.j0
   repeat' first
   | (with_reducible exact ih0 _ _ _)
   | (with_reducible exact ih1 _ _)
   | (with_reducible exact field_Token.mono _ _)
   | (with_reducible exact field_Trim.mono _ _)
   | (with_reducible exact field_Value.mono _ _)
   | (with_reducible exact LeO.refl _)
   | (with_reducible exact LeO.none _)
   | (with_reducible refine LeO.ite ?_ ?_)
   | (with_reducible refine LeO.bind ?_ (fun _ => ?_))
   | exact ih0 _ _ _
   | exact ih1 _ _
   | exact field_Token.mono _ _
   | exact field_Trim.mono _ _
   | exact field_Value.mono _ _
   | exact LeO.none _
   | refine LeO.ite ?_ ?_
   | refine LeO.bind ?_ (fun _ => ?_)
  ·intro y0 y1
   unfold reply_may.l0
   repeat' first
   | (with_reducible exact ih0 _ _ _)
   | (with_reducible exact ih1 _ _)
   | (with_reducible exact field_Token.mono _ _)
   | (with_reducible exact field_Trim.mono _ _)
   | (with_reducible exact field_Value.mono _ _)
   | (with_reducible exact LeO.refl _)
   | (with_reducible exact LeO.none _)
   | (with_reducible refine LeO.ite ?_ ?_)
   | (with_reducible refine LeO.bind ?_ (fun _ => ?_))
   | exact ih0 _ _ _
   | exact ih1 _ _
   | exact field_Token.mono _ _
   | exact field_Trim.mono _ _
   | exact field_Value.mono _ _
   | exact LeO.none _
   | refine LeO.ite ?_ ?_
   | refine LeO.bind ?_ (fun _ => ?_)
theorem reply_may.mono : ∀ a0 a1 k, LeO (reply_may.f k a0 a1) (reply_may.f (k + 1) a0 a1) := by
 intro a0 a1 k
 obtain ⟨ih0, ih1⟩ := reply_may.mono_l k
 unfold reply_may.f
 repeat' first
   | (with_reducible exact ih0 _ _ _)
   | (with_reducible exact ih1 _ _)
   | (with_reducible exact field_Token.mono _ _)
   | (with_reducible exact field_Trim.mono _ _)
   | (with_reducible exact field_Value.mono _ _)
   | (with_reducible exact LeO.refl _)
   | (with_reducible exact LeO.none _)
   | (with_reducible refine LeO.ite ?_ ?_)
   | (with_reducible refine LeO.bind ?_ (fun _ => ?_))
   | exact ih0 _ _ _
   | exact ih1 _ _
   | exact field_Token.mono _ _
   | exact field_Trim.mono _ _
   | exact field_Value.mono _ _
   | exact LeO.none _
   | refine LeO.ite ?_ ?_
   | refine LeO.bind ?_ (fun _ => ?_)
set_option maxHeartbeats 8000000 in
set_option maxRecDepth 100000 in
theorem reply_may.calls [Sent] (k : Nat) (a0_0 : ByteArray) (a0_1 : ByteArray) (r : Bool) (w : World) (h : reply_may.f k a0_0 a0_1 = some r) (hG : Glob [9, 16] w) :
  Calls Tryd.prog 40 #[.agg #[.string a0_0, .string a0_1]] w fun e w' => e = .returned (.bool r) ∧ Below w.heap.size w w' := by
 have HG := Aq3 hG
 clear hG
 have hu26 := Tryd.underlying26
 have HB := Aq3 (Below.refl w.heap.size w)
 have H : ((field_Token.f k a0_0).bind fun t115 => (if t115 = true then ((field_Value.f k a0_1).bind fun t116 => (if t116 = true then ((field_Trim.f k a0_1).bind fun t117 => (reply_may.j0 k (t117.toList != a0_1.toList) a0_0 a0_1)) else (reply_may.j0 k true a0_0 a0_1))) else (reply_may.j0 k true a0_0 a0_1))) = some r := h
 clear h
 have HC2 := Aq3 H
 clear H
 go_enter Tryd.func40, Tryd.ntmps40
 go_upto_region 1 with (first | ((with_reducible refine gate_dst (N := 1) rfl ?_); refine box_event ?hg (N := 1) ?hd (cs := #[.string a0_0, .string a0_1]) (t := 26) ?hr ?_; (case hd => rfl); (case hg => rfl); (case hr => first | (go_simp; done) | (go_simp; rfl)); intro gb114 hg w3 hbox hb; have BK114 := Aq3 (hbox); have GW114 := Aq3 ((by rw [hg]; exact (below_size tq3_8) : w.heap.size ≤ gb114)); have GE114 := Aq3 ((by rw [hg]; exact (below_size tq3_8) : w.heap.size ≤ gb114)); replace HB := Aq3 (below_step tq3_8 hb); clear hb hbox hg))
 repeat (go_quiet (first | ((with_reducible refine gate_dst (N := 1) rfl ?_); refine box_event ?hg (N := 1) ?hd (cs := #[.string a0_0, .string a0_1]) (t := 26) ?hr ?_; (case hd => rfl); (case hg => rfl); (case hr => first | (go_simp; done) | (go_simp; rfl)); intro gb114 hg w3 hbox hb; have BK114 := Aq3 (hbox); have GW114 := Aq3 ((by rw [hg]; exact (below_size tq3_8) : w.heap.size ≤ gb114)); have GE114 := Aq3 ((by rw [hg]; exact (below_size tq3_8) : w.heap.size ≤ gb114)); replace HB := Aq3 (below_step tq3_8 hb); clear hb hbox hg)); go_upto_region 1 with (first | ((with_reducible refine gate_dst (N := 1) rfl ?_); refine box_event ?hg (N := 1) ?hd (cs := #[.string a0_0, .string a0_1]) (t := 26) ?hr ?_; (case hd => rfl); (case hg => rfl); (case hr => first | (go_simp; done) | (go_simp; rfl)); intro gb114 hg w3 hbox hb; have BK114 := Aq3 (hbox); have GW114 := Aq3 ((by rw [hg]; exact (below_size tq3_8) : w.heap.size ≤ gb114)); have GE114 := Aq3 ((by rw [hg]; exact (below_size tq3_8) : w.heap.size ≤ gb114)); replace HB := Aq3 (below_step tq3_8 hb); clear hb hbox hg)))
 (try simp only [Act.put, List.setIfInBounds_toArray, List.set_cons_zero, List.set_cons_succ])
 go_cut [23] (fun v23 wc => ∃ (kq : Nat) (x23_1 : Bool), v23 = .bool x23_1 ∧ Aside0 (reply_may.j0 kq x23_1 a0_0 a0_1 = some r) ∧ Aside0 (kq ≤ k) ∧ Aside0 (wc.heap[gb114]? = some (.cells #[.string a0_0, .string a0_1] 26 (0, 0))) ∧ Aside0 (Below w.heap.size w wc))
 case first =>
  have H := HC2.out
  clear HC2
  replace H := Option.bind_eq_some_iff.mp H
  obtain ⟨t115, A40, H⟩ := H
  replace H : (if t115 = true then ((field_Value.f k a0_1).bind fun t116 => (if t116 = true then ((field_Trim.f k a0_1).bind fun t117 => (reply_may.j0 k (t117.toList != a0_1.toList) a0_0 a0_1)) else (reply_may.j0 k true a0_0 a0_1))) else (reply_may.j0 k true a0_0 a0_1)) = some r := H
  have A4 := Aq3 A40
  clear A40
  by_cases c5 : t115 = true
  ·subst c5
   have H1 : ((field_Value.f k a0_1).bind fun t116 => (if t116 = true then ((field_Trim.f k a0_1).bind fun t117 => (reply_may.j0 k (t117.toList != a0_1.toList) a0_0 a0_1)) else (reply_may.j0 k true a0_0 a0_1))) = some r := by rw [if_pos rfl] at H; exact H
   clear H
   have H := H1
   clear H1
   replace H := Option.bind_eq_some_iff.mp H
   obtain ⟨t116, A60, H⟩ := H
   replace H : (if t116 = true then ((field_Trim.f k a0_1).bind fun t117 => (reply_may.j0 k (t117.toList != a0_1.toList) a0_0 a0_1)) else (reply_may.j0 k true a0_0 a0_1)) = some r := H
   have A6 := Aq3 A60
   clear A60
   by_cases c7 : t116 = true
   ·subst c7
    have H1 : ((field_Trim.f k a0_1).bind fun t117 => (reply_may.j0 k (t117.toList != a0_1.toList) a0_0 a0_1)) = some r := by rw [if_pos rfl] at H; exact H
    clear H
    have H := H1
    clear H1
    replace H := Option.bind_eq_some_iff.mp H
    obtain ⟨t117, A80, H⟩ := H
    replace H : (reply_may.j0 k (t117.toList != a0_1.toList) a0_0 a0_1) = some r := H
    have A8 := Aq3 A80
    clear A80
    have H' := Aq3 H
    clear H
    have hcz9_0 : w3.cell? ⟨gb114, 0, none⟩ = some (.string a0_0) := (blk_cell BK114.out 0).trans rfl
    have hcz9_1 : w3.cell? ⟨gb114, 1, none⟩ = some (.string a0_1) := (blk_cell BK114.out 1).trans rfl
    have hfz9_0 := blk_frozen BK114.out 0
    have hfz9_1 := blk_frozen BK114.out 1
    go_wp2_with (first | (go_at_call 24; (with_reducible refine (field_Token.calls k a0_0 true _ A4.out ?side1).mono ?_); (case side1 => exact HG.out.step (tq3_9 GE114.out) rfl); rintro e w' ⟨rfl, ⟨nd, rfl⟩⟩; (try first | exact ⟨rfl, _, World.drewN_drewN _ _ _⟩ | exact ⟨rfl, _, Eq.trans (World.drewN_drewN _ _ _) (congrArg (World.drewN _) (Nat.add_assoc _ _ _))⟩)) | (go_at_call 29; (with_reducible refine (field_Value.calls k a0_1 true _ A6.out ?side1).mono ?_); (case side1 => exact HG.out.step (tq3_9 GE114.out) rfl); rintro e w' ⟨rfl, ⟨nd, rfl⟩⟩; (try first | exact ⟨rfl, _, World.drewN_drewN _ _ _⟩ | exact ⟨rfl, _, Eq.trans (World.drewN_drewN _ _ _) (congrArg (World.drewN _) (Nat.add_assoc _ _ _))⟩)) | (go_at_call 49; (with_reducible refine (field_Trim.calls k a0_1 t117 _ A8.out ?side1).mono ?_); (case side1 => exact HG.out.step (tq3_9 GE114.out) rfl); rintro e w' ⟨rfl, ⟨nd, rfl⟩⟩; (try first | exact ⟨rfl, _, World.drewN_drewN _ _ _⟩ | exact ⟨rfl, _, Eq.trans (World.drewN_drewN _ _ _) (congrArg (World.drewN _) (Nat.add_assoc _ _ _))⟩)))
    repeat (go_quiet (first | (go_at_call 24; (with_reducible refine (field_Token.calls k a0_0 true _ A4.out ?side1).mono ?_); (case side1 => exact HG.out.step (tq3_9 GE114.out) rfl); rintro e w' ⟨rfl, ⟨nd, rfl⟩⟩; (try first | exact ⟨rfl, _, World.drewN_drewN _ _ _⟩ | exact ⟨rfl, _, Eq.trans (World.drewN_drewN _ _ _) (congrArg (World.drewN _) (Nat.add_assoc _ _ _))⟩)) | (go_at_call 29; (with_reducible refine (field_Value.calls k a0_1 true _ A6.out ?side1).mono ?_); (case side1 => exact HG.out.step (tq3_9 GE114.out) rfl); rintro e w' ⟨rfl, ⟨nd, rfl⟩⟩; (try first | exact ⟨rfl, _, World.drewN_drewN _ _ _⟩ | exact ⟨rfl, _, Eq.trans (World.drewN_drewN _ _ _) (congrArg (World.drewN _) (Nat.add_assoc _ _ _))⟩)) | (go_at_call 49; (with_reducible refine (field_Trim.calls k a0_1 t117 _ A8.out ?side1).mono ?_); (case side1 => exact HG.out.step (tq3_9 GE114.out) rfl); rintro e w' ⟨rfl, ⟨nd, rfl⟩⟩; (try first | exact ⟨rfl, _, World.drewN_drewN _ _ _⟩ | exact ⟨rfl, _, Eq.trans (World.drewN_drewN _ _ _) (congrArg (World.drewN _) (Nat.add_assoc _ _ _))⟩))); try go_wp2_with (first | (go_at_call 24; (with_reducible refine (field_Token.calls k a0_0 true _ A4.out ?side1).mono ?_); (case side1 => exact HG.out.step (tq3_9 GE114.out) rfl); rintro e w' ⟨rfl, ⟨nd, rfl⟩⟩; (try first | exact ⟨rfl, _, World.drewN_drewN _ _ _⟩ | exact ⟨rfl, _, Eq.trans (World.drewN_drewN _ _ _) (congrArg (World.drewN _) (Nat.add_assoc _ _ _))⟩)) | (go_at_call 29; (with_reducible refine (field_Value.calls k a0_1 true _ A6.out ?side1).mono ?_); (case side1 => exact HG.out.step (tq3_9 GE114.out) rfl); rintro e w' ⟨rfl, ⟨nd, rfl⟩⟩; (try first | exact ⟨rfl, _, World.drewN_drewN _ _ _⟩ | exact ⟨rfl, _, Eq.trans (World.drewN_drewN _ _ _) (congrArg (World.drewN _) (Nat.add_assoc _ _ _))⟩)) | (go_at_call 49; (with_reducible refine (field_Trim.calls k a0_1 t117 _ A8.out ?side1).mono ?_); (case side1 => exact HG.out.step (tq3_9 GE114.out) rfl); rintro e w' ⟨rfl, ⟨nd, rfl⟩⟩; (try first | exact ⟨rfl, _, World.drewN_drewN _ _ _⟩ | exact ⟨rfl, _, Eq.trans (World.drewN_drewN _ _ _) (congrArg (World.drewN _) (Nat.add_assoc _ _ _))⟩))))
    go_meet
    case rel => exact ⟨_, ((t117.toList != a0_1.toList)), tq3_1, H', ⟨tq3_0⟩, ⟨(tq3_7 BK114.out)⟩, ⟨(tq3_9 GE114.out)⟩⟩
   ·replace c7 := Bool.eq_false_iff.mpr c7
    subst c7
    have H1 : (reply_may.j0 k true a0_0 a0_1) = some r := by rw [if_neg (show ¬ (false = true) by decide)] at H; exact H
    clear H
    have H := H1
    clear H1
    have H' := Aq3 H
    clear H
    have hcz10_0 : w3.cell? ⟨gb114, 0, none⟩ = some (.string a0_0) := (blk_cell BK114.out 0).trans rfl
    have hcz10_1 : w3.cell? ⟨gb114, 1, none⟩ = some (.string a0_1) := (blk_cell BK114.out 1).trans rfl
    have hfz10_0 := blk_frozen BK114.out 0
    have hfz10_1 := blk_frozen BK114.out 1
    go_wp2_with (first | (go_at_call 24; (with_reducible refine (field_Token.calls k a0_0 true _ A4.out ?side1).mono ?_); (case side1 => exact HG.out.step (tq3_9 GE114.out) rfl); rintro e w' ⟨rfl, ⟨nd, rfl⟩⟩; (try first | exact ⟨rfl, _, World.drewN_drewN _ _ _⟩ | exact ⟨rfl, _, Eq.trans (World.drewN_drewN _ _ _) (congrArg (World.drewN _) (Nat.add_assoc _ _ _))⟩)) | (go_at_call 29; (with_reducible refine (field_Value.calls k a0_1 false _ A6.out ?side1).mono ?_); (case side1 => exact HG.out.step (tq3_9 GE114.out) rfl); rintro e w' ⟨rfl, ⟨nd, rfl⟩⟩; (try first | exact ⟨rfl, _, World.drewN_drewN _ _ _⟩ | exact ⟨rfl, _, Eq.trans (World.drewN_drewN _ _ _) (congrArg (World.drewN _) (Nat.add_assoc _ _ _))⟩)))
    repeat (go_quiet (first | (go_at_call 24; (with_reducible refine (field_Token.calls k a0_0 true _ A4.out ?side1).mono ?_); (case side1 => exact HG.out.step (tq3_9 GE114.out) rfl); rintro e w' ⟨rfl, ⟨nd, rfl⟩⟩; (try first | exact ⟨rfl, _, World.drewN_drewN _ _ _⟩ | exact ⟨rfl, _, Eq.trans (World.drewN_drewN _ _ _) (congrArg (World.drewN _) (Nat.add_assoc _ _ _))⟩)) | (go_at_call 29; (with_reducible refine (field_Value.calls k a0_1 false _ A6.out ?side1).mono ?_); (case side1 => exact HG.out.step (tq3_9 GE114.out) rfl); rintro e w' ⟨rfl, ⟨nd, rfl⟩⟩; (try first | exact ⟨rfl, _, World.drewN_drewN _ _ _⟩ | exact ⟨rfl, _, Eq.trans (World.drewN_drewN _ _ _) (congrArg (World.drewN _) (Nat.add_assoc _ _ _))⟩))); try go_wp2_with (first | (go_at_call 24; (with_reducible refine (field_Token.calls k a0_0 true _ A4.out ?side1).mono ?_); (case side1 => exact HG.out.step (tq3_9 GE114.out) rfl); rintro e w' ⟨rfl, ⟨nd, rfl⟩⟩; (try first | exact ⟨rfl, _, World.drewN_drewN _ _ _⟩ | exact ⟨rfl, _, Eq.trans (World.drewN_drewN _ _ _) (congrArg (World.drewN _) (Nat.add_assoc _ _ _))⟩)) | (go_at_call 29; (with_reducible refine (field_Value.calls k a0_1 false _ A6.out ?side1).mono ?_); (case side1 => exact HG.out.step (tq3_9 GE114.out) rfl); rintro e w' ⟨rfl, ⟨nd, rfl⟩⟩; (try first | exact ⟨rfl, _, World.drewN_drewN _ _ _⟩ | exact ⟨rfl, _, Eq.trans (World.drewN_drewN _ _ _) (congrArg (World.drewN _) (Nat.add_assoc _ _ _))⟩))))
    go_meet
    case rel => exact ⟨_, (true), tq3_1, H', ⟨tq3_0⟩, ⟨(tq3_7 BK114.out)⟩, ⟨(tq3_9 GE114.out)⟩⟩
  ·replace c5 := Bool.eq_false_iff.mpr c5
   subst c5
   have H1 : (reply_may.j0 k true a0_0 a0_1) = some r := by rw [if_neg (show ¬ (false = true) by decide)] at H; exact H
   clear H
   have H := H1
   clear H1
   have H' := Aq3 H
   clear H
   have hcz11_0 : w3.cell? ⟨gb114, 0, none⟩ = some (.string a0_0) := (blk_cell BK114.out 0).trans rfl
   have hcz11_1 : w3.cell? ⟨gb114, 1, none⟩ = some (.string a0_1) := (blk_cell BK114.out 1).trans rfl
   have hfz11_0 := blk_frozen BK114.out 0
   have hfz11_1 := blk_frozen BK114.out 1
   go_wp2_with (first | (go_at_call 24; (with_reducible refine (field_Token.calls k a0_0 false _ A4.out ?side1).mono ?_); (case side1 => exact HG.out.step (tq3_9 GE114.out) rfl); rintro e w' ⟨rfl, ⟨nd, rfl⟩⟩; (try first | exact ⟨rfl, _, World.drewN_drewN _ _ _⟩ | exact ⟨rfl, _, Eq.trans (World.drewN_drewN _ _ _) (congrArg (World.drewN _) (Nat.add_assoc _ _ _))⟩)))
   repeat (go_quiet (first | (go_at_call 24; (with_reducible refine (field_Token.calls k a0_0 false _ A4.out ?side1).mono ?_); (case side1 => exact HG.out.step (tq3_9 GE114.out) rfl); rintro e w' ⟨rfl, ⟨nd, rfl⟩⟩; (try first | exact ⟨rfl, _, World.drewN_drewN _ _ _⟩ | exact ⟨rfl, _, Eq.trans (World.drewN_drewN _ _ _) (congrArg (World.drewN _) (Nat.add_assoc _ _ _))⟩))); try go_wp2_with (first | (go_at_call 24; (with_reducible refine (field_Token.calls k a0_0 false _ A4.out ?side1).mono ?_); (case side1 => exact HG.out.step (tq3_9 GE114.out) rfl); rintro e w' ⟨rfl, ⟨nd, rfl⟩⟩; (try first | exact ⟨rfl, _, World.drewN_drewN _ _ _⟩ | exact ⟨rfl, _, Eq.trans (World.drewN_drewN _ _ _) (congrArg (World.drewN _) (Nat.add_assoc _ _ _))⟩))))
   go_meet
   case rel => exact ⟨_, (true), tq3_1, H', ⟨tq3_0⟩, ⟨(tq3_7 BK114.out)⟩, ⟨(tq3_9 GE114.out)⟩⟩
 case rest =>
  clear HC2
  try clear p2
  try clear c4
  try clear c5
  try clear c7
  try clear hcz10_0
  try clear hcz10_1
  try clear hcz11_0
  try clear hcz11_1
  try clear hcz9_0
  try clear hcz9_1
  try clear hfz10_0
  try clear hfz10_1
  try clear hfz11_0
  try clear hfz11_1
  try clear hfz9_0
  try clear hfz9_1
  obtain ⟨kq, x23_1, rfl, HA, HJ1, BK114, HB⟩ := hcut
  cases kq with
  | zero => exact absurd HA.out (by simp [reply_may.j0])
  | succ kj1 =>
   have H := HA.out
   clear HA
   simp only [reply_may.j0] at H
   by_cases c12 : x23_1 = true
   ·subst c12
    have H1 : (some false) = some r := by rw [if_pos rfl] at H; exact H
    clear H
    have H := H1
    clear H1
    obtain rfl := Option.some.inj H
    go_wp2
    repeat (go_quiet (fail); try go_wp2)
    go_ret
    exact ⟨tq3_5, (tq3_9 GE114.out)⟩
   ·replace c12 := Bool.eq_false_iff.mpr c12
    subst c12
    have H1 : ((reply_lower.f a0_0).bind fun t118 => (reply_may.l0 kj1 t118 0)) = some r := by rw [if_neg (show ¬ (false = true) by decide)] at H; exact H
    clear H
    have H := H1
    clear H1
    replace H := Option.bind_eq_some_iff.mp H
    obtain ⟨t118, A130, H⟩ := H
    replace H : (reply_may.l0 kj1 t118 0) = some r := H
    have A13 := Aq3 A130
    clear A130
    have H' := Aq3 H
    clear H
    have hcz14_0 : wc.cell? ⟨gb114, 0, none⟩ = some (.string a0_0) := (blk_cell BK114.out 0).trans rfl
    have hcz14_1 : wc.cell? ⟨gb114, 1, none⟩ = some (.string a0_1) := (blk_cell BK114.out 1).trans rfl
    have hfz14_0 := blk_frozen BK114.out 0
    have hfz14_1 := blk_frozen BK114.out 1
    go_wp2_with (first | (go_at_call 63; (with_reducible refine (reply_lower.calls a0_0 t118 _ A13.out).mono ?_); rintro e w15 ⟨rfl, hb⟩; replace BK114 := Aq3 (blk_below (g := gb114) (o := .cells #[.string a0_0, .string a0_1] 26 (0, 0)) (tq3_7 BK114.out) hb); replace HB := Aq3 (below_step (tq3_9 GE114.out) hb); (try clear hb); (try clear hb2); (try clear hk); (try clear hi); obtain ⟨tyTV119, frTV119, hbTV119⟩ := Glob.own (HG.out.step HB.out (T := [9, 16]) rfl) (by rfl); obtain ⟨TV119, hTV119⟩ : ∃ V_ : Array Value, V_ = ownV.toArray := ⟨_, rfl⟩; rw [← hTV119] at hbTV119; have HSTV119 := Aq3 (show (Tryd.prog.info? 99).map (·.size) = some TV119.size from by rw [hTV119]; exact reply_own.size); have HTTV119 := Aq3 hTV119; have HKTV119 := Aq3 hbTV119; clear hTV119 hbTV119) | ((with_reducible refine gate_dst (N := 27) rfl ?_); refine wpList_load_row rfl 99 (.global 9) rfl 9 rfl tyTV119 TV119 frTV119 _ (tq3_6 HKTV119.out) Tryd.underlying99 rfl HSTV119.out ?_))
    repeat (go_quiet (first | (go_at_call 63; (with_reducible refine (reply_lower.calls a0_0 t118 _ A13.out).mono ?_); rintro e w15 ⟨rfl, hb⟩; replace BK114 := Aq3 (blk_below (g := gb114) (o := .cells #[.string a0_0, .string a0_1] 26 (0, 0)) (tq3_7 BK114.out) hb); replace HB := Aq3 (below_step (tq3_9 GE114.out) hb); (try clear hb); (try clear hb2); (try clear hk); (try clear hi); obtain ⟨tyTV119, frTV119, hbTV119⟩ := Glob.own (HG.out.step HB.out (T := [9, 16]) rfl) (by rfl); obtain ⟨TV119, hTV119⟩ : ∃ V_ : Array Value, V_ = ownV.toArray := ⟨_, rfl⟩; rw [← hTV119] at hbTV119; have HSTV119 := Aq3 (show (Tryd.prog.info? 99).map (·.size) = some TV119.size from by rw [hTV119]; exact reply_own.size); have HTTV119 := Aq3 hTV119; have HKTV119 := Aq3 hbTV119; clear hTV119 hbTV119) | ((with_reducible refine gate_dst (N := 27) rfl ?_); refine wpList_load_row rfl 99 (.global 9) rfl 9 rfl tyTV119 TV119 frTV119 _ (tq3_6 HKTV119.out) Tryd.underlying99 rfl HSTV119.out ?_)); try go_wp2_with (first | (go_at_call 63; (with_reducible refine (reply_lower.calls a0_0 t118 _ A13.out).mono ?_); rintro e w15 ⟨rfl, hb⟩; replace BK114 := Aq3 (blk_below (g := gb114) (o := .cells #[.string a0_0, .string a0_1] 26 (0, 0)) (tq3_7 BK114.out) hb); replace HB := Aq3 (below_step (tq3_9 GE114.out) hb); (try clear hb); (try clear hb2); (try clear hk); (try clear hi); obtain ⟨tyTV119, frTV119, hbTV119⟩ := Glob.own (HG.out.step HB.out (T := [9, 16]) rfl) (by rfl); obtain ⟨TV119, hTV119⟩ : ∃ V_ : Array Value, V_ = ownV.toArray := ⟨_, rfl⟩; rw [← hTV119] at hbTV119; have HSTV119 := Aq3 (show (Tryd.prog.info? 99).map (·.size) = some TV119.size from by rw [hTV119]; exact reply_own.size); have HTTV119 := Aq3 hTV119; have HKTV119 := Aq3 hbTV119; clear hTV119 hbTV119) | ((with_reducible refine gate_dst (N := 27) rfl ?_); refine wpList_load_row rfl 99 (.global 9) rfl 9 rfl tyTV119 TV119 frTV119 _ (tq3_6 HKTV119.out) Tryd.underlying99 rfl HSTV119.out ?_)))
    go_loopg [28] kj1 (fun kq v28 w' => ∃ (x28_2 : Int), v28 = .int .i64 x28_2 ∧ Aside0 (reply_may.l0 kq t118 x28_2 = some r) ∧ Aside0 (kq ≤ kj1) ∧ Aside0 (w'.heap[gb114]? = some (.cells #[.string a0_0, .string a0_1] 26 (0, 0))) ∧ Aside0 (Below w.heap.size w w'))
    case atStart => exact ⟨(0), tq3_1, H', ⟨Nat.le_refl _⟩, ⟨(tq3_7 BK114.out)⟩, ⟨(tq3_9 GE114.out)⟩⟩
    case round =>
     clear H'
     try clear c1
     try clear p2
     try clear c4
     try clear c5
     try clear c7
     try clear c12
     try clear hcz10_0
     try clear hcz10_1
     try clear hcz11_0
     try clear hcz11_1
     try clear hcz14_0
     try clear hcz14_1
     try clear hcz9_0
     try clear hcz9_1
     try clear hfz10_0
     try clear hfz10_1
     try clear hfz11_0
     try clear hfz11_1
     try clear hfz14_0
     try clear hfz14_1
     try clear hfz9_0
     try clear hfz9_1
     try clear p2
     obtain ⟨x28_2, rfl, HA, HK2, BK114, HB⟩ := hrel
     cases gk with
     | zero => exact absurd HA.out (by simp [reply_may.l0])
     | succ k2 =>
      have H := HA.out
      clear HA
      simp only [reply_may.l0] at H
      by_cases c16 : x28_2 < 3
      ·rw [if_pos c16] at H
       have c16b0 : decide (x28_2 < 3) = true := decide_eq_true c16
       clear c16
       by_cases c17 : 0 ≤ x28_2
       ·rw [if_pos c17] at H
        have c17b0 : decide (0 ≤ x28_2) = true := decide_eq_true c17
        clear c17
        by_cases c19 : t118.toList = (reply_own.c0 x28_2).toList
        ·rw [if_pos c19] at H
         have c19b0 : (t118.toList == (reply_own.c0 x28_2).toList) = true := beq_iff_eq.mpr c19
         have c19b1 : (t118.toList != (reply_own.c0 x28_2).toList) = false := bne_eq_false_iff_eq.mpr c19
         clear c19
         obtain rfl := Option.some.inj H
         have p18 : 0 ≤ (x28_2 : Int) := of_decide_eq_true tq3_2
         have q18 : (x28_2 : Int) < 3 := of_decide_eq_true tq3_2
         have hx18 := reply_own.index x28_2 p18 q18
         rw [← HTTV119.out] at hx18
         clear p18 q18
         go_wp2
         repeat (go_quiet (fail); try go_wp2)
         go_ret
         exact ⟨tq3_5, (tq3_9 GE114.out)⟩
        ·rw [if_neg c19] at H
         have c19b0 : (t118.toList == (reply_own.c0 x28_2).toList) = false := beq_eq_false_iff_ne.mpr c19
         have c19b1 : (t118.toList != (reply_own.c0 x28_2).toList) = true := bne_iff_ne.mpr c19
         have H' := Aq3 H
         clear H
         have p18 : 0 ≤ (x28_2 : Int) := of_decide_eq_true tq3_2
         have q18 : (x28_2 : Int) < 3 := of_decide_eq_true tq3_2
         have hx18 := reply_own.index x28_2 p18 q18
         rw [← HTTV119.out] at hx18
         clear p18 q18
         go_wp2
         repeat (go_quiet (fail); try go_wp2)
         go_roundg k2
         case measure => have := HJ1.out; have := HK2.out; omega
         case rel => exact ⟨(wrap64 (x28_2 + 1)), tq3_1, H', ⟨by have := HJ1.out; have := HK2.out; omega⟩, ⟨(tq3_7 BK114.out)⟩, ⟨(tq3_9 GE114.out)⟩⟩
       ·rw [if_neg c17] at H
        exact absurd H (by simp)
      ·rw [if_neg c16] at H
       have c16b0 : decide (x28_2 < 3) = false := decide_eq_false c16
       clear c16
       obtain rfl := Option.some.inj H
       go_wp2
       repeat (go_quiet (fail); try go_wp2)
       go_ret
       exact ⟨tq3_5, (tq3_9 GE114.out)⟩

-- NOT PRINTED: function 105 (utf8_RuneCountInString)

-- NOT PRINTED: function 118 (utf8_decodeRuneInStringSlow)

-- NOT PRINTED: function 106 (utf8_DecodeRuneInString)

-- NOT PRINTED: function 88 (strings_explode)

-- NOT PRINTED: function 107 (bytealg_CountString)

-- NOT PRINTED: function 89 (strings_Count)

-- NOT PRINTED: function 67 (strings_genSplit)

-- NOT PRINTED: function 98 (strconv_small)

-- NOT PRINTED: function 112 (strconv_log10Pow2)

-- NOT PRINTED: function 113 (bits_Len64)

-- NOT PRINTED: function 114 (strconv_bool2_int)

-- NOT PRINTED: function 99 (strconv_numDigits)

-- NOT PRINTED: function 100 (strconv_formatBase10)

-- NOT PRINTED: function 115 (strconv_isPowerOfTwo)

-- NOT PRINTED: function 120 (bits_TrailingZeros32)

-- NOT PRINTED: function 121 (bits_TrailingZeros64)

-- NOT PRINTED: function 116 (bits_TrailingZeros)

-- NOT PRINTED: function 101 (strconv_formatBits)

-- NOT PRINTED: function 83 (strconv_FormatInt)

-- NOT PRINTED: function 62 (strconv_Itoa_62)

end Go.Proofs.YtdlfdmbaejhaaaaDoor.Q
