/- The plain Lean functions that calls of the program answer, and proofs that they do. Printed by program out of the translation; Lean checks it. -/
import Derived.Test.YtdlfdmbaejhaaaaDoorQ0
import Derived.Test.YtdlfdmbaejhaaaaDoorQ8
import Derived.Test.YtdlfdmbaejhaaaaDoorQ9
namespace Go.Proofs.YtdlfdmbaejhaaaaDoor.Q
open Go.RowKit Go.Proofs.YtdlfdmbaejhaaaaDoorW.PrintWords Go.Proofs.YtdlfdmbaejhaaaaDoorW.PrintLast Go.Proofs.YtdlfdmbaejhaaaaDoorW.PrintMore
attribute [local go_sem] max2_int min2_int max_two min_two max_three min_three max_four min_four   -- for this text's walks alone
set_option linter.unusedVariables false
set_option linter.unusedSimpArgs false

theorem Aq10 {p : Prop} (h : p) : Aside0 p := ⟨h⟩
theorem tq10_0 {P : Prop} (h : P := by first | rfl | (simp; done) | (simp [*]; done)) : P := h
theorem tq10_1 {P : Prop} (h : P := by first | (with_reducible assumption) | assumption) : P := h
theorem tq10_2 {P : Prop} (h : P := by repeat (first | exact Drawn0.refl _ | apply Drawn0.step)) : P := h
theorem tq10_3 {P : Prop} (h : P := by first | rfl | (simp; done) | (simp only [← hji11] <;> (first | rfl | simp)) | (simp [*]; done)) : P := h
theorem tq10_4 {P : Prop} (h : P := by first | rfl | (simp [errW_none, errW_some] <;> rfl) | (simp [*, errW_none, errW_some] <;> rfl)) : P := h
theorem tq10_5 {P Q0 : Prop} (y0 : Q0) (h : Q0 → P := by intro y0_; (with_reducible repeat (first | apply Kd.R_alloc | apply Kd.R_drewN | apply Kd.R_drew)); exact y0_) : P := h y0
theorem tq10_6 {P Q0 : Prop} (y0 : Q0) (h : Q0 → P := by intro y0_; (with_reducible repeat (first | refine blk_drewN ?_ _ | refine blk_drew ?_ | refine blk_alloc ?_ _)); exact y0_) : P := h y0
theorem tq10_7 {P : Prop} (h : P := by repeat (first | (with_reducible first | exact HB.out | apply below_alloc | apply pw_below_drewN | apply below_drew1) | exact HB.out)) : P := h
theorem tq10_8 {P : Prop} (h : P := by (try simp only [List.map_toArray, List.map_cons, List.map_nil]); first | done | rfl | (simp only [List.length_drop, List.length_take]; rfl)) : P := h
theorem tq10_9 {P Q0 : Prop} (y0 : Q0) (h : Q0 → P := by intro y0_; repeat (first | (with_reducible first | exact HB.out | apply below_alloc | apply pw_below_drewN | apply below_drew1 | refine below_set ?_ y0_) | exact HB.out)) : P := h y0
theorem tq10_a {P : Prop} (h : P := by (try simp only [List.map_toArray, List.map_cons, List.map_nil]); first | done | (simp only [hji11]; rfl) | rfl | (simp only [List.length_drop, List.length_take]; rfl)) : P := h
/-! ### usherref6_Value: function 86 -/
def usherref6_Value.l0 : Nat → ByteArray → Int → Option (Bool)
 | 0, _, _ => none
 | k + 1, x0, x3 => if x3 < (x0.size : Int) then (if 0 ≤ x3 then ((usherref6_ValueByte.f (bt x0 x3)).bind fun t202 => (if t202 = true then (usherref6_Value.l0 k x0 (wrap64 (x3 + 1))) else (some false))) else (none)) else (if x0.toList = ([] : List UInt8) then (some true) else (if 0 < (x0.size : Int) then ((usherref6_White.f (bt x0 0)).bind fun t203 => (if 0 ≤ (wrap64 ((x0.size : Int) - 1)) then (if (wrap64 ((x0.size : Int) - 1)) < (x0.size : Int) then ((usherref6_White.f (bt x0 (wrap64 ((x0.size : Int) - 1)))).bind fun t204 => (if t203 = true then (some false) else (some (!t204)))) else (none)) else (none))) else (none)))
def usherref6_Value.f (k : Nat) (a0 : ByteArray) : Option (Bool) := usherref6_Value.l0 k a0 0
theorem usherref6_Value.mono_l : ∀ k, (∀ y0 y1, LeO (usherref6_Value.l0 k y0 y1) (usherref6_Value.l0 (k + 1) y0 y1))
 | 0 => fun _ _ r h => by simp [usherref6_Value.l0] at h
 | k + 1 => by
  have ih0 := usherref6_Value.mono_l k
  ·intro y0 y1
   unfold usherref6_Value.l0
   repeat' first
   | (with_reducible exact ih0 _ _)
   | (with_reducible exact LeO.refl _)
   | (with_reducible exact LeO.none _)
   | (with_reducible refine LeO.ite ?_ ?_)
   | (with_reducible refine LeO.bind ?_ (fun _ => ?_))
   | exact ih0 _ _
   | exact LeO.none _
   | refine LeO.ite ?_ ?_
   | refine LeO.bind ?_ (fun _ => ?_)
theorem usherref6_Value.mono : ∀ a0 k, LeO (usherref6_Value.f k a0) (usherref6_Value.f (k + 1) a0) := by
 intro a0 k
 have ih0 := usherref6_Value.mono_l k
 unfold usherref6_Value.f
 repeat' first
   | (with_reducible exact ih0 _ _)
   | (with_reducible exact LeO.refl _)
   | (with_reducible exact LeO.none _)
   | (with_reducible refine LeO.ite ?_ ?_)
   | (with_reducible refine LeO.bind ?_ (fun _ => ?_))
   | exact ih0 _ _
   | exact LeO.none _
   | refine LeO.ite ?_ ?_
   | refine LeO.bind ?_ (fun _ => ?_)
set_option maxHeartbeats 8000000 in
set_option maxRecDepth 100000 in
theorem usherref6_Value.calls (k : Nat) (a0 : ByteArray) (r : Bool) (w : World) (h : usherref6_Value.f k a0 = some r) :
  Calls Tryd.prog 86 #[.string a0] w fun e w' => e = .returned (.bool r) ∧ Drawn0 w w' := by
 have H : (usherref6_Value.l0 k a0 0) = some r := h
 clear h
 have H' := Aq10 H
 clear H
 go_enter Tryd.func86, Tryd.ntmps86
 go_wp2
 go_loopg [3] k (fun kq v3 w' => ∃ (x3_1 : Int), v3 = .int .i64 x3_1 ∧ Aside0 (usherref6_Value.l0 kq a0 x3_1 = some r) ∧ Aside0 (kq ≤ k) ∧ Drawn0 w w')
 case atStart => exact ⟨(0), tq10_0, H', ⟨Nat.le_refl _⟩, tq10_2⟩
 case round =>
  clear H'
  obtain ⟨x3_1, rfl, HA, HK1, ⟨m1, rfl⟩⟩ := hrel
  cases gk with
  | zero => exact absurd HA.out (by simp [usherref6_Value.l0])
  | succ k1 =>
   have H := HA.out
   clear HA
   simp only [usherref6_Value.l0] at H
   by_cases c2 : x3_1 < (a0.size : Int)
   ·rw [if_pos c2] at H
    have c2b0 : decide (x3_1 < (a0.size : Int)) = true := decide_eq_true c2
    clear c2
    by_cases c3 : 0 ≤ x3_1
    ·rw [if_pos c3] at H
     have c3b0 : decide (0 ≤ x3_1) = true := decide_eq_true c3
     clear c3
     replace H := Option.bind_eq_some_iff.mp H
     obtain ⟨t202, A50, H⟩ := H
     replace H : (if t202 = true then (usherref6_Value.l0 k1 a0 (wrap64 (x3_1 + 1))) else (some false)) = some r := H
     have A5 := Aq10 A50
     clear A50
     by_cases c6 : t202 = true
     ·subst c6
      have H1 : (usherref6_Value.l0 k1 a0 (wrap64 (x3_1 + 1))) = some r := by rw [if_pos rfl] at H; exact H
      clear H
      have H := H1
      clear H1
      have H' := Aq10 H
      clear H
      have p4 : 0 ≤ (x3_1 : Int) := of_decide_eq_true tq10_1
      have q4 : x3_1 < (a0.size : Int) := of_decide_eq_true tq10_1
      have hx4 := bt_at a0 x3_1
      replace p4 := eq_true p4
      replace q4 := eq_true q4
      go_wp2_with (first | ((with_reducible refine gate_callee (f := 103) rfl ?_); refine goesL_ (some 16) rfl rfl Tryd.func103 (by kernel_rfl) rfl #[.int .u8 (bt a0 x3_1)] rfl tq10_8 ?_; (with_reducible refine (usherref6_ValueByte.calls (bt a0 x3_1) true _ A5.out).mono ?_); rintro e w' ⟨rfl, ⟨nd, rfl⟩⟩; refine ⟨_, rfl, ?_⟩))
      go_roundg k1
      case measure => have := HK1.out; omega
      case rel => exact ⟨(wrap64 (x3_1 + 1)), tq10_0, H', ⟨by have := HK1.out; omega⟩, tq10_2⟩
     ·replace c6 := Bool.eq_false_iff.mpr c6
      subst c6
      have H1 : (some false) = some r := by rw [if_neg (show ¬ (false = true) by decide)] at H; exact H
      clear H
      have H := H1
      clear H1
      obtain rfl := Option.some.inj H
      have p4 : 0 ≤ (x3_1 : Int) := of_decide_eq_true tq10_1
      have q4 : x3_1 < (a0.size : Int) := of_decide_eq_true tq10_1
      have hx4 := bt_at a0 x3_1
      replace p4 := eq_true p4
      replace q4 := eq_true q4
      go_wp2_with (first | ((with_reducible refine gate_callee (f := 103) rfl ?_); refine goesL_ (some 16) rfl rfl Tryd.func103 (by kernel_rfl) rfl #[.int .u8 (bt a0 x3_1)] rfl tq10_8 ?_; (with_reducible refine (usherref6_ValueByte.calls (bt a0 x3_1) false _ A5.out).mono ?_); rintro e w' ⟨rfl, ⟨nd, rfl⟩⟩; refine ⟨_, rfl, ?_⟩))
      go_ret
      exact ⟨tq10_0, tq10_2⟩
    ·rw [if_neg c3] at H
     exact absurd H (by simp)
   ·rw [if_neg c2] at H
    have c2b0 : decide (x3_1 < (a0.size : Int)) = false := decide_eq_false c2
    clear c2
    by_cases c7 : a0.toList = ([] : List UInt8)
    ·rw [if_pos c7] at H
     have c7b0 : (a0.toList == ([] : List UInt8)) = true := beq_iff_eq.mpr c7
     have c7b1 : (a0.toList != ([] : List UInt8)) = false := bne_eq_false_iff_eq.mpr c7
     clear c7
     obtain rfl := Option.some.inj H
     go_wp2
     go_ret
     exact ⟨tq10_0, tq10_2⟩
    ·rw [if_neg c7] at H
     have c7b0 : (a0.toList == ([] : List UInt8)) = false := beq_eq_false_iff_ne.mpr c7
     have c7b1 : (a0.toList != ([] : List UInt8)) = true := bne_iff_ne.mpr c7
     by_cases c8 : 0 < (a0.size : Int)
     ·rw [if_pos c8] at H
      have c8b0 : decide (0 < (a0.size : Int)) = true := decide_eq_true c8
      have c8b1 : decide (0 < a0.size) = true := decide_eq_true (by omega)
      clear c8
      replace H := Option.bind_eq_some_iff.mp H
      obtain ⟨t203, A100, H⟩ := H
      replace H : (if 0 ≤ (wrap64 ((a0.size : Int) - 1)) then (if (wrap64 ((a0.size : Int) - 1)) < (a0.size : Int) then ((usherref6_White.f (bt a0 (wrap64 ((a0.size : Int) - 1)))).bind fun t204 => (if t203 = true then (some false) else (some (!t204)))) else (none)) else (none)) = some r := H
      have A10 := Aq10 A100
      clear A100
      obtain ⟨ji11, hji11⟩ : ∃ j_ : Int, (wrap64 ((a0.size : Int) - 1)) = j_ := ⟨_, rfl⟩
      replace H : (if 0 ≤ (ji11) then (if (ji11) < (a0.size : Int) then ((usherref6_White.f (bt a0 (ji11))).bind fun t204 => (if t203 = true then (some false) else (some (!t204)))) else (none)) else (none)) = some r := by first | (rw [hji11] at H; exact H) | (simp only [hji11] at H ⊢; exact H)
      (try rw [hji11] at A10)
      have hji11w : (IntKind.i64.wrap ((a0.size : Int) - 1)) = ji11 := (i64_w _).trans hji11
      by_cases c12 : 0 ≤ (ji11)
      ·rw [if_pos c12] at H
       have c12b0 : decide (0 ≤ (ji11)) = true := decide_eq_true c12
       clear c12
       by_cases c13 : (ji11) < (a0.size : Int)
       ·rw [if_pos c13] at H
        have c13b0 : decide ((ji11) < (a0.size : Int)) = true := decide_eq_true c13
        clear c13
        replace H := Option.bind_eq_some_iff.mp H
        obtain ⟨t204, A150, H⟩ := H
        replace H : (if t203 = true then (some false) else (some (!t204))) = some r := H
        have A15 := Aq10 A150
        clear A150
        by_cases c16 : t203 = true
        ·subst c16
         have H1 : (some false) = some r := by rw [if_pos rfl] at H; exact H
         clear H
         have H := H1
         clear H1
         obtain rfl := Option.some.inj H
         have p9 : 0 ≤ (0 : Int) := (by omega)
         have q9 : 0 < a0.size := (by have : (0 : Int) < (a0.size : Int) := of_decide_eq_true tq10_1; omega)
         have hx9 : ∀ h : 0 < a0.size, ((a0[0]'h).toNat : Int) = bt a0 0 := bt_at a0 0
         clear p9
         have qi9 : (0 < (a0.size : Int)) = True := eq_true (of_decide_eq_true tq10_1)
         replace q9 := eq_true q9
         go_wp2_with (first | ((with_reducible refine gate_callee (f := 104) rfl ?_); refine goesL_ (some 23) rfl rfl Tryd.func104 (by kernel_rfl) rfl #[.int .u8 (bt a0 0)] rfl tq10_8 ?_; (with_reducible refine (usherref6_White.calls (bt a0 0) true _ A10.out).mono ?_); rintro e w' ⟨rfl, ⟨nd, rfl⟩⟩; refine ⟨_, rfl, ?_⟩; have p14 : 0 ≤ ((ji11) : Int) := of_decide_eq_true tq10_1; have q14 : (ji11) < (a0.size : Int) := of_decide_eq_true tq10_1; have hx14 := bt_at a0 (ji11); replace p14 := eq_true p14; replace q14 := eq_true q14) | ((with_reducible refine gate_callee (f := 104) rfl ?_); refine goesL_ (some 29) rfl rfl Tryd.func104 (by kernel_rfl) rfl #[.int .u8 (bt a0 (ji11))] rfl tq10_a ?_; (with_reducible refine (usherref6_White.calls (bt a0 (ji11)) t204 _ A15.out).mono ?_); rintro e w' ⟨rfl, ⟨nd, rfl⟩⟩; refine ⟨_, rfl, ?_⟩))
         go_ret
         exact ⟨tq10_3, tq10_2⟩
        ·replace c16 := Bool.eq_false_iff.mpr c16
         subst c16
         have H1 : (some (!t204)) = some r := by rw [if_neg (show ¬ (false = true) by decide)] at H; exact H
         clear H
         have H := H1
         clear H1
         obtain rfl := Option.some.inj H
         have p9 : 0 ≤ (0 : Int) := (by omega)
         have q9 : 0 < a0.size := (by have : (0 : Int) < (a0.size : Int) := of_decide_eq_true tq10_1; omega)
         have hx9 : ∀ h : 0 < a0.size, ((a0[0]'h).toNat : Int) = bt a0 0 := bt_at a0 0
         clear p9
         have qi9 : (0 < (a0.size : Int)) = True := eq_true (of_decide_eq_true tq10_1)
         replace q9 := eq_true q9
         go_wp2_with (first | ((with_reducible refine gate_callee (f := 104) rfl ?_); refine goesL_ (some 23) rfl rfl Tryd.func104 (by kernel_rfl) rfl #[.int .u8 (bt a0 0)] rfl tq10_8 ?_; (with_reducible refine (usherref6_White.calls (bt a0 0) false _ A10.out).mono ?_); rintro e w' ⟨rfl, ⟨nd, rfl⟩⟩; refine ⟨_, rfl, ?_⟩; have p14 : 0 ≤ ((ji11) : Int) := of_decide_eq_true tq10_1; have q14 : (ji11) < (a0.size : Int) := of_decide_eq_true tq10_1; have hx14 := bt_at a0 (ji11); replace p14 := eq_true p14; replace q14 := eq_true q14) | ((with_reducible refine gate_callee (f := 104) rfl ?_); refine goesL_ (some 29) rfl rfl Tryd.func104 (by kernel_rfl) rfl #[.int .u8 (bt a0 (ji11))] rfl tq10_a ?_; (with_reducible refine (usherref6_White.calls (bt a0 (ji11)) t204 _ A15.out).mono ?_); rintro e w' ⟨rfl, ⟨nd, rfl⟩⟩; refine ⟨_, rfl, ?_⟩))
         go_ret
         exact ⟨tq10_3, tq10_2⟩
       ·rw [if_neg c13] at H
        exact absurd H (by simp)
      ·rw [if_neg c12] at H
       exact absurd H (by simp)
     ·rw [if_neg c8] at H
      exact absurd H (by simp)

/-! ### usherref8_small: function 87 -/
def usherref8_small.l0 : Nat → ByteArray → List Int → Int → Option (ByteArray)
 | 0, _, _, _ => none
 | k + 1, x0, x3, x4 => if x4 < (x0.size : Int) then (if 0 ≤ x4 then (if (bt x0 x4) ≥ 65 then (if (bt x0 x4) ≤ 90 then (if x3.length < 140737488355328 then (usherref8_small.l0 k x0 (x3 ++ [((bt x0 x4) + 32) % 256]) (wrap64 (x4 + 1))) else (none)) else (if x3.length < 140737488355328 then (usherref8_small.l0 k x0 (x3 ++ [bt x0 x4]) (wrap64 (x4 + 1))) else (none))) else (if x3.length < 140737488355328 then (usherref8_small.l0 k x0 (x3 ++ [bt x0 x4]) (wrap64 (x4 + 1))) else (none))) else (none)) else (some (strOfNums x3))
def usherref8_small.f (k : Nat) (a0 : ByteArray) : Option (ByteArray) := usherref8_small.l0 k a0 ([] : List Int) 0
theorem usherref8_small.mono_l : ∀ k, (∀ y0 y1 y2, LeO (usherref8_small.l0 k y0 y1 y2) (usherref8_small.l0 (k + 1) y0 y1 y2))
 | 0 => fun _ _ _ r h => by simp [usherref8_small.l0] at h
 | k + 1 => by
  have ih0 := usherref8_small.mono_l k
  ·intro y0 y1 y2
   unfold usherref8_small.l0
   repeat' first
   | (with_reducible exact ih0 _ _ _)
   | (with_reducible exact LeO.refl _)
   | (with_reducible exact LeO.none _)
   | (with_reducible refine LeO.ite ?_ ?_)
   | (with_reducible refine LeO.bind ?_ (fun _ => ?_))
   | exact ih0 _ _ _
   | exact LeO.none _
   | refine LeO.ite ?_ ?_
   | refine LeO.bind ?_ (fun _ => ?_)
theorem usherref8_small.mono : ∀ a0 k, LeO (usherref8_small.f k a0) (usherref8_small.f (k + 1) a0) := by
 intro a0 k
 have ih0 := usherref8_small.mono_l k
 unfold usherref8_small.f
 repeat' first
   | (with_reducible exact ih0 _ _ _)
   | (with_reducible exact LeO.refl _)
   | (with_reducible exact LeO.none _)
   | (with_reducible refine LeO.ite ?_ ?_)
   | (with_reducible refine LeO.bind ?_ (fun _ => ?_))
   | exact ih0 _ _ _
   | exact LeO.none _
   | refine LeO.ite ?_ ?_
   | refine LeO.bind ?_ (fun _ => ?_)
set_option maxHeartbeats 8000000 in
set_option maxRecDepth 100000 in
theorem usherref8_small.calls (k : Nat) (a0 : ByteArray) (r : ByteArray) (w : World) (h : usherref8_small.f k a0 = some r) :
  Calls Tryd.prog 87 #[.string a0] w fun e w' => e = .returned (.string r) ∧ Below w.heap.size w w' := by
 have HB := Aq10 (Below.refl w.heap.size w)
 have H : (usherref8_small.l0 k a0 ([] : List Int) 0) = some r := h
 clear h
 have H' := Aq10 H
 clear H
 go_enter Tryd.func87, Tryd.ntmps87
 go_wp2
 go_loopg [3, 4] k (fun kq v3 v4 w' => ∃ (x3_1 : List Int) (x4_1 : Int), v4 = .int .i64 x4_1 ∧ Aside0 (usherref8_small.l0 kq a0 x3_1 x4_1 = some r) ∧ Aside0 (kq ≤ k) ∧ Aside0 (Kd.R (Kd.int .u8) 5 w' w.heap.size (fun _ => True) v3 x3_1) ∧ Aside0 (Below w.heap.size w w'))
 case atStart => exact ⟨(([] : List Int)), (0), tq10_0, H', ⟨Nat.le_refl _⟩, ⟨by first | exact Kd.R_nil _ _ _ _ _ | exact Kd.N_nil _ _ _ _ _ | exact Kd.V_nil _ _ _ _ _ | exact Kd.Q_nil _ _ _ _ _ | exact Kd.S_nil _ _ _ _ _⟩, ⟨tq10_7⟩⟩
 case round =>
  clear H'
  obtain ⟨x3_1, x4_1, rfl, HA, HK1, HO_3, HB⟩ := hrel
  cases gk with
  | zero => exact absurd HA.out (by simp [usherref8_small.l0])
  | succ k1 =>
   have H := HA.out
   clear HA
   simp only [usherref8_small.l0] at H
   by_cases c2 : x4_1 < (a0.size : Int)
   ·rw [if_pos c2] at H
    have c2b0 : decide (x4_1 < (a0.size : Int)) = true := decide_eq_true c2
    clear c2
    by_cases c3 : 0 ≤ x4_1
    ·rw [if_pos c3] at H
     have c3b0 : decide (0 ≤ x4_1) = true := decide_eq_true c3
     clear c3
     by_cases c5 : (bt a0 x4_1) ≥ 65
     ·rw [if_pos c5] at H
      have c5b0 : decide (65 ≤ (bt a0 x4_1)) = true := decide_eq_true c5
      clear c5
      by_cases c6 : (bt a0 x4_1) ≤ 90
      ·rw [if_pos c6] at H
       have c6b0 : decide ((bt a0 x4_1) ≤ 90) = true := decide_eq_true c6
       clear c6
       by_cases c7 : x3_1.length < 140737488355328
       ·rw [if_pos c7] at H
        have LMc7 := Aq10 c7
        clear c7
        obtain ⟨y205, hy205⟩ : ∃ y_ : List Int, y_ = (x3_1 ++ [((bt a0 x4_1) + 32) % 256]) := ⟨_, rfl⟩
        replace H : (usherref8_small.l0 k1 a0 y205 (wrap64 (x4_1 + 1))) = some r := by first | (rw [hy205]; with_reducible exact H) | (have H2_ := (Option.bind_some _ _).symm.trans H; rw [hy205]; with_reducible exact H2_) | (have H2_ := (Option.bind_some _ _).symm.trans H; with_reducible exact H2_) | with_reducible exact H | (rw [hy205]; exact H) | exact H
        have Ny205 := Aq10 hy205
        clear hy205
        have H' := Aq10 H
        clear H
        have p4 : 0 ≤ (x4_1 : Int) := of_decide_eq_true tq10_1
        have q4 : x4_1 < (a0.size : Int) := of_decide_eq_true tq10_1
        have hx4 := bt_at a0 x4_1
        replace p4 := eq_true p4
        replace q4 := eq_true q4
        go_wp2_with (first | ((with_reducible refine gate_builtin (b := .append) (xs := #[.tmp 23, .tmp 25]) rfl ?_); at_builtin; refine Kd.R_append (Kd.int .u8) (w0 := w) w.heap.size rfl (.tmp 23) (.tmp 25) 61 5 (.int .u8 0) 1 rfl Tryd.underlying61 info5 rfl (by decide) (by omega) u3 x3_1 (((bt a0 x4_1) + 32) % 256) [.int .u8 (((bt a0 x4_1) + 32) % 256)] (fun _ => True) (fun _ => False) rfl rfl ?aP (fun _ hk => hk.elim) ?aF ?aO ?aB ?aS ?aL ?_; (case aP => exact rfl); (case aB => exact tq10_7); (case aF => exact (fun _ _ => trivial)); (case aO => exact (tq10_5 HO_3.out)); (case aS => exact (below_size tq10_7)); (case aL => have := LMc7.out; omega); intro v206 w8 ho hb hg hat; rw [← Ny205.out] at ho; have n0_ := Aq10 (hb); have n1_ := Aq10 (ho); clear HB; clear HO_3; have HB := n0_; have HO207 := n1_; clear n0_ n1_; clear ho hb hg hat))
        go_roundg k1
        case measure => have := HK1.out; omega
        case rel => exact ⟨(y205), (wrap64 (x4_1 + 1)), tq10_0, H', ⟨by have := HK1.out; omega⟩, ⟨(tq10_5 HO207.out)⟩, ⟨tq10_7⟩⟩
       ·rw [if_neg c7] at H
        exact absurd H (by simp)
      ·rw [if_neg c6] at H
       have c6b0 : decide ((bt a0 x4_1) ≤ 90) = false := decide_eq_false c6
       clear c6
       by_cases c9 : x3_1.length < 140737488355328
       ·rw [if_pos c9] at H
        have LMc9 := Aq10 c9
        clear c9
        obtain ⟨y208, hy208⟩ : ∃ y_ : List Int, y_ = (x3_1 ++ [bt a0 x4_1]) := ⟨_, rfl⟩
        replace H : (usherref8_small.l0 k1 a0 y208 (wrap64 (x4_1 + 1))) = some r := by first | (rw [hy208]; with_reducible exact H) | (have H2_ := (Option.bind_some _ _).symm.trans H; rw [hy208]; with_reducible exact H2_) | (have H2_ := (Option.bind_some _ _).symm.trans H; with_reducible exact H2_) | with_reducible exact H | (rw [hy208]; exact H) | exact H
        have Ny208 := Aq10 hy208
        clear hy208
        have H' := Aq10 H
        clear H
        have p4 : 0 ≤ (x4_1 : Int) := of_decide_eq_true tq10_1
        have q4 : x4_1 < (a0.size : Int) := of_decide_eq_true tq10_1
        have hx4 := bt_at a0 x4_1
        replace p4 := eq_true p4
        replace q4 := eq_true q4
        go_wp2_with (first | ((with_reducible refine gate_builtin (b := .append) (xs := #[.tmp 23, .tmp 25]) rfl ?_); at_builtin; refine Kd.R_append (Kd.int .u8) (w0 := w) w.heap.size rfl (.tmp 23) (.tmp 25) 61 5 (.int .u8 0) 1 rfl Tryd.underlying61 info5 rfl (by decide) (by omega) u3 x3_1 (bt a0 x4_1) [.int .u8 (bt a0 x4_1)] (fun _ => True) (fun _ => False) rfl rfl ?aP (fun _ hk => hk.elim) ?aF ?aO ?aB ?aS ?aL ?_; (case aP => exact rfl); (case aB => exact tq10_7); (case aF => exact (fun _ _ => trivial)); (case aO => exact (tq10_5 HO_3.out)); (case aS => exact (below_size tq10_7)); (case aL => have := LMc9.out; omega); intro v209 w10 ho hb hg hat; rw [← Ny208.out] at ho; have n0_ := Aq10 (hb); have n1_ := Aq10 (ho); clear HB; clear HO_3; have HB := n0_; have HO210 := n1_; clear n0_ n1_; clear ho hb hg hat))
        go_roundg k1
        case measure => have := HK1.out; omega
        case rel => exact ⟨(y208), (wrap64 (x4_1 + 1)), tq10_0, H', ⟨by have := HK1.out; omega⟩, ⟨(tq10_5 HO210.out)⟩, ⟨tq10_7⟩⟩
       ·rw [if_neg c9] at H
        exact absurd H (by simp)
     ·rw [if_neg c5] at H
      have c5b0 : decide (65 ≤ (bt a0 x4_1)) = false := decide_eq_false c5
      clear c5
      by_cases c11 : x3_1.length < 140737488355328
      ·rw [if_pos c11] at H
       have LMc11 := Aq10 c11
       clear c11
       obtain ⟨y211, hy211⟩ : ∃ y_ : List Int, y_ = (x3_1 ++ [bt a0 x4_1]) := ⟨_, rfl⟩
       replace H : (usherref8_small.l0 k1 a0 y211 (wrap64 (x4_1 + 1))) = some r := by first | (rw [hy211]; with_reducible exact H) | (have H2_ := (Option.bind_some _ _).symm.trans H; rw [hy211]; with_reducible exact H2_) | (have H2_ := (Option.bind_some _ _).symm.trans H; with_reducible exact H2_) | with_reducible exact H | (rw [hy211]; exact H) | exact H
       have Ny211 := Aq10 hy211
       clear hy211
       have H' := Aq10 H
       clear H
       have p4 : 0 ≤ (x4_1 : Int) := of_decide_eq_true tq10_1
       have q4 : x4_1 < (a0.size : Int) := of_decide_eq_true tq10_1
       have hx4 := bt_at a0 x4_1
       replace p4 := eq_true p4
       replace q4 := eq_true q4
       go_wp2_with (first | ((with_reducible refine gate_builtin (b := .append) (xs := #[.tmp 23, .tmp 25]) rfl ?_); at_builtin; refine Kd.R_append (Kd.int .u8) (w0 := w) w.heap.size rfl (.tmp 23) (.tmp 25) 61 5 (.int .u8 0) 1 rfl Tryd.underlying61 info5 rfl (by decide) (by omega) u3 x3_1 (bt a0 x4_1) [.int .u8 (bt a0 x4_1)] (fun _ => True) (fun _ => False) rfl rfl ?aP (fun _ hk => hk.elim) ?aF ?aO ?aB ?aS ?aL ?_; (case aP => exact rfl); (case aB => exact tq10_7); (case aF => exact (fun _ _ => trivial)); (case aO => exact (tq10_5 HO_3.out)); (case aS => exact (below_size tq10_7)); (case aL => have := LMc11.out; omega); intro v212 w12 ho hb hg hat; rw [← Ny211.out] at ho; have n0_ := Aq10 (hb); have n1_ := Aq10 (ho); clear HB; clear HO_3; have HB := n0_; have HO213 := n1_; clear n0_ n1_; clear ho hb hg hat))
       go_roundg k1
       case measure => have := HK1.out; omega
       case rel => exact ⟨(y211), (wrap64 (x4_1 + 1)), tq10_0, H', ⟨by have := HK1.out; omega⟩, ⟨(tq10_5 HO213.out)⟩, ⟨tq10_7⟩⟩
      ·rw [if_neg c11] at H
       exact absurd H (by simp)
    ·rw [if_neg c3] at H
     exact absurd H (by simp)
   ·rw [if_neg c2] at H
    have c2b0 : decide (x4_1 < (a0.size : Int)) = false := decide_eq_false c2
    clear c2
    obtain rfl := Option.some.inj H
    have hcv13 := own_string (P := Tryd.prog) Tryd.underlying61 Tryd.underlying5 Tryd.underlying9 (Kd.own_of_R HO_3.out)
    go_wp2
    go_ret
    exact ⟨tq10_4, tq10_7⟩

/-! ### usherref8_fieldMayBe: function 65 -/
def usherref8_fieldMayBe.f (k : Nat) (a0_0 : ByteArray) (a0_1 : ByteArray) : Option (Bool) := (usherref6_Token.f k a0_0).bind fun t215 => ((usherref6_Value.f k a0_1).bind fun t216 => ((usherref8_small.f k a0_0).bind fun t217 => (if t217.toList = ([99, 111, 110, 116, 101, 110, 116, 45, 108, 101, 110, 103, 116, 104] : List UInt8) then (if t215 = true then (if t216 = true then (some (!true)) else (some false)) else (some false)) else (if t217.toList = ([99, 111, 110, 110, 101, 99, 116, 105, 111, 110] : List UInt8) then (if t215 = true then (if t216 = true then (some (!true)) else (some false)) else (some false)) else (if t215 = true then (if t216 = true then (some (!(t217.toList == ([116, 114, 97, 110, 115, 102, 101, 114, 45, 101, 110, 99, 111, 100, 105, 110, 103] : List UInt8)))) else (some false)) else (some false))))))
theorem usherref8_fieldMayBe.mono : ∀ a0 a1 k, LeO (usherref8_fieldMayBe.f k a0 a1) (usherref8_fieldMayBe.f (k + 1) a0 a1) := by
 intro a0 a1 k
 unfold usherref8_fieldMayBe.f
 repeat' first
   | (with_reducible exact usherref6_Token.mono _ _)
   | (with_reducible exact usherref6_Value.mono _ _)
   | (with_reducible exact usherref8_small.mono _ _)
   | (with_reducible exact LeO.refl _)
   | (with_reducible exact LeO.none _)
   | (with_reducible refine LeO.ite ?_ ?_)
   | (with_reducible refine LeO.bind ?_ (fun _ => ?_))
   | exact usherref6_Token.mono _ _
   | exact usherref6_Value.mono _ _
   | exact usherref8_small.mono _ _
   | exact LeO.none _
   | refine LeO.ite ?_ ?_
   | refine LeO.bind ?_ (fun _ => ?_)
set_option maxHeartbeats 8000000 in
set_option maxRecDepth 100000 in
theorem usherref8_fieldMayBe.calls (k : Nat) (a0_0 : ByteArray) (a0_1 : ByteArray) (r : Bool) (w : World) (h : usherref8_fieldMayBe.f k a0_0 a0_1 = some r) :
  Calls Tryd.prog 65 #[.agg #[.string a0_0, .string a0_1]] w fun e w' => e = .returned (.bool r) ∧ Below w.heap.size w w' := by
 have hu26 := Tryd.underlying26
 have HB := Aq10 (Below.refl w.heap.size w)
 have H : ((usherref6_Token.f k a0_0).bind fun t215 => ((usherref6_Value.f k a0_1).bind fun t216 => ((usherref8_small.f k a0_0).bind fun t217 => (if t217.toList = ([99, 111, 110, 116, 101, 110, 116, 45, 108, 101, 110, 103, 116, 104] : List UInt8) then (if t215 = true then (if t216 = true then (some (!true)) else (some false)) else (some false)) else (if t217.toList = ([99, 111, 110, 110, 101, 99, 116, 105, 111, 110] : List UInt8) then (if t215 = true then (if t216 = true then (some (!true)) else (some false)) else (some false)) else (if t215 = true then (if t216 = true then (some (!(t217.toList == ([116, 114, 97, 110, 115, 102, 101, 114, 45, 101, 110, 99, 111, 100, 105, 110, 103] : List UInt8)))) else (some false)) else (some false))))))) = some r := h
 clear h
 replace H := Option.bind_eq_some_iff.mp H
 obtain ⟨t215, A20, H⟩ := H
 replace H : ((usherref6_Value.f k a0_1).bind fun t216 => ((usherref8_small.f k a0_0).bind fun t217 => (if t217.toList = ([99, 111, 110, 116, 101, 110, 116, 45, 108, 101, 110, 103, 116, 104] : List UInt8) then (if t215 = true then (if t216 = true then (some (!true)) else (some false)) else (some false)) else (if t217.toList = ([99, 111, 110, 110, 101, 99, 116, 105, 111, 110] : List UInt8) then (if t215 = true then (if t216 = true then (some (!true)) else (some false)) else (some false)) else (if t215 = true then (if t216 = true then (some (!(t217.toList == ([116, 114, 97, 110, 115, 102, 101, 114, 45, 101, 110, 99, 111, 100, 105, 110, 103] : List UInt8)))) else (some false)) else (some false)))))) = some r := H
 have A2 := Aq10 A20
 clear A20
 replace H := Option.bind_eq_some_iff.mp H
 obtain ⟨t216, A30, H⟩ := H
 replace H : ((usherref8_small.f k a0_0).bind fun t217 => (if t217.toList = ([99, 111, 110, 116, 101, 110, 116, 45, 108, 101, 110, 103, 116, 104] : List UInt8) then (if t215 = true then (if t216 = true then (some (!true)) else (some false)) else (some false)) else (if t217.toList = ([99, 111, 110, 110, 101, 99, 116, 105, 111, 110] : List UInt8) then (if t215 = true then (if t216 = true then (some (!true)) else (some false)) else (some false)) else (if t215 = true then (if t216 = true then (some (!(t217.toList == ([116, 114, 97, 110, 115, 102, 101, 114, 45, 101, 110, 99, 111, 100, 105, 110, 103] : List UInt8)))) else (some false)) else (some false))))) = some r := H
 have A3 := Aq10 A30
 clear A30
 replace H := Option.bind_eq_some_iff.mp H
 obtain ⟨t217, A40, H⟩ := H
 replace H : (if t217.toList = ([99, 111, 110, 116, 101, 110, 116, 45, 108, 101, 110, 103, 116, 104] : List UInt8) then (if t215 = true then (if t216 = true then (some (!true)) else (some false)) else (some false)) else (if t217.toList = ([99, 111, 110, 110, 101, 99, 116, 105, 111, 110] : List UInt8) then (if t215 = true then (if t216 = true then (some (!true)) else (some false)) else (some false)) else (if t215 = true then (if t216 = true then (some (!(t217.toList == ([116, 114, 97, 110, 115, 102, 101, 114, 45, 101, 110, 99, 111, 100, 105, 110, 103] : List UInt8)))) else (some false)) else (some false)))) = some r := H
 have A4 := Aq10 A40
 clear A40
 by_cases c5 : t217.toList = ([99, 111, 110, 116, 101, 110, 116, 45, 108, 101, 110, 103, 116, 104] : List UInt8)
 ·rw [if_pos c5] at H
  have c5b0 : (t217.toList == ([99, 111, 110, 116, 101, 110, 116, 45, 108, 101, 110, 103, 116, 104] : List UInt8)) = true := beq_iff_eq.mpr c5
  have c5b1 : (t217.toList != ([99, 111, 110, 116, 101, 110, 116, 45, 108, 101, 110, 103, 116, 104] : List UInt8)) = false := bne_eq_false_iff_eq.mpr c5
  clear c5
  by_cases c6 : t215 = true
  ·subst c6
   have H1 : (if t216 = true then (some (!true)) else (some false)) = some r := by rw [if_pos rfl] at H; exact H
   clear H
   have H := H1
   clear H1
   by_cases c7 : t216 = true
   ·subst c7
    have H1 : (some (!true)) = some r := by rw [if_pos rfl] at H; exact H
    clear H
    have H := H1
    clear H1
    obtain rfl := Option.some.inj H
    go_enter Tryd.func65, Tryd.ntmps65
    go_wp2_with (first | ((with_reducible refine gate_dst (N := 1) rfl ?_); refine box_event ?hg (N := 1) ?hd (cs := #[.string a0_0, .string a0_1]) (t := 26) ?hr ?_; (case hd => rfl); (case hg => rfl); (case hr => first | (go_simp; done) | (go_simp; rfl)); intro gb214 hg w8 hbox hb; have BK214 := Aq10 (hbox); have GW214 := Aq10 ((by rw [hg]; exact (below_size tq10_7) : w.heap.size ≤ gb214)); have GE214 := Aq10 ((by rw [hg]; exact (below_size tq10_7) : w.heap.size ≤ gb214)); replace HB := Aq10 (below_step tq10_7 hb); clear hb hbox hg; have hcz9_0 : w8.cell? ⟨gb214, 0, none⟩ = some (.string a0_0) := (blk_cell BK214.out 0).trans rfl; have hcz9_1 : w8.cell? ⟨gb214, 1, none⟩ = some (.string a0_1) := (blk_cell BK214.out 1).trans rfl; have hfz9_0 := blk_frozen BK214.out 0; have hfz9_1 := blk_frozen BK214.out 1) | ((with_reducible refine gate_callee (f := 85) rfl ?_); refine goesL_ (some 9) rfl rfl Tryd.func85 (by kernel_rfl) rfl #[.string a0_0] rfl tq10_8 ?_; (with_reducible refine (usherref6_Token.calls k a0_0 true _ A2.out).mono ?_); rintro e w' ⟨rfl, ⟨nd, rfl⟩⟩; refine ⟨_, rfl, ?_⟩) | ((with_reducible refine gate_callee (f := 86) rfl ?_); refine goesL_ (some 12) rfl rfl Tryd.func86 (by kernel_rfl) rfl #[.string a0_1] rfl tq10_8 ?_; (with_reducible refine (usherref6_Value.calls k a0_1 true _ A3.out).mono ?_); rintro e w' ⟨rfl, ⟨nd, rfl⟩⟩; refine ⟨_, rfl, ?_⟩) | ((with_reducible refine gate_callee (f := 87) rfl ?_); refine goesL_ (some 15) rfl rfl Tryd.func87 (by kernel_rfl) rfl #[.string a0_0] rfl tq10_8 ?_; (with_reducible refine (usherref8_small.calls k a0_0 t217 _ A4.out).mono ?_); rintro e w10 ⟨rfl, hb⟩; refine ⟨_, rfl, ?_⟩; replace BK214 := Aq10 (blk_below (g := gb214) (o := .cells #[.string a0_0, .string a0_1] 26 (0, 0)) (tq10_6 BK214.out) hb); replace HB := Aq10 (below_step (tq10_9 GE214.out) hb); (try clear hb); (try clear hb2); (try clear hk); (try clear hi)))
    go_ret
    exact ⟨tq10_4, (tq10_9 GE214.out)⟩
   ·replace c7 := Bool.eq_false_iff.mpr c7
    subst c7
    have H1 : (some false) = some r := by rw [if_neg (show ¬ (false = true) by decide)] at H; exact H
    clear H
    have H := H1
    clear H1
    obtain rfl := Option.some.inj H
    go_enter Tryd.func65, Tryd.ntmps65
    go_wp2_with (first | ((with_reducible refine gate_dst (N := 1) rfl ?_); refine box_event ?hg (N := 1) ?hd (cs := #[.string a0_0, .string a0_1]) (t := 26) ?hr ?_; (case hd => rfl); (case hg => rfl); (case hr => first | (go_simp; done) | (go_simp; rfl)); intro gb214 hg w11 hbox hb; have BK214 := Aq10 (hbox); have GW214 := Aq10 ((by rw [hg]; exact (below_size tq10_7) : w.heap.size ≤ gb214)); have GE214 := Aq10 ((by rw [hg]; exact (below_size tq10_7) : w.heap.size ≤ gb214)); replace HB := Aq10 (below_step tq10_7 hb); clear hb hbox hg; have hcz12_0 : w11.cell? ⟨gb214, 0, none⟩ = some (.string a0_0) := (blk_cell BK214.out 0).trans rfl; have hcz12_1 : w11.cell? ⟨gb214, 1, none⟩ = some (.string a0_1) := (blk_cell BK214.out 1).trans rfl; have hfz12_0 := blk_frozen BK214.out 0; have hfz12_1 := blk_frozen BK214.out 1) | ((with_reducible refine gate_callee (f := 85) rfl ?_); refine goesL_ (some 9) rfl rfl Tryd.func85 (by kernel_rfl) rfl #[.string a0_0] rfl tq10_8 ?_; (with_reducible refine (usherref6_Token.calls k a0_0 true _ A2.out).mono ?_); rintro e w' ⟨rfl, ⟨nd, rfl⟩⟩; refine ⟨_, rfl, ?_⟩) | ((with_reducible refine gate_callee (f := 86) rfl ?_); refine goesL_ (some 12) rfl rfl Tryd.func86 (by kernel_rfl) rfl #[.string a0_1] rfl tq10_8 ?_; (with_reducible refine (usherref6_Value.calls k a0_1 false _ A3.out).mono ?_); rintro e w' ⟨rfl, ⟨nd, rfl⟩⟩; refine ⟨_, rfl, ?_⟩) | ((with_reducible refine gate_callee (f := 87) rfl ?_); refine goesL_ (some 15) rfl rfl Tryd.func87 (by kernel_rfl) rfl #[.string a0_0] rfl tq10_8 ?_; (with_reducible refine (usherref8_small.calls k a0_0 t217 _ A4.out).mono ?_); rintro e w13 ⟨rfl, hb⟩; refine ⟨_, rfl, ?_⟩; replace BK214 := Aq10 (blk_below (g := gb214) (o := .cells #[.string a0_0, .string a0_1] 26 (0, 0)) (tq10_6 BK214.out) hb); replace HB := Aq10 (below_step (tq10_9 GE214.out) hb); (try clear hb); (try clear hb2); (try clear hk); (try clear hi)))
    go_ret
    exact ⟨tq10_4, (tq10_9 GE214.out)⟩
  ·replace c6 := Bool.eq_false_iff.mpr c6
   subst c6
   have H1 : (some false) = some r := by rw [if_neg (show ¬ (false = true) by decide)] at H; exact H
   clear H
   have H := H1
   clear H1
   obtain rfl := Option.some.inj H
   go_enter Tryd.func65, Tryd.ntmps65
   go_wp2_with (first | ((with_reducible refine gate_dst (N := 1) rfl ?_); refine box_event ?hg (N := 1) ?hd (cs := #[.string a0_0, .string a0_1]) (t := 26) ?hr ?_; (case hd => rfl); (case hg => rfl); (case hr => first | (go_simp; done) | (go_simp; rfl)); intro gb214 hg w14 hbox hb; have BK214 := Aq10 (hbox); have GW214 := Aq10 ((by rw [hg]; exact (below_size tq10_7) : w.heap.size ≤ gb214)); have GE214 := Aq10 ((by rw [hg]; exact (below_size tq10_7) : w.heap.size ≤ gb214)); replace HB := Aq10 (below_step tq10_7 hb); clear hb hbox hg; have hcz15_0 : w14.cell? ⟨gb214, 0, none⟩ = some (.string a0_0) := (blk_cell BK214.out 0).trans rfl; have hcz15_1 : w14.cell? ⟨gb214, 1, none⟩ = some (.string a0_1) := (blk_cell BK214.out 1).trans rfl; have hfz15_0 := blk_frozen BK214.out 0; have hfz15_1 := blk_frozen BK214.out 1) | ((with_reducible refine gate_callee (f := 85) rfl ?_); refine goesL_ (some 9) rfl rfl Tryd.func85 (by kernel_rfl) rfl #[.string a0_0] rfl tq10_8 ?_; (with_reducible refine (usherref6_Token.calls k a0_0 false _ A2.out).mono ?_); rintro e w' ⟨rfl, ⟨nd, rfl⟩⟩; refine ⟨_, rfl, ?_⟩) | ((with_reducible refine gate_callee (f := 86) rfl ?_); refine goesL_ (some 12) rfl rfl Tryd.func86 (by kernel_rfl) rfl #[.string a0_1] rfl tq10_8 ?_; (with_reducible refine (usherref6_Value.calls k a0_1 t216 _ A3.out).mono ?_); rintro e w' ⟨rfl, ⟨nd, rfl⟩⟩; refine ⟨_, rfl, ?_⟩) | ((with_reducible refine gate_callee (f := 87) rfl ?_); refine goesL_ (some 15) rfl rfl Tryd.func87 (by kernel_rfl) rfl #[.string a0_0] rfl tq10_8 ?_; (with_reducible refine (usherref8_small.calls k a0_0 t217 _ A4.out).mono ?_); rintro e w16 ⟨rfl, hb⟩; refine ⟨_, rfl, ?_⟩; replace BK214 := Aq10 (blk_below (g := gb214) (o := .cells #[.string a0_0, .string a0_1] 26 (0, 0)) (tq10_6 BK214.out) hb); replace HB := Aq10 (below_step (tq10_9 GE214.out) hb); (try clear hb); (try clear hb2); (try clear hk); (try clear hi)))
   go_ret
   exact ⟨tq10_4, (tq10_9 GE214.out)⟩
 ·rw [if_neg c5] at H
  have c5b0 : (t217.toList == ([99, 111, 110, 116, 101, 110, 116, 45, 108, 101, 110, 103, 116, 104] : List UInt8)) = false := beq_eq_false_iff_ne.mpr c5
  have c5b1 : (t217.toList != ([99, 111, 110, 116, 101, 110, 116, 45, 108, 101, 110, 103, 116, 104] : List UInt8)) = true := bne_iff_ne.mpr c5
  by_cases c17 : t217.toList = ([99, 111, 110, 110, 101, 99, 116, 105, 111, 110] : List UInt8)
  ·rw [if_pos c17] at H
   have c17b0 : (t217.toList == ([99, 111, 110, 110, 101, 99, 116, 105, 111, 110] : List UInt8)) = true := beq_iff_eq.mpr c17
   have c17b1 : (t217.toList != ([99, 111, 110, 110, 101, 99, 116, 105, 111, 110] : List UInt8)) = false := bne_eq_false_iff_eq.mpr c17
   clear c17
   by_cases c18 : t215 = true
   ·subst c18
    have H1 : (if t216 = true then (some (!true)) else (some false)) = some r := by rw [if_pos rfl] at H; exact H
    clear H
    have H := H1
    clear H1
    by_cases c19 : t216 = true
    ·subst c19
     have H1 : (some (!true)) = some r := by rw [if_pos rfl] at H; exact H
     clear H
     have H := H1
     clear H1
     obtain rfl := Option.some.inj H
     go_enter Tryd.func65, Tryd.ntmps65
     go_wp2_with (first | ((with_reducible refine gate_dst (N := 1) rfl ?_); refine box_event ?hg (N := 1) ?hd (cs := #[.string a0_0, .string a0_1]) (t := 26) ?hr ?_; (case hd => rfl); (case hg => rfl); (case hr => first | (go_simp; done) | (go_simp; rfl)); intro gb214 hg w20 hbox hb; have BK214 := Aq10 (hbox); have GW214 := Aq10 ((by rw [hg]; exact (below_size tq10_7) : w.heap.size ≤ gb214)); have GE214 := Aq10 ((by rw [hg]; exact (below_size tq10_7) : w.heap.size ≤ gb214)); replace HB := Aq10 (below_step tq10_7 hb); clear hb hbox hg; have hcz21_0 : w20.cell? ⟨gb214, 0, none⟩ = some (.string a0_0) := (blk_cell BK214.out 0).trans rfl; have hcz21_1 : w20.cell? ⟨gb214, 1, none⟩ = some (.string a0_1) := (blk_cell BK214.out 1).trans rfl; have hfz21_0 := blk_frozen BK214.out 0; have hfz21_1 := blk_frozen BK214.out 1) | ((with_reducible refine gate_callee (f := 85) rfl ?_); refine goesL_ (some 9) rfl rfl Tryd.func85 (by kernel_rfl) rfl #[.string a0_0] rfl tq10_8 ?_; (with_reducible refine (usherref6_Token.calls k a0_0 true _ A2.out).mono ?_); rintro e w' ⟨rfl, ⟨nd, rfl⟩⟩; refine ⟨_, rfl, ?_⟩) | ((with_reducible refine gate_callee (f := 86) rfl ?_); refine goesL_ (some 12) rfl rfl Tryd.func86 (by kernel_rfl) rfl #[.string a0_1] rfl tq10_8 ?_; (with_reducible refine (usherref6_Value.calls k a0_1 true _ A3.out).mono ?_); rintro e w' ⟨rfl, ⟨nd, rfl⟩⟩; refine ⟨_, rfl, ?_⟩) | ((with_reducible refine gate_callee (f := 87) rfl ?_); refine goesL_ (some 15) rfl rfl Tryd.func87 (by kernel_rfl) rfl #[.string a0_0] rfl tq10_8 ?_; (with_reducible refine (usherref8_small.calls k a0_0 t217 _ A4.out).mono ?_); rintro e w22 ⟨rfl, hb⟩; refine ⟨_, rfl, ?_⟩; replace BK214 := Aq10 (blk_below (g := gb214) (o := .cells #[.string a0_0, .string a0_1] 26 (0, 0)) (tq10_6 BK214.out) hb); replace HB := Aq10 (below_step (tq10_9 GE214.out) hb); (try clear hb); (try clear hb2); (try clear hk); (try clear hi)))
     go_ret
     exact ⟨tq10_4, (tq10_9 GE214.out)⟩
    ·replace c19 := Bool.eq_false_iff.mpr c19
     subst c19
     have H1 : (some false) = some r := by rw [if_neg (show ¬ (false = true) by decide)] at H; exact H
     clear H
     have H := H1
     clear H1
     obtain rfl := Option.some.inj H
     go_enter Tryd.func65, Tryd.ntmps65
     go_wp2_with (first | ((with_reducible refine gate_dst (N := 1) rfl ?_); refine box_event ?hg (N := 1) ?hd (cs := #[.string a0_0, .string a0_1]) (t := 26) ?hr ?_; (case hd => rfl); (case hg => rfl); (case hr => first | (go_simp; done) | (go_simp; rfl)); intro gb214 hg w23 hbox hb; have BK214 := Aq10 (hbox); have GW214 := Aq10 ((by rw [hg]; exact (below_size tq10_7) : w.heap.size ≤ gb214)); have GE214 := Aq10 ((by rw [hg]; exact (below_size tq10_7) : w.heap.size ≤ gb214)); replace HB := Aq10 (below_step tq10_7 hb); clear hb hbox hg; have hcz24_0 : w23.cell? ⟨gb214, 0, none⟩ = some (.string a0_0) := (blk_cell BK214.out 0).trans rfl; have hcz24_1 : w23.cell? ⟨gb214, 1, none⟩ = some (.string a0_1) := (blk_cell BK214.out 1).trans rfl; have hfz24_0 := blk_frozen BK214.out 0; have hfz24_1 := blk_frozen BK214.out 1) | ((with_reducible refine gate_callee (f := 85) rfl ?_); refine goesL_ (some 9) rfl rfl Tryd.func85 (by kernel_rfl) rfl #[.string a0_0] rfl tq10_8 ?_; (with_reducible refine (usherref6_Token.calls k a0_0 true _ A2.out).mono ?_); rintro e w' ⟨rfl, ⟨nd, rfl⟩⟩; refine ⟨_, rfl, ?_⟩) | ((with_reducible refine gate_callee (f := 86) rfl ?_); refine goesL_ (some 12) rfl rfl Tryd.func86 (by kernel_rfl) rfl #[.string a0_1] rfl tq10_8 ?_; (with_reducible refine (usherref6_Value.calls k a0_1 false _ A3.out).mono ?_); rintro e w' ⟨rfl, ⟨nd, rfl⟩⟩; refine ⟨_, rfl, ?_⟩) | ((with_reducible refine gate_callee (f := 87) rfl ?_); refine goesL_ (some 15) rfl rfl Tryd.func87 (by kernel_rfl) rfl #[.string a0_0] rfl tq10_8 ?_; (with_reducible refine (usherref8_small.calls k a0_0 t217 _ A4.out).mono ?_); rintro e w25 ⟨rfl, hb⟩; refine ⟨_, rfl, ?_⟩; replace BK214 := Aq10 (blk_below (g := gb214) (o := .cells #[.string a0_0, .string a0_1] 26 (0, 0)) (tq10_6 BK214.out) hb); replace HB := Aq10 (below_step (tq10_9 GE214.out) hb); (try clear hb); (try clear hb2); (try clear hk); (try clear hi)))
     go_ret
     exact ⟨tq10_4, (tq10_9 GE214.out)⟩
   ·replace c18 := Bool.eq_false_iff.mpr c18
    subst c18
    have H1 : (some false) = some r := by rw [if_neg (show ¬ (false = true) by decide)] at H; exact H
    clear H
    have H := H1
    clear H1
    obtain rfl := Option.some.inj H
    go_enter Tryd.func65, Tryd.ntmps65
    go_wp2_with (first | ((with_reducible refine gate_dst (N := 1) rfl ?_); refine box_event ?hg (N := 1) ?hd (cs := #[.string a0_0, .string a0_1]) (t := 26) ?hr ?_; (case hd => rfl); (case hg => rfl); (case hr => first | (go_simp; done) | (go_simp; rfl)); intro gb214 hg w26 hbox hb; have BK214 := Aq10 (hbox); have GW214 := Aq10 ((by rw [hg]; exact (below_size tq10_7) : w.heap.size ≤ gb214)); have GE214 := Aq10 ((by rw [hg]; exact (below_size tq10_7) : w.heap.size ≤ gb214)); replace HB := Aq10 (below_step tq10_7 hb); clear hb hbox hg; have hcz27_0 : w26.cell? ⟨gb214, 0, none⟩ = some (.string a0_0) := (blk_cell BK214.out 0).trans rfl; have hcz27_1 : w26.cell? ⟨gb214, 1, none⟩ = some (.string a0_1) := (blk_cell BK214.out 1).trans rfl; have hfz27_0 := blk_frozen BK214.out 0; have hfz27_1 := blk_frozen BK214.out 1) | ((with_reducible refine gate_callee (f := 85) rfl ?_); refine goesL_ (some 9) rfl rfl Tryd.func85 (by kernel_rfl) rfl #[.string a0_0] rfl tq10_8 ?_; (with_reducible refine (usherref6_Token.calls k a0_0 false _ A2.out).mono ?_); rintro e w' ⟨rfl, ⟨nd, rfl⟩⟩; refine ⟨_, rfl, ?_⟩) | ((with_reducible refine gate_callee (f := 86) rfl ?_); refine goesL_ (some 12) rfl rfl Tryd.func86 (by kernel_rfl) rfl #[.string a0_1] rfl tq10_8 ?_; (with_reducible refine (usherref6_Value.calls k a0_1 t216 _ A3.out).mono ?_); rintro e w' ⟨rfl, ⟨nd, rfl⟩⟩; refine ⟨_, rfl, ?_⟩) | ((with_reducible refine gate_callee (f := 87) rfl ?_); refine goesL_ (some 15) rfl rfl Tryd.func87 (by kernel_rfl) rfl #[.string a0_0] rfl tq10_8 ?_; (with_reducible refine (usherref8_small.calls k a0_0 t217 _ A4.out).mono ?_); rintro e w28 ⟨rfl, hb⟩; refine ⟨_, rfl, ?_⟩; replace BK214 := Aq10 (blk_below (g := gb214) (o := .cells #[.string a0_0, .string a0_1] 26 (0, 0)) (tq10_6 BK214.out) hb); replace HB := Aq10 (below_step (tq10_9 GE214.out) hb); (try clear hb); (try clear hb2); (try clear hk); (try clear hi)))
    go_ret
    exact ⟨tq10_4, (tq10_9 GE214.out)⟩
  ·rw [if_neg c17] at H
   have c17b0 : (t217.toList == ([99, 111, 110, 110, 101, 99, 116, 105, 111, 110] : List UInt8)) = false := beq_eq_false_iff_ne.mpr c17
   have c17b1 : (t217.toList != ([99, 111, 110, 110, 101, 99, 116, 105, 111, 110] : List UInt8)) = true := bne_iff_ne.mpr c17
   by_cases c29 : t215 = true
   ·subst c29
    have H1 : (if t216 = true then (some (!(t217.toList == ([116, 114, 97, 110, 115, 102, 101, 114, 45, 101, 110, 99, 111, 100, 105, 110, 103] : List UInt8)))) else (some false)) = some r := by rw [if_pos rfl] at H; exact H
    clear H
    have H := H1
    clear H1
    by_cases c30 : t216 = true
    ·subst c30
     have H1 : (some (!(t217.toList == ([116, 114, 97, 110, 115, 102, 101, 114, 45, 101, 110, 99, 111, 100, 105, 110, 103] : List UInt8)))) = some r := by rw [if_pos rfl] at H; exact H
     clear H
     have H := H1
     clear H1
     obtain rfl := Option.some.inj H
     go_enter Tryd.func65, Tryd.ntmps65
     go_wp2_with (first | ((with_reducible refine gate_dst (N := 1) rfl ?_); refine box_event ?hg (N := 1) ?hd (cs := #[.string a0_0, .string a0_1]) (t := 26) ?hr ?_; (case hd => rfl); (case hg => rfl); (case hr => first | (go_simp; done) | (go_simp; rfl)); intro gb214 hg w31 hbox hb; have BK214 := Aq10 (hbox); have GW214 := Aq10 ((by rw [hg]; exact (below_size tq10_7) : w.heap.size ≤ gb214)); have GE214 := Aq10 ((by rw [hg]; exact (below_size tq10_7) : w.heap.size ≤ gb214)); replace HB := Aq10 (below_step tq10_7 hb); clear hb hbox hg; have hcz32_0 : w31.cell? ⟨gb214, 0, none⟩ = some (.string a0_0) := (blk_cell BK214.out 0).trans rfl; have hcz32_1 : w31.cell? ⟨gb214, 1, none⟩ = some (.string a0_1) := (blk_cell BK214.out 1).trans rfl; have hfz32_0 := blk_frozen BK214.out 0; have hfz32_1 := blk_frozen BK214.out 1) | ((with_reducible refine gate_callee (f := 85) rfl ?_); refine goesL_ (some 9) rfl rfl Tryd.func85 (by kernel_rfl) rfl #[.string a0_0] rfl tq10_8 ?_; (with_reducible refine (usherref6_Token.calls k a0_0 true _ A2.out).mono ?_); rintro e w' ⟨rfl, ⟨nd, rfl⟩⟩; refine ⟨_, rfl, ?_⟩) | ((with_reducible refine gate_callee (f := 86) rfl ?_); refine goesL_ (some 12) rfl rfl Tryd.func86 (by kernel_rfl) rfl #[.string a0_1] rfl tq10_8 ?_; (with_reducible refine (usherref6_Value.calls k a0_1 true _ A3.out).mono ?_); rintro e w' ⟨rfl, ⟨nd, rfl⟩⟩; refine ⟨_, rfl, ?_⟩) | ((with_reducible refine gate_callee (f := 87) rfl ?_); refine goesL_ (some 15) rfl rfl Tryd.func87 (by kernel_rfl) rfl #[.string a0_0] rfl tq10_8 ?_; (with_reducible refine (usherref8_small.calls k a0_0 t217 _ A4.out).mono ?_); rintro e w33 ⟨rfl, hb⟩; refine ⟨_, rfl, ?_⟩; replace BK214 := Aq10 (blk_below (g := gb214) (o := .cells #[.string a0_0, .string a0_1] 26 (0, 0)) (tq10_6 BK214.out) hb); replace HB := Aq10 (below_step (tq10_9 GE214.out) hb); (try clear hb); (try clear hb2); (try clear hk); (try clear hi)))
     go_ret
     exact ⟨tq10_4, (tq10_9 GE214.out)⟩
    ·replace c30 := Bool.eq_false_iff.mpr c30
     subst c30
     have H1 : (some false) = some r := by rw [if_neg (show ¬ (false = true) by decide)] at H; exact H
     clear H
     have H := H1
     clear H1
     obtain rfl := Option.some.inj H
     go_enter Tryd.func65, Tryd.ntmps65
     go_wp2_with (first | ((with_reducible refine gate_dst (N := 1) rfl ?_); refine box_event ?hg (N := 1) ?hd (cs := #[.string a0_0, .string a0_1]) (t := 26) ?hr ?_; (case hd => rfl); (case hg => rfl); (case hr => first | (go_simp; done) | (go_simp; rfl)); intro gb214 hg w34 hbox hb; have BK214 := Aq10 (hbox); have GW214 := Aq10 ((by rw [hg]; exact (below_size tq10_7) : w.heap.size ≤ gb214)); have GE214 := Aq10 ((by rw [hg]; exact (below_size tq10_7) : w.heap.size ≤ gb214)); replace HB := Aq10 (below_step tq10_7 hb); clear hb hbox hg; have hcz35_0 : w34.cell? ⟨gb214, 0, none⟩ = some (.string a0_0) := (blk_cell BK214.out 0).trans rfl; have hcz35_1 : w34.cell? ⟨gb214, 1, none⟩ = some (.string a0_1) := (blk_cell BK214.out 1).trans rfl; have hfz35_0 := blk_frozen BK214.out 0; have hfz35_1 := blk_frozen BK214.out 1) | ((with_reducible refine gate_callee (f := 85) rfl ?_); refine goesL_ (some 9) rfl rfl Tryd.func85 (by kernel_rfl) rfl #[.string a0_0] rfl tq10_8 ?_; (with_reducible refine (usherref6_Token.calls k a0_0 true _ A2.out).mono ?_); rintro e w' ⟨rfl, ⟨nd, rfl⟩⟩; refine ⟨_, rfl, ?_⟩) | ((with_reducible refine gate_callee (f := 86) rfl ?_); refine goesL_ (some 12) rfl rfl Tryd.func86 (by kernel_rfl) rfl #[.string a0_1] rfl tq10_8 ?_; (with_reducible refine (usherref6_Value.calls k a0_1 false _ A3.out).mono ?_); rintro e w' ⟨rfl, ⟨nd, rfl⟩⟩; refine ⟨_, rfl, ?_⟩) | ((with_reducible refine gate_callee (f := 87) rfl ?_); refine goesL_ (some 15) rfl rfl Tryd.func87 (by kernel_rfl) rfl #[.string a0_0] rfl tq10_8 ?_; (with_reducible refine (usherref8_small.calls k a0_0 t217 _ A4.out).mono ?_); rintro e w36 ⟨rfl, hb⟩; refine ⟨_, rfl, ?_⟩; replace BK214 := Aq10 (blk_below (g := gb214) (o := .cells #[.string a0_0, .string a0_1] 26 (0, 0)) (tq10_6 BK214.out) hb); replace HB := Aq10 (below_step (tq10_9 GE214.out) hb); (try clear hb); (try clear hb2); (try clear hk); (try clear hi)))
     go_ret
     exact ⟨tq10_4, (tq10_9 GE214.out)⟩
   ·replace c29 := Bool.eq_false_iff.mpr c29
    subst c29
    have H1 : (some false) = some r := by rw [if_neg (show ¬ (false = true) by decide)] at H; exact H
    clear H
    have H := H1
    clear H1
    obtain rfl := Option.some.inj H
    go_enter Tryd.func65, Tryd.ntmps65
    go_wp2_with (first | ((with_reducible refine gate_dst (N := 1) rfl ?_); refine box_event ?hg (N := 1) ?hd (cs := #[.string a0_0, .string a0_1]) (t := 26) ?hr ?_; (case hd => rfl); (case hg => rfl); (case hr => first | (go_simp; done) | (go_simp; rfl)); intro gb214 hg w37 hbox hb; have BK214 := Aq10 (hbox); have GW214 := Aq10 ((by rw [hg]; exact (below_size tq10_7) : w.heap.size ≤ gb214)); have GE214 := Aq10 ((by rw [hg]; exact (below_size tq10_7) : w.heap.size ≤ gb214)); replace HB := Aq10 (below_step tq10_7 hb); clear hb hbox hg; have hcz38_0 : w37.cell? ⟨gb214, 0, none⟩ = some (.string a0_0) := (blk_cell BK214.out 0).trans rfl; have hcz38_1 : w37.cell? ⟨gb214, 1, none⟩ = some (.string a0_1) := (blk_cell BK214.out 1).trans rfl; have hfz38_0 := blk_frozen BK214.out 0; have hfz38_1 := blk_frozen BK214.out 1) | ((with_reducible refine gate_callee (f := 85) rfl ?_); refine goesL_ (some 9) rfl rfl Tryd.func85 (by kernel_rfl) rfl #[.string a0_0] rfl tq10_8 ?_; (with_reducible refine (usherref6_Token.calls k a0_0 false _ A2.out).mono ?_); rintro e w' ⟨rfl, ⟨nd, rfl⟩⟩; refine ⟨_, rfl, ?_⟩) | ((with_reducible refine gate_callee (f := 86) rfl ?_); refine goesL_ (some 12) rfl rfl Tryd.func86 (by kernel_rfl) rfl #[.string a0_1] rfl tq10_8 ?_; (with_reducible refine (usherref6_Value.calls k a0_1 t216 _ A3.out).mono ?_); rintro e w' ⟨rfl, ⟨nd, rfl⟩⟩; refine ⟨_, rfl, ?_⟩) | ((with_reducible refine gate_callee (f := 87) rfl ?_); refine goesL_ (some 15) rfl rfl Tryd.func87 (by kernel_rfl) rfl #[.string a0_0] rfl tq10_8 ?_; (with_reducible refine (usherref8_small.calls k a0_0 t217 _ A4.out).mono ?_); rintro e w39 ⟨rfl, hb⟩; refine ⟨_, rfl, ?_⟩; replace BK214 := Aq10 (blk_below (g := gb214) (o := .cells #[.string a0_0, .string a0_1] 26 (0, 0)) (tq10_6 BK214.out) hb); replace HB := Aq10 (below_step (tq10_9 GE214.out) hb); (try clear hb); (try clear hb2); (try clear hk); (try clear hi)))
    go_ret
    exact ⟨tq10_4, (tq10_9 GE214.out)⟩

/-! ### usherref8_mayBe: function 42 -/
def usherref8_mayBe.l0 : Nat → Int → Int → List (S26) → ByteArray → Bool → Option (Bool)
 | 0, _, _, _, _, _ => none
 | k + 1, x4, x219000, x219001, x219002, x219003 => if x4 < (x219001.length : Int) then (if 0 ≤ x4 then ((usherref8_fieldMayBe.f k ((rd_T26 x219001 x4).f0) ((rd_T26 x219001 x4).f1)).bind fun t221 => (if t221 = true then (usherref8_mayBe.l0 k (wrap64 (x4 + 1)) x219000 x219001 x219002 x219003) else (some false))) else (none)) else (some true)
def usherref8_mayBe.f (k : Nat) (a0_0 : Int) (l0_1 : List (S26)) (a0_2 : ByteArray) (a0_3 : Bool) : Option (Bool) := (usherref8_Reason.f a0_0).bind fun t219 => (if t219.toList = ([] : List UInt8) then (some false) else (usherref8_mayBe.l0 k 0 a0_0 l0_1 a0_2 a0_3))
theorem usherref8_mayBe.mono_l : ∀ k, (∀ y0 y1 y2 y3 y4, LeO (usherref8_mayBe.l0 k y0 y1 y2 y3 y4) (usherref8_mayBe.l0 (k + 1) y0 y1 y2 y3 y4))
 | 0 => fun _ _ _ _ _ r h => by simp [usherref8_mayBe.l0] at h
 | k + 1 => by
  have ih0 := usherref8_mayBe.mono_l k
  ·intro y0 y1 y2 y3 y4
   unfold usherref8_mayBe.l0
   repeat' first
   | (with_reducible exact ih0 _ _ _ _ _)
   | (with_reducible exact usherref8_fieldMayBe.mono _ _ _)
   | (with_reducible exact LeO.refl _)
   | (with_reducible exact LeO.none _)
   | (with_reducible refine LeO.ite ?_ ?_)
   | (with_reducible refine LeO.bind ?_ (fun _ => ?_))
   | exact ih0 _ _ _ _ _
   | exact usherref8_fieldMayBe.mono _ _ _
   | exact LeO.none _
   | refine LeO.ite ?_ ?_
   | refine LeO.bind ?_ (fun _ => ?_)
theorem usherref8_mayBe.mono : ∀ a0 a1 a2 a3 k, LeO (usherref8_mayBe.f k a0 a1 a2 a3) (usherref8_mayBe.f (k + 1) a0 a1 a2 a3) := by
 intro a0 a1 a2 a3 k
 have ih0 := usherref8_mayBe.mono_l k
 unfold usherref8_mayBe.f
 repeat' first
   | (with_reducible exact ih0 _ _ _ _ _)
   | (with_reducible exact usherref8_fieldMayBe.mono _ _ _)
   | (with_reducible exact LeO.refl _)
   | (with_reducible exact LeO.none _)
   | (with_reducible refine LeO.ite ?_ ?_)
   | (with_reducible refine LeO.bind ?_ (fun _ => ?_))
   | exact ih0 _ _ _ _ _
   | exact usherref8_fieldMayBe.mono _ _ _
   | exact LeO.none _
   | refine LeO.ite ?_ ?_
   | refine LeO.bind ?_ (fun _ => ?_)
set_option maxHeartbeats 8000000 in
set_option maxRecDepth 100000 in
theorem usherref8_mayBe.calls (k : Nat) (a0_0 : Int) (A0_1 : Option Addr) (c0_1 : Nat) (l0_1 : List (S26)) (a0_2 : ByteArray) (a0_3 : Bool) (r : Bool) (w : World) (hr0_1 : Kd.C k26 w A0_1 l0_1.length l0_1) (hc0_1 : l0_1.length ≤ c0_1) (h : usherref8_mayBe.f k a0_0 l0_1 a0_2 a0_3 = some r) :
  Calls Tryd.prog 42 #[.agg #[.int .i64 a0_0, .slice A0_1 l0_1.length c0_1, .string a0_2, .bool a0_3]] w fun e w' => e = .returned (.bool r) ∧ Below w.heap.size w w' := by
 have hu24 := Tryd.underlying24
 have hu26 := Tryd.underlying26
 have HR0_1 := Aq10 hr0_1
 have HC0_1 := Aq10 hc0_1
 clear hr0_1 hc0_1
 have HB := Aq10 (Below.refl w.heap.size w)
 have H : ((usherref8_Reason.f a0_0).bind fun t219 => (if t219.toList = ([] : List UInt8) then (some false) else (usherref8_mayBe.l0 k 0 a0_0 l0_1 a0_2 a0_3))) = some r := h
 clear h
 replace H := Option.bind_eq_some_iff.mp H
 obtain ⟨t219, A20, H⟩ := H
 replace H : (if t219.toList = ([] : List UInt8) then (some false) else (usherref8_mayBe.l0 k 0 a0_0 l0_1 a0_2 a0_3)) = some r := H
 have A2 := Aq10 A20
 clear A20
 by_cases c3 : t219.toList = ([] : List UInt8)
 ·rw [if_pos c3] at H
  have c3b0 : (t219.toList == ([] : List UInt8)) = true := beq_iff_eq.mpr c3
  have c3b1 : (t219.toList != ([] : List UInt8)) = false := bne_eq_false_iff_eq.mpr c3
  clear c3
  obtain rfl := Option.some.inj H
  go_enter Tryd.func42, Tryd.ntmps42
  go_wp2_with (first | ((with_reducible refine gate_dst (N := 1) rfl ?_); refine box_event ?hg (N := 1) ?hd (cs := #[.int .i64 a0_0, .slice A0_1 l0_1.length c0_1, .string a0_2, .bool a0_3]) (t := 24) ?hr ?_; (case hd => rfl); (case hg => rfl); (case hr => first | (go_simp; done) | (go_simp; rfl)); intro gb218 hg w4 hbox hb; have BK218 := Aq10 (hbox); have GW218 := Aq10 ((by rw [hg]; exact (below_size tq10_7) : w.heap.size ≤ gb218)); have GE218 := Aq10 ((by rw [hg]; exact (below_size tq10_7) : w.heap.size ≤ gb218)); replace HB := Aq10 (below_step tq10_7 hb); clear hb hbox hg; have hcz5_0 : w4.cell? ⟨gb218, 0, none⟩ = some (.int .i64 a0_0) := (blk_cell BK218.out 0).trans rfl; have hcz5_1 : w4.cell? ⟨gb218, 1, none⟩ = some (.slice A0_1 l0_1.length c0_1) := (blk_cell BK218.out 1).trans rfl; have hcz5_2 : w4.cell? ⟨gb218, 2, none⟩ = some (.string a0_2) := (blk_cell BK218.out 2).trans rfl; have hcz5_3 : w4.cell? ⟨gb218, 3, none⟩ = some (.bool a0_3) := (blk_cell BK218.out 3).trans rfl; have hfz5_0 := blk_frozen BK218.out 0; have hfz5_1 := blk_frozen BK218.out 1; have hfz5_2 := blk_frozen BK218.out 2; have hfz5_3 := blk_frozen BK218.out 3) | ((with_reducible refine gate_callee (f := 64) rfl ?_); refine goesL_ (some 8) rfl rfl Tryd.func64 (by kernel_rfl) rfl #[.int .i64 a0_0] rfl tq10_8 ?_; (with_reducible refine (usherref8_Reason.calls a0_0 t219 _ A2.out).mono ?_); rintro e w' ⟨rfl, ⟨nd, rfl⟩⟩; refine ⟨_, rfl, ?_⟩))
  go_ret
  exact ⟨tq10_4, (tq10_9 GE218.out)⟩
 ·rw [if_neg c3] at H
  have c3b0 : (t219.toList == ([] : List UInt8)) = false := beq_eq_false_iff_ne.mpr c3
  have c3b1 : (t219.toList != ([] : List UInt8)) = true := bne_iff_ne.mpr c3
  have H' := Aq10 H
  clear H
  go_enter Tryd.func42, Tryd.ntmps42
  go_wp2_with (first | ((with_reducible refine gate_dst (N := 1) rfl ?_); refine box_event ?hg (N := 1) ?hd (cs := #[.int .i64 a0_0, .slice A0_1 l0_1.length c0_1, .string a0_2, .bool a0_3]) (t := 24) ?hr ?_; (case hd => rfl); (case hg => rfl); (case hr => first | (go_simp; done) | (go_simp; rfl)); intro gb218 hg w6 hbox hb; have BK218 := Aq10 (hbox); have GW218 := Aq10 ((by rw [hg]; exact (below_size tq10_7) : w.heap.size ≤ gb218)); have GE218 := Aq10 ((by rw [hg]; exact (below_size tq10_7) : w.heap.size ≤ gb218)); replace HB := Aq10 (below_step tq10_7 hb); clear hb hbox hg; have hcz7_0 : w6.cell? ⟨gb218, 0, none⟩ = some (.int .i64 a0_0) := (blk_cell BK218.out 0).trans rfl; have hcz7_1 : w6.cell? ⟨gb218, 1, none⟩ = some (.slice A0_1 l0_1.length c0_1) := (blk_cell BK218.out 1).trans rfl; have hcz7_2 : w6.cell? ⟨gb218, 2, none⟩ = some (.string a0_2) := (blk_cell BK218.out 2).trans rfl; have hcz7_3 : w6.cell? ⟨gb218, 3, none⟩ = some (.bool a0_3) := (blk_cell BK218.out 3).trans rfl; have hfz7_0 := blk_frozen BK218.out 0; have hfz7_1 := blk_frozen BK218.out 1; have hfz7_2 := blk_frozen BK218.out 2; have hfz7_3 := blk_frozen BK218.out 3) | ((with_reducible refine gate_callee (f := 64) rfl ?_); refine goesL_ (some 8) rfl rfl Tryd.func64 (by kernel_rfl) rfl #[.int .i64 a0_0] rfl tq10_8 ?_; (with_reducible refine (usherref8_Reason.calls a0_0 t219 _ A2.out).mono ?_); rintro e w' ⟨rfl, ⟨nd, rfl⟩⟩; refine ⟨_, rfl, ?_⟩))
  go_loopg [4] k (fun kq v4 w' => ∃ (x4_1 : Int), v4 = .int .i64 x4_1 ∧ Aside0 (usherref8_mayBe.l0 kq x4_1 a0_0 l0_1 a0_2 a0_3 = some r) ∧ Aside0 (kq ≤ k) ∧ Aside0 (w'.heap[gb218]? = some (.cells #[.int .i64 a0_0, (.slice A0_1 l0_1.length c0_1), .string a0_2, .bool a0_3] 24 (0, 0))) ∧ Aside0 (Below w.heap.size w w'))
  case atStart => exact ⟨(0), tq10_0, H', ⟨Nat.le_refl _⟩, ⟨(tq10_6 BK218.out)⟩, ⟨(tq10_9 GE218.out)⟩⟩
  case round =>
   clear H'
   try clear p2
   try clear c3
   try clear c3b0
   try clear c3b1
   try clear c4
   try clear c6
   try clear hcz5_0
   try clear hcz5_1
   try clear hcz5_2
   try clear hcz5_3
   try clear hcz7_0
   try clear hcz7_1
   try clear hcz7_2
   try clear hcz7_3
   try clear hfz5_0
   try clear hfz5_1
   try clear hfz5_2
   try clear hfz5_3
   try clear hfz7_0
   try clear hfz7_1
   try clear hfz7_2
   try clear hfz7_3
   obtain ⟨x4_1, rfl, HA, HK1, BK218, HB⟩ := hrel
   cases gk with
   | zero => exact absurd HA.out (by simp [usherref8_mayBe.l0])
   | succ k1 =>
    have H := HA.out
    clear HA
    simp only [usherref8_mayBe.l0] at H
    by_cases c8 : x4_1 < (l0_1.length : Int)
    ·rw [if_pos c8] at H
     have c8b0 : decide (x4_1 < (l0_1.length : Int)) = true := decide_eq_true c8
     clear c8
     by_cases c9 : 0 ≤ x4_1
     ·rw [if_pos c9] at H
      have c9b0 : decide (0 ≤ x4_1) = true := decide_eq_true c9
      clear c9
      replace H := Option.bind_eq_some_iff.mp H
      obtain ⟨t221, A100, H⟩ := H
      replace H : (if t221 = true then (usherref8_mayBe.l0 k1 (wrap64 (x4_1 + 1)) a0_0 l0_1 a0_2 a0_3) else (some false)) = some r := H
      have A10 := Aq10 A100
      clear A100
      by_cases c11 : t221 = true
      ·subst c11
       have H1 : (usherref8_mayBe.l0 k1 (wrap64 (x4_1 + 1)) a0_0 l0_1 a0_2 a0_3) = some r := by rw [if_pos rfl] at H; exact H
       clear H
       have H := H1
       clear H1
       have H' := Aq10 H
       clear H
       have hcz12_0 : wr.cell? ⟨gb218, 0, none⟩ = some (.int .i64 a0_0) := (blk_cell BK218.out 0).trans rfl
       have hcz12_1 : wr.cell? ⟨gb218, 1, none⟩ = some (.slice A0_1 l0_1.length c0_1) := (blk_cell BK218.out 1).trans rfl
       have hcz12_2 : wr.cell? ⟨gb218, 2, none⟩ = some (.string a0_2) := (blk_cell BK218.out 2).trans rfl
       have hcz12_3 : wr.cell? ⟨gb218, 3, none⟩ = some (.bool a0_3) := (blk_cell BK218.out 3).trans rfl
       have hfz12_0 := blk_frozen BK218.out 0
       have hfz12_1 := blk_frozen BK218.out 1
       have hfz12_2 := blk_frozen BK218.out 2
       have hfz12_3 := blk_frozen BK218.out 3
       have p220 : 0 ≤ (x4_1 : Int) := of_decide_eq_true tq10_1
       have q220 : x4_1 < (l0_1.length : Int) := of_decide_eq_true tq10_1
       obtain ⟨ad220, e220, hx220_0, hx220_1⟩ := at_T26 HR0_1.out x4_1 p220 q220
       cases e220
       replace hx220_0 := (HB.out.cell (World.block_lt_of_cell? w _ hx220_0)).trans hx220_0
       replace hx220_1 := (HB.out.cell (World.block_lt_of_cell? w _ hx220_1)).trans hx220_1
       replace p220 := eq_true p220
       replace q220 := eq_true q220
       go_wp2_with (first | ((with_reducible refine gate_callee (f := 65) rfl ?_); refine goesL_ (some 23) rfl rfl Tryd.func65 (by kernel_rfl) rfl #[.agg #[.string ((rd_T26 l0_1 x4_1).f0), .string ((rd_T26 l0_1 x4_1).f1)]] rfl tq10_8 ?_; (with_reducible refine (usherref8_fieldMayBe.calls k1 ((rd_T26 l0_1 x4_1).f0) ((rd_T26 l0_1 x4_1).f1) true _ A10.out).mono ?_); rintro e w13 ⟨rfl, hb⟩; refine ⟨_, rfl, ?_⟩; replace BK218 := Aq10 (blk_below (g := gb218) (o := .cells #[.int .i64 a0_0, .slice (some ad220) l0_1.length c0_1, .string a0_2, .bool a0_3] 24 (0, 0)) (tq10_6 BK218.out) hb); replace HB := Aq10 (below_step (tq10_9 GE218.out) hb); (try clear hb); (try clear hb2); (try clear hk); (try clear hi)))
       go_roundg k1
       case measure => have := HK1.out; omega
       case rel => exact ⟨(wrap64 (x4_1 + 1)), tq10_0, H', ⟨by have := HK1.out; omega⟩, ⟨(tq10_6 BK218.out)⟩, ⟨(tq10_9 GE218.out)⟩⟩
      ·replace c11 := Bool.eq_false_iff.mpr c11
       subst c11
       have H1 : (some false) = some r := by rw [if_neg (show ¬ (false = true) by decide)] at H; exact H
       clear H
       have H := H1
       clear H1
       obtain rfl := Option.some.inj H
       have hcz14_0 : wr.cell? ⟨gb218, 0, none⟩ = some (.int .i64 a0_0) := (blk_cell BK218.out 0).trans rfl
       have hcz14_1 : wr.cell? ⟨gb218, 1, none⟩ = some (.slice A0_1 l0_1.length c0_1) := (blk_cell BK218.out 1).trans rfl
       have hcz14_2 : wr.cell? ⟨gb218, 2, none⟩ = some (.string a0_2) := (blk_cell BK218.out 2).trans rfl
       have hcz14_3 : wr.cell? ⟨gb218, 3, none⟩ = some (.bool a0_3) := (blk_cell BK218.out 3).trans rfl
       have hfz14_0 := blk_frozen BK218.out 0
       have hfz14_1 := blk_frozen BK218.out 1
       have hfz14_2 := blk_frozen BK218.out 2
       have hfz14_3 := blk_frozen BK218.out 3
       have p220 : 0 ≤ (x4_1 : Int) := of_decide_eq_true tq10_1
       have q220 : x4_1 < (l0_1.length : Int) := of_decide_eq_true tq10_1
       obtain ⟨ad220, e220, hx220_0, hx220_1⟩ := at_T26 HR0_1.out x4_1 p220 q220
       cases e220
       replace hx220_0 := (HB.out.cell (World.block_lt_of_cell? w _ hx220_0)).trans hx220_0
       replace hx220_1 := (HB.out.cell (World.block_lt_of_cell? w _ hx220_1)).trans hx220_1
       replace p220 := eq_true p220
       replace q220 := eq_true q220
       go_wp2_with (first | ((with_reducible refine gate_callee (f := 65) rfl ?_); refine goesL_ (some 23) rfl rfl Tryd.func65 (by kernel_rfl) rfl #[.agg #[.string ((rd_T26 l0_1 x4_1).f0), .string ((rd_T26 l0_1 x4_1).f1)]] rfl tq10_8 ?_; (with_reducible refine (usherref8_fieldMayBe.calls k1 ((rd_T26 l0_1 x4_1).f0) ((rd_T26 l0_1 x4_1).f1) false _ A10.out).mono ?_); rintro e w15 ⟨rfl, hb⟩; refine ⟨_, rfl, ?_⟩; replace BK218 := Aq10 (blk_below (g := gb218) (o := .cells #[.int .i64 a0_0, .slice (some ad220) l0_1.length c0_1, .string a0_2, .bool a0_3] 24 (0, 0)) (tq10_6 BK218.out) hb); replace HB := Aq10 (below_step (tq10_9 GE218.out) hb); (try clear hb); (try clear hb2); (try clear hk); (try clear hi)))
       go_ret
       exact ⟨tq10_4, (tq10_9 GE218.out)⟩
     ·rw [if_neg c9] at H
      exact absurd H (by simp)
    ·rw [if_neg c8] at H
     have c8b0 : decide (x4_1 < (l0_1.length : Int)) = false := decide_eq_false c8
     clear c8
     obtain rfl := Option.some.inj H
     have hcz16_0 : wr.cell? ⟨gb218, 0, none⟩ = some (.int .i64 a0_0) := (blk_cell BK218.out 0).trans rfl
     have hcz16_1 : wr.cell? ⟨gb218, 1, none⟩ = some (.slice A0_1 l0_1.length c0_1) := (blk_cell BK218.out 1).trans rfl
     have hcz16_2 : wr.cell? ⟨gb218, 2, none⟩ = some (.string a0_2) := (blk_cell BK218.out 2).trans rfl
     have hcz16_3 : wr.cell? ⟨gb218, 3, none⟩ = some (.bool a0_3) := (blk_cell BK218.out 3).trans rfl
     have hfz16_0 := blk_frozen BK218.out 0
     have hfz16_1 := blk_frozen BK218.out 1
     have hfz16_2 := blk_frozen BK218.out 2
     have hfz16_3 := blk_frozen BK218.out 3
     go_wp2
     go_ret
     exact ⟨tq10_4, (tq10_9 GE218.out)⟩

end Go.Proofs.YtdlfdmbaejhaaaaDoor.Q
