/- The plain Lean functions that calls of the program answer, and proofs that they do. Printed by program out of the translation; Lean checks it. -/
import Derived.Test.YtdlfdmbaejhaaaaDoorQ0
import Derived.Test.YtdlfdmbaejhaaaaDoorIs
namespace Go.Proofs.YtdlfdmbaejhaaaaDoor.Q
open Go.RowKit Go.Proofs.YtdlfdmbaejhaaaaDoorW.PrintWords Go.Proofs.YtdlfdmbaejhaaaaDoorW.PrintLast Go.Proofs.YtdlfdmbaejhaaaaDoorW.PrintMore
attribute [local go_sem] max2_int min2_int max_two min_two max_three min_three max_four min_four   -- for this text's walks alone
set_option linter.unusedVariables false
set_option linter.unusedSimpArgs false

-- NOT PRINTED: function 82 (abi_NoEscape)

-- NOT PRINTED: function 61 (strings_Builder_copyCheck)

-- NOT PRINTED: function 98 (strconv_small)

-- NOT PRINTED: function 112 (strconv_log10Pow2)

-- NOT PRINTED: function 113 (bits_Len64)

-- NOT PRINTED: function 114 (strconv_bool2_int)

-- NOT PRINTED: function 99 (strconv_numDigits)

-- NOT PRINTED: function 100 (strconv_formatBase10)

-- NOT PRINTED: function 115 (strconv_isPowerOfTwo)

-- NOT PRINTED: function 120 (bits_TrailingZeros32)

-- NOT PRINTED: function 121 (bits_TrailingZeros64)

-- NOT PRINTED: function 116 (bits_TrailingZeros)

-- NOT PRINTED: function 101 (strconv_formatBits)

-- NOT PRINTED: function 83 (strconv_FormatInt)

-- NOT PRINTED: function 62 (strconv_Itoa_62)

theorem Aq2 {p : Prop} (h : p) : Aside0 p := ⟨h⟩
theorem tq2_0 {P : Prop} (h : P := by first | rfl | (simp; done) | (simp [*]; done)) : P := h
theorem tq2_1 {P : Prop} (h : P := by first | (with_reducible assumption) | assumption) : P := h
theorem tq2_2 {P : Prop} (h : P := by repeat (first | exact Drawn0.refl _ | apply Drawn0.step)) : P := h
theorem tq2_3 {P : Prop} (h : P := by first | rfl | (simp; done) | (simp only [← hji10] <;> (first | rfl | simp)) | (simp [*]; done)) : P := h
theorem tq2_4 {P : Prop} (h : P := by (try simp only [List.map_toArray, List.map_cons, List.map_nil]); first | done | rfl | (simp only [List.length_drop, List.length_take]; rfl)) : P := h
/-! ### field_all: function 47 -/
def field_all.l0 : Nat → ByteArray → Int → Int → Int → Option (Bool)
 | 0, _, _, _, _ => none
 | k + 1, x0, x1, x7, x8 => if x8 < x7 then (if 0 ≤ x8 then (if x8 < (x0.size : Int) then ((field_is.f (bt x0 x8) x1).bind fun t101 => (if t101 = true then (field_all.l0 k x0 x1 x7 (wrap64 (x8 + 1))) else (some false))) else (none)) else (none)) else (some true)
def field_all.f (k : Nat) (a0 : ByteArray) (a1 : Int) : Option (Bool) := field_all.l0 k a0 a1 (a0.size : Int) 0
theorem field_all.mono_l : ∀ k, (∀ y0 y1 y2 y3, LeO (field_all.l0 k y0 y1 y2 y3) (field_all.l0 (k + 1) y0 y1 y2 y3))
 | 0 => fun _ _ _ _ r h => by simp [field_all.l0] at h
 | k + 1 => by
  have ih0 := field_all.mono_l k
  ·intro y0 y1 y2 y3
   unfold field_all.l0
   repeat' first
   | (with_reducible exact ih0 _ _ _ _)
   | (with_reducible exact LeO.refl _)
   | (with_reducible exact LeO.none _)
   | (with_reducible refine LeO.ite ?_ ?_)
   | (with_reducible refine LeO.bind ?_ (fun _ => ?_))
   | exact ih0 _ _ _ _
   | exact LeO.none _
   | refine LeO.ite ?_ ?_
   | refine LeO.bind ?_ (fun _ => ?_)
theorem field_all.mono : ∀ a0 a1 k, LeO (field_all.f k a0 a1) (field_all.f (k + 1) a0 a1) := by
 intro a0 a1 k
 have ih0 := field_all.mono_l k
 unfold field_all.f
 repeat' first
   | (with_reducible exact ih0 _ _ _ _)
   | (with_reducible exact LeO.refl _)
   | (with_reducible exact LeO.none _)
   | (with_reducible refine LeO.ite ?_ ?_)
   | (with_reducible refine LeO.bind ?_ (fun _ => ?_))
   | exact ih0 _ _ _ _
   | exact LeO.none _
   | refine LeO.ite ?_ ?_
   | refine LeO.bind ?_ (fun _ => ?_)
set_option maxHeartbeats 8000000 in
set_option maxRecDepth 100000 in
theorem field_all.calls [Sent] (k : Nat) (a0 : ByteArray) (a1 : Int) (r : Bool) (w : World) (h : field_all.f k a0 a1 = some r) (hG : Glob [16] w) :
  Calls Tryd.prog 47 #[.string a0, .int .u8 a1] w fun e w' => e = .returned (.bool r) ∧ Drawn0 w w' := by
 have HG := Aq2 hG
 clear hG
 have H : (field_all.l0 k a0 a1 (a0.size : Int) 0) = some r := h
 clear h
 have H' := Aq2 H
 clear H
 go_enter Tryd.func47, Tryd.ntmps47
 go_wp2
 go_loopg [8] k (fun kq v8 w' => ∃ (x8_1 : Int), v8 = .int .i64 x8_1 ∧ Aside0 (field_all.l0 kq a0 a1 (a0.size : Int) x8_1 = some r) ∧ Aside0 (kq ≤ k) ∧ Drawn0 w w')
 case atStart => exact ⟨(0), tq2_0, H', ⟨Nat.le_refl _⟩, tq2_2⟩
 case round =>
  clear H'
  try clear p2
  obtain ⟨x8_1, rfl, HA, HK1, ⟨m1, rfl⟩⟩ := hrel
  cases gk with
  | zero => exact absurd HA.out (by simp [field_all.l0])
  | succ k1 =>
   have H := HA.out
   clear HA
   simp only [field_all.l0] at H
   by_cases c3 : x8_1 < (a0.size : Int)
   ·rw [if_pos c3] at H
    have c3b0 : decide (x8_1 < (a0.size : Int)) = true := decide_eq_true c3
    clear c3
    by_cases c4 : 0 ≤ x8_1
    ·rw [if_pos c4] at H
     have c4b0 : decide (0 ≤ x8_1) = true := decide_eq_true c4
     clear c4
     by_cases c5 : x8_1 < (a0.size : Int)
     ·rw [if_pos c5] at H
      have c5b0 : decide (x8_1 < (a0.size : Int)) = true := decide_eq_true c5
      clear c5
      replace H := Option.bind_eq_some_iff.mp H
      obtain ⟨t101, A70, H⟩ := H
      replace H : (if t101 = true then (field_all.l0 k1 a0 a1 (a0.size : Int) (wrap64 (x8_1 + 1))) else (some false)) = some r := H
      have A7 := Aq2 A70
      clear A70
      by_cases c8 : t101 = true
      ·subst c8
       have H1 : (field_all.l0 k1 a0 a1 (a0.size : Int) (wrap64 (x8_1 + 1))) = some r := by rw [if_pos rfl] at H; exact H
       clear H
       have H := H1
       clear H1
       have H' := Aq2 H
       clear H
       have p6 : 0 ≤ (x8_1 : Int) := of_decide_eq_true tq2_1
       have q6 : x8_1 < (a0.size : Int) := of_decide_eq_true tq2_1
       have hx6 := bt_at a0 x8_1
       replace p6 := eq_true p6
       replace q6 := eq_true q6
       go_wp2_with (first | ((with_reducible refine gate_callee (f := 51) rfl ?_); refine goesL_ (some 15) rfl rfl Tryd.func51 (by kernel_rfl) rfl #[.int .u8 (bt a0 x8_1), .int .u8 a1] rfl tq2_4 ?_; (with_reducible refine (field_is.calls (bt a0 x8_1) a1 true _ A7.out ?side1).mono ?_); (case side1 => repeat (first | exact HG.out.sub rfl | refine Glob.drewN ?_ _ | refine Glob.drew ?_)); rintro e w' ⟨rfl, ⟨nd, rfl⟩⟩; refine ⟨_, rfl, ?_⟩))
       go_roundg k1
       case measure => have := HK1.out; omega
       case rel => exact ⟨(wrap64 (x8_1 + 1)), tq2_0, H', ⟨by have := HK1.out; omega⟩, tq2_2⟩
      ·replace c8 := Bool.eq_false_iff.mpr c8
       subst c8
       have H1 : (some false) = some r := by rw [if_neg (show ¬ (false = true) by decide)] at H; exact H
       clear H
       have H := H1
       clear H1
       obtain rfl := Option.some.inj H
       have p6 : 0 ≤ (x8_1 : Int) := of_decide_eq_true tq2_1
       have q6 : x8_1 < (a0.size : Int) := of_decide_eq_true tq2_1
       have hx6 := bt_at a0 x8_1
       replace p6 := eq_true p6
       replace q6 := eq_true q6
       go_wp2_with (first | ((with_reducible refine gate_callee (f := 51) rfl ?_); refine goesL_ (some 15) rfl rfl Tryd.func51 (by kernel_rfl) rfl #[.int .u8 (bt a0 x8_1), .int .u8 a1] rfl tq2_4 ?_; (with_reducible refine (field_is.calls (bt a0 x8_1) a1 false _ A7.out ?side1).mono ?_); (case side1 => repeat (first | exact HG.out.sub rfl | refine Glob.drewN ?_ _ | refine Glob.drew ?_)); rintro e w' ⟨rfl, ⟨nd, rfl⟩⟩; refine ⟨_, rfl, ?_⟩))
       go_ret
       exact ⟨tq2_0, tq2_2⟩
     ·rw [if_neg c5] at H
      exact absurd H (by simp)
    ·rw [if_neg c4] at H
     exact absurd H (by simp)
   ·rw [if_neg c3] at H
    have c3b0 : decide (x8_1 < (a0.size : Int)) = false := decide_eq_false c3
    clear c3
    obtain rfl := Option.some.inj H
    go_wp2
    go_ret
    exact ⟨tq2_0, tq2_2⟩

/-! ### field_Token: function 24 -/
def field_Token.f (k : Nat) (a0 : ByteArray) : Option (Bool) := if a0.toList = ([] : List UInt8) then (some false) else ((field_all.f k a0 1).bind fun t102 => (some t102))
theorem field_Token.mono : ∀ a0 k, LeO (field_Token.f k a0) (field_Token.f (k + 1) a0) := by
 intro a0 k
 unfold field_Token.f
 repeat' first
   | (with_reducible exact field_all.mono _ _ _)
   | (with_reducible exact LeO.refl _)
   | (with_reducible exact LeO.none _)
   | (with_reducible refine LeO.ite ?_ ?_)
   | (with_reducible refine LeO.bind ?_ (fun _ => ?_))
   | exact field_all.mono _ _ _
   | exact LeO.none _
   | refine LeO.ite ?_ ?_
   | refine LeO.bind ?_ (fun _ => ?_)
set_option maxHeartbeats 8000000 in
set_option maxRecDepth 100000 in
theorem field_Token.calls [Sent] (k : Nat) (a0 : ByteArray) (r : Bool) (w : World) (h : field_Token.f k a0 = some r) (hG : Glob [16] w) :
  Calls Tryd.prog 24 #[.string a0] w fun e w' => e = .returned (.bool r) ∧ Drawn0 w w' := by
 have HG := Aq2 hG
 clear hG
 have H : (if a0.toList = ([] : List UInt8) then (some false) else ((field_all.f k a0 1).bind fun t102 => (some t102))) = some r := h
 clear h
 by_cases c2 : a0.toList = ([] : List UInt8)
 ·rw [if_pos c2] at H
  have c2b0 : (a0.toList == ([] : List UInt8)) = true := beq_iff_eq.mpr c2
  have c2b1 : (a0.toList != ([] : List UInt8)) = false := bne_eq_false_iff_eq.mpr c2
  clear c2
  obtain rfl := Option.some.inj H
  go_enter Tryd.func24, Tryd.ntmps24
  go_wp2
  go_ret
  exact ⟨tq2_0, tq2_2⟩
 ·rw [if_neg c2] at H
  have c2b0 : (a0.toList == ([] : List UInt8)) = false := beq_eq_false_iff_ne.mpr c2
  have c2b1 : (a0.toList != ([] : List UInt8)) = true := bne_iff_ne.mpr c2
  replace H := Option.bind_eq_some_iff.mp H
  obtain ⟨t102, A30, H⟩ := H
  replace H : (some t102) = some r := H
  have A3 := Aq2 A30
  clear A30
  obtain rfl := Option.some.inj H
  go_enter Tryd.func24, Tryd.ntmps24
  go_wp2_with (first | (go_at_call 47; (with_reducible refine (field_all.calls k a0 1 t102 _ A3.out ?side1).mono ?_); (case side1 => repeat (first | exact HG.out.sub rfl | refine Glob.drewN ?_ _ | refine Glob.drew ?_)); rintro e w' ⟨rfl, ⟨nd, rfl⟩⟩))
  go_ret
  exact ⟨tq2_0, tq2_2⟩

/-! ### field_Value: function 29 -/
def field_Value.f (k : Nat) (a0 : ByteArray) : Option (Bool) := if a0.toList = ([] : List UInt8) then (some true) else ((field_all.f k a0 4).bind fun t103 => (if t103 = true then (if 0 < (a0.size : Int) then ((field_is.f (bt a0 0) 8).bind fun t104 => (if t104 = true then (some false) else (if 0 ≤ (wrap64 ((a0.size : Int) - 1)) then (if (wrap64 ((a0.size : Int) - 1)) < (a0.size : Int) then ((field_is.f (bt a0 (wrap64 ((a0.size : Int) - 1))) 8).bind fun t105 => (some (!t105))) else (none)) else (none)))) else (none)) else (some false)))
theorem field_Value.mono : ∀ a0 k, LeO (field_Value.f k a0) (field_Value.f (k + 1) a0) := by
 intro a0 k
 unfold field_Value.f
 repeat' first
   | (with_reducible exact field_all.mono _ _ _)
   | (with_reducible exact LeO.refl _)
   | (with_reducible exact LeO.none _)
   | (with_reducible refine LeO.ite ?_ ?_)
   | (with_reducible refine LeO.bind ?_ (fun _ => ?_))
   | exact field_all.mono _ _ _
   | exact LeO.none _
   | refine LeO.ite ?_ ?_
   | refine LeO.bind ?_ (fun _ => ?_)
set_option maxHeartbeats 8000000 in
set_option maxRecDepth 100000 in
theorem field_Value.calls [Sent] (k : Nat) (a0 : ByteArray) (r : Bool) (w : World) (h : field_Value.f k a0 = some r) (hG : Glob [16] w) :
  Calls Tryd.prog 29 #[.string a0] w fun e w' => e = .returned (.bool r) ∧ Drawn0 w w' := by
 have HG := Aq2 hG
 clear hG
 have H : (if a0.toList = ([] : List UInt8) then (some true) else ((field_all.f k a0 4).bind fun t103 => (if t103 = true then (if 0 < (a0.size : Int) then ((field_is.f (bt a0 0) 8).bind fun t104 => (if t104 = true then (some false) else (if 0 ≤ (wrap64 ((a0.size : Int) - 1)) then (if (wrap64 ((a0.size : Int) - 1)) < (a0.size : Int) then ((field_is.f (bt a0 (wrap64 ((a0.size : Int) - 1))) 8).bind fun t105 => (some (!t105))) else (none)) else (none)))) else (none)) else (some false)))) = some r := h
 clear h
 by_cases c2 : a0.toList = ([] : List UInt8)
 ·rw [if_pos c2] at H
  have c2b0 : (a0.toList == ([] : List UInt8)) = true := beq_iff_eq.mpr c2
  have c2b1 : (a0.toList != ([] : List UInt8)) = false := bne_eq_false_iff_eq.mpr c2
  clear c2
  obtain rfl := Option.some.inj H
  go_enter Tryd.func29, Tryd.ntmps29
  go_wp2
  go_ret
  exact ⟨tq2_0, tq2_2⟩
 ·rw [if_neg c2] at H
  have c2b0 : (a0.toList == ([] : List UInt8)) = false := beq_eq_false_iff_ne.mpr c2
  have c2b1 : (a0.toList != ([] : List UInt8)) = true := bne_iff_ne.mpr c2
  replace H := Option.bind_eq_some_iff.mp H
  obtain ⟨t103, A30, H⟩ := H
  replace H : (if t103 = true then (if 0 < (a0.size : Int) then ((field_is.f (bt a0 0) 8).bind fun t104 => (if t104 = true then (some false) else (if 0 ≤ (wrap64 ((a0.size : Int) - 1)) then (if (wrap64 ((a0.size : Int) - 1)) < (a0.size : Int) then ((field_is.f (bt a0 (wrap64 ((a0.size : Int) - 1))) 8).bind fun t105 => (some (!t105))) else (none)) else (none)))) else (none)) else (some false)) = some r := H
  have A3 := Aq2 A30
  clear A30
  by_cases c4 : t103 = true
  ·subst c4
   have H1 : (if 0 < (a0.size : Int) then ((field_is.f (bt a0 0) 8).bind fun t104 => (if t104 = true then (some false) else (if 0 ≤ (wrap64 ((a0.size : Int) - 1)) then (if (wrap64 ((a0.size : Int) - 1)) < (a0.size : Int) then ((field_is.f (bt a0 (wrap64 ((a0.size : Int) - 1))) 8).bind fun t105 => (some (!t105))) else (none)) else (none)))) else (none)) = some r := by rw [if_pos rfl] at H; exact H
   clear H
   have H := H1
   clear H1
   by_cases c5 : 0 < (a0.size : Int)
   ·rw [if_pos c5] at H
    have c5b0 : decide (0 < (a0.size : Int)) = true := decide_eq_true c5
    have c5b1 : decide (0 < a0.size) = true := decide_eq_true (by omega)
    clear c5
    replace H := Option.bind_eq_some_iff.mp H
    obtain ⟨t104, A70, H⟩ := H
    replace H : (if t104 = true then (some false) else (if 0 ≤ (wrap64 ((a0.size : Int) - 1)) then (if (wrap64 ((a0.size : Int) - 1)) < (a0.size : Int) then ((field_is.f (bt a0 (wrap64 ((a0.size : Int) - 1))) 8).bind fun t105 => (some (!t105))) else (none)) else (none))) = some r := H
    have A7 := Aq2 A70
    clear A70
    by_cases c8 : t104 = true
    ·subst c8
     have H1 : (some false) = some r := by rw [if_pos rfl] at H; exact H
     clear H
     have H := H1
     clear H1
     obtain rfl := Option.some.inj H
     go_enter Tryd.func29, Tryd.ntmps29
     go_wp2_with (first | ((with_reducible refine gate_callee (f := 47) rfl ?_); refine goesL_ (some 6) rfl rfl Tryd.func47 (by kernel_rfl) rfl #[.string a0, .int .u8 4] rfl tq2_4 ?_; (with_reducible refine (field_all.calls k a0 4 true _ A3.out ?side1).mono ?_); (case side1 => repeat (first | exact HG.out.sub rfl | refine Glob.drewN ?_ _ | refine Glob.drew ?_)); rintro e w' ⟨rfl, ⟨nd, rfl⟩⟩; refine ⟨_, rfl, ?_⟩; have p6 : 0 ≤ (0 : Int) := (by omega); have q6 : 0 < a0.size := (by have : (0 : Int) < (a0.size : Int) := of_decide_eq_true tq2_1; omega); have hx6 : ∀ h : 0 < a0.size, ((a0[0]'h).toNat : Int) = bt a0 0 := bt_at a0 0; clear p6; have qi6 : (0 < (a0.size : Int)) = True := eq_true (of_decide_eq_true tq2_1); replace q6 := eq_true q6) | (go_at_call 51; (with_reducible refine (field_is.calls (bt a0 0) 8 true _ A7.out ?side1).mono ?_); (case side1 => repeat (first | exact HG.out.sub rfl | refine Glob.drewN ?_ _ | refine Glob.drew ?_)); rintro e w' ⟨rfl, ⟨nd, rfl⟩⟩))
     go_ret
     exact ⟨tq2_0, tq2_2⟩
    ·replace c8 := Bool.eq_false_iff.mpr c8
     subst c8
     have H1 : (if 0 ≤ (wrap64 ((a0.size : Int) - 1)) then (if (wrap64 ((a0.size : Int) - 1)) < (a0.size : Int) then ((field_is.f (bt a0 (wrap64 ((a0.size : Int) - 1))) 8).bind fun t105 => (some (!t105))) else (none)) else (none)) = some r := by rw [if_neg (show ¬ (false = true) by decide)] at H; exact H
     clear H
     have H := H1
     clear H1
     obtain ⟨ji9, hji9⟩ : ∃ j_ : Int, (wrap64 ((a0.size : Int) - 1)) = j_ := ⟨_, rfl⟩
     replace H : (if 0 ≤ (ji9) then (if (ji9) < (a0.size : Int) then ((field_is.f (bt a0 (ji9)) 8).bind fun t105 => (some (!t105))) else (none)) else (none)) = some r := by first | (rw [hji9] at H; exact H) | (simp only [hji9] at H ⊢; exact H)
     (try rw [hji9] at A3)
     (try rw [hji9] at A7)
     have hji9w : (IntKind.i64.wrap ((a0.size : Int) - 1)) = ji9 := (i64_w _).trans hji9
     by_cases c10 : 0 ≤ (ji9)
     ·rw [if_pos c10] at H
      have c10b0 : decide (0 ≤ (ji9)) = true := decide_eq_true c10
      clear c10
      by_cases c11 : (ji9) < (a0.size : Int)
      ·rw [if_pos c11] at H
       have c11b0 : decide ((ji9) < (a0.size : Int)) = true := decide_eq_true c11
       clear c11
       replace H := Option.bind_eq_some_iff.mp H
       obtain ⟨t105, A130, H⟩ := H
       replace H : (some (!t105)) = some r := H
       have A13 := Aq2 A130
       clear A130
       obtain rfl := Option.some.inj H
       go_enter Tryd.func29, Tryd.ntmps29
       go_wp2_with (first | ((with_reducible refine gate_callee (f := 47) rfl ?_); refine goesL_ (some 6) rfl rfl Tryd.func47 (by kernel_rfl) rfl #[.string a0, .int .u8 4] rfl tq2_4 ?_; (with_reducible refine (field_all.calls k a0 4 true _ A3.out ?side1).mono ?_); (case side1 => repeat (first | exact HG.out.sub rfl | refine Glob.drewN ?_ _ | refine Glob.drew ?_)); rintro e w' ⟨rfl, ⟨nd, rfl⟩⟩; refine ⟨_, rfl, ?_⟩; have p6 : 0 ≤ (0 : Int) := (by omega); have q6 : 0 < a0.size := (by have : (0 : Int) < (a0.size : Int) := of_decide_eq_true tq2_1; omega); have hx6 : ∀ h : 0 < a0.size, ((a0[0]'h).toNat : Int) = bt a0 0 := bt_at a0 0; clear p6; have qi6 : (0 < (a0.size : Int)) = True := eq_true (of_decide_eq_true tq2_1); replace q6 := eq_true q6) | (go_at_call 51; (with_reducible refine (field_is.calls (bt a0 0) 8 false _ A7.out ?side1).mono ?_); (case side1 => repeat (first | exact HG.out.sub rfl | refine Glob.drewN ?_ _ | refine Glob.drew ?_)); rintro e w' ⟨rfl, ⟨nd, rfl⟩⟩; have p12 : 0 ≤ ((ji9) : Int) := of_decide_eq_true tq2_1; have q12 : (ji9) < (a0.size : Int) := of_decide_eq_true tq2_1; have hx12 := bt_at a0 (ji9); replace p12 := eq_true p12; replace q12 := eq_true q12) | (go_at_call 51; (with_reducible refine (field_is.calls (bt a0 (ji9)) 8 t105 _ A13.out ?side1).mono ?_); (case side1 => repeat (first | exact HG.out.sub rfl | refine Glob.drewN ?_ _ | refine Glob.drew ?_)); rintro e w' ⟨rfl, ⟨nd, rfl⟩⟩))
       go_ret
       exact ⟨by first | rfl | (simp; done) | (simp only [← hji9] <;> (first | rfl | simp)) | (simp [*]; done), tq2_2⟩
      ·rw [if_neg c11] at H
       exact absurd H (by simp)
     ·rw [if_neg c10] at H
      exact absurd H (by simp)
   ·rw [if_neg c5] at H
    exact absurd H (by simp)
  ·replace c4 := Bool.eq_false_iff.mpr c4
   subst c4
   have H1 : (some false) = some r := by rw [if_neg (show ¬ (false = true) by decide)] at H; exact H
   clear H
   have H := H1
   clear H1
   obtain rfl := Option.some.inj H
   go_enter Tryd.func29, Tryd.ntmps29
   go_wp2_with (first | ((with_reducible refine gate_callee (f := 47) rfl ?_); refine goesL_ (some 6) rfl rfl Tryd.func47 (by kernel_rfl) rfl #[.string a0, .int .u8 4] rfl tq2_4 ?_; (with_reducible refine (field_all.calls k a0 4 false _ A3.out ?side1).mono ?_); (case side1 => repeat (first | exact HG.out.sub rfl | refine Glob.drewN ?_ _ | refine Glob.drew ?_)); rintro e w' ⟨rfl, ⟨nd, rfl⟩⟩; refine ⟨_, rfl, ?_⟩))
   go_ret
   exact ⟨tq2_0, tq2_2⟩

/-! ### field_Trim: function 49 -/
mutual
def field_Trim.j1 : Nat → ByteArray → Option (ByteArray)
 | 0, _ => none
 | k + 1, x0 => field_Trim.l1 k x0
def field_Trim.l1 : Nat → ByteArray → Option (ByteArray)
 | 0, _ => none
 | k + 1, x0 => if x0.toList = ([] : List UInt8) then (some x0) else (if 0 ≤ (wrap64 ((x0.size : Int) - 1)) then (if (wrap64 ((x0.size : Int) - 1)) < (x0.size : Int) then ((field_is.f (bt x0 (wrap64 ((x0.size : Int) - 1))) 8).bind fun t107 => (if t107 = true then (if (wrap64 ((x0.size : Int) - 1)) ≤ (x0.size : Int) then (field_Trim.l1 k (x0.extract 0 ((wrap64 ((x0.size : Int) - 1)) : Int).toNat)) else (none)) else (some x0))) else (none)) else (none))
def field_Trim.l0 : Nat → ByteArray → Option (ByteArray)
 | 0, _ => none
 | k + 1, x0 => if x0.toList = ([] : List UInt8) then (field_Trim.j1 k x0) else (if 0 < (x0.size : Int) then ((field_is.f (bt x0 0) 8).bind fun t106 => (if t106 = true then (if 1 ≤ (x0.size : Int) then (field_Trim.l0 k (x0.extract 1 x0.size)) else (none)) else (field_Trim.j1 k x0))) else (none))
end
def field_Trim.f (k : Nat) (a0 : ByteArray) : Option (ByteArray) := field_Trim.l0 k a0
theorem field_Trim.mono_l : ∀ k, (∀ y0, LeO (field_Trim.j1 k y0) (field_Trim.j1 (k + 1) y0)) ∧ (∀ y0, LeO (field_Trim.l1 k y0) (field_Trim.l1 (k + 1) y0)) ∧ (∀ y0, LeO (field_Trim.l0 k y0) (field_Trim.l0 (k + 1) y0))
 | 0 => ⟨fun _ r h => by simp [field_Trim.j1] at h, fun _ r h => by simp [field_Trim.l1] at h, fun _ r h => by simp [field_Trim.l0] at h⟩
 | k + 1 => by
  obtain ⟨ih0, ih1, ih2⟩ := field_Trim.mono_l k
  refine ⟨?_, ?_, ?_⟩
  ·intro y0
   unfold field_Trim.j1
   repeat' first
   | (with_reducible exact ih0 _)
   | (with_reducible exact ih1 _)
   | (with_reducible exact ih2 _)
   | (with_reducible exact LeO.refl _)
   | (with_reducible exact LeO.none _)
   | (with_reducible refine LeO.ite ?_ ?_)
   | (with_reducible refine LeO.bind ?_ (fun _ => ?_))
   | exact ih0 _
   | exact ih1 _
   | exact ih2 _
   | exact LeO.none _
   | refine LeO.ite ?_ ?_
   | refine LeO.bind ?_ (fun _ => ?_)
  ·intro y0
   unfold field_Trim.l1
   repeat' first
   | (with_reducible exact ih0 _)
   | (with_reducible exact ih1 _)
   | (with_reducible exact ih2 _)
   | (with_reducible exact LeO.refl _)
   | (with_reducible exact LeO.none _)
   | (with_reducible refine LeO.ite ?_ ?_)
   | (with_reducible refine LeO.bind ?_ (fun _ => ?_))
   | exact ih0 _
   | exact ih1 _
   | exact ih2 _
   | exact LeO.none _
   | refine LeO.ite ?_ ?_
   | refine LeO.bind ?_ (fun _ => ?_)
  ·intro y0
   unfold field_Trim.l0
   repeat' first
   | (with_reducible exact ih0 _)
   | (with_reducible exact ih1 _)
   | (with_reducible exact ih2 _)
   | (with_reducible exact LeO.refl _)
   | (with_reducible exact LeO.none _)
   | (with_reducible refine LeO.ite ?_ ?_)
   | (with_reducible refine LeO.bind ?_ (fun _ => ?_))
   | exact ih0 _
   | exact ih1 _
   | exact ih2 _
   | exact LeO.none _
   | refine LeO.ite ?_ ?_
   | refine LeO.bind ?_ (fun _ => ?_)
theorem field_Trim.mono : ∀ a0 k, LeO (field_Trim.f k a0) (field_Trim.f (k + 1) a0) := by
 intro a0 k
 obtain ⟨ih0, ih1, ih2⟩ := field_Trim.mono_l k
 unfold field_Trim.f
 repeat' first
   | (with_reducible exact ih0 _)
   | (with_reducible exact ih1 _)
   | (with_reducible exact ih2 _)
   | (with_reducible exact LeO.refl _)
   | (with_reducible exact LeO.none _)
   | (with_reducible refine LeO.ite ?_ ?_)
   | (with_reducible refine LeO.bind ?_ (fun _ => ?_))
   | exact ih0 _
   | exact ih1 _
   | exact ih2 _
   | exact LeO.none _
   | refine LeO.ite ?_ ?_
   | refine LeO.bind ?_ (fun _ => ?_)
set_option maxHeartbeats 8000000 in
set_option maxRecDepth 100000 in
theorem field_Trim.calls [Sent] (k : Nat) (a0 : ByteArray) (r : ByteArray) (w : World) (h : field_Trim.f k a0 = some r) (hG : Glob [16] w) :
  Calls Tryd.prog 49 #[.string a0] w fun e w' => e = .returned (.string r) ∧ Drawn0 w w' := by
 have HG := Aq2 hG
 clear hG
 have H : (field_Trim.l0 k a0) = some r := h
 clear h
 have HC2 := Aq2 H
 clear H
 go_enter Tryd.func49, Tryd.ntmps49
 go_upto_block 0 with (fail)
 go_cut [0] (fun v0 wc => ∃ (kq : Nat) (x0_1 : ByteArray), v0 = .string x0_1 ∧ Aside0 (field_Trim.j1 kq x0_1 = some r) ∧ Aside0 (kq ≤ k) ∧ Drawn0 w wc)
 case first =>
  have H := HC2.out
  clear HC2
  have H' := Aq2 H
  clear H
  go_wp2
  go_loopg [0] k (fun kq v0 w' => ∃ (x0_1 : ByteArray), v0 = .string x0_1 ∧ Aside0 (field_Trim.l0 kq x0_1 = some r) ∧ Aside0 (kq ≤ k) ∧ Drawn0 w w')
  case atStart => exact ⟨(a0), tq2_0, H', ⟨Nat.le_refl _⟩, tq2_2⟩
  case round =>
   clear H'
   try clear p2
   obtain ⟨x0_1, rfl, HA, HK1, ⟨m1, rfl⟩⟩ := hrel
   cases gk with
   | zero => exact absurd HA.out (by simp [field_Trim.l0])
   | succ k1 =>
    have H := HA.out
    clear HA
    simp only [field_Trim.l0] at H
    by_cases c3 : x0_1.toList = ([] : List UInt8)
    ·rw [if_pos c3] at H
     have c3b0 : (x0_1.toList == ([] : List UInt8)) = true := beq_iff_eq.mpr c3
     have c3b1 : (x0_1.toList != ([] : List UInt8)) = false := bne_eq_false_iff_eq.mpr c3
     clear c3
     (first | rw [c3b0] | (simp only [i64_w, i32_w]; rw [c3b0]) | skip)
     have H' := Aq2 H
     clear H
     go_wp2
     go_meet
     case rel => exact ⟨_, (x0_1), tq2_0, H', ⟨by have := HK1.out; first | omega | exact Nat.le_refl _⟩, tq2_2⟩
    ·rw [if_neg c3] at H
     have c3b0 : (x0_1.toList == ([] : List UInt8)) = false := beq_eq_false_iff_ne.mpr c3
     have c3b1 : (x0_1.toList != ([] : List UInt8)) = true := bne_iff_ne.mpr c3
     (first | rw [c3b0] | (simp only [i64_w, i32_w]; rw [c3b0]) | skip)
     by_cases c4 : 0 < (x0_1.size : Int)
     ·rw [if_pos c4] at H
      have c4b0 : decide (0 < (x0_1.size : Int)) = true := decide_eq_true c4
      have c4b1 : decide (0 < x0_1.size) = true := decide_eq_true (by omega)
      clear c4
      replace H := Option.bind_eq_some_iff.mp H
      obtain ⟨t106, A60, H⟩ := H
      replace H : (if t106 = true then (if 1 ≤ (x0_1.size : Int) then (field_Trim.l0 k1 (x0_1.extract 1 x0_1.size)) else (none)) else (field_Trim.j1 k1 x0_1)) = some r := H
      have A6 := Aq2 A60
      clear A60
      by_cases c7 : t106 = true
      ·subst c7
       have H1 : (if 1 ≤ (x0_1.size : Int) then (field_Trim.l0 k1 (x0_1.extract 1 x0_1.size)) else (none)) = some r := by rw [if_pos rfl] at H; exact H
       clear H
       have H := H1
       clear H1
       by_cases c8 : 1 ≤ (x0_1.size : Int)
       ·rw [if_pos c8] at H
        have c8b0 := eq_true c8
        have c8b1 : decide (1 ≤ (x0_1.size : Int)) = true := decide_eq_true c8
        clear c8
        have H' := Aq2 H
        clear H
        have p5 : 0 ≤ (0 : Int) := (by omega)
        have q5 : 0 < x0_1.size := (by have : (0 : Int) < (x0_1.size : Int) := of_decide_eq_true tq2_1; omega)
        have hx5 : ∀ h : 0 < x0_1.size, ((x0_1[0]'h).toNat : Int) = bt x0_1 0 := bt_at x0_1 0
        clear p5
        have qi5 : (0 < (x0_1.size : Int)) = True := eq_true (of_decide_eq_true tq2_1)
        replace q5 := eq_true q5
        go_wp2_with (first | (go_at_call 51; (with_reducible refine (field_is.calls (bt x0_1 0) 8 true _ A6.out ?side1).mono ?_); (case side1 => repeat (first | exact HG.out.sub rfl | refine Glob.drewN ?_ _ | refine Glob.drew ?_)); rintro e w' ⟨rfl, ⟨nd, rfl⟩⟩))
        go_roundg k1
        case measure => have := HK1.out; omega
        case rel => exact ⟨(x0_1.extract 1 x0_1.size), tq2_0, H', ⟨by have := HK1.out; omega⟩, tq2_2⟩
       ·rw [if_neg c8] at H
        exact absurd H (by simp)
      ·replace c7 := Bool.eq_false_iff.mpr c7
       subst c7
       have H1 : (field_Trim.j1 k1 x0_1) = some r := by rw [if_neg (show ¬ (false = true) by decide)] at H; exact H
       clear H
       have H := H1
       clear H1
       have H' := Aq2 H
       clear H
       have p5 : 0 ≤ (0 : Int) := (by omega)
       have q5 : 0 < x0_1.size := (by have : (0 : Int) < (x0_1.size : Int) := of_decide_eq_true tq2_1; omega)
       have hx5 : ∀ h : 0 < x0_1.size, ((x0_1[0]'h).toNat : Int) = bt x0_1 0 := bt_at x0_1 0
       clear p5
       have qi5 : (0 < (x0_1.size : Int)) = True := eq_true (of_decide_eq_true tq2_1)
       replace q5 := eq_true q5
       go_wp2_with (first | (go_at_call 51; (with_reducible refine (field_is.calls (bt x0_1 0) 8 false _ A6.out ?side1).mono ?_); (case side1 => repeat (first | exact HG.out.sub rfl | refine Glob.drewN ?_ _ | refine Glob.drew ?_)); rintro e w' ⟨rfl, ⟨nd, rfl⟩⟩))
       go_meet
       case rel => exact ⟨_, (x0_1), tq2_0, H', ⟨by have := HK1.out; first | omega | exact Nat.le_refl _⟩, tq2_2⟩
     ·rw [if_neg c4] at H
      exact absurd H (by simp)
 case rest =>
  clear HC2
  try clear p2
  try clear c3
  try clear c3b0
  try clear c3b1
  try clear c4
  try clear c4b0
  try clear c4b1
  try clear p5
  try clear q5
  try clear hx5
  try clear qi5
  try clear c7
  try clear c8
  try clear c8b0
  try clear c8b1
  try clear p2
  try clear p5
  try clear q5
  obtain ⟨kq, x0_1, rfl, HA, HJ1, ⟨mc1, rfl⟩⟩ := hcut
  cases kq with
  | zero => exact absurd HA.out (by simp [field_Trim.j1])
  | succ kj1 =>
   have H := HA.out
   clear HA
   simp only [field_Trim.j1] at H
   have H' := Aq2 H
   clear H
   go_wp2
   go_loopg [0] kj1 (fun kq v0 w' => ∃ (x0_2 : ByteArray), v0 = .string x0_2 ∧ Aside0 (field_Trim.l1 kq x0_2 = some r) ∧ Aside0 (kq ≤ kj1) ∧ Drawn0 w w')
   case atStart => exact ⟨(x0_1), tq2_0, H', ⟨Nat.le_refl _⟩, tq2_2⟩
   case round =>
    clear H'
    try clear c1
    try clear p2
    try clear c3
    try clear c3b0
    try clear c3b1
    try clear c4
    try clear c4b0
    try clear c4b1
    try clear p5
    try clear q5
    try clear hx5
    try clear qi5
    try clear c7
    try clear c8
    try clear c8b0
    try clear c8b1
    try clear p2
    try clear p5
    try clear q5
    obtain ⟨x0_2, rfl, HA, HK2, ⟨m2, rfl⟩⟩ := hrel
    cases gk with
    | zero => exact absurd HA.out (by simp [field_Trim.l1])
    | succ k2 =>
     have H := HA.out
     clear HA
     simp only [field_Trim.l1] at H
     by_cases c9 : x0_2.toList = ([] : List UInt8)
     ·rw [if_pos c9] at H
      have c9b0 : (x0_2.toList == ([] : List UInt8)) = true := beq_iff_eq.mpr c9
      have c9b1 : (x0_2.toList != ([] : List UInt8)) = false := bne_eq_false_iff_eq.mpr c9
      clear c9
      obtain rfl := Option.some.inj H
      go_wp2
      go_ret
      exact ⟨tq2_0, tq2_2⟩
     ·rw [if_neg c9] at H
      have c9b0 : (x0_2.toList == ([] : List UInt8)) = false := beq_eq_false_iff_ne.mpr c9
      have c9b1 : (x0_2.toList != ([] : List UInt8)) = true := bne_iff_ne.mpr c9
      obtain ⟨ji10, hji10⟩ : ∃ j_ : Int, (wrap64 ((x0_2.size : Int) - 1)) = j_ := ⟨_, rfl⟩
      replace H : (if 0 ≤ (ji10) then (if (ji10) < (x0_2.size : Int) then ((field_is.f (bt x0_2 (ji10)) 8).bind fun t107 => (if t107 = true then (if (ji10) ≤ (x0_2.size : Int) then (field_Trim.l1 k2 (x0_2.extract 0 ((ji10) : Int).toNat)) else (none)) else (some x0_2))) else (none)) else (none)) = some r := by first | (rw [hji10] at H; exact H) | (simp only [hji10] at H ⊢; exact H)
      have hji10w : (IntKind.i64.wrap ((x0_2.size : Int) - 1)) = ji10 := (i64_w _).trans hji10
      by_cases c11 : 0 ≤ (ji10)
      ·rw [if_pos c11] at H
       have c11b0 : decide (0 ≤ (ji10)) = true := decide_eq_true c11
       clear c11
       by_cases c12 : (ji10) < (x0_2.size : Int)
       ·rw [if_pos c12] at H
        have c12b0 : decide ((ji10) < (x0_2.size : Int)) = true := decide_eq_true c12
        clear c12
        replace H := Option.bind_eq_some_iff.mp H
        obtain ⟨t107, A140, H⟩ := H
        replace H : (if t107 = true then (if (ji10) ≤ (x0_2.size : Int) then (field_Trim.l1 k2 (x0_2.extract 0 ((ji10) : Int).toNat)) else (none)) else (some x0_2)) = some r := H
        have A14 := Aq2 A140
        clear A140
        by_cases c15 : t107 = true
        ·subst c15
         have H1 : (if (ji10) ≤ (x0_2.size : Int) then (field_Trim.l1 k2 (x0_2.extract 0 ((ji10) : Int).toNat)) else (none)) = some r := by rw [if_pos rfl] at H; exact H
         clear H
         have H := H1
         clear H1
         have c16b0 := eq_true (of_decide_eq_true tq2_1 : 0 ≤ (ji10))
         by_cases c17 : (ji10) ≤ (x0_2.size : Int)
         ·rw [if_pos c17] at H
          have c17b0 := eq_true c17
          have c17b1 : decide ((ji10) ≤ (x0_2.size : Int)) = true := decide_eq_true c17
          clear c17
          have H' := Aq2 H
          clear H
          have p13 : 0 ≤ ((ji10) : Int) := of_decide_eq_true tq2_1
          have q13 : (ji10) < (x0_2.size : Int) := of_decide_eq_true tq2_1
          have hx13 := bt_at x0_2 (ji10)
          replace p13 := eq_true p13
          replace q13 := eq_true q13
          go_wp2_with (first | (go_at_call 51; (with_reducible refine (field_is.calls (bt x0_2 (ji10)) 8 true _ A14.out ?side1).mono ?_); (case side1 => repeat (first | exact HG.out.sub rfl | refine Glob.drewN ?_ _ | refine Glob.drew ?_)); rintro e w' ⟨rfl, ⟨nd, rfl⟩⟩))
          go_roundg k2
          case measure => have := HJ1.out; have := HK2.out; omega
          case rel => exact ⟨(x0_2.extract 0 ((ji10) : Int).toNat), tq2_3, (by first | exact H' | (simp only [hji10]; exact H') | (simp only [hji10] at *; exact H')), ⟨by have := HJ1.out; have := HK2.out; omega⟩, tq2_2⟩
         ·rw [if_neg c17] at H
          exact absurd H (by simp)
        ·replace c15 := Bool.eq_false_iff.mpr c15
         subst c15
         have H1 : (some x0_2) = some r := by rw [if_neg (show ¬ (false = true) by decide)] at H; exact H
         clear H
         have H := H1
         clear H1
         obtain rfl := Option.some.inj H
         have p13 : 0 ≤ ((ji10) : Int) := of_decide_eq_true tq2_1
         have q13 : (ji10) < (x0_2.size : Int) := of_decide_eq_true tq2_1
         have hx13 := bt_at x0_2 (ji10)
         replace p13 := eq_true p13
         replace q13 := eq_true q13
         go_wp2_with (first | (go_at_call 51; (with_reducible refine (field_is.calls (bt x0_2 (ji10)) 8 false _ A14.out ?side1).mono ?_); (case side1 => repeat (first | exact HG.out.sub rfl | refine Glob.drewN ?_ _ | refine Glob.drew ?_)); rintro e w' ⟨rfl, ⟨nd, rfl⟩⟩))
         go_ret
         exact ⟨tq2_3, tq2_2⟩
       ·rw [if_neg c12] at H
        exact absurd H (by simp)
      ·rw [if_neg c11] at H
       exact absurd H (by simp)

end Go.Proofs.YtdlfdmbaejhaaaaDoor.Q
