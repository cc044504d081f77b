/- The plain Lean functions that calls of the program answer, and proofs that they do. Printed by program out of the translation; Lean checks it. -/
import Derived.Test.YtbkhgmmlacdhoaaDoorQ0
import Derived.Test.YtbkhgmmlacdhoaaDoorQ1
import Derived.Test.YtbkhgmmlacdhoaaDoorQ2
namespace Go.Proofs.YtbkhgmmlacdhoaaDoor.Q
open Go.RowKit Go.Proofs.YtbkhgmmlacdhoaaDoorW.PrintWords Go.Proofs.YtbkhgmmlacdhoaaDoorW.PrintLast Go.Proofs.YtbkhgmmlacdhoaaDoorW.PrintMore
attribute [local go_sem] max2_int min2_int max_two min_two max_three min_three max_four min_four   -- for this text's walks alone
set_option linter.unusedVariables false
set_option linter.unusedSimpArgs false

/-! ### usherref6_Media: function 31 -/
mutual
def usherref6_Media.j0 : Nat → ByteArray → Int → Bool → Option (ByteArray × Int)
  | 0, _, _, _ => none
  | k + 1, x0, x4, x25 => if x25 = true then (some ((⟨#[]⟩ : ByteArray), 2)) else ((usherref6_token.f k x0 (wrap64 (x4 + 1))).bind fun t120 => (if t120 = (wrap64 (x4 + 1)) then (some ((⟨#[]⟩ : ByteArray), 2)) else (usherref6_Media.l0 k x0 t120 t120 0)))
def usherref6_Media.l0 : Nat → ByteArray → Int → Int → Int → Option (ByteArray × Int)
  | 0, _, _, _, _ => none
  | k + 1, x0, x5, x6, x7 => if x7 ≤ (x0.size : Int) then (usherref6_Media.j2 k x0 x5 x6 x7 (decide (x6 < (x0.size : Int)))) else (usherref6_Media.j2 k x0 x5 x6 x7 false)
def usherref6_Media.j2 : Nat → ByteArray → Int → Int → Int → Bool → Option (ByteArray × Int)
  | 0, _, _, _, _, _ => none
  | k + 1, x0, x5, x6, x7, x44 => if x44 = true then ((usherref6_white.f k x0 x6).bind fun t122 => (if t122 ≥ (x0.size : Int) then (usherref6_Media.j3 k x0 x5 x7 t122 true) else (if 0 ≤ t122 then (if t122 < (x0.size : Int) then (usherref6_Media.j3 k x0 x5 x7 t122 ((bt x0 t122) != 59)) else (none)) else (none)))) else (if 0 ≤ x5 then (if x5 ≤ (x0.size : Int) then ((usherref6_Lower.f k (x0.extract 0 (x5 : Int).toNat)).bind fun t121 => (some (t121, 0))) else (none)) else (none))
def usherref6_Media.j3 : Nat → ByteArray → Int → Int → Int → Bool → Option (ByteArray × Int)
  | 0, _, _, _, _, _ => none
  | k + 1, x0, x5, x7, x8, x59 => if x59 = true then (some ((⟨#[]⟩ : ByteArray), 2)) else ((usherref6_white.f k x0 (wrap64 (x8 + 1))).bind fun t123 => (if t123 < (x0.size : Int) then (if 0 ≤ t123 then (usherref6_Media.j4 k x0 x5 t123 x7 ((bt x0 t123) != 59)) else (none)) else (usherref6_Media.j4 k x0 x5 t123 x7 false)))
def usherref6_Media.j4 : Nat → ByteArray → Int → Int → Int → Bool → Option (ByteArray × Int)
  | 0, _, _, _, _, _ => none
  | k + 1, x0, x5, x6, x7, x73 => if x73 = true then ((usherref6_parameter.f k x0 x6).bind fun t124 => (if t124 < 0 then (some ((⟨#[]⟩ : ByteArray), 2)) else (usherref6_Media.l0 k x0 x5 t124 (wrap64 (x7 + 1))))) else (usherref6_Media.l0 k x0 x5 x6 (wrap64 (x7 + 1)))
end
def usherref6_Media.f (k : Nat) (a0 : ByteArray) : Option (ByteArray × Int) := (usherref6_token.f k a0 0).bind fun t119 => (if t119 = 0 then (usherref6_Media.j0 k a0 t119 true) else (if t119 ≥ (a0.size : Int) then (usherref6_Media.j0 k a0 t119 true) else (if 0 ≤ t119 then (if t119 < (a0.size : Int) then (usherref6_Media.j0 k a0 t119 ((bt a0 t119) != 47)) else (none)) else (none))))
theorem usherref6_Media.mono_l : ∀ k, (∀ y0 y1 y2, LeO (usherref6_Media.j0 k y0 y1 y2) (usherref6_Media.j0 (k + 1) y0 y1 y2)) ∧ (∀ y0 y1 y2 y3, LeO (usherref6_Media.l0 k y0 y1 y2 y3) (usherref6_Media.l0 (k + 1) y0 y1 y2 y3)) ∧ (∀ y0 y1 y2 y3 y4, LeO (usherref6_Media.j2 k y0 y1 y2 y3 y4) (usherref6_Media.j2 (k + 1) y0 y1 y2 y3 y4)) ∧ (∀ y0 y1 y2 y3 y4, LeO (usherref6_Media.j3 k y0 y1 y2 y3 y4) (usherref6_Media.j3 (k + 1) y0 y1 y2 y3 y4)) ∧ (∀ y0 y1 y2 y3 y4, LeO (usherref6_Media.j4 k y0 y1 y2 y3 y4) (usherref6_Media.j4 (k + 1) y0 y1 y2 y3 y4))
  | 0 => ⟨fun _ _ _ r h => by simp [usherref6_Media.j0] at h, fun _ _ _ _ r h => by simp [usherref6_Media.l0] at h, fun _ _ _ _ _ r h => by simp [usherref6_Media.j2] at h, fun _ _ _ _ _ r h => by simp [usherref6_Media.j3] at h, fun _ _ _ _ _ r h => by simp [usherref6_Media.j4] at h⟩
  | k + 1 => by
    obtain ⟨ih0, ih1, ih2, ih3, ih4⟩ := usherref6_Media.mono_l k
    refine ⟨?_, ?_, ?_, ?_, ?_⟩
    · intro y0 y1 y2
      unfold usherref6_Media.j0
      repeat' first
      | (with_reducible exact ih0 _ _ _)
      | (with_reducible exact ih1 _ _ _ _)
      | (with_reducible exact ih2 _ _ _ _ _)
      | (with_reducible exact ih3 _ _ _ _ _)
      | (with_reducible exact ih4 _ _ _ _ _)
      | (with_reducible exact usherref6_Lower.mono _ _)
      | (with_reducible exact usherref6_parameter.mono _ _ _)
      | (with_reducible exact usherref6_token.mono _ _ _)
      | (with_reducible exact usherref6_white.mono _ _ _)
      | (with_reducible exact LeO.refl _)
      | (with_reducible exact LeO.none _)
      | (with_reducible refine LeO.ite ?_ ?_)
      | (with_reducible refine LeO.bind ?_ (fun _ => ?_))
      | exact ih0 _ _ _
      | exact ih1 _ _ _ _
      | exact ih2 _ _ _ _ _
      | exact ih3 _ _ _ _ _
      | exact ih4 _ _ _ _ _
      | exact usherref6_Lower.mono _ _
      | exact usherref6_parameter.mono _ _ _
      | exact usherref6_token.mono _ _ _
      | exact usherref6_white.mono _ _ _
      | exact LeO.none _
      | refine LeO.ite ?_ ?_
      | refine LeO.bind ?_ (fun _ => ?_)
    · intro y0 y1 y2 y3
      unfold usherref6_Media.l0
      repeat' first
      | (with_reducible exact ih0 _ _ _)
      | (with_reducible exact ih1 _ _ _ _)
      | (with_reducible exact ih2 _ _ _ _ _)
      | (with_reducible exact ih3 _ _ _ _ _)
      | (with_reducible exact ih4 _ _ _ _ _)
      | (with_reducible exact usherref6_Lower.mono _ _)
      | (with_reducible exact usherref6_parameter.mono _ _ _)
      | (with_reducible exact usherref6_token.mono _ _ _)
      | (with_reducible exact usherref6_white.mono _ _ _)
      | (with_reducible exact LeO.refl _)
      | (with_reducible exact LeO.none _)
      | (with_reducible refine LeO.ite ?_ ?_)
      | (with_reducible refine LeO.bind ?_ (fun _ => ?_))
      | exact ih0 _ _ _
      | exact ih1 _ _ _ _
      | exact ih2 _ _ _ _ _
      | exact ih3 _ _ _ _ _
      | exact ih4 _ _ _ _ _
      | exact usherref6_Lower.mono _ _
      | exact usherref6_parameter.mono _ _ _
      | exact usherref6_token.mono _ _ _
      | exact usherref6_white.mono _ _ _
      | exact LeO.none _
      | refine LeO.ite ?_ ?_
      | refine LeO.bind ?_ (fun _ => ?_)
    · intro y0 y1 y2 y3 y4
      unfold usherref6_Media.j2
      repeat' first
      | (with_reducible exact ih0 _ _ _)
      | (with_reducible exact ih1 _ _ _ _)
      | (with_reducible exact ih2 _ _ _ _ _)
      | (with_reducible exact ih3 _ _ _ _ _)
      | (with_reducible exact ih4 _ _ _ _ _)
      | (with_reducible exact usherref6_Lower.mono _ _)
      | (with_reducible exact usherref6_parameter.mono _ _ _)
      | (with_reducible exact usherref6_token.mono _ _ _)
      | (with_reducible exact usherref6_white.mono _ _ _)
      | (with_reducible exact LeO.refl _)
      | (with_reducible exact LeO.none _)
      | (with_reducible refine LeO.ite ?_ ?_)
      | (with_reducible refine LeO.bind ?_ (fun _ => ?_))
      | exact ih0 _ _ _
      | exact ih1 _ _ _ _
      | exact ih2 _ _ _ _ _
      | exact ih3 _ _ _ _ _
      | exact ih4 _ _ _ _ _
      | exact usherref6_Lower.mono _ _
      | exact usherref6_parameter.mono _ _ _
      | exact usherref6_token.mono _ _ _
      | exact usherref6_white.mono _ _ _
      | exact LeO.none _
      | refine LeO.ite ?_ ?_
      | refine LeO.bind ?_ (fun _ => ?_)
    · intro y0 y1 y2 y3 y4
      unfold usherref6_Media.j3
      repeat' first
      | (with_reducible exact ih0 _ _ _)
      | (with_reducible exact ih1 _ _ _ _)
      | (with_reducible exact ih2 _ _ _ _ _)
      | (with_reducible exact ih3 _ _ _ _ _)
      | (with_reducible exact ih4 _ _ _ _ _)
      | (with_reducible exact usherref6_Lower.mono _ _)
      | (with_reducible exact usherref6_parameter.mono _ _ _)
      | (with_reducible exact usherref6_token.mono _ _ _)
      | (with_reducible exact usherref6_white.mono _ _ _)
      | (with_reducible exact LeO.refl _)
      | (with_reducible exact LeO.none _)
      | (with_reducible refine LeO.ite ?_ ?_)
      | (with_reducible refine LeO.bind ?_ (fun _ => ?_))
      | exact ih0 _ _ _
      | exact ih1 _ _ _ _
      | exact ih2 _ _ _ _ _
      | exact ih3 _ _ _ _ _
      | exact ih4 _ _ _ _ _
      | exact usherref6_Lower.mono _ _
      | exact usherref6_parameter.mono _ _ _
      | exact usherref6_token.mono _ _ _
      | exact usherref6_white.mono _ _ _
      | exact LeO.none _
      | refine LeO.ite ?_ ?_
      | refine LeO.bind ?_ (fun _ => ?_)
    · intro y0 y1 y2 y3 y4
      unfold usherref6_Media.j4
      repeat' first
      | (with_reducible exact ih0 _ _ _)
      | (with_reducible exact ih1 _ _ _ _)
      | (with_reducible exact ih2 _ _ _ _ _)
      | (with_reducible exact ih3 _ _ _ _ _)
      | (with_reducible exact ih4 _ _ _ _ _)
      | (with_reducible exact usherref6_Lower.mono _ _)
      | (with_reducible exact usherref6_parameter.mono _ _ _)
      | (with_reducible exact usherref6_token.mono _ _ _)
      | (with_reducible exact usherref6_white.mono _ _ _)
      | (with_reducible exact LeO.refl _)
      | (with_reducible exact LeO.none _)
      | (with_reducible refine LeO.ite ?_ ?_)
      | (with_reducible refine LeO.bind ?_ (fun _ => ?_))
      | exact ih0 _ _ _
      | exact ih1 _ _ _ _
      | exact ih2 _ _ _ _ _
      | exact ih3 _ _ _ _ _
      | exact ih4 _ _ _ _ _
      | exact usherref6_Lower.mono _ _
      | exact usherref6_parameter.mono _ _ _
      | exact usherref6_token.mono _ _ _
      | exact usherref6_white.mono _ _ _
      | exact LeO.none _
      | refine LeO.ite ?_ ?_
      | refine LeO.bind ?_ (fun _ => ?_)
theorem usherref6_Media.mono : ∀ a0 k, LeO (usherref6_Media.f k a0) (usherref6_Media.f (k + 1) a0) := by
  intro a0 k
  obtain ⟨ih0, ih1, ih2, ih3, ih4⟩ := usherref6_Media.mono_l k
  unfold usherref6_Media.f
  repeat' first
      | (with_reducible exact ih0 _ _ _)
      | (with_reducible exact ih1 _ _ _ _)
      | (with_reducible exact ih2 _ _ _ _ _)
      | (with_reducible exact ih3 _ _ _ _ _)
      | (with_reducible exact ih4 _ _ _ _ _)
      | (with_reducible exact usherref6_Lower.mono _ _)
      | (with_reducible exact usherref6_parameter.mono _ _ _)
      | (with_reducible exact usherref6_token.mono _ _ _)
      | (with_reducible exact usherref6_white.mono _ _ _)
      | (with_reducible exact LeO.refl _)
      | (with_reducible exact LeO.none _)
      | (with_reducible refine LeO.ite ?_ ?_)
      | (with_reducible refine LeO.bind ?_ (fun _ => ?_))
      | exact ih0 _ _ _
      | exact ih1 _ _ _ _
      | exact ih2 _ _ _ _ _
      | exact ih3 _ _ _ _ _
      | exact ih4 _ _ _ _ _
      | exact usherref6_Lower.mono _ _
      | exact usherref6_parameter.mono _ _ _
      | exact usherref6_token.mono _ _ _
      | exact usherref6_white.mono _ _ _
      | exact LeO.none _
      | refine LeO.ite ?_ ?_
      | refine LeO.bind ?_ (fun _ => ?_)
set_option maxHeartbeats 8000000 in
set_option maxRecDepth 100000 in
theorem usherref6_Media.calls (k : Nat) (a0 : ByteArray) (r1 : ByteArray) (r2 : Int) (w : World) (h : usherref6_Media.f k a0 = some (r1, r2)) :
    Calls Tryd.prog 31 #[.string a0] w fun e w' => e = .returned (.tuple #[.string r1, .int .i64 r2]) ∧ Below w.heap.size w w' := by
  have HB := Aside0.mk (Below.refl w.heap.size w)
  have H : ((usherref6_token.f k a0 0).bind fun t119 => (if t119 = 0 then (usherref6_Media.j0 k a0 t119 true) else (if t119 ≥ (a0.size : Int) then (usherref6_Media.j0 k a0 t119 true) else (if 0 ≤ t119 then (if t119 < (a0.size : Int) then (usherref6_Media.j0 k a0 t119 ((bt a0 t119) != 47)) else (none)) else (none))))) = some (r1, r2) := h
  clear h
  replace H := Option.bind_eq_some_iff.mp H
  obtain ⟨t119, A20, H⟩ := H
  replace H : (if t119 = 0 then (usherref6_Media.j0 k a0 t119 true) else (if t119 ≥ (a0.size : Int) then (usherref6_Media.j0 k a0 t119 true) else (if 0 ≤ t119 then (if t119 < (a0.size : Int) then (usherref6_Media.j0 k a0 t119 ((bt a0 t119) != 47)) else (none)) else (none)))) = some (r1, r2) := H
  have A2 := Aside0.mk A20
  clear A20
  have HC3 := Aside0.mk H
  clear H
  go_enter Tryd.func31, Tryd.ntmps31
  go_upto_region 2 with (first | ((with_reducible refine gate_callee (f := 66) rfl ?_); refine goesL_ (some 11) rfl rfl Tryd.func66 (by kernel_rfl) rfl #[.string a0, .int .i64 0] rfl (by (try simp only [List.map_toArray, List.map_cons, List.map_nil]); first | done | rfl | (simp only [List.length_drop, List.length_take]; rfl)) ?_; (with_reducible refine (usherref6_token.calls k a0 0 t119 _ A2.out).mono ?_); rintro e w' ⟨rfl, ⟨nd, rfl⟩⟩; refine ⟨_, rfl, ?_⟩))
  (try simp only [Act.put, List.setIfInBounds_toArray, List.set_cons_zero, List.set_cons_succ])
  go_cut [25] (fun v25 wc => ∃ (kq : Nat) (x25_2 : Bool), v25 = .bool x25_2 ∧ Aside0 (usherref6_Media.j0 kq a0 t119 x25_2 = some (r1, r2)) ∧ Aside0 (kq ≤ k) ∧ Aside0 (Below w.heap.size w wc))
  case first =>
    have H := HC3.out
    clear HC3
    by_cases c4 : t119 = 0
    · rw [if_pos c4] at H
      have c4b0 : (t119 == 0) = true := beq_iff_eq.mpr c4
      have c4b1 : (t119 != 0) = false := bne_eq_false_iff_eq.mpr c4
      clear c4
      (first | rw [c4b0] | (simp only [i64_w, i32_w]; rw [c4b0]) | skip)
      have H' := Aside0.mk H
      clear H
      go_wp2
      go_meet
      case rel => exact ⟨_, (true), (by first | rfl | (simp; done) | (simp [*]; done)), H', ⟨by first | omega | exact Nat.le_refl _⟩, ⟨by repeat (first | (with_reducible first | exact HB.out | apply below_alloc | apply pw_below_drewN | apply below_drew1) | exact HB.out)⟩⟩
    · rw [if_neg c4] at H
      have c4b0 : (t119 == 0) = false := beq_eq_false_iff_ne.mpr c4
      have c4b1 : (t119 != 0) = true := bne_iff_ne.mpr c4
      (first | rw [c4b0] | (simp only [i64_w, i32_w]; rw [c4b0]) | skip)
      by_cases c5 : t119 ≥ (a0.size : Int)
      · rw [if_pos c5] at H
        have c5b0 : decide ((a0.size : Int) ≤ t119) = true := decide_eq_true c5
        clear c5
        have H' := Aside0.mk H
        clear H
        go_wp2
        go_meet
        case rel => exact ⟨_, (true), (by first | rfl | (simp; done) | (simp [*]; done)), H', ⟨by first | omega | exact Nat.le_refl _⟩, ⟨by repeat (first | (with_reducible first | exact HB.out | apply below_alloc | apply pw_below_drewN | apply below_drew1) | exact HB.out)⟩⟩
      · rw [if_neg c5] at H
        have c5b0 : decide ((a0.size : Int) ≤ t119) = false := decide_eq_false c5
        clear c5
        by_cases c6 : 0 ≤ t119
        · rw [if_pos c6] at H
          have c6b0 : decide (0 ≤ t119) = true := decide_eq_true c6
          clear c6
          by_cases c7 : t119 < (a0.size : Int)
          · rw [if_pos c7] at H
            have c7b0 : decide (t119 < (a0.size : Int)) = true := decide_eq_true c7
            clear c7
            have H' := Aside0.mk H
            clear H
            have p8 : 0 ≤ (t119 : Int) := of_decide_eq_true (by first | (with_reducible assumption) | assumption)
            have q8 : t119 < (a0.size : Int) := of_decide_eq_true (by first | (with_reducible assumption) | assumption)
            have hx8 := bt_at a0 t119
            replace p8 := eq_true p8
            replace q8 := eq_true q8
            go_wp2
            go_meet
            case rel => exact ⟨_, (((bt a0 t119) != 47)), (by first | rfl | (simp; done) | (simp [*]; done)), H', ⟨by first | omega | exact Nat.le_refl _⟩, ⟨by repeat (first | (with_reducible first | exact HB.out | apply below_alloc | apply pw_below_drewN | apply below_drew1) | exact HB.out)⟩⟩
          · rw [if_neg c7] at H
            exact absurd H (by simp)
        · rw [if_neg c6] at H
          exact absurd H (by simp)
  case rest =>
    clear HC3
    try clear p2
    try clear c3
    try clear c4
    try clear c4b0
    try clear c4b1
    try clear c5
    try clear c5b0
    try clear c6
    try clear c6b0
    try clear c7
    try clear c7b0
    try clear p8
    try clear q8
    try clear hx8
    try clear p8
    try clear q8
    obtain ⟨kq, x25_2, rfl, HA, HJ2, HB⟩ := hcut
    cases kq with
    | zero => exact absurd HA.out (by simp [usherref6_Media.j0])
    | succ kj2 =>
      have H := HA.out
      clear HA
      simp only [usherref6_Media.j0] at H
      by_cases c9 : x25_2 = true
      · subst c9
        have H1 : (some ((⟨#[]⟩ : ByteArray), 2)) = some (r1, r2) := by rw [if_pos rfl] at H; exact H
        clear H
        have H := H1
        clear H1
        simp only [Option.some.injEq, Prod.mk.injEq] at H
        obtain ⟨rfl, rfl⟩ := H
        go_wp2
        go_ret2
        exact ⟨by first | rfl | (simp [errW_none, errW_some] <;> rfl) | (simp [*, errW_none, errW_some] <;> rfl), by repeat (first | (with_reducible first | exact HB.out | apply below_alloc | apply pw_below_drewN | apply below_drew1) | exact HB.out)⟩
      · replace c9 := Bool.eq_false_iff.mpr c9
        subst c9
        have H1 : ((usherref6_token.f kj2 a0 (wrap64 (t119 + 1))).bind fun t120 => (if t120 = (wrap64 (t119 + 1)) then (some ((⟨#[]⟩ : ByteArray), 2)) else (usherref6_Media.l0 kj2 a0 t120 t120 0))) = some (r1, r2) := by rw [if_neg (show ¬ (false = true) by decide)] at H; exact H
        clear H
        have H := H1
        clear H1
        replace H := Option.bind_eq_some_iff.mp H
        obtain ⟨t120, A100, H⟩ := H
        replace H : (if t120 = (wrap64 (t119 + 1)) then (some ((⟨#[]⟩ : ByteArray), 2)) else (usherref6_Media.l0 kj2 a0 t120 t120 0)) = some (r1, r2) := H
        have A10 := Aside0.mk A100
        clear A100
        by_cases c11 : t120 = (wrap64 (t119 + 1))
        · rw [if_pos c11] at H
          have c11b0 : (t120 == (wrap64 (t119 + 1))) = true := beq_iff_eq.mpr c11
          have c11b1 : (t120 != (wrap64 (t119 + 1))) = false := bne_eq_false_iff_eq.mpr c11
          clear c11
          simp only [Option.some.injEq, Prod.mk.injEq] at H
          obtain ⟨rfl, rfl⟩ := H
          go_wp2_with (first | ((with_reducible refine gate_callee (f := 66) rfl ?_); refine goesL_ (some 29) rfl rfl Tryd.func66 (by kernel_rfl) rfl #[.string a0, .int .i64 (wrap64 (t119 + 1))] rfl (by (try simp only [List.map_toArray, List.map_cons, List.map_nil]); first | done | rfl | (simp only [List.length_drop, List.length_take]; rfl)) ?_; (with_reducible refine (usherref6_token.calls kj2 a0 (wrap64 (t119 + 1)) t120 _ A10.out).mono ?_); rintro e w' ⟨rfl, ⟨nd, rfl⟩⟩; refine ⟨_, rfl, ?_⟩))
          go_ret2
          exact ⟨by first | rfl | (simp [errW_none, errW_some] <;> rfl) | (simp [*, errW_none, errW_some] <;> rfl), by repeat (first | (with_reducible first | exact HB.out | apply below_alloc | apply pw_below_drewN | apply below_drew1) | exact HB.out)⟩
        · rw [if_neg c11] at H
          have c11b0 : (t120 == (wrap64 (t119 + 1))) = false := beq_eq_false_iff_ne.mpr c11
          have c11b1 : (t120 != (wrap64 (t119 + 1))) = true := bne_iff_ne.mpr c11
          have H' := Aside0.mk H
          clear H
          go_wp2_with (first | ((with_reducible refine gate_callee (f := 66) rfl ?_); refine goesL_ (some 29) rfl rfl Tryd.func66 (by kernel_rfl) rfl #[.string a0, .int .i64 (wrap64 (t119 + 1))] rfl (by (try simp only [List.map_toArray, List.map_cons, List.map_nil]); first | done | rfl | (simp only [List.length_drop, List.length_take]; rfl)) ?_; (with_reducible refine (usherref6_token.calls kj2 a0 (wrap64 (t119 + 1)) t120 _ A10.out).mono ?_); rintro e w' ⟨rfl, ⟨nd, rfl⟩⟩; refine ⟨_, rfl, ?_⟩))
          go_loopg [6, 7] kj2 (fun kq v6 v7 w' => ∃ (x6_2 : Int) (x7_2 : Int), v6 = .int .i64 x6_2 ∧ v7 = .int .i64 x7_2 ∧ Aside0 (usherref6_Media.l0 kq a0 t120 x6_2 x7_2 = some (r1, r2)) ∧ Aside0 (kq ≤ kj2) ∧ Aside0 (Below w.heap.size w w'))
          case atStart => exact ⟨(t120), (0), (by first | rfl | (simp; done) | (simp [*]; done)), (by first | rfl | (simp; done) | (simp [*]; done)), H', ⟨Nat.le_refl _⟩, ⟨by repeat (first | (with_reducible first | exact HB.out | apply below_alloc | apply pw_below_drewN | apply below_drew1) | exact HB.out)⟩⟩
          case round =>
            clear H'
            try clear c1
            try clear p2
            try clear c3
            try clear c4
            try clear c4b0
            try clear c4b1
            try clear c5
            try clear c5b0
            try clear c6
            try clear c6b0
            try clear p6
            try clear c7
            try clear c7b0
            try clear p8
            try clear q8
            try clear hx8
            try clear c9
            try clear c11
            try clear c11b0
            try clear c11b1
            try clear p2
            try clear p8
            try clear q8
            obtain ⟨x6_2, x7_2, rfl, rfl, HA, HK2, HB⟩ := hrel
            cases gk with
            | zero => exact absurd HA.out (by simp [usherref6_Media.l0])
            | succ k2 =>
              have H := HA.out
              clear HA
              simp only [usherref6_Media.l0] at H
              have HC12 := Aside0.mk H
              clear H
              go_upto_region 9 with (fail)
              go_cut [44] (fun v44 wc => ∃ (kq : Nat) (x44_11 : Bool), v44 = .bool x44_11 ∧ Aside0 (usherref6_Media.j2 kq a0 t120 x6_2 x7_2 x44_11 = some (r1, r2)) ∧ Aside0 (kq ≤ k2) ∧ Aside0 (Below w.heap.size w wc))
              case first =>
                have H := HC12.out
                clear HC12
                by_cases c13 : x7_2 ≤ (a0.size : Int)
                · rw [if_pos c13] at H
                  have c13b0 : decide (x7_2 ≤ (a0.size : Int)) = true := decide_eq_true c13
                  clear c13
                  (first | rw [c13b0] | (simp only [i64_w, i32_w]; rw [c13b0]) | skip)
                  have H' := Aside0.mk H
                  clear H
                  go_wp2
                  go_meet
                  case rel => exact ⟨_, (decide (x6_2 < (a0.size : Int))), (by first | rfl | (simp; done) | (simp [*]; done)), H', ⟨by have := HJ2.out; have := HK2.out; first | omega | exact Nat.le_refl _⟩, ⟨by repeat (first | (with_reducible first | exact HB.out | apply below_alloc | apply pw_below_drewN | apply below_drew1) | exact HB.out)⟩⟩
                · rw [if_neg c13] at H
                  have c13b0 : decide (x7_2 ≤ (a0.size : Int)) = false := decide_eq_false c13
                  clear c13
                  (first | rw [c13b0] | (simp only [i64_w, i32_w]; rw [c13b0]) | skip)
                  have H' := Aside0.mk H
                  clear H
                  go_wp2
                  go_meet
                  case rel => exact ⟨_, (false), (by first | rfl | (simp; done) | (simp [*]; done)), H', ⟨by have := HJ2.out; have := HK2.out; first | omega | exact Nat.le_refl _⟩, ⟨by repeat (first | (with_reducible first | exact HB.out | apply below_alloc | apply pw_below_drewN | apply below_drew1) | exact HB.out)⟩⟩
              case rest =>
                clear HC12
                try clear c1
                try clear p2
                try clear c3
                try clear c4
                try clear c4b0
                try clear c4b1
                try clear c5
                try clear c5b0
                try clear c6
                try clear c6b0
                try clear p6
                try clear c7
                try clear c7b0
                try clear p8
                try clear q8
                try clear hx8
                try clear c9
                try clear c11
                try clear c11b0
                try clear c11b1
                try clear c13
                try clear c13b0
                try clear p2
                try clear p6
                try clear p8
                try clear q8
                obtain ⟨kq, x44_11, rfl, HA, HJ11, HB⟩ := hcut
                cases kq with
                | zero => exact absurd HA.out (by simp [usherref6_Media.j2])
                | succ kj11 =>
                  have H := HA.out
                  clear HA
                  simp only [usherref6_Media.j2] at H
                  by_cases c14 : x44_11 = true
                  · subst c14
                    have H1 : ((usherref6_white.f kj11 a0 x6_2).bind fun t122 => (if t122 ≥ (a0.size : Int) then (usherref6_Media.j3 kj11 a0 t120 x7_2 t122 true) else (if 0 ≤ t122 then (if t122 < (a0.size : Int) then (usherref6_Media.j3 kj11 a0 t120 x7_2 t122 ((bt a0 t122) != 59)) else (none)) else (none)))) = some (r1, r2) := by rw [if_pos rfl] at H; exact H
                    clear H
                    have H := H1
                    clear H1
                    replace H := Option.bind_eq_some_iff.mp H
                    obtain ⟨t122, A150, H⟩ := H
                    replace H : (if t122 ≥ (a0.size : Int) then (usherref6_Media.j3 kj11 a0 t120 x7_2 t122 true) else (if 0 ≤ t122 then (if t122 < (a0.size : Int) then (usherref6_Media.j3 kj11 a0 t120 x7_2 t122 ((bt a0 t122) != 59)) else (none)) else (none))) = some (r1, r2) := H
                    have A15 := Aside0.mk A150
                    clear A150
                    have HC16 := Aside0.mk H
                    clear H
                    go_upto_region 12 with (first | ((with_reducible refine gate_callee (f := 67) rfl ?_); refine goesL_ (some 49) rfl rfl Tryd.func67 (by kernel_rfl) rfl #[.string a0, .int .i64 x6_2] rfl (by (try simp only [List.map_toArray, List.map_cons, List.map_nil]); first | done | rfl | (simp only [List.length_drop, List.length_take]; rfl)) ?_; (with_reducible refine (usherref6_white.calls kj11 a0 x6_2 t122 _ A15.out).mono ?_); rintro e w' ⟨rfl, ⟨nd, rfl⟩⟩; refine ⟨_, rfl, ?_⟩))
                    (try simp only [Act.put, List.setIfInBounds_toArray, List.set_cons_zero, List.set_cons_succ])
                    go_cut [59] (fun v59 wc => ∃ (kq : Nat) (x59_15 : Bool), v59 = .bool x59_15 ∧ Aside0 (usherref6_Media.j3 kq a0 t120 x7_2 t122 x59_15 = some (r1, r2)) ∧ Aside0 (kq ≤ kj11) ∧ Aside0 (Below w.heap.size w wc))
                    case first =>
                      have H := HC16.out
                      clear HC16
                      by_cases c17 : t122 ≥ (a0.size : Int)
                      · rw [if_pos c17] at H
                        have c17b0 : decide ((a0.size : Int) ≤ t122) = true := decide_eq_true c17
                        clear c17
                        (first | rw [c17b0] | (simp only [i64_w, i32_w]; rw [c17b0]) | skip)
                        have H' := Aside0.mk H
                        clear H
                        go_wp2
                        go_meet
                        case rel => exact ⟨_, (true), (by first | rfl | (simp; done) | (simp [*]; done)), H', ⟨by have := HJ2.out; have := HK2.out; have := HJ11.out; first | omega | exact Nat.le_refl _⟩, ⟨by repeat (first | (with_reducible first | exact HB.out | apply below_alloc | apply pw_below_drewN | apply below_drew1) | exact HB.out)⟩⟩
                      · rw [if_neg c17] at H
                        have c17b0 : decide ((a0.size : Int) ≤ t122) = false := decide_eq_false c17
                        clear c17
                        (first | rw [c17b0] | (simp only [i64_w, i32_w]; rw [c17b0]) | skip)
                        by_cases c18 : 0 ≤ t122
                        · rw [if_pos c18] at H
                          have c18b0 : decide (0 ≤ t122) = true := decide_eq_true c18
                          clear c18
                          by_cases c19 : t122 < (a0.size : Int)
                          · rw [if_pos c19] at H
                            have c19b0 : decide (t122 < (a0.size : Int)) = true := decide_eq_true c19
                            clear c19
                            have H' := Aside0.mk H
                            clear H
                            have p20 : 0 ≤ (t122 : Int) := of_decide_eq_true (by first | (with_reducible assumption) | assumption)
                            have q20 : t122 < (a0.size : Int) := of_decide_eq_true (by first | (with_reducible assumption) | assumption)
                            have hx20 := bt_at a0 t122
                            replace p20 := eq_true p20
                            replace q20 := eq_true q20
                            go_wp2
                            go_meet
                            case rel => exact ⟨_, (((bt a0 t122) != 59)), (by first | rfl | (simp; done) | (simp [*]; done)), H', ⟨by have := HJ2.out; have := HK2.out; have := HJ11.out; first | omega | exact Nat.le_refl _⟩, ⟨by repeat (first | (with_reducible first | exact HB.out | apply below_alloc | apply pw_below_drewN | apply below_drew1) | exact HB.out)⟩⟩
                          · rw [if_neg c19] at H
                            exact absurd H (by simp)
                        · rw [if_neg c18] at H
                          exact absurd H (by simp)
                    case rest =>
                      clear HC16
                      try clear c1
                      try clear p2
                      try clear q2
                      try clear hx2
                      try clear c3
                      try clear c4
                      try clear c4b0
                      try clear c4b1
                      try clear c5
                      try clear c5b0
                      try clear c6
                      try clear c6b0
                      try clear p6
                      try clear c7
                      try clear c7b0
                      try clear p8
                      try clear q8
                      try clear hx8
                      try clear c9
                      try clear c11
                      try clear c11b0
                      try clear c11b1
                      try clear c13
                      try clear c13b0
                      try clear c14
                      try clear c17
                      try clear c17b0
                      try clear c18
                      try clear c18b0
                      try clear c19
                      try clear c19b0
                      try clear p20
                      try clear q20
                      try clear hx20
                      try clear p2
                      try clear p20
                      try clear p6
                      try clear p8
                      try clear q20
                      try clear q8
                      obtain ⟨kq, x59_15, rfl, HA, HJ15, HB⟩ := hcut
                      cases kq with
                      | zero => exact absurd HA.out (by simp [usherref6_Media.j3])
                      | succ kj15 =>
                        have H := HA.out
                        clear HA
                        simp only [usherref6_Media.j3] at H
                        by_cases c21 : x59_15 = true
                        · subst c21
                          have H1 : (some ((⟨#[]⟩ : ByteArray), 2)) = some (r1, r2) := by rw [if_pos rfl] at H; exact H
                          clear H
                          have H := H1
                          clear H1
                          simp only [Option.some.injEq, Prod.mk.injEq] at H
                          obtain ⟨rfl, rfl⟩ := H
                          go_wp2
                          go_ret2
                          exact ⟨by first | rfl | (simp [errW_none, errW_some] <;> rfl) | (simp [*, errW_none, errW_some] <;> rfl), by repeat (first | (with_reducible first | exact HB.out | apply below_alloc | apply pw_below_drewN | apply below_drew1) | exact HB.out)⟩
                        · replace c21 := Bool.eq_false_iff.mpr c21
                          subst c21
                          have H1 : ((usherref6_white.f kj15 a0 (wrap64 (t122 + 1))).bind fun t123 => (if t123 < (a0.size : Int) then (if 0 ≤ t123 then (usherref6_Media.j4 kj15 a0 t120 t123 x7_2 ((bt a0 t123) != 59)) else (none)) else (usherref6_Media.j4 kj15 a0 t120 t123 x7_2 false))) = some (r1, r2) := by rw [if_neg (show ¬ (false = true) by decide)] at H; exact H
                          clear H
                          have H := H1
                          clear H1
                          replace H := Option.bind_eq_some_iff.mp H
                          obtain ⟨t123, A220, H⟩ := H
                          replace H : (if t123 < (a0.size : Int) then (if 0 ≤ t123 then (usherref6_Media.j4 kj15 a0 t120 t123 x7_2 ((bt a0 t123) != 59)) else (none)) else (usherref6_Media.j4 kj15 a0 t120 t123 x7_2 false)) = some (r1, r2) := H
                          have A22 := Aside0.mk A220
                          clear A220
                          have HC23 := Aside0.mk H
                          clear H
                          go_upto_region 15 with (first | ((with_reducible refine gate_callee (f := 67) rfl ?_); refine goesL_ (some 63) rfl rfl Tryd.func67 (by kernel_rfl) rfl #[.string a0, .int .i64 (wrap64 (t122 + 1))] rfl (by (try simp only [List.map_toArray, List.map_cons, List.map_nil]); first | done | rfl | (simp only [List.length_drop, List.length_take]; rfl)) ?_; (with_reducible refine (usherref6_white.calls kj15 a0 (wrap64 (t122 + 1)) t123 _ A22.out).mono ?_); rintro e w' ⟨rfl, ⟨nd, rfl⟩⟩; refine ⟨_, rfl, ?_⟩))
                          (try simp only [Act.put, List.setIfInBounds_toArray, List.set_cons_zero, List.set_cons_succ])
                          go_cut [73] (fun v73 wc => ∃ (kq : Nat) (x73_22 : Bool), v73 = .bool x73_22 ∧ Aside0 (usherref6_Media.j4 kq a0 t120 t123 x7_2 x73_22 = some (r1, r2)) ∧ Aside0 (kq ≤ kj15) ∧ Aside0 (Below w.heap.size w wc))
                          case first =>
                            have H := HC23.out
                            clear HC23
                            by_cases c24 : t123 < (a0.size : Int)
                            · rw [if_pos c24] at H
                              have c24b0 : decide (t123 < (a0.size : Int)) = true := decide_eq_true c24
                              clear c24
                              (first | rw [c24b0] | (simp only [i64_w, i32_w]; rw [c24b0]) | skip)
                              by_cases c25 : 0 ≤ t123
                              · rw [if_pos c25] at H
                                have c25b0 : decide (0 ≤ t123) = true := decide_eq_true c25
                                clear c25
                                have H' := Aside0.mk H
                                clear H
                                have p26 : 0 ≤ (t123 : Int) := of_decide_eq_true (by first | (with_reducible assumption) | assumption)
                                have q26 : t123 < (a0.size : Int) := of_decide_eq_true (by first | (with_reducible assumption) | assumption)
                                have hx26 := bt_at a0 t123
                                replace p26 := eq_true p26
                                replace q26 := eq_true q26
                                go_wp2
                                go_meet
                                case rel => exact ⟨_, (((bt a0 t123) != 59)), (by first | rfl | (simp; done) | (simp [*]; done)), H', ⟨by have := HJ2.out; have := HK2.out; have := HJ11.out; have := HJ15.out; first | omega | exact Nat.le_refl _⟩, ⟨by repeat (first | (with_reducible first | exact HB.out | apply below_alloc | apply pw_below_drewN | apply below_drew1) | exact HB.out)⟩⟩
                              · rw [if_neg c25] at H
                                exact absurd H (by simp)
                            · rw [if_neg c24] at H
                              have c24b0 : decide (t123 < (a0.size : Int)) = false := decide_eq_false c24
                              clear c24
                              (first | rw [c24b0] | (simp only [i64_w, i32_w]; rw [c24b0]) | skip)
                              have H' := Aside0.mk H
                              clear H
                              go_wp2
                              go_meet
                              case rel => exact ⟨_, (false), (by first | rfl | (simp; done) | (simp [*]; done)), H', ⟨by have := HJ2.out; have := HK2.out; have := HJ11.out; have := HJ15.out; first | omega | exact Nat.le_refl _⟩, ⟨by repeat (first | (with_reducible first | exact HB.out | apply below_alloc | apply pw_below_drewN | apply below_drew1) | exact HB.out)⟩⟩
                          case rest =>
                            clear HC23
                            try clear c1
                            try clear c2
                            try clear p2
                            try clear q2
                            try clear hx2
                            try clear c3
                            try clear c4
                            try clear c4b0
                            try clear c4b1
                            try clear c5
                            try clear c5b0
                            try clear c6
                            try clear c6b0
                            try clear p6
                            try clear c7
                            try clear c7b0
                            try clear p8
                            try clear q8
                            try clear hx8
                            try clear c9
                            try clear c11
                            try clear c11b0
                            try clear c11b1
                            try clear c13
                            try clear c13b0
                            try clear c14
                            try clear c17
                            try clear c17b0
                            try clear c18
                            try clear c18b0
                            try clear c19
                            try clear c19b0
                            try clear p20
                            try clear q20
                            try clear hx20
                            try clear c21
                            try clear c24
                            try clear c24b0
                            try clear c25
                            try clear c25b0
                            try clear p26
                            try clear q26
                            try clear hx26
                            try clear p2
                            try clear p20
                            try clear p26
                            try clear p6
                            try clear p8
                            try clear q2
                            try clear q20
                            try clear q26
                            try clear q8
                            obtain ⟨kq, x73_22, rfl, HA, HJ22, HB⟩ := hcut
                            cases kq with
                            | zero => exact absurd HA.out (by simp [usherref6_Media.j4])
                            | succ kj22 =>
                              have H := HA.out
                              clear HA
                              simp only [usherref6_Media.j4] at H
                              by_cases c27 : x73_22 = true
                              · subst c27
                                have H1 : ((usherref6_parameter.f kj22 a0 t123).bind fun t124 => (if t124 < 0 then (some ((⟨#[]⟩ : ByteArray), 2)) else (usherref6_Media.l0 kj22 a0 t120 t124 (wrap64 (x7_2 + 1))))) = some (r1, r2) := by rw [if_pos rfl] at H; exact H
                                clear H
                                have H := H1
                                clear H1
                                replace H := Option.bind_eq_some_iff.mp H
                                obtain ⟨t124, A280, H⟩ := H
                                replace H : (if t124 < 0 then (some ((⟨#[]⟩ : ByteArray), 2)) else (usherref6_Media.l0 kj22 a0 t120 t124 (wrap64 (x7_2 + 1)))) = some (r1, r2) := H
                                have A28 := Aside0.mk A280
                                clear A280
                                by_cases c29 : t124 < 0
                                · rw [if_pos c29] at H
                                  have c29b0 : decide (t124 < 0) = true := decide_eq_true c29
                                  clear c29
                                  simp only [Option.some.injEq, Prod.mk.injEq] at H
                                  obtain ⟨rfl, rfl⟩ := H
                                  go_wp2_with (first | ((with_reducible refine gate_callee (f := 68) rfl ?_); refine goesL_ (some 76) rfl rfl Tryd.func68 (by kernel_rfl) rfl #[.string a0, .int .i64 t123] rfl (by (try simp only [List.map_toArray, List.map_cons, List.map_nil]); first | done | rfl | (simp only [List.length_drop, List.length_take]; rfl)) ?_; (with_reducible refine (usherref6_parameter.calls kj22 a0 t123 t124 _ A28.out).mono ?_); rintro e w' ⟨rfl, ⟨nd, rfl⟩⟩; refine ⟨_, rfl, ?_⟩))
                                  go_ret2
                                  exact ⟨by first | rfl | (simp [errW_none, errW_some] <;> rfl) | (simp [*, errW_none, errW_some] <;> rfl), by repeat (first | (with_reducible first | exact HB.out | apply below_alloc | apply pw_below_drewN | apply below_drew1) | exact HB.out)⟩
                                · rw [if_neg c29] at H
                                  have c29b0 : decide (t124 < 0) = false := decide_eq_false c29
                                  clear c29
                                  have H' := Aside0.mk H
                                  clear H
                                  go_wp2_with (first | ((with_reducible refine gate_callee (f := 68) rfl ?_); refine goesL_ (some 76) rfl rfl Tryd.func68 (by kernel_rfl) rfl #[.string a0, .int .i64 t123] rfl (by (try simp only [List.map_toArray, List.map_cons, List.map_nil]); first | done | rfl | (simp only [List.length_drop, List.length_take]; rfl)) ?_; (with_reducible refine (usherref6_parameter.calls kj22 a0 t123 t124 _ A28.out).mono ?_); rintro e w' ⟨rfl, ⟨nd, rfl⟩⟩; refine ⟨_, rfl, ?_⟩))
                                  go_roundg kj22
                                  case measure => have := HJ2.out; have := HK2.out; have := HJ11.out; have := HJ15.out; have := HJ22.out; omega
                                  case rel => exact ⟨(t124), (wrap64 (x7_2 + 1)), (by first | rfl | (simp; done) | (simp [*]; done)), (by first | rfl | (simp; done) | (simp [*]; done)), H', ⟨by have := HJ2.out; have := HK2.out; have := HJ11.out; have := HJ15.out; have := HJ22.out; omega⟩, ⟨by repeat (first | (with_reducible first | exact HB.out | apply below_alloc | apply pw_below_drewN | apply below_drew1) | exact HB.out)⟩⟩
                              · replace c27 := Bool.eq_false_iff.mpr c27
                                subst c27
                                have H1 : (usherref6_Media.l0 kj22 a0 t120 t123 (wrap64 (x7_2 + 1))) = some (r1, r2) := by rw [if_neg (show ¬ (false = true) by decide)] at H; exact H
                                clear H
                                have H := H1
                                clear H1
                                have H' := Aside0.mk H
                                clear H
                                go_wp2
                                go_roundg kj22
                                case measure => have := HJ2.out; have := HK2.out; have := HJ11.out; have := HJ15.out; have := HJ22.out; omega
                                case rel => exact ⟨(t123), (wrap64 (x7_2 + 1)), (by first | rfl | (simp; done) | (simp [*]; done)), (by first | rfl | (simp; done) | (simp [*]; done)), H', ⟨by have := HJ2.out; have := HK2.out; have := HJ11.out; have := HJ15.out; have := HJ22.out; omega⟩, ⟨by repeat (first | (with_reducible first | exact HB.out | apply below_alloc | apply pw_below_drewN | apply below_drew1) | exact HB.out)⟩⟩
                  · replace c14 := Bool.eq_false_iff.mpr c14
                    subst c14
                    have H1 : (if 0 ≤ t120 then (if t120 ≤ (a0.size : Int) then ((usherref6_Lower.f kj11 (a0.extract 0 (t120 : Int).toNat)).bind fun t121 => (some (t121, 0))) else (none)) else (none)) = some (r1, r2) := by rw [if_neg (show ¬ (false = true) by decide)] at H; exact H
                    clear H
                    have H := H1
                    clear H1
                    by_cases c30 : 0 ≤ t120
                    · rw [if_pos c30] at H
                      have c30b0 := eq_true c30
                      have c30b1 : decide (0 ≤ t120) = true := decide_eq_true c30
                      clear c30
                      by_cases c31 : t120 ≤ (a0.size : Int)
                      · rw [if_pos c31] at H
                        have c31b0 := eq_true c31
                        have c31b1 : decide (t120 ≤ (a0.size : Int)) = true := decide_eq_true c31
                        clear c31
                        replace H := Option.bind_eq_some_iff.mp H
                        obtain ⟨t121, A320, H⟩ := H
                        replace H : (some (t121, 0)) = some (r1, r2) := H
                        have A32 := Aside0.mk A320
                        clear A320
                        simp only [Option.some.injEq, Prod.mk.injEq] at H
                        obtain ⟨rfl, rfl⟩ := H
                        go_wp2_with (first | ((with_reducible refine gate_callee (f := 69) rfl ?_); refine goesL_ (some 82) rfl rfl Tryd.func69 (by kernel_rfl) rfl #[.string (a0.extract 0 (t120 : Int).toNat)] rfl (by (try simp only [List.map_toArray, List.map_cons, List.map_nil]); first | done | rfl | (simp only [List.length_drop, List.length_take]; rfl)) ?_; (with_reducible refine (usherref6_Lower.calls kj11 (a0.extract 0 (t120 : Int).toNat) t121 _ A32.out).mono ?_); rintro e w33 ⟨rfl, hb⟩; refine ⟨_, rfl, ?_⟩; have n0_ := Aside0.mk (below_step (by repeat (first | (with_reducible first | exact HB.out | apply below_alloc | apply pw_below_drewN | apply below_drew1) | exact HB.out)) hb); clear HB; have HB := n0_; clear n0_; (try clear hb); (try clear hb2); (try clear hk); (try clear hi)))
                        go_ret2
                        exact ⟨by first | rfl | (simp [errW_none, errW_some] <;> rfl) | (simp [*, errW_none, errW_some] <;> rfl), by repeat (first | (with_reducible first | exact HB.out | apply below_alloc | apply pw_below_drewN | apply below_drew1) | exact HB.out)⟩
                      · rw [if_neg c31] at H
                        exact absurd H (by simp)
                    · rw [if_neg c30] at H
                      exact absurd H (by simp)

end Go.Proofs.YtbkhgmmlacdhoaaDoor.Q
