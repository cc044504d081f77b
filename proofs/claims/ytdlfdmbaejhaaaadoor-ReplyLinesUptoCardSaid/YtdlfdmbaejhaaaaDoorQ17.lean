/- The plain Lean functions that calls of the program answer, and proofs that they do. Printed by program out of the translation; Lean checks it. -/
import Derived.Test.YtdlfdmbaejhaaaaDoorQ0
import Derived.Test.YtdlfdmbaejhaaaaDoorQ2
import Derived.Test.YtdlfdmbaejhaaaaDoorQ16
import Derived.Test.YtdlfdmbaejhaaaaDoorTabs
namespace Go.Proofs.YtdlfdmbaejhaaaaDoor.Q
open Go.RowKit Go.Proofs.YtdlfdmbaejhaaaaDoorW.PrintWords Go.Proofs.YtdlfdmbaejhaaaaDoorW.PrintLast Go.Proofs.YtdlfdmbaejhaaaaDoorW.PrintMore
attribute [local go_sem] max2_int min2_int max_two min_two max_three min_three max_four min_four   -- for this text's walks alone
set_option linter.unusedVariables false
set_option linter.unusedSimpArgs false

theorem Aq17 {p : Prop} (h : p) : Aside0 p := ⟨h⟩
theorem tq17_0 {P : Prop} (h : P := by injection e382) : P := h
theorem tq17_1 {P : Prop} (h : P := by injection e384) : P := h
theorem tq17_2 {P : Prop} (h : P := by first | rfl | (simp; done) | (simp [*]; done)) : P := h
theorem tq17_3 {P : Prop} (h : P := by first | (with_reducible assumption) | assumption) : P := h
theorem tq17_4 {P : Prop} (h : P := by repeat (first | exact Drawn0.refl _ | apply Drawn0.step)) : P := h
theorem tq17_5 {P : Prop} (h : P := by first | rfl | (simp [errW_none, errW_some] <;> rfl) | (simp [*, errW_none, errW_some] <;> rfl)) : P := h
theorem tq17_6 {P Q0 : Prop} (y0 : Q0) (h : Q0 → P := by intro y0_; (with_reducible repeat (first | refine blk_drewN ?_ _ | refine blk_drew ?_ | refine blk_alloc ?_ _)); exact y0_) : P := h y0
theorem tq17_7 {P : Prop} (h : P := by repeat (first | (with_reducible first | exact HB.out | apply below_alloc | apply pw_below_drewN | apply below_drew1) | exact HB.out)) : P := h
theorem tq17_8 {P Q0 : Prop} (y0 : Q0) (h : Q0 → P := by intro y0_; repeat (first | (with_reducible first | exact HB.out | apply below_alloc | apply pw_below_drewN | apply below_drew1 | refine below_set ?_ y0_) | exact HB.out)) : P := h y0
/-! ### usherlaw8_mayBe: function 20 -/
mutual
def usherlaw8_mayBe.l0 : Nat → Bool → Int → Int → List (S26) → ByteArray → Bool → Option (Bool)
 | 0, _, _, _, _, _, _ => none
 | k + 1, x3, x4, x379000, x379001, x379002, x379003 => if x4 < 17 then (if 0 ≤ x4 then (if (usherlaw8_statuses.c0 x4) = x379000 then (usherlaw8_mayBe.l0 k true (wrap64 (x4 + 1)) x379000 x379001 x379002 x379003) else (usherlaw8_mayBe.l0 k x3 (wrap64 (x4 + 1)) x379000 x379001 x379002 x379003)) else (none)) else (usherlaw8_mayBe.l1 k x3 0 x379000 x379001 x379002 x379003)
def usherlaw8_mayBe.l1 : Nat → Bool → Int → Int → List (S26) → ByteArray → Bool → Option (Bool)
 | 0, _, _, _, _, _, _ => none
 | k + 1, x3, x5, x379000, x379001, x379002, x379003 => if x5 < (x379001.length : Int) then (if 0 ≤ x5 then ((field_Token.f k ((rd_T26 x379001 x5).f0)).bind fun t381 => ((field_Value.f k ((rd_T26 x379001 x5).f1)).bind fun t383 => ((usherlaw8_own.f k ((rd_T26 x379001 x5).f0)).bind fun t385 => (if t381 = true then (if t383 = true then (if t385 = true then (some false) else (usherlaw8_mayBe.l1 k x3 (wrap64 (x5 + 1)) x379000 x379001 x379002 x379003)) else (some false)) else (some false))))) else (none)) else (some x3)
end
def usherlaw8_mayBe.f (k : Nat) (a0_0 : Int) (l0_1 : List (S26)) (a0_2 : ByteArray) (a0_3 : Bool) : Option (Bool) := usherlaw8_mayBe.l0 k false 0 a0_0 l0_1 a0_2 a0_3
theorem usherlaw8_mayBe.mono_l : ∀ k, (∀ y0 y1 y2 y3 y4 y5, LeO (usherlaw8_mayBe.l0 k y0 y1 y2 y3 y4 y5) (usherlaw8_mayBe.l0 (k + 1) y0 y1 y2 y3 y4 y5)) ∧ (∀ y0 y1 y2 y3 y4 y5, LeO (usherlaw8_mayBe.l1 k y0 y1 y2 y3 y4 y5) (usherlaw8_mayBe.l1 (k + 1) y0 y1 y2 y3 y4 y5))
 | 0 => ⟨fun _ _ _ _ _ _ r h => by simp [usherlaw8_mayBe.l0] at h, fun _ _ _ _ _ _ r h => by simp [usherlaw8_mayBe.l1] at h⟩
 | k + 1 => by
  obtain ⟨ih0, ih1⟩ := usherlaw8_mayBe.mono_l k
  refine ⟨?_, ?_⟩
  ·intro y0 y1 y2 y3 y4 y5
   unfold usherlaw8_mayBe.l0
   repeat' first
   | (with_reducible exact ih0 _ _ _ _ _ _)
   | (with_reducible exact ih1 _ _ _ _ _ _)
   | (with_reducible exact field_Token.mono _ _)
   | (with_reducible exact field_Value.mono _ _)
   | (with_reducible exact usherlaw8_own.mono _ _)
   | (with_reducible exact LeO.refl _)
   | (with_reducible exact LeO.none _)
   | (with_reducible refine LeO.ite ?_ ?_)
   | (with_reducible refine LeO.bind ?_ (fun _ => ?_))
   | exact ih0 _ _ _ _ _ _
   | exact ih1 _ _ _ _ _ _
   | exact field_Token.mono _ _
   | exact field_Value.mono _ _
   | exact usherlaw8_own.mono _ _
   | exact LeO.none _
   | refine LeO.ite ?_ ?_
   | refine LeO.bind ?_ (fun _ => ?_)
  ·intro y0 y1 y2 y3 y4 y5
   unfold usherlaw8_mayBe.l1
   repeat' first
   | (with_reducible exact ih0 _ _ _ _ _ _)
   | (with_reducible exact ih1 _ _ _ _ _ _)
   | (with_reducible exact field_Token.mono _ _)
   | (with_reducible exact field_Value.mono _ _)
   | (with_reducible exact usherlaw8_own.mono _ _)
   | (with_reducible exact LeO.refl _)
   | (with_reducible exact LeO.none _)
   | (with_reducible refine LeO.ite ?_ ?_)
   | (with_reducible refine LeO.bind ?_ (fun _ => ?_))
   | exact ih0 _ _ _ _ _ _
   | exact ih1 _ _ _ _ _ _
   | exact field_Token.mono _ _
   | exact field_Value.mono _ _
   | exact usherlaw8_own.mono _ _
   | exact LeO.none _
   | refine LeO.ite ?_ ?_
   | refine LeO.bind ?_ (fun _ => ?_)
theorem usherlaw8_mayBe.mono : ∀ a0 a1 a2 a3 k, LeO (usherlaw8_mayBe.f k a0 a1 a2 a3) (usherlaw8_mayBe.f (k + 1) a0 a1 a2 a3) := by
 intro a0 a1 a2 a3 k
 obtain ⟨ih0, ih1⟩ := usherlaw8_mayBe.mono_l k
 unfold usherlaw8_mayBe.f
 repeat' first
   | (with_reducible exact ih0 _ _ _ _ _ _)
   | (with_reducible exact ih1 _ _ _ _ _ _)
   | (with_reducible exact field_Token.mono _ _)
   | (with_reducible exact field_Value.mono _ _)
   | (with_reducible exact usherlaw8_own.mono _ _)
   | (with_reducible exact LeO.refl _)
   | (with_reducible exact LeO.none _)
   | (with_reducible refine LeO.ite ?_ ?_)
   | (with_reducible refine LeO.bind ?_ (fun _ => ?_))
   | exact ih0 _ _ _ _ _ _
   | exact ih1 _ _ _ _ _ _
   | exact field_Token.mono _ _
   | exact field_Value.mono _ _
   | exact usherlaw8_own.mono _ _
   | exact LeO.none _
   | refine LeO.ite ?_ ?_
   | refine LeO.bind ?_ (fun _ => ?_)
set_option maxHeartbeats 8000000 in
set_option maxRecDepth 100000 in
theorem usherlaw8_mayBe.calls [Sent] (k : Nat) (a0_0 : Int) (A0_1 : Option Addr) (c0_1 : Nat) (l0_1 : List (S26)) (a0_2 : ByteArray) (a0_3 : Bool) (r : Bool) (w : World) (hr0_1 : Kd.C k26 w A0_1 l0_1.length l0_1) (hc0_1 : l0_1.length ≤ c0_1) (h : usherlaw8_mayBe.f k a0_0 l0_1 a0_2 a0_3 = some r) (hG : Glob [7, 16] w) :
  Calls Tryd.prog 20 #[.agg #[.int .i64 a0_0, .slice A0_1 l0_1.length c0_1, .string a0_2, .bool a0_3]] w fun e w' => e = .returned (.bool r) ∧ Below w.heap.size w w' := by
 have HG := Aq17 hG
 clear hG
 have hu24 := Tryd.underlying24
 have HR0_1 := Aq17 hr0_1
 have HC0_1 := Aq17 hc0_1
 clear hr0_1 hc0_1
 have HB := Aq17 (Below.refl w.heap.size w)
 have H : (usherlaw8_mayBe.l0 k false 0 a0_0 l0_1 a0_2 a0_3) = some r := h
 clear h
 have H' := Aq17 H
 clear H
 go_enter Tryd.func20, Tryd.ntmps20
 go_wp2_with (first | ((with_reducible refine gate_dst (N := 1) rfl ?_); refine box_event ?hg (N := 1) ?hd (cs := #[.int .i64 a0_0, .slice A0_1 l0_1.length c0_1, .string a0_2, .bool a0_3]) (t := 24) ?hr ?_; (case hd => rfl); (case hg => rfl); (case hr => first | (go_simp; done) | (go_simp; rfl)); intro gb378 hg w2 hbox hb; have BK378 := Aq17 (hbox); have GW378 := Aq17 ((by rw [hg]; exact (below_size tq17_7) : w.heap.size ≤ gb378)); have GE378 := Aq17 ((by rw [hg]; exact (below_size tq17_7) : w.heap.size ≤ gb378)); replace HB := Aq17 (below_step tq17_7 hb); clear hb hbox hg))
 repeat (go_quiet (first | ((with_reducible refine gate_dst (N := 1) rfl ?_); refine box_event ?hg (N := 1) ?hd (cs := #[.int .i64 a0_0, .slice A0_1 l0_1.length c0_1, .string a0_2, .bool a0_3]) (t := 24) ?hr ?_; (case hd => rfl); (case hg => rfl); (case hr => first | (go_simp; done) | (go_simp; rfl)); intro gb378 hg w2 hbox hb; have BK378 := Aq17 (hbox); have GW378 := Aq17 ((by rw [hg]; exact (below_size tq17_7) : w.heap.size ≤ gb378)); have GE378 := Aq17 ((by rw [hg]; exact (below_size tq17_7) : w.heap.size ≤ gb378)); replace HB := Aq17 (below_step tq17_7 hb); clear hb hbox hg)); try go_wp2_with (first | ((with_reducible refine gate_dst (N := 1) rfl ?_); refine box_event ?hg (N := 1) ?hd (cs := #[.int .i64 a0_0, .slice A0_1 l0_1.length c0_1, .string a0_2, .bool a0_3]) (t := 24) ?hr ?_; (case hd => rfl); (case hg => rfl); (case hr => first | (go_simp; done) | (go_simp; rfl)); intro gb378 hg w2 hbox hb; have BK378 := Aq17 (hbox); have GW378 := Aq17 ((by rw [hg]; exact (below_size tq17_7) : w.heap.size ≤ gb378)); have GE378 := Aq17 ((by rw [hg]; exact (below_size tq17_7) : w.heap.size ≤ gb378)); replace HB := Aq17 (below_step tq17_7 hb); clear hb hbox hg)))
 go_loopg [3, 4] k (fun kq v3 v4 w' => ∃ (x3_1 : Bool) (x4_1 : Int), v3 = .bool x3_1 ∧ v4 = .int .i64 x4_1 ∧ Aside0 (usherlaw8_mayBe.l0 kq x3_1 x4_1 a0_0 l0_1 a0_2 a0_3 = some r) ∧ Aside0 (kq ≤ k) ∧ Aside0 (w'.heap[gb378]? = some (.cells #[.int .i64 a0_0, (.slice A0_1 l0_1.length c0_1), .string a0_2, .bool a0_3] 24 (0, 0))) ∧ Aside0 (Below w.heap.size w w'))
 case atStart => exact ⟨(false), (0), tq17_2, tq17_2, H', ⟨Nat.le_refl _⟩, ⟨(tq17_6 BK378.out)⟩, ⟨(tq17_8 GE378.out)⟩⟩
 case round =>
  clear H'
  try clear c2
  try clear p2
  obtain ⟨x3_1, x4_1, rfl, rfl, HA, HK1, BK378, HB⟩ := hrel
  cases gk with
  | zero => exact absurd HA.out (by simp [usherlaw8_mayBe.l0])
  | succ k1 =>
   have H := HA.out
   clear HA
   simp only [usherlaw8_mayBe.l0] at H
   by_cases c3 : x4_1 < 17
   ·rw [if_pos c3] at H
    have c3b0 : decide (x4_1 < 17) = true := decide_eq_true c3
    clear c3
    by_cases c4 : 0 ≤ x4_1
    ·rw [if_pos c4] at H
     have c4b0 : decide (0 ≤ x4_1) = true := decide_eq_true c4
     clear c4
     by_cases c6 : (usherlaw8_statuses.c0 x4_1) = a0_0
     ·rw [if_pos c6] at H
      have c6b0 : ((usherlaw8_statuses.c0 x4_1) == a0_0) = true := beq_iff_eq.mpr c6
      have c6b1 : ((usherlaw8_statuses.c0 x4_1) != a0_0) = false := bne_eq_false_iff_eq.mpr c6
      clear c6
      have H' := Aq17 H
      clear H
      have p5 : 0 ≤ (x4_1 : Int) := of_decide_eq_true tq17_3
      have q5 : (x4_1 : Int) < 17 := of_decide_eq_true tq17_3
      have hx5 := usherlaw8_statuses.cell (Glob.statuses (HG.out.step HB.out (T := [7, 16]) rfl) (by rfl)) x4_1 p5 q5
      replace p5 := eq_true p5
      replace q5 := eq_true q5
      have hcz7_0 : wr.cell? ⟨gb378, 0, none⟩ = some (.int .i64 a0_0) := (blk_cell BK378.out 0).trans rfl
      have hcz7_1 : wr.cell? ⟨gb378, 1, none⟩ = some (.slice A0_1 l0_1.length c0_1) := (blk_cell BK378.out 1).trans rfl
      have hcz7_2 : wr.cell? ⟨gb378, 2, none⟩ = some (.string a0_2) := (blk_cell BK378.out 2).trans rfl
      have hcz7_3 : wr.cell? ⟨gb378, 3, none⟩ = some (.bool a0_3) := (blk_cell BK378.out 3).trans rfl
      have hfz7_0 := blk_frozen BK378.out 0
      have hfz7_1 := blk_frozen BK378.out 1
      have hfz7_2 := blk_frozen BK378.out 2
      have hfz7_3 := blk_frozen BK378.out 3
      go_wp2
      repeat (go_quiet (fail); try go_wp2)
      go_roundg k1
      case measure => have := HK1.out; omega
      case rel => exact ⟨(true), (wrap64 (x4_1 + 1)), tq17_2, tq17_2, H', ⟨by have := HK1.out; omega⟩, ⟨(tq17_6 BK378.out)⟩, ⟨(tq17_8 GE378.out)⟩⟩
     ·rw [if_neg c6] at H
      have c6b0 : ((usherlaw8_statuses.c0 x4_1) == a0_0) = false := beq_eq_false_iff_ne.mpr c6
      have c6b1 : ((usherlaw8_statuses.c0 x4_1) != a0_0) = true := bne_iff_ne.mpr c6
      have H' := Aq17 H
      clear H
      have p5 : 0 ≤ (x4_1 : Int) := of_decide_eq_true tq17_3
      have q5 : (x4_1 : Int) < 17 := of_decide_eq_true tq17_3
      have hx5 := usherlaw8_statuses.cell (Glob.statuses (HG.out.step HB.out (T := [7, 16]) rfl) (by rfl)) x4_1 p5 q5
      replace p5 := eq_true p5
      replace q5 := eq_true q5
      have hcz8_0 : wr.cell? ⟨gb378, 0, none⟩ = some (.int .i64 a0_0) := (blk_cell BK378.out 0).trans rfl
      have hcz8_1 : wr.cell? ⟨gb378, 1, none⟩ = some (.slice A0_1 l0_1.length c0_1) := (blk_cell BK378.out 1).trans rfl
      have hcz8_2 : wr.cell? ⟨gb378, 2, none⟩ = some (.string a0_2) := (blk_cell BK378.out 2).trans rfl
      have hcz8_3 : wr.cell? ⟨gb378, 3, none⟩ = some (.bool a0_3) := (blk_cell BK378.out 3).trans rfl
      have hfz8_0 := blk_frozen BK378.out 0
      have hfz8_1 := blk_frozen BK378.out 1
      have hfz8_2 := blk_frozen BK378.out 2
      have hfz8_3 := blk_frozen BK378.out 3
      go_wp2
      repeat (go_quiet (fail); try go_wp2)
      go_roundg k1
      case measure => have := HK1.out; omega
      case rel => exact ⟨(x3_1), (wrap64 (x4_1 + 1)), tq17_2, tq17_2, H', ⟨by have := HK1.out; omega⟩, ⟨(tq17_6 BK378.out)⟩, ⟨(tq17_8 GE378.out)⟩⟩
    ·rw [if_neg c4] at H
     exact absurd H (by simp)
   ·rw [if_neg c3] at H
    have c3b0 : decide (x4_1 < 17) = false := decide_eq_false c3
    clear c3
    have H' := Aq17 H
    clear H
    go_wp2
    repeat (go_quiet (fail); try go_wp2)
    go_loopg [5] k1 (fun kq v5 w' => ∃ (x5_2 : Int), v5 = .int .i64 x5_2 ∧ Aside0 (usherlaw8_mayBe.l1 kq x3_1 x5_2 a0_0 l0_1 a0_2 a0_3 = some r) ∧ Aside0 (kq ≤ k1) ∧ Aside0 (w'.heap[gb378]? = some (.cells #[.int .i64 a0_0, (.slice A0_1 l0_1.length c0_1), .string a0_2, .bool a0_3] 24 (0, 0))) ∧ Aside0 (Below w.heap.size w w'))
    case atStart => exact ⟨(0), tq17_2, H', ⟨Nat.le_refl _⟩, ⟨(tq17_6 BK378.out)⟩, ⟨(tq17_8 GE378.out)⟩⟩
    case round =>
     clear H'
     try clear c2
     try clear p2
     try clear c3
     try clear c3b0
     try clear c4
     try clear c4b0
     try clear p5
     try clear q5
     try clear hx5
     try clear c6
     try clear c6b0
     try clear c6b1
     try clear p6
     try clear hcz7_0
     try clear hcz7_1
     try clear hcz7_2
     try clear hcz7_3
     try clear hcz8_0
     try clear hcz8_1
     try clear hcz8_2
     try clear hcz8_3
     try clear hfz7_0
     try clear hfz7_1
     try clear hfz7_2
     try clear hfz7_3
     try clear hfz8_0
     try clear hfz8_1
     try clear hfz8_2
     try clear hfz8_3
     try clear p2
     try clear p5
     try clear q5
     obtain ⟨x5_2, rfl, HA, HK2, BK378, HB⟩ := hrel
     cases gk with
     | zero => exact absurd HA.out (by simp [usherlaw8_mayBe.l1])
     | succ k2 =>
      have H := HA.out
      clear HA
      simp only [usherlaw8_mayBe.l1] at H
      by_cases c9 : x5_2 < (l0_1.length : Int)
      ·rw [if_pos c9] at H
       have c9b0 : decide (x5_2 < (l0_1.length : Int)) = true := decide_eq_true c9
       clear c9
       by_cases c10 : 0 ≤ x5_2
       ·rw [if_pos c10] at H
        have c10b0 : decide (0 ≤ x5_2) = true := decide_eq_true c10
        clear c10
        replace H := Option.bind_eq_some_iff.mp H
        obtain ⟨t381, A110, H⟩ := H
        replace H : ((field_Value.f k2 ((rd_T26 l0_1 x5_2).f1)).bind fun t383 => ((usherlaw8_own.f k2 ((rd_T26 l0_1 x5_2).f0)).bind fun t385 => (if t381 = true then (if t383 = true then (if t385 = true then (some false) else (usherlaw8_mayBe.l1 k2 x3_1 (wrap64 (x5_2 + 1)) a0_0 l0_1 a0_2 a0_3)) else (some false)) else (some false)))) = some r := H
        have A11 := Aq17 A110
        clear A110
        replace H := Option.bind_eq_some_iff.mp H
        obtain ⟨t383, A120, H⟩ := H
        replace H : ((usherlaw8_own.f k2 ((rd_T26 l0_1 x5_2).f0)).bind fun t385 => (if t381 = true then (if t383 = true then (if t385 = true then (some false) else (usherlaw8_mayBe.l1 k2 x3_1 (wrap64 (x5_2 + 1)) a0_0 l0_1 a0_2 a0_3)) else (some false)) else (some false))) = some r := H
        have A12 := Aq17 A120
        clear A120
        replace H := Option.bind_eq_some_iff.mp H
        obtain ⟨t385, A130, H⟩ := H
        replace H : (if t381 = true then (if t383 = true then (if t385 = true then (some false) else (usherlaw8_mayBe.l1 k2 x3_1 (wrap64 (x5_2 + 1)) a0_0 l0_1 a0_2 a0_3)) else (some false)) else (some false)) = some r := H
        have A13 := Aq17 A130
        clear A130
        by_cases c14 : t381 = true
        ·subst c14
         have H1 : (if t383 = true then (if t385 = true then (some false) else (usherlaw8_mayBe.l1 k2 x3_1 (wrap64 (x5_2 + 1)) a0_0 l0_1 a0_2 a0_3)) else (some false)) = some r := by rw [if_pos rfl] at H; exact H
         clear H
         have H := H1
         clear H1
         by_cases c15 : t383 = true
         ·subst c15
          have H1 : (if t385 = true then (some false) else (usherlaw8_mayBe.l1 k2 x3_1 (wrap64 (x5_2 + 1)) a0_0 l0_1 a0_2 a0_3)) = some r := by rw [if_pos rfl] at H; exact H
          clear H
          have H := H1
          clear H1
          by_cases c16 : t385 = true
          ·subst c16
           have H1 : (some false) = some r := by rw [if_pos rfl] at H; exact H
           clear H
           have H := H1
           clear H1
           obtain rfl := Option.some.inj H
           have hcz17_0 : wr.cell? ⟨gb378, 0, none⟩ = some (.int .i64 a0_0) := (blk_cell BK378.out 0).trans rfl
           have hcz17_1 : wr.cell? ⟨gb378, 1, none⟩ = some (.slice A0_1 l0_1.length c0_1) := (blk_cell BK378.out 1).trans rfl
           have hcz17_2 : wr.cell? ⟨gb378, 2, none⟩ = some (.string a0_2) := (blk_cell BK378.out 2).trans rfl
           have hcz17_3 : wr.cell? ⟨gb378, 3, none⟩ = some (.bool a0_3) := (blk_cell BK378.out 3).trans rfl
           have hfz17_0 := blk_frozen BK378.out 0
           have hfz17_1 := blk_frozen BK378.out 1
           have hfz17_2 := blk_frozen BK378.out 2
           have hfz17_3 := blk_frozen BK378.out 3
           have p380 : 0 ≤ (x5_2 : Int) := of_decide_eq_true tq17_3
           have q380 : x5_2 < (l0_1.length : Int) := of_decide_eq_true tq17_3
           obtain ⟨ad380, e380, hx380_0, hx380_1⟩ := at_T26 HR0_1.out x5_2 p380 q380
           cases e380
           replace hx380_0 := (HB.out.cell (World.block_lt_of_cell? w _ hx380_0)).trans hx380_0
           replace hx380_1 := (HB.out.cell (World.block_lt_of_cell? w _ hx380_1)).trans hx380_1
           replace p380 := eq_true p380
           replace q380 := eq_true q380
           go_wp2_with (first | (go_at_call 24; (with_reducible refine (field_Token.calls k2 ((rd_T26 l0_1 x5_2).f0) true _ A11.out ?side1).mono ?_); (case side1 => exact HG.out.step (tq17_8 GE378.out) rfl); rintro e w' ⟨rfl, ⟨nd, rfl⟩⟩; (try first | exact ⟨rfl, _, World.drewN_drewN _ _ _⟩ | exact ⟨rfl, _, Eq.trans (World.drewN_drewN _ _ _) (congrArg (World.drewN _) (Nat.add_assoc _ _ _))⟩); have p382 : 0 ≤ (x5_2 : Int) := of_decide_eq_true tq17_3; have q382 : x5_2 < (l0_1.length : Int) := of_decide_eq_true tq17_3; obtain ⟨ad382, e382, hx382_0, hx382_1⟩ := at_T26 HR0_1.out x5_2 p382 q382; obtain rfl : ad380 = ad382 := tq17_0; replace hx382_0 := (HB.out.cell (World.block_lt_of_cell? w _ hx382_0)).trans hx382_0; replace hx382_1 := (HB.out.cell (World.block_lt_of_cell? w _ hx382_1)).trans hx382_1; replace p382 := eq_true p382; replace q382 := eq_true q382) | (go_at_call 29; (with_reducible refine (field_Value.calls k2 ((rd_T26 l0_1 x5_2).f1) true _ A12.out ?side1).mono ?_); (case side1 => exact HG.out.step (tq17_8 GE378.out) rfl); rintro e w' ⟨rfl, ⟨nd, rfl⟩⟩; (try first | exact ⟨rfl, _, World.drewN_drewN _ _ _⟩ | exact ⟨rfl, _, Eq.trans (World.drewN_drewN _ _ _) (congrArg (World.drewN _) (Nat.add_assoc _ _ _))⟩); have p384 : 0 ≤ (x5_2 : Int) := of_decide_eq_true tq17_3; have q384 : x5_2 < (l0_1.length : Int) := of_decide_eq_true tq17_3; obtain ⟨ad384, e384, hx384_0, hx384_1⟩ := at_T26 HR0_1.out x5_2 p384 q384; obtain rfl : ad380 = ad384 := tq17_1; replace hx384_0 := (HB.out.cell (World.block_lt_of_cell? w _ hx384_0)).trans hx384_0; replace hx384_1 := (HB.out.cell (World.block_lt_of_cell? w _ hx384_1)).trans hx384_1; replace p384 := eq_true p384; replace q384 := eq_true q384) | (go_at_call 45; (with_reducible refine (usherlaw8_own.calls k2 ((rd_T26 l0_1 x5_2).f0) true _ A13.out).mono ?_); rintro e w18 ⟨rfl, hb⟩; replace BK378 := Aq17 (blk_below (g := gb378) (o := .cells #[.int .i64 a0_0, .slice (some ad380) l0_1.length c0_1, .string a0_2, .bool a0_3] 24 (0, 0)) (tq17_6 BK378.out) hb); replace HB := Aq17 (below_step (tq17_8 GE378.out) hb); (try clear hb); (try clear hb2); (try clear hk); (try clear hi)))
           repeat (go_quiet (first | (go_at_call 24; (with_reducible refine (field_Token.calls k2 ((rd_T26 l0_1 x5_2).f0) true _ A11.out ?side1).mono ?_); (case side1 => exact HG.out.step (tq17_8 GE378.out) rfl); rintro e w' ⟨rfl, ⟨nd, rfl⟩⟩; (try first | exact ⟨rfl, _, World.drewN_drewN _ _ _⟩ | exact ⟨rfl, _, Eq.trans (World.drewN_drewN _ _ _) (congrArg (World.drewN _) (Nat.add_assoc _ _ _))⟩); have p382 : 0 ≤ (x5_2 : Int) := of_decide_eq_true tq17_3; have q382 : x5_2 < (l0_1.length : Int) := of_decide_eq_true tq17_3; obtain ⟨ad382, e382, hx382_0, hx382_1⟩ := at_T26 HR0_1.out x5_2 p382 q382; obtain rfl : ad380 = ad382 := tq17_0; replace hx382_0 := (HB.out.cell (World.block_lt_of_cell? w _ hx382_0)).trans hx382_0; replace hx382_1 := (HB.out.cell (World.block_lt_of_cell? w _ hx382_1)).trans hx382_1; replace p382 := eq_true p382; replace q382 := eq_true q382) | (go_at_call 29; (with_reducible refine (field_Value.calls k2 ((rd_T26 l0_1 x5_2).f1) true _ A12.out ?side1).mono ?_); (case side1 => exact HG.out.step (tq17_8 GE378.out) rfl); rintro e w' ⟨rfl, ⟨nd, rfl⟩⟩; (try first | exact ⟨rfl, _, World.drewN_drewN _ _ _⟩ | exact ⟨rfl, _, Eq.trans (World.drewN_drewN _ _ _) (congrArg (World.drewN _) (Nat.add_assoc _ _ _))⟩); have p384 : 0 ≤ (x5_2 : Int) := of_decide_eq_true tq17_3; have q384 : x5_2 < (l0_1.length : Int) := of_decide_eq_true tq17_3; obtain ⟨ad384, e384, hx384_0, hx384_1⟩ := at_T26 HR0_1.out x5_2 p384 q384; obtain rfl : ad380 = ad384 := tq17_1; replace hx384_0 := (HB.out.cell (World.block_lt_of_cell? w _ hx384_0)).trans hx384_0; replace hx384_1 := (HB.out.cell (World.block_lt_of_cell? w _ hx384_1)).trans hx384_1; replace p384 := eq_true p384; replace q384 := eq_true q384) | (go_at_call 45; (with_reducible refine (usherlaw8_own.calls k2 ((rd_T26 l0_1 x5_2).f0) true _ A13.out).mono ?_); rintro e w18 ⟨rfl, hb⟩; replace BK378 := Aq17 (blk_below (g := gb378) (o := .cells #[.int .i64 a0_0, .slice (some ad380) l0_1.length c0_1, .string a0_2, .bool a0_3] 24 (0, 0)) (tq17_6 BK378.out) hb); replace HB := Aq17 (below_step (tq17_8 GE378.out) hb); (try clear hb); (try clear hb2); (try clear hk); (try clear hi))); try go_wp2_with (first | (go_at_call 24; (with_reducible refine (field_Token.calls k2 ((rd_T26 l0_1 x5_2).f0) true _ A11.out ?side1).mono ?_); (case side1 => exact HG.out.step (tq17_8 GE378.out) rfl); rintro e w' ⟨rfl, ⟨nd, rfl⟩⟩; (try first | exact ⟨rfl, _, World.drewN_drewN _ _ _⟩ | exact ⟨rfl, _, Eq.trans (World.drewN_drewN _ _ _) (congrArg (World.drewN _) (Nat.add_assoc _ _ _))⟩); have p382 : 0 ≤ (x5_2 : Int) := of_decide_eq_true tq17_3; have q382 : x5_2 < (l0_1.length : Int) := of_decide_eq_true tq17_3; obtain ⟨ad382, e382, hx382_0, hx382_1⟩ := at_T26 HR0_1.out x5_2 p382 q382; obtain rfl : ad380 = ad382 := tq17_0; replace hx382_0 := (HB.out.cell (World.block_lt_of_cell? w _ hx382_0)).trans hx382_0; replace hx382_1 := (HB.out.cell (World.block_lt_of_cell? w _ hx382_1)).trans hx382_1; replace p382 := eq_true p382; replace q382 := eq_true q382) | (go_at_call 29; (with_reducible refine (field_Value.calls k2 ((rd_T26 l0_1 x5_2).f1) true _ A12.out ?side1).mono ?_); (case side1 => exact HG.out.step (tq17_8 GE378.out) rfl); rintro e w' ⟨rfl, ⟨nd, rfl⟩⟩; (try first | exact ⟨rfl, _, World.drewN_drewN _ _ _⟩ | exact ⟨rfl, _, Eq.trans (World.drewN_drewN _ _ _) (congrArg (World.drewN _) (Nat.add_assoc _ _ _))⟩); have p384 : 0 ≤ (x5_2 : Int) := of_decide_eq_true tq17_3; have q384 : x5_2 < (l0_1.length : Int) := of_decide_eq_true tq17_3; obtain ⟨ad384, e384, hx384_0, hx384_1⟩ := at_T26 HR0_1.out x5_2 p384 q384; obtain rfl : ad380 = ad384 := tq17_1; replace hx384_0 := (HB.out.cell (World.block_lt_of_cell? w _ hx384_0)).trans hx384_0; replace hx384_1 := (HB.out.cell (World.block_lt_of_cell? w _ hx384_1)).trans hx384_1; replace p384 := eq_true p384; replace q384 := eq_true q384) | (go_at_call 45; (with_reducible refine (usherlaw8_own.calls k2 ((rd_T26 l0_1 x5_2).f0) true _ A13.out).mono ?_); rintro e w18 ⟨rfl, hb⟩; replace BK378 := Aq17 (blk_below (g := gb378) (o := .cells #[.int .i64 a0_0, .slice (some ad380) l0_1.length c0_1, .string a0_2, .bool a0_3] 24 (0, 0)) (tq17_6 BK378.out) hb); replace HB := Aq17 (below_step (tq17_8 GE378.out) hb); (try clear hb); (try clear hb2); (try clear hk); (try clear hi))))
           go_ret
           exact ⟨tq17_5, (tq17_8 GE378.out)⟩
          ·replace c16 := Bool.eq_false_iff.mpr c16
           subst c16
           have H1 : (usherlaw8_mayBe.l1 k2 x3_1 (wrap64 (x5_2 + 1)) a0_0 l0_1 a0_2 a0_3) = some r := by rw [if_neg (show ¬ (false = true) by decide)] at H; exact H
           clear H
           have H := H1
           clear H1
           have H' := Aq17 H
           clear H
           have hcz19_0 : wr.cell? ⟨gb378, 0, none⟩ = some (.int .i64 a0_0) := (blk_cell BK378.out 0).trans rfl
           have hcz19_1 : wr.cell? ⟨gb378, 1, none⟩ = some (.slice A0_1 l0_1.length c0_1) := (blk_cell BK378.out 1).trans rfl
           have hcz19_2 : wr.cell? ⟨gb378, 2, none⟩ = some (.string a0_2) := (blk_cell BK378.out 2).trans rfl
           have hcz19_3 : wr.cell? ⟨gb378, 3, none⟩ = some (.bool a0_3) := (blk_cell BK378.out 3).trans rfl
           have hfz19_0 := blk_frozen BK378.out 0
           have hfz19_1 := blk_frozen BK378.out 1
           have hfz19_2 := blk_frozen BK378.out 2
           have hfz19_3 := blk_frozen BK378.out 3
           have p380 : 0 ≤ (x5_2 : Int) := of_decide_eq_true tq17_3
           have q380 : x5_2 < (l0_1.length : Int) := of_decide_eq_true tq17_3
           obtain ⟨ad380, e380, hx380_0, hx380_1⟩ := at_T26 HR0_1.out x5_2 p380 q380
           cases e380
           replace hx380_0 := (HB.out.cell (World.block_lt_of_cell? w _ hx380_0)).trans hx380_0
           replace hx380_1 := (HB.out.cell (World.block_lt_of_cell? w _ hx380_1)).trans hx380_1
           replace p380 := eq_true p380
           replace q380 := eq_true q380
           go_wp2_with (first | (go_at_call 24; (with_reducible refine (field_Token.calls k2 ((rd_T26 l0_1 x5_2).f0) true _ A11.out ?side1).mono ?_); (case side1 => exact HG.out.step (tq17_8 GE378.out) rfl); rintro e w' ⟨rfl, ⟨nd, rfl⟩⟩; (try first | exact ⟨rfl, _, World.drewN_drewN _ _ _⟩ | exact ⟨rfl, _, Eq.trans (World.drewN_drewN _ _ _) (congrArg (World.drewN _) (Nat.add_assoc _ _ _))⟩); have p382 : 0 ≤ (x5_2 : Int) := of_decide_eq_true tq17_3; have q382 : x5_2 < (l0_1.length : Int) := of_decide_eq_true tq17_3; obtain ⟨ad382, e382, hx382_0, hx382_1⟩ := at_T26 HR0_1.out x5_2 p382 q382; obtain rfl : ad380 = ad382 := tq17_0; replace hx382_0 := (HB.out.cell (World.block_lt_of_cell? w _ hx382_0)).trans hx382_0; replace hx382_1 := (HB.out.cell (World.block_lt_of_cell? w _ hx382_1)).trans hx382_1; replace p382 := eq_true p382; replace q382 := eq_true q382) | (go_at_call 29; (with_reducible refine (field_Value.calls k2 ((rd_T26 l0_1 x5_2).f1) true _ A12.out ?side1).mono ?_); (case side1 => exact HG.out.step (tq17_8 GE378.out) rfl); rintro e w' ⟨rfl, ⟨nd, rfl⟩⟩; (try first | exact ⟨rfl, _, World.drewN_drewN _ _ _⟩ | exact ⟨rfl, _, Eq.trans (World.drewN_drewN _ _ _) (congrArg (World.drewN _) (Nat.add_assoc _ _ _))⟩); have p384 : 0 ≤ (x5_2 : Int) := of_decide_eq_true tq17_3; have q384 : x5_2 < (l0_1.length : Int) := of_decide_eq_true tq17_3; obtain ⟨ad384, e384, hx384_0, hx384_1⟩ := at_T26 HR0_1.out x5_2 p384 q384; obtain rfl : ad380 = ad384 := tq17_1; replace hx384_0 := (HB.out.cell (World.block_lt_of_cell? w _ hx384_0)).trans hx384_0; replace hx384_1 := (HB.out.cell (World.block_lt_of_cell? w _ hx384_1)).trans hx384_1; replace p384 := eq_true p384; replace q384 := eq_true q384) | (go_at_call 45; (with_reducible refine (usherlaw8_own.calls k2 ((rd_T26 l0_1 x5_2).f0) false _ A13.out).mono ?_); rintro e w20 ⟨rfl, hb⟩; replace BK378 := Aq17 (blk_below (g := gb378) (o := .cells #[.int .i64 a0_0, .slice (some ad380) l0_1.length c0_1, .string a0_2, .bool a0_3] 24 (0, 0)) (tq17_6 BK378.out) hb); replace HB := Aq17 (below_step (tq17_8 GE378.out) hb); (try clear hb); (try clear hb2); (try clear hk); (try clear hi)))
           repeat (go_quiet (first | (go_at_call 24; (with_reducible refine (field_Token.calls k2 ((rd_T26 l0_1 x5_2).f0) true _ A11.out ?side1).mono ?_); (case side1 => exact HG.out.step (tq17_8 GE378.out) rfl); rintro e w' ⟨rfl, ⟨nd, rfl⟩⟩; (try first | exact ⟨rfl, _, World.drewN_drewN _ _ _⟩ | exact ⟨rfl, _, Eq.trans (World.drewN_drewN _ _ _) (congrArg (World.drewN _) (Nat.add_assoc _ _ _))⟩); have p382 : 0 ≤ (x5_2 : Int) := of_decide_eq_true tq17_3; have q382 : x5_2 < (l0_1.length : Int) := of_decide_eq_true tq17_3; obtain ⟨ad382, e382, hx382_0, hx382_1⟩ := at_T26 HR0_1.out x5_2 p382 q382; obtain rfl : ad380 = ad382 := tq17_0; replace hx382_0 := (HB.out.cell (World.block_lt_of_cell? w _ hx382_0)).trans hx382_0; replace hx382_1 := (HB.out.cell (World.block_lt_of_cell? w _ hx382_1)).trans hx382_1; replace p382 := eq_true p382; replace q382 := eq_true q382) | (go_at_call 29; (with_reducible refine (field_Value.calls k2 ((rd_T26 l0_1 x5_2).f1) true _ A12.out ?side1).mono ?_); (case side1 => exact HG.out.step (tq17_8 GE378.out) rfl); rintro e w' ⟨rfl, ⟨nd, rfl⟩⟩; (try first | exact ⟨rfl, _, World.drewN_drewN _ _ _⟩ | exact ⟨rfl, _, Eq.trans (World.drewN_drewN _ _ _) (congrArg (World.drewN _) (Nat.add_assoc _ _ _))⟩); have p384 : 0 ≤ (x5_2 : Int) := of_decide_eq_true tq17_3; have q384 : x5_2 < (l0_1.length : Int) := of_decide_eq_true tq17_3; obtain ⟨ad384, e384, hx384_0, hx384_1⟩ := at_T26 HR0_1.out x5_2 p384 q384; obtain rfl : ad380 = ad384 := tq17_1; replace hx384_0 := (HB.out.cell (World.block_lt_of_cell? w _ hx384_0)).trans hx384_0; replace hx384_1 := (HB.out.cell (World.block_lt_of_cell? w _ hx384_1)).trans hx384_1; replace p384 := eq_true p384; replace q384 := eq_true q384) | (go_at_call 45; (with_reducible refine (usherlaw8_own.calls k2 ((rd_T26 l0_1 x5_2).f0) false _ A13.out).mono ?_); rintro e w20 ⟨rfl, hb⟩; replace BK378 := Aq17 (blk_below (g := gb378) (o := .cells #[.int .i64 a0_0, .slice (some ad380) l0_1.length c0_1, .string a0_2, .bool a0_3] 24 (0, 0)) (tq17_6 BK378.out) hb); replace HB := Aq17 (below_step (tq17_8 GE378.out) hb); (try clear hb); (try clear hb2); (try clear hk); (try clear hi))); try go_wp2_with (first | (go_at_call 24; (with_reducible refine (field_Token.calls k2 ((rd_T26 l0_1 x5_2).f0) true _ A11.out ?side1).mono ?_); (case side1 => exact HG.out.step (tq17_8 GE378.out) rfl); rintro e w' ⟨rfl, ⟨nd, rfl⟩⟩; (try first | exact ⟨rfl, _, World.drewN_drewN _ _ _⟩ | exact ⟨rfl, _, Eq.trans (World.drewN_drewN _ _ _) (congrArg (World.drewN _) (Nat.add_assoc _ _ _))⟩); have p382 : 0 ≤ (x5_2 : Int) := of_decide_eq_true tq17_3; have q382 : x5_2 < (l0_1.length : Int) := of_decide_eq_true tq17_3; obtain ⟨ad382, e382, hx382_0, hx382_1⟩ := at_T26 HR0_1.out x5_2 p382 q382; obtain rfl : ad380 = ad382 := tq17_0; replace hx382_0 := (HB.out.cell (World.block_lt_of_cell? w _ hx382_0)).trans hx382_0; replace hx382_1 := (HB.out.cell (World.block_lt_of_cell? w _ hx382_1)).trans hx382_1; replace p382 := eq_true p382; replace q382 := eq_true q382) | (go_at_call 29; (with_reducible refine (field_Value.calls k2 ((rd_T26 l0_1 x5_2).f1) true _ A12.out ?side1).mono ?_); (case side1 => exact HG.out.step (tq17_8 GE378.out) rfl); rintro e w' ⟨rfl, ⟨nd, rfl⟩⟩; (try first | exact ⟨rfl, _, World.drewN_drewN _ _ _⟩ | exact ⟨rfl, _, Eq.trans (World.drewN_drewN _ _ _) (congrArg (World.drewN _) (Nat.add_assoc _ _ _))⟩); have p384 : 0 ≤ (x5_2 : Int) := of_decide_eq_true tq17_3; have q384 : x5_2 < (l0_1.length : Int) := of_decide_eq_true tq17_3; obtain ⟨ad384, e384, hx384_0, hx384_1⟩ := at_T26 HR0_1.out x5_2 p384 q384; obtain rfl : ad380 = ad384 := tq17_1; replace hx384_0 := (HB.out.cell (World.block_lt_of_cell? w _ hx384_0)).trans hx384_0; replace hx384_1 := (HB.out.cell (World.block_lt_of_cell? w _ hx384_1)).trans hx384_1; replace p384 := eq_true p384; replace q384 := eq_true q384) | (go_at_call 45; (with_reducible refine (usherlaw8_own.calls k2 ((rd_T26 l0_1 x5_2).f0) false _ A13.out).mono ?_); rintro e w20 ⟨rfl, hb⟩; replace BK378 := Aq17 (blk_below (g := gb378) (o := .cells #[.int .i64 a0_0, .slice (some ad380) l0_1.length c0_1, .string a0_2, .bool a0_3] 24 (0, 0)) (tq17_6 BK378.out) hb); replace HB := Aq17 (below_step (tq17_8 GE378.out) hb); (try clear hb); (try clear hb2); (try clear hk); (try clear hi))))
           go_roundg k2
           case measure => have := HK1.out; have := HK2.out; omega
           case rel => exact ⟨(wrap64 (x5_2 + 1)), tq17_2, H', ⟨by have := HK1.out; have := HK2.out; omega⟩, ⟨(tq17_6 BK378.out)⟩, ⟨(tq17_8 GE378.out)⟩⟩
         ·replace c15 := Bool.eq_false_iff.mpr c15
          subst c15
          have H1 : (some false) = some r := by rw [if_neg (show ¬ (false = true) by decide)] at H; exact H
          clear H
          have H := H1
          clear H1
          obtain rfl := Option.some.inj H
          have hcz21_0 : wr.cell? ⟨gb378, 0, none⟩ = some (.int .i64 a0_0) := (blk_cell BK378.out 0).trans rfl
          have hcz21_1 : wr.cell? ⟨gb378, 1, none⟩ = some (.slice A0_1 l0_1.length c0_1) := (blk_cell BK378.out 1).trans rfl
          have hcz21_2 : wr.cell? ⟨gb378, 2, none⟩ = some (.string a0_2) := (blk_cell BK378.out 2).trans rfl
          have hcz21_3 : wr.cell? ⟨gb378, 3, none⟩ = some (.bool a0_3) := (blk_cell BK378.out 3).trans rfl
          have hfz21_0 := blk_frozen BK378.out 0
          have hfz21_1 := blk_frozen BK378.out 1
          have hfz21_2 := blk_frozen BK378.out 2
          have hfz21_3 := blk_frozen BK378.out 3
          have p380 : 0 ≤ (x5_2 : Int) := of_decide_eq_true tq17_3
          have q380 : x5_2 < (l0_1.length : Int) := of_decide_eq_true tq17_3
          obtain ⟨ad380, e380, hx380_0, hx380_1⟩ := at_T26 HR0_1.out x5_2 p380 q380
          cases e380
          replace hx380_0 := (HB.out.cell (World.block_lt_of_cell? w _ hx380_0)).trans hx380_0
          replace hx380_1 := (HB.out.cell (World.block_lt_of_cell? w _ hx380_1)).trans hx380_1
          replace p380 := eq_true p380
          replace q380 := eq_true q380
          go_wp2_with (first | (go_at_call 24; (with_reducible refine (field_Token.calls k2 ((rd_T26 l0_1 x5_2).f0) true _ A11.out ?side1).mono ?_); (case side1 => exact HG.out.step (tq17_8 GE378.out) rfl); rintro e w' ⟨rfl, ⟨nd, rfl⟩⟩; (try first | exact ⟨rfl, _, World.drewN_drewN _ _ _⟩ | exact ⟨rfl, _, Eq.trans (World.drewN_drewN _ _ _) (congrArg (World.drewN _) (Nat.add_assoc _ _ _))⟩); have p382 : 0 ≤ (x5_2 : Int) := of_decide_eq_true tq17_3; have q382 : x5_2 < (l0_1.length : Int) := of_decide_eq_true tq17_3; obtain ⟨ad382, e382, hx382_0, hx382_1⟩ := at_T26 HR0_1.out x5_2 p382 q382; obtain rfl : ad380 = ad382 := tq17_0; replace hx382_0 := (HB.out.cell (World.block_lt_of_cell? w _ hx382_0)).trans hx382_0; replace hx382_1 := (HB.out.cell (World.block_lt_of_cell? w _ hx382_1)).trans hx382_1; replace p382 := eq_true p382; replace q382 := eq_true q382) | (go_at_call 29; (with_reducible refine (field_Value.calls k2 ((rd_T26 l0_1 x5_2).f1) false _ A12.out ?side1).mono ?_); (case side1 => exact HG.out.step (tq17_8 GE378.out) rfl); rintro e w' ⟨rfl, ⟨nd, rfl⟩⟩; (try first | exact ⟨rfl, _, World.drewN_drewN _ _ _⟩ | exact ⟨rfl, _, Eq.trans (World.drewN_drewN _ _ _) (congrArg (World.drewN _) (Nat.add_assoc _ _ _))⟩); have p384 : 0 ≤ (x5_2 : Int) := of_decide_eq_true tq17_3; have q384 : x5_2 < (l0_1.length : Int) := of_decide_eq_true tq17_3; obtain ⟨ad384, e384, hx384_0, hx384_1⟩ := at_T26 HR0_1.out x5_2 p384 q384; obtain rfl : ad380 = ad384 := tq17_1; replace hx384_0 := (HB.out.cell (World.block_lt_of_cell? w _ hx384_0)).trans hx384_0; replace hx384_1 := (HB.out.cell (World.block_lt_of_cell? w _ hx384_1)).trans hx384_1; replace p384 := eq_true p384; replace q384 := eq_true q384) | (go_at_call 45; (with_reducible refine (usherlaw8_own.calls k2 ((rd_T26 l0_1 x5_2).f0) t385 _ A13.out).mono ?_); rintro e w22 ⟨rfl, hb⟩; replace BK378 := Aq17 (blk_below (g := gb378) (o := .cells #[.int .i64 a0_0, .slice (some ad380) l0_1.length c0_1, .string a0_2, .bool a0_3] 24 (0, 0)) (tq17_6 BK378.out) hb); replace HB := Aq17 (below_step (tq17_8 GE378.out) hb); (try clear hb); (try clear hb2); (try clear hk); (try clear hi)))
          repeat (go_quiet (first | (go_at_call 24; (with_reducible refine (field_Token.calls k2 ((rd_T26 l0_1 x5_2).f0) true _ A11.out ?side1).mono ?_); (case side1 => exact HG.out.step (tq17_8 GE378.out) rfl); rintro e w' ⟨rfl, ⟨nd, rfl⟩⟩; (try first | exact ⟨rfl, _, World.drewN_drewN _ _ _⟩ | exact ⟨rfl, _, Eq.trans (World.drewN_drewN _ _ _) (congrArg (World.drewN _) (Nat.add_assoc _ _ _))⟩); have p382 : 0 ≤ (x5_2 : Int) := of_decide_eq_true tq17_3; have q382 : x5_2 < (l0_1.length : Int) := of_decide_eq_true tq17_3; obtain ⟨ad382, e382, hx382_0, hx382_1⟩ := at_T26 HR0_1.out x5_2 p382 q382; obtain rfl : ad380 = ad382 := tq17_0; replace hx382_0 := (HB.out.cell (World.block_lt_of_cell? w _ hx382_0)).trans hx382_0; replace hx382_1 := (HB.out.cell (World.block_lt_of_cell? w _ hx382_1)).trans hx382_1; replace p382 := eq_true p382; replace q382 := eq_true q382) | (go_at_call 29; (with_reducible refine (field_Value.calls k2 ((rd_T26 l0_1 x5_2).f1) false _ A12.out ?side1).mono ?_); (case side1 => exact HG.out.step (tq17_8 GE378.out) rfl); rintro e w' ⟨rfl, ⟨nd, rfl⟩⟩; (try first | exact ⟨rfl, _, World.drewN_drewN _ _ _⟩ | exact ⟨rfl, _, Eq.trans (World.drewN_drewN _ _ _) (congrArg (World.drewN _) (Nat.add_assoc _ _ _))⟩); have p384 : 0 ≤ (x5_2 : Int) := of_decide_eq_true tq17_3; have q384 : x5_2 < (l0_1.length : Int) := of_decide_eq_true tq17_3; obtain ⟨ad384, e384, hx384_0, hx384_1⟩ := at_T26 HR0_1.out x5_2 p384 q384; obtain rfl : ad380 = ad384 := tq17_1; replace hx384_0 := (HB.out.cell (World.block_lt_of_cell? w _ hx384_0)).trans hx384_0; replace hx384_1 := (HB.out.cell (World.block_lt_of_cell? w _ hx384_1)).trans hx384_1; replace p384 := eq_true p384; replace q384 := eq_true q384) | (go_at_call 45; (with_reducible refine (usherlaw8_own.calls k2 ((rd_T26 l0_1 x5_2).f0) t385 _ A13.out).mono ?_); rintro e w22 ⟨rfl, hb⟩; replace BK378 := Aq17 (blk_below (g := gb378) (o := .cells #[.int .i64 a0_0, .slice (some ad380) l0_1.length c0_1, .string a0_2, .bool a0_3] 24 (0, 0)) (tq17_6 BK378.out) hb); replace HB := Aq17 (below_step (tq17_8 GE378.out) hb); (try clear hb); (try clear hb2); (try clear hk); (try clear hi))); try go_wp2_with (first | (go_at_call 24; (with_reducible refine (field_Token.calls k2 ((rd_T26 l0_1 x5_2).f0) true _ A11.out ?side1).mono ?_); (case side1 => exact HG.out.step (tq17_8 GE378.out) rfl); rintro e w' ⟨rfl, ⟨nd, rfl⟩⟩; (try first | exact ⟨rfl, _, World.drewN_drewN _ _ _⟩ | exact ⟨rfl, _, Eq.trans (World.drewN_drewN _ _ _) (congrArg (World.drewN _) (Nat.add_assoc _ _ _))⟩); have p382 : 0 ≤ (x5_2 : Int) := of_decide_eq_true tq17_3; have q382 : x5_2 < (l0_1.length : Int) := of_decide_eq_true tq17_3; obtain ⟨ad382, e382, hx382_0, hx382_1⟩ := at_T26 HR0_1.out x5_2 p382 q382; obtain rfl : ad380 = ad382 := tq17_0; replace hx382_0 := (HB.out.cell (World.block_lt_of_cell? w _ hx382_0)).trans hx382_0; replace hx382_1 := (HB.out.cell (World.block_lt_of_cell? w _ hx382_1)).trans hx382_1; replace p382 := eq_true p382; replace q382 := eq_true q382) | (go_at_call 29; (with_reducible refine (field_Value.calls k2 ((rd_T26 l0_1 x5_2).f1) false _ A12.out ?side1).mono ?_); (case side1 => exact HG.out.step (tq17_8 GE378.out) rfl); rintro e w' ⟨rfl, ⟨nd, rfl⟩⟩; (try first | exact ⟨rfl, _, World.drewN_drewN _ _ _⟩ | exact ⟨rfl, _, Eq.trans (World.drewN_drewN _ _ _) (congrArg (World.drewN _) (Nat.add_assoc _ _ _))⟩); have p384 : 0 ≤ (x5_2 : Int) := of_decide_eq_true tq17_3; have q384 : x5_2 < (l0_1.length : Int) := of_decide_eq_true tq17_3; obtain ⟨ad384, e384, hx384_0, hx384_1⟩ := at_T26 HR0_1.out x5_2 p384 q384; obtain rfl : ad380 = ad384 := tq17_1; replace hx384_0 := (HB.out.cell (World.block_lt_of_cell? w _ hx384_0)).trans hx384_0; replace hx384_1 := (HB.out.cell (World.block_lt_of_cell? w _ hx384_1)).trans hx384_1; replace p384 := eq_true p384; replace q384 := eq_true q384) | (go_at_call 45; (with_reducible refine (usherlaw8_own.calls k2 ((rd_T26 l0_1 x5_2).f0) t385 _ A13.out).mono ?_); rintro e w22 ⟨rfl, hb⟩; replace BK378 := Aq17 (blk_below (g := gb378) (o := .cells #[.int .i64 a0_0, .slice (some ad380) l0_1.length c0_1, .string a0_2, .bool a0_3] 24 (0, 0)) (tq17_6 BK378.out) hb); replace HB := Aq17 (below_step (tq17_8 GE378.out) hb); (try clear hb); (try clear hb2); (try clear hk); (try clear hi))))
          go_ret
          exact ⟨tq17_5, (tq17_8 GE378.out)⟩
        ·replace c14 := Bool.eq_false_iff.mpr c14
         subst c14
         have H1 : (some false) = some r := by rw [if_neg (show ¬ (false = true) by decide)] at H; exact H
         clear H
         have H := H1
         clear H1
         obtain rfl := Option.some.inj H
         have hcz23_0 : wr.cell? ⟨gb378, 0, none⟩ = some (.int .i64 a0_0) := (blk_cell BK378.out 0).trans rfl
         have hcz23_1 : wr.cell? ⟨gb378, 1, none⟩ = some (.slice A0_1 l0_1.length c0_1) := (blk_cell BK378.out 1).trans rfl
         have hcz23_2 : wr.cell? ⟨gb378, 2, none⟩ = some (.string a0_2) := (blk_cell BK378.out 2).trans rfl
         have hcz23_3 : wr.cell? ⟨gb378, 3, none⟩ = some (.bool a0_3) := (blk_cell BK378.out 3).trans rfl
         have hfz23_0 := blk_frozen BK378.out 0
         have hfz23_1 := blk_frozen BK378.out 1
         have hfz23_2 := blk_frozen BK378.out 2
         have hfz23_3 := blk_frozen BK378.out 3
         have p380 : 0 ≤ (x5_2 : Int) := of_decide_eq_true tq17_3
         have q380 : x5_2 < (l0_1.length : Int) := of_decide_eq_true tq17_3
         obtain ⟨ad380, e380, hx380_0, hx380_1⟩ := at_T26 HR0_1.out x5_2 p380 q380
         cases e380
         replace hx380_0 := (HB.out.cell (World.block_lt_of_cell? w _ hx380_0)).trans hx380_0
         replace hx380_1 := (HB.out.cell (World.block_lt_of_cell? w _ hx380_1)).trans hx380_1
         replace p380 := eq_true p380
         replace q380 := eq_true q380
         go_wp2_with (first | (go_at_call 24; (with_reducible refine (field_Token.calls k2 ((rd_T26 l0_1 x5_2).f0) false _ A11.out ?side1).mono ?_); (case side1 => exact HG.out.step (tq17_8 GE378.out) rfl); rintro e w' ⟨rfl, ⟨nd, rfl⟩⟩; (try first | exact ⟨rfl, _, World.drewN_drewN _ _ _⟩ | exact ⟨rfl, _, Eq.trans (World.drewN_drewN _ _ _) (congrArg (World.drewN _) (Nat.add_assoc _ _ _))⟩); have p382 : 0 ≤ (x5_2 : Int) := of_decide_eq_true tq17_3; have q382 : x5_2 < (l0_1.length : Int) := of_decide_eq_true tq17_3; obtain ⟨ad382, e382, hx382_0, hx382_1⟩ := at_T26 HR0_1.out x5_2 p382 q382; obtain rfl : ad380 = ad382 := tq17_0; replace hx382_0 := (HB.out.cell (World.block_lt_of_cell? w _ hx382_0)).trans hx382_0; replace hx382_1 := (HB.out.cell (World.block_lt_of_cell? w _ hx382_1)).trans hx382_1; replace p382 := eq_true p382; replace q382 := eq_true q382) | (go_at_call 29; (with_reducible refine (field_Value.calls k2 ((rd_T26 l0_1 x5_2).f1) t383 _ A12.out ?side1).mono ?_); (case side1 => exact HG.out.step (tq17_8 GE378.out) rfl); rintro e w' ⟨rfl, ⟨nd, rfl⟩⟩; (try first | exact ⟨rfl, _, World.drewN_drewN _ _ _⟩ | exact ⟨rfl, _, Eq.trans (World.drewN_drewN _ _ _) (congrArg (World.drewN _) (Nat.add_assoc _ _ _))⟩); have p384 : 0 ≤ (x5_2 : Int) := of_decide_eq_true tq17_3; have q384 : x5_2 < (l0_1.length : Int) := of_decide_eq_true tq17_3; obtain ⟨ad384, e384, hx384_0, hx384_1⟩ := at_T26 HR0_1.out x5_2 p384 q384; obtain rfl : ad380 = ad384 := tq17_1; replace hx384_0 := (HB.out.cell (World.block_lt_of_cell? w _ hx384_0)).trans hx384_0; replace hx384_1 := (HB.out.cell (World.block_lt_of_cell? w _ hx384_1)).trans hx384_1; replace p384 := eq_true p384; replace q384 := eq_true q384) | (go_at_call 45; (with_reducible refine (usherlaw8_own.calls k2 ((rd_T26 l0_1 x5_2).f0) t385 _ A13.out).mono ?_); rintro e w24 ⟨rfl, hb⟩; replace BK378 := Aq17 (blk_below (g := gb378) (o := .cells #[.int .i64 a0_0, .slice (some ad380) l0_1.length c0_1, .string a0_2, .bool a0_3] 24 (0, 0)) (tq17_6 BK378.out) hb); replace HB := Aq17 (below_step (tq17_8 GE378.out) hb); (try clear hb); (try clear hb2); (try clear hk); (try clear hi)))
         repeat (go_quiet (first | (go_at_call 24; (with_reducible refine (field_Token.calls k2 ((rd_T26 l0_1 x5_2).f0) false _ A11.out ?side1).mono ?_); (case side1 => exact HG.out.step (tq17_8 GE378.out) rfl); rintro e w' ⟨rfl, ⟨nd, rfl⟩⟩; (try first | exact ⟨rfl, _, World.drewN_drewN _ _ _⟩ | exact ⟨rfl, _, Eq.trans (World.drewN_drewN _ _ _) (congrArg (World.drewN _) (Nat.add_assoc _ _ _))⟩); have p382 : 0 ≤ (x5_2 : Int) := of_decide_eq_true tq17_3; have q382 : x5_2 < (l0_1.length : Int) := of_decide_eq_true tq17_3; obtain ⟨ad382, e382, hx382_0, hx382_1⟩ := at_T26 HR0_1.out x5_2 p382 q382; obtain rfl : ad380 = ad382 := tq17_0; replace hx382_0 := (HB.out.cell (World.block_lt_of_cell? w _ hx382_0)).trans hx382_0; replace hx382_1 := (HB.out.cell (World.block_lt_of_cell? w _ hx382_1)).trans hx382_1; replace p382 := eq_true p382; replace q382 := eq_true q382) | (go_at_call 29; (with_reducible refine (field_Value.calls k2 ((rd_T26 l0_1 x5_2).f1) t383 _ A12.out ?side1).mono ?_); (case side1 => exact HG.out.step (tq17_8 GE378.out) rfl); rintro e w' ⟨rfl, ⟨nd, rfl⟩⟩; (try first | exact ⟨rfl, _, World.drewN_drewN _ _ _⟩ | exact ⟨rfl, _, Eq.trans (World.drewN_drewN _ _ _) (congrArg (World.drewN _) (Nat.add_assoc _ _ _))⟩); have p384 : 0 ≤ (x5_2 : Int) := of_decide_eq_true tq17_3; have q384 : x5_2 < (l0_1.length : Int) := of_decide_eq_true tq17_3; obtain ⟨ad384, e384, hx384_0, hx384_1⟩ := at_T26 HR0_1.out x5_2 p384 q384; obtain rfl : ad380 = ad384 := tq17_1; replace hx384_0 := (HB.out.cell (World.block_lt_of_cell? w _ hx384_0)).trans hx384_0; replace hx384_1 := (HB.out.cell (World.block_lt_of_cell? w _ hx384_1)).trans hx384_1; replace p384 := eq_true p384; replace q384 := eq_true q384) | (go_at_call 45; (with_reducible refine (usherlaw8_own.calls k2 ((rd_T26 l0_1 x5_2).f0) t385 _ A13.out).mono ?_); rintro e w24 ⟨rfl, hb⟩; replace BK378 := Aq17 (blk_below (g := gb378) (o := .cells #[.int .i64 a0_0, .slice (some ad380) l0_1.length c0_1, .string a0_2, .bool a0_3] 24 (0, 0)) (tq17_6 BK378.out) hb); replace HB := Aq17 (below_step (tq17_8 GE378.out) hb); (try clear hb); (try clear hb2); (try clear hk); (try clear hi))); try go_wp2_with (first | (go_at_call 24; (with_reducible refine (field_Token.calls k2 ((rd_T26 l0_1 x5_2).f0) false _ A11.out ?side1).mono ?_); (case side1 => exact HG.out.step (tq17_8 GE378.out) rfl); rintro e w' ⟨rfl, ⟨nd, rfl⟩⟩; (try first | exact ⟨rfl, _, World.drewN_drewN _ _ _⟩ | exact ⟨rfl, _, Eq.trans (World.drewN_drewN _ _ _) (congrArg (World.drewN _) (Nat.add_assoc _ _ _))⟩); have p382 : 0 ≤ (x5_2 : Int) := of_decide_eq_true tq17_3; have q382 : x5_2 < (l0_1.length : Int) := of_decide_eq_true tq17_3; obtain ⟨ad382, e382, hx382_0, hx382_1⟩ := at_T26 HR0_1.out x5_2 p382 q382; obtain rfl : ad380 = ad382 := tq17_0; replace hx382_0 := (HB.out.cell (World.block_lt_of_cell? w _ hx382_0)).trans hx382_0; replace hx382_1 := (HB.out.cell (World.block_lt_of_cell? w _ hx382_1)).trans hx382_1; replace p382 := eq_true p382; replace q382 := eq_true q382) | (go_at_call 29; (with_reducible refine (field_Value.calls k2 ((rd_T26 l0_1 x5_2).f1) t383 _ A12.out ?side1).mono ?_); (case side1 => exact HG.out.step (tq17_8 GE378.out) rfl); rintro e w' ⟨rfl, ⟨nd, rfl⟩⟩; (try first | exact ⟨rfl, _, World.drewN_drewN _ _ _⟩ | exact ⟨rfl, _, Eq.trans (World.drewN_drewN _ _ _) (congrArg (World.drewN _) (Nat.add_assoc _ _ _))⟩); have p384 : 0 ≤ (x5_2 : Int) := of_decide_eq_true tq17_3; have q384 : x5_2 < (l0_1.length : Int) := of_decide_eq_true tq17_3; obtain ⟨ad384, e384, hx384_0, hx384_1⟩ := at_T26 HR0_1.out x5_2 p384 q384; obtain rfl : ad380 = ad384 := tq17_1; replace hx384_0 := (HB.out.cell (World.block_lt_of_cell? w _ hx384_0)).trans hx384_0; replace hx384_1 := (HB.out.cell (World.block_lt_of_cell? w _ hx384_1)).trans hx384_1; replace p384 := eq_true p384; replace q384 := eq_true q384) | (go_at_call 45; (with_reducible refine (usherlaw8_own.calls k2 ((rd_T26 l0_1 x5_2).f0) t385 _ A13.out).mono ?_); rintro e w24 ⟨rfl, hb⟩; replace BK378 := Aq17 (blk_below (g := gb378) (o := .cells #[.int .i64 a0_0, .slice (some ad380) l0_1.length c0_1, .string a0_2, .bool a0_3] 24 (0, 0)) (tq17_6 BK378.out) hb); replace HB := Aq17 (below_step (tq17_8 GE378.out) hb); (try clear hb); (try clear hb2); (try clear hk); (try clear hi))))
         go_ret
         exact ⟨tq17_5, (tq17_8 GE378.out)⟩
       ·rw [if_neg c10] at H
        exact absurd H (by simp)
      ·rw [if_neg c9] at H
       have c9b0 : decide (x5_2 < (l0_1.length : Int)) = false := decide_eq_false c9
       clear c9
       obtain rfl := Option.some.inj H
       have hcz25_0 : wr.cell? ⟨gb378, 0, none⟩ = some (.int .i64 a0_0) := (blk_cell BK378.out 0).trans rfl
       have hcz25_1 : wr.cell? ⟨gb378, 1, none⟩ = some (.slice A0_1 l0_1.length c0_1) := (blk_cell BK378.out 1).trans rfl
       have hcz25_2 : wr.cell? ⟨gb378, 2, none⟩ = some (.string a0_2) := (blk_cell BK378.out 2).trans rfl
       have hcz25_3 : wr.cell? ⟨gb378, 3, none⟩ = some (.bool a0_3) := (blk_cell BK378.out 3).trans rfl
       have hfz25_0 := blk_frozen BK378.out 0
       have hfz25_1 := blk_frozen BK378.out 1
       have hfz25_2 := blk_frozen BK378.out 2
       have hfz25_3 := blk_frozen BK378.out 3
       go_wp2
       repeat (go_quiet (fail); try go_wp2)
       go_ret
       exact ⟨tq17_5, (tq17_8 GE378.out)⟩

/-! ### usherlaw8_lineEnds: function 21 -/
def usherlaw8_lineEnds.l0 : Nat → ByteArray → Int → Int → Int → Option (Int × Int)
 | 0, _, _, _, _ => none
 | k + 1, x0, x4, x5, x6 => if x6 < (x0.size : Int) then (if 0 ≤ x6 then (if (bt x0 x6) = 10 then (if (bt x0 x6) = 13 then (usherlaw8_lineEnds.l0 k x0 (wrap64 (x4 + 1)) (wrap64 (x5 + 1)) (wrap64 (x6 + 1))) else (usherlaw8_lineEnds.l0 k x0 (wrap64 (x4 + 1)) x5 (wrap64 (x6 + 1)))) else (if (bt x0 x6) = 13 then (usherlaw8_lineEnds.l0 k x0 x4 (wrap64 (x5 + 1)) (wrap64 (x6 + 1))) else (usherlaw8_lineEnds.l0 k x0 x4 x5 (wrap64 (x6 + 1))))) else (none)) else (some (x4, x5))
def usherlaw8_lineEnds.f (k : Nat) (a0 : ByteArray) : Option (Int × Int) := usherlaw8_lineEnds.l0 k a0 0 0 0
theorem usherlaw8_lineEnds.mono_l : ∀ k, (∀ y0 y1 y2 y3, LeO (usherlaw8_lineEnds.l0 k y0 y1 y2 y3) (usherlaw8_lineEnds.l0 (k + 1) y0 y1 y2 y3))
 | 0 => fun _ _ _ _ r h => by simp [usherlaw8_lineEnds.l0] at h
 | k + 1 => by
  have ih0 := usherlaw8_lineEnds.mono_l k
  ·intro y0 y1 y2 y3
   unfold usherlaw8_lineEnds.l0
   repeat' first
   | (with_reducible exact ih0 _ _ _ _)
   | (with_reducible exact LeO.refl _)
   | (with_reducible exact LeO.none _)
   | (with_reducible refine LeO.ite ?_ ?_)
   | (with_reducible refine LeO.bind ?_ (fun _ => ?_))
   | exact ih0 _ _ _ _
   | exact LeO.none _
   | refine LeO.ite ?_ ?_
   | refine LeO.bind ?_ (fun _ => ?_)
theorem usherlaw8_lineEnds.mono : ∀ a0 k, LeO (usherlaw8_lineEnds.f k a0) (usherlaw8_lineEnds.f (k + 1) a0) := by
 intro a0 k
 have ih0 := usherlaw8_lineEnds.mono_l k
 unfold usherlaw8_lineEnds.f
 repeat' first
   | (with_reducible exact ih0 _ _ _ _)
   | (with_reducible exact LeO.refl _)
   | (with_reducible exact LeO.none _)
   | (with_reducible refine LeO.ite ?_ ?_)
   | (with_reducible refine LeO.bind ?_ (fun _ => ?_))
   | exact ih0 _ _ _ _
   | exact LeO.none _
   | refine LeO.ite ?_ ?_
   | refine LeO.bind ?_ (fun _ => ?_)
set_option maxHeartbeats 8000000 in
set_option maxRecDepth 100000 in
theorem usherlaw8_lineEnds.calls (k : Nat) (a0 : ByteArray) (r1 : Int) (r2 : Int) (w : World) (h : usherlaw8_lineEnds.f k a0 = some (r1, r2)) :
  Calls Tryd.prog 21 #[.string a0] w fun e w' => e = .returned (.tuple #[.int .i64 r1, .int .i64 r2]) ∧ Drawn0 w w' := by
 have H : (usherlaw8_lineEnds.l0 k a0 0 0 0) = some (r1, r2) := h
 clear h
 have H' := Aq17 H
 clear H
 go_enter Tryd.func21, Tryd.ntmps21
 go_wp2
 go_loopg [4, 5, 6] k (fun kq v4 v5 v6 w' => ∃ (x4_1 : Int) (x5_1 : Int) (x6_1 : Int), v4 = .int .i64 x4_1 ∧ v5 = .int .i64 x5_1 ∧ v6 = .int .i64 x6_1 ∧ Aside0 (usherlaw8_lineEnds.l0 kq a0 x4_1 x5_1 x6_1 = some (r1, r2)) ∧ Aside0 (kq ≤ k) ∧ Drawn0 w w')
 case atStart => exact ⟨(0), (0), (0), tq17_2, tq17_2, tq17_2, H', ⟨Nat.le_refl _⟩, tq17_4⟩
 case round =>
  clear H'
  obtain ⟨x4_1, x5_1, x6_1, rfl, rfl, rfl, HA, HK1, ⟨m1, rfl⟩⟩ := hrel
  cases gk with
  | zero => exact absurd HA.out (by simp [usherlaw8_lineEnds.l0])
  | succ k1 =>
   have H := HA.out
   clear HA
   simp only [usherlaw8_lineEnds.l0] at H
   by_cases c2 : x6_1 < (a0.size : Int)
   ·rw [if_pos c2] at H
    have c2b0 : decide (x6_1 < (a0.size : Int)) = true := decide_eq_true c2
    clear c2
    by_cases c3 : 0 ≤ x6_1
    ·rw [if_pos c3] at H
     have c3b0 : decide (0 ≤ x6_1) = true := decide_eq_true c3
     clear c3
     by_cases c5 : (bt a0 x6_1) = 10
     ·rw [if_pos c5] at H
      have c5b0 : ((bt a0 x6_1) == 10) = true := beq_iff_eq.mpr c5
      have c5b1 : ((bt a0 x6_1) != 10) = false := bne_eq_false_iff_eq.mpr c5
      clear c5
      by_cases c7 : (bt a0 x6_1) = 13
      ·rw [if_pos c7] at H
       have c7b0 : ((bt a0 x6_1) == 13) = true := beq_iff_eq.mpr c7
       have c7b1 : ((bt a0 x6_1) != 13) = false := bne_eq_false_iff_eq.mpr c7
       clear c7
       have H' := Aq17 H
       clear H
       have p4 : 0 ≤ (x6_1 : Int) := of_decide_eq_true tq17_3
       have q4 : x6_1 < (a0.size : Int) := of_decide_eq_true tq17_3
       have hx4 := bt_at a0 x6_1
       replace p4 := eq_true p4
       replace q4 := eq_true q4
       have p6 : 0 ≤ (x6_1 : Int) := of_decide_eq_true tq17_3
       have q6 : x6_1 < (a0.size : Int) := of_decide_eq_true tq17_3
       have hx6 := bt_at a0 x6_1
       replace p6 := eq_true p6
       replace q6 := eq_true q6
       go_wp2
       go_roundg k1
       case measure => have := HK1.out; omega
       case rel => exact ⟨(wrap64 (x4_1 + 1)), (wrap64 (x5_1 + 1)), (wrap64 (x6_1 + 1)), tq17_2, tq17_2, tq17_2, H', ⟨by have := HK1.out; omega⟩, tq17_4⟩
      ·rw [if_neg c7] at H
       have c7b0 : ((bt a0 x6_1) == 13) = false := beq_eq_false_iff_ne.mpr c7
       have c7b1 : ((bt a0 x6_1) != 13) = true := bne_iff_ne.mpr c7
       have H' := Aq17 H
       clear H
       have p4 : 0 ≤ (x6_1 : Int) := of_decide_eq_true tq17_3
       have q4 : x6_1 < (a0.size : Int) := of_decide_eq_true tq17_3
       have hx4 := bt_at a0 x6_1
       replace p4 := eq_true p4
       replace q4 := eq_true q4
       have p6 : 0 ≤ (x6_1 : Int) := of_decide_eq_true tq17_3
       have q6 : x6_1 < (a0.size : Int) := of_decide_eq_true tq17_3
       have hx6 := bt_at a0 x6_1
       replace p6 := eq_true p6
       replace q6 := eq_true q6
       go_wp2
       go_roundg k1
       case measure => have := HK1.out; omega
       case rel => exact ⟨(wrap64 (x4_1 + 1)), (x5_1), (wrap64 (x6_1 + 1)), tq17_2, tq17_2, tq17_2, H', ⟨by have := HK1.out; omega⟩, tq17_4⟩
     ·rw [if_neg c5] at H
      have c5b0 : ((bt a0 x6_1) == 10) = false := beq_eq_false_iff_ne.mpr c5
      have c5b1 : ((bt a0 x6_1) != 10) = true := bne_iff_ne.mpr c5
      by_cases c9 : (bt a0 x6_1) = 13
      ·rw [if_pos c9] at H
       have c9b0 : ((bt a0 x6_1) == 13) = true := beq_iff_eq.mpr c9
       have c9b1 : ((bt a0 x6_1) != 13) = false := bne_eq_false_iff_eq.mpr c9
       clear c9
       have H' := Aq17 H
       clear H
       have p4 : 0 ≤ (x6_1 : Int) := of_decide_eq_true tq17_3
       have q4 : x6_1 < (a0.size : Int) := of_decide_eq_true tq17_3
       have hx4 := bt_at a0 x6_1
       replace p4 := eq_true p4
       replace q4 := eq_true q4
       have p8 : 0 ≤ (x6_1 : Int) := of_decide_eq_true tq17_3
       have q8 : x6_1 < (a0.size : Int) := of_decide_eq_true tq17_3
       have hx8 := bt_at a0 x6_1
       replace p8 := eq_true p8
       replace q8 := eq_true q8
       go_wp2
       go_roundg k1
       case measure => have := HK1.out; omega
       case rel => exact ⟨(x4_1), (wrap64 (x5_1 + 1)), (wrap64 (x6_1 + 1)), tq17_2, tq17_2, tq17_2, H', ⟨by have := HK1.out; omega⟩, tq17_4⟩
      ·rw [if_neg c9] at H
       have c9b0 : ((bt a0 x6_1) == 13) = false := beq_eq_false_iff_ne.mpr c9
       have c9b1 : ((bt a0 x6_1) != 13) = true := bne_iff_ne.mpr c9
       have H' := Aq17 H
       clear H
       have p4 : 0 ≤ (x6_1 : Int) := of_decide_eq_true tq17_3
       have q4 : x6_1 < (a0.size : Int) := of_decide_eq_true tq17_3
       have hx4 := bt_at a0 x6_1
       replace p4 := eq_true p4
       replace q4 := eq_true q4
       have p8 : 0 ≤ (x6_1 : Int) := of_decide_eq_true tq17_3
       have q8 : x6_1 < (a0.size : Int) := of_decide_eq_true tq17_3
       have hx8 := bt_at a0 x6_1
       replace p8 := eq_true p8
       replace q8 := eq_true q8
       go_wp2
       go_roundg k1
       case measure => have := HK1.out; omega
       case rel => exact ⟨(x4_1), (x5_1), (wrap64 (x6_1 + 1)), tq17_2, tq17_2, tq17_2, H', ⟨by have := HK1.out; omega⟩, tq17_4⟩
    ·rw [if_neg c3] at H
     exact absurd H (by simp)
   ·rw [if_neg c2] at H
    have c2b0 : decide (x6_1 < (a0.size : Int)) = false := decide_eq_false c2
    clear c2
    simp only [Option.some.injEq, Prod.mk.injEq] at H
    obtain ⟨rfl, rfl⟩ := H
    go_wp2
    go_ret2
    exact ⟨tq17_2, tq17_4⟩

end Go.Proofs.YtdlfdmbaejhaaaaDoor.Q
