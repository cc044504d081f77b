/- The plain Lean functions that calls of the program answer, and proofs that they do. Printed by program out of the translation; Lean checks it. -/
import Derived.Test.YtdlfdmbaejhaaaaDoorQ0
import Derived.Test.YtdlfdmbaejhaaaaDoorQ10
import Derived.Test.YtdlfdmbaejhaaaaDoorQ11
namespace Go.Proofs.YtdlfdmbaejhaaaaDoor.Q
open Go.RowKit Go.Proofs.YtdlfdmbaejhaaaaDoorW.PrintWords Go.Proofs.YtdlfdmbaejhaaaaDoorW.PrintLast Go.Proofs.YtdlfdmbaejhaaaaDoorW.PrintMore
attribute [local go_sem] max2_int min2_int max_two min_two max_three min_three max_four min_four   -- for this text's walks alone
set_option linter.unusedVariables false
set_option linter.unusedSimpArgs false

theorem Aq16 {p : Prop} (h : p) : Aside0 p := ⟨h⟩
theorem tq16_0 {P : Prop} (h : P := by first | rfl | (simp; done) | (simp [*]; done)) : P := h
theorem tq16_1 {P : Prop} (h : P := by first | (with_reducible assumption) | assumption) : P := h
theorem tq16_2 {P : Prop} (h : P := by repeat (first | exact Drawn0.refl _ | apply Drawn0.step)) : P := h
theorem tq16_3 {P : Prop} (h : P := by first | rfl | (simp [errW_none, errW_some] <;> rfl) | (simp [*, errW_none, errW_some] <;> rfl)) : P := h
theorem tq16_4 {P Q0 : Prop} (y0 : Q0) (h : Q0 → P := by intro y0_; (with_reducible repeat (first | apply Kd.R_alloc | apply Kd.R_drewN | apply Kd.R_drew)); exact y0_) : P := h y0
theorem tq16_5 {P Q0 : Prop} (y0 : Q0) (h : Q0 → P := by intro y0_; (with_reducible repeat (first | refine blk_drewN ?_ _ | refine blk_drew ?_ | refine blk_alloc ?_ _)); exact y0_) : P := h y0
theorem tq16_6 {P : Prop} (h : P := by repeat (first | (with_reducible first | exact HB.out | apply below_alloc | apply pw_below_drewN | apply below_drew1) | exact HB.out)) : P := h
theorem tq16_7 {P : Prop} (h : P := by (try simp only [List.map_toArray, List.map_cons, List.map_nil]); first | done | rfl | (simp only [List.length_drop, List.length_take]; rfl)) : P := h
theorem tq16_8 {P Q0 : Prop} (y0 : Q0) (h : Q0 → P := by intro y0_; repeat (first | (with_reducible first | exact HB.out | apply below_alloc | apply pw_below_drewN | apply below_drew1 | refine below_set ?_ y0_) | exact HB.out)) : P := h y0
/-! ### usherref8_Render: function 16 -/
def usherref8_Render.j0 : Nat → Bool → Bool → Int → List (S26) → ByteArray → Bool → Option (ByteArray × Int)
 | 0, _, _, _, _, _, _ => none
 | k + 1, x1, x17, x349000, x349001, x349002, x349003 => if x17 = true then (some ((⟨#[]⟩ : ByteArray), 3)) else ((usherref8_mayBe.f k x349000 x349001 x349002 x349003).bind fun t349 => (if t349 = true then ((usherref8_head.f k x349000 x349001 x349002 x349003 (x349002.size : Int)).bind fun t350 => (if x1 = true then (some (t350, 0)) else (if t350.size + x349002.size ≤ 9223372036854775807 then (some (t350 ++ x349002, 0)) else (none)))) else (some ((⟨#[]⟩ : ByteArray), 1))))
def usherref8_Render.f (k : Nat) (a0_0 : Int) (l0_1 : List (S26)) (a0_2 : ByteArray) (a0_3 : Bool) (a1 : Bool) : Option (ByteArray × Int) := if (l0_1.length : Int) > 64 then (usherref8_Render.j0 k a1 true a0_0 l0_1 a0_2 a0_3) else (usherref8_Render.j0 k a1 (decide ((a0_2.size : Int) > 1048576)) a0_0 l0_1 a0_2 a0_3)
theorem usherref8_Render.mono_l : ∀ k, (∀ y0 y1 y2 y3 y4 y5, LeO (usherref8_Render.j0 k y0 y1 y2 y3 y4 y5) (usherref8_Render.j0 (k + 1) y0 y1 y2 y3 y4 y5))
 | 0 => fun _ _ _ _ _ _ r h => by simp [usherref8_Render.j0] at h
 | k + 1 => by
  have ih0 := usherref8_Render.mono_l k
  ·intro y0 y1 y2 y3 y4 y5
   unfold usherref8_Render.j0
   repeat' first
   | (with_reducible exact ih0 _ _ _ _ _ _)
   | (with_reducible exact usherref8_head.mono _ _ _ _ _ _)
   | (with_reducible exact usherref8_mayBe.mono _ _ _ _ _)
   | (with_reducible exact LeO.refl _)
   | (with_reducible exact LeO.none _)
   | (with_reducible refine LeO.ite ?_ ?_)
   | (with_reducible refine LeO.bind ?_ (fun _ => ?_))
   | exact ih0 _ _ _ _ _ _
   | exact usherref8_head.mono _ _ _ _ _ _
   | exact usherref8_mayBe.mono _ _ _ _ _
   | exact LeO.none _
   | refine LeO.ite ?_ ?_
   | refine LeO.bind ?_ (fun _ => ?_)
theorem usherref8_Render.mono : ∀ a0 a1 a2 a3 a4 k, LeO (usherref8_Render.f k a0 a1 a2 a3 a4) (usherref8_Render.f (k + 1) a0 a1 a2 a3 a4) := by
 intro a0 a1 a2 a3 a4 k
 have ih0 := usherref8_Render.mono_l k
 unfold usherref8_Render.f
 repeat' first
   | (with_reducible exact ih0 _ _ _ _ _ _)
   | (with_reducible exact usherref8_head.mono _ _ _ _ _ _)
   | (with_reducible exact usherref8_mayBe.mono _ _ _ _ _)
   | (with_reducible exact LeO.refl _)
   | (with_reducible exact LeO.none _)
   | (with_reducible refine LeO.ite ?_ ?_)
   | (with_reducible refine LeO.bind ?_ (fun _ => ?_))
   | exact ih0 _ _ _ _ _ _
   | exact usherref8_head.mono _ _ _ _ _ _
   | exact usherref8_mayBe.mono _ _ _ _ _
   | exact LeO.none _
   | refine LeO.ite ?_ ?_
   | refine LeO.bind ?_ (fun _ => ?_)
set_option maxHeartbeats 8000000 in
set_option maxRecDepth 100000 in
theorem usherref8_Render.calls [Sent] (k : Nat) (a0_0 : Int) (A0_1 : Option Addr) (c0_1 : Nat) (l0_1 : List (S26)) (a0_2 : ByteArray) (a0_3 : Bool) (a1 : Bool) (r1 : ByteArray) (r2 : Int) (w : World) (hr0_1 : Kd.C k26 w A0_1 l0_1.length l0_1) (hc0_1 : l0_1.length ≤ c0_1) (h : usherref8_Render.f k a0_0 l0_1 a0_2 a0_3 a1 = some (r1, r2)) (hG : Glob [19] w) :
  Calls Tryd.prog 16 #[.agg #[.int .i64 a0_0, .slice A0_1 l0_1.length c0_1, .string a0_2, .bool a0_3], .bool a1] w fun e w' => e = .returned (.tuple #[.string r1, .int .i64 r2]) ∧ Below w.heap.size w w' := by
 have HG := Aq16 hG
 clear hG
 have hu24 := Tryd.underlying24
 have HR0_1 := Aq16 hr0_1
 have HC0_1 := Aq16 hc0_1
 clear hr0_1 hc0_1
 have HB := Aq16 (Below.refl w.heap.size w)
 have H : (if (l0_1.length : Int) > 64 then (usherref8_Render.j0 k a1 true a0_0 l0_1 a0_2 a0_3) else (usherref8_Render.j0 k a1 (decide ((a0_2.size : Int) > 1048576)) a0_0 l0_1 a0_2 a0_3)) = some (r1, r2) := h
 clear h
 have HC3 := Aq16 H
 clear H
 go_enter Tryd.func16, Tryd.ntmps16
 go_upto_region 1 with (first | ((with_reducible refine gate_dst (N := 2) rfl ?_); (try (refine gate_guard (by rfl) ?_; dsimp only)); refine box_event ?hg (N := 2) ?hd (cs := #[.int .i64 a0_0, .slice A0_1 l0_1.length c0_1, .string a0_2, .bool a0_3]) (t := 24) ?hr ?_; (case hd => rfl); (case hg => rfl); (case hr => first | (go_simp; done) | (go_simp; rfl)); intro gb348 hg w4 hbox hb; have BK348 := Aq16 (hbox); have GW348 := Aq16 ((by rw [hg]; exact (below_size tq16_6) : w.heap.size ≤ gb348)); have GE348 := Aq16 ((by rw [hg]; exact (below_size tq16_6) : w.heap.size ≤ gb348)); replace HB := Aq16 (below_step tq16_6 hb); clear hb hbox hg))
 (try simp only [Act.put, List.setIfInBounds_toArray, List.set_cons_zero, List.set_cons_succ])
 go_cut [17] (fun v17 wc => ∃ (kq : Nat) (x17_2 : Bool), v17 = .bool x17_2 ∧ Aside0 (usherref8_Render.j0 kq a1 x17_2 a0_0 l0_1 a0_2 a0_3 = some (r1, r2)) ∧ Aside0 (kq ≤ k) ∧ Aside0 (wc.heap[gb348]? = some (.cells #[.int .i64 a0_0, (.slice A0_1 l0_1.length c0_1), .string a0_2, .bool a0_3] 24 (0, 0))) ∧ Aside0 (Below w.heap.size w wc))
 case first =>
  have H := HC3.out
  clear HC3
  by_cases c5 : (l0_1.length : Int) > 64
  ·rw [if_pos c5] at H
   have c5b0 : decide (64 < (l0_1.length : Int)) = true := decide_eq_true c5
   have c5b1 : decide (64 < l0_1.length) = true := decide_eq_true (by omega)
   clear c5
   (first | rw [c5b0] | (simp only [i64_w, i32_w]; rw [c5b0]) | skip)
   have H' := Aq16 H
   clear H
   have hcz6_0 : w4.cell? ⟨gb348, 0, none⟩ = some (.int .i64 a0_0) := (blk_cell BK348.out 0).trans rfl
   have hcz6_1 : w4.cell? ⟨gb348, 1, none⟩ = some (.slice A0_1 l0_1.length c0_1) := (blk_cell BK348.out 1).trans rfl
   have hcz6_2 : w4.cell? ⟨gb348, 2, none⟩ = some (.string a0_2) := (blk_cell BK348.out 2).trans rfl
   have hcz6_3 : w4.cell? ⟨gb348, 3, none⟩ = some (.bool a0_3) := (blk_cell BK348.out 3).trans rfl
   have hfz6_0 := blk_frozen BK348.out 0
   have hfz6_1 := blk_frozen BK348.out 1
   have hfz6_2 := blk_frozen BK348.out 2
   have hfz6_3 := blk_frozen BK348.out 3
   go_wp2
   go_meet
   case rel => exact ⟨_, (true), tq16_0, H', ⟨by first | omega | exact Nat.le_refl _⟩, ⟨(tq16_5 BK348.out)⟩, ⟨(tq16_8 GE348.out)⟩⟩
  ·rw [if_neg c5] at H
   have c5b0 : decide (64 < (l0_1.length : Int)) = false := decide_eq_false c5
   have c5b1 : decide (64 < l0_1.length) = false := decide_eq_false (by omega)
   clear c5
   (first | rw [c5b0] | (simp only [i64_w, i32_w]; rw [c5b0]) | skip)
   have H' := Aq16 H
   clear H
   have hcz7_0 : w4.cell? ⟨gb348, 0, none⟩ = some (.int .i64 a0_0) := (blk_cell BK348.out 0).trans rfl
   have hcz7_1 : w4.cell? ⟨gb348, 1, none⟩ = some (.slice A0_1 l0_1.length c0_1) := (blk_cell BK348.out 1).trans rfl
   have hcz7_2 : w4.cell? ⟨gb348, 2, none⟩ = some (.string a0_2) := (blk_cell BK348.out 2).trans rfl
   have hcz7_3 : w4.cell? ⟨gb348, 3, none⟩ = some (.bool a0_3) := (blk_cell BK348.out 3).trans rfl
   have hfz7_0 := blk_frozen BK348.out 0
   have hfz7_1 := blk_frozen BK348.out 1
   have hfz7_2 := blk_frozen BK348.out 2
   have hfz7_3 := blk_frozen BK348.out 3
   go_wp2
   go_meet
   case rel => exact ⟨_, (decide ((a0_2.size : Int) > 1048576)), tq16_0, H', ⟨by first | omega | exact Nat.le_refl _⟩, ⟨(tq16_5 BK348.out)⟩, ⟨(tq16_8 GE348.out)⟩⟩
 case rest =>
  clear HC3
  try clear c1
  try clear p2
  try clear c5
  try clear c5b0
  try clear c5b1
  try clear hcz6_0
  try clear hcz6_1
  try clear hcz6_2
  try clear hcz6_3
  try clear hcz7_0
  try clear hcz7_1
  try clear hcz7_2
  try clear hcz7_3
  try clear hfz6_0
  try clear hfz6_1
  try clear hfz6_2
  try clear hfz6_3
  try clear hfz7_0
  try clear hfz7_1
  try clear hfz7_2
  try clear hfz7_3
  obtain ⟨kq, x17_2, rfl, HA, HJ2, BK348, HB⟩ := hcut
  cases kq with
  | zero => exact absurd HA.out (by simp [usherref8_Render.j0])
  | succ kj2 =>
   have H := HA.out
   clear HA
   simp only [usherref8_Render.j0] at H
   by_cases c8 : x17_2 = true
   ·subst c8
    have H1 : (some ((⟨#[]⟩ : ByteArray), 3)) = some (r1, r2) := by rw [if_pos rfl] at H; exact H
    clear H
    have H := H1
    clear H1
    simp only [Option.some.injEq, Prod.mk.injEq] at H
    obtain ⟨rfl, rfl⟩ := H
    go_wp2
    go_ret2
    exact ⟨tq16_3, (tq16_8 GE348.out)⟩
   ·replace c8 := Bool.eq_false_iff.mpr c8
    subst c8
    have H1 : ((usherref8_mayBe.f kj2 a0_0 l0_1 a0_2 a0_3).bind fun t349 => (if t349 = true then ((usherref8_head.f kj2 a0_0 l0_1 a0_2 a0_3 (a0_2.size : Int)).bind fun t350 => (if a1 = true then (some (t350, 0)) else (if t350.size + a0_2.size ≤ 9223372036854775807 then (some (t350 ++ a0_2, 0)) else (none)))) else (some ((⟨#[]⟩ : ByteArray), 1)))) = some (r1, r2) := by rw [if_neg (show ¬ (false = true) by decide)] at H; exact H
    clear H
    have H := H1
    clear H1
    replace H := Option.bind_eq_some_iff.mp H
    obtain ⟨t349, A90, H⟩ := H
    replace H : (if t349 = true then ((usherref8_head.f kj2 a0_0 l0_1 a0_2 a0_3 (a0_2.size : Int)).bind fun t350 => (if a1 = true then (some (t350, 0)) else (if t350.size + a0_2.size ≤ 9223372036854775807 then (some (t350 ++ a0_2, 0)) else (none)))) else (some ((⟨#[]⟩ : ByteArray), 1))) = some (r1, r2) := H
    have A9 := Aq16 A90
    clear A90
    by_cases c10 : t349 = true
    ·subst c10
     have H1 : ((usherref8_head.f kj2 a0_0 l0_1 a0_2 a0_3 (a0_2.size : Int)).bind fun t350 => (if a1 = true then (some (t350, 0)) else (if t350.size + a0_2.size ≤ 9223372036854775807 then (some (t350 ++ a0_2, 0)) else (none)))) = some (r1, r2) := by rw [if_pos rfl] at H; exact H
     clear H
     have H := H1
     clear H1
     replace H := Option.bind_eq_some_iff.mp H
     obtain ⟨t350, A110, H⟩ := H
     replace H : (if a1 = true then (some (t350, 0)) else (if t350.size + a0_2.size ≤ 9223372036854775807 then (some (t350 ++ a0_2, 0)) else (none))) = some (r1, r2) := H
     have A11 := Aq16 A110
     clear A110
     by_cases c12 : a1 = true
     ·subst c12
      have H1 : (some (t350, 0)) = some (r1, r2) := by rw [if_pos rfl] at H; exact H
      clear H
      have H := H1
      clear H1
      simp only [Option.some.injEq, Prod.mk.injEq] at H
      obtain ⟨rfl, rfl⟩ := H
      have hcz13_0 : wc.cell? ⟨gb348, 0, none⟩ = some (.int .i64 a0_0) := (blk_cell BK348.out 0).trans rfl
      have hcz13_1 : wc.cell? ⟨gb348, 1, none⟩ = some (.slice A0_1 l0_1.length c0_1) := (blk_cell BK348.out 1).trans rfl
      have hcz13_2 : wc.cell? ⟨gb348, 2, none⟩ = some (.string a0_2) := (blk_cell BK348.out 2).trans rfl
      have hcz13_3 : wc.cell? ⟨gb348, 3, none⟩ = some (.bool a0_3) := (blk_cell BK348.out 3).trans rfl
      have hfz13_0 := blk_frozen BK348.out 0
      have hfz13_1 := blk_frozen BK348.out 1
      have hfz13_2 := blk_frozen BK348.out 2
      have hfz13_3 := blk_frozen BK348.out 3
      go_wp2_with (first | ((with_reducible refine gate_callee (f := 42) rfl ?_); refine goesL_ (some 19) rfl rfl Tryd.func42 (by kernel_rfl) rfl #[.agg #[.int .i64 a0_0, .slice A0_1 l0_1.length c0_1, .string a0_2, .bool a0_3]] rfl tq16_7 ?_; (with_reducible refine (usherref8_mayBe.calls kj2 a0_0 _ _ l0_1 a0_2 a0_3 true _ ?side1 ?side2 A9.out).mono ?_); (case side1 => repeat (first | exact (Kd.C_below HR0_1.out HB.out) | (with_reducible refine Kd.C_alloc ?_ _) | (with_reducible refine Kd.C_drewN ?_ _) | (with_reducible refine Kd.C_drew ?_))); (case side2 => exact HC0_1.out); rintro e w14 ⟨rfl, hb⟩; refine ⟨_, rfl, ?_⟩; replace BK348 := Aq16 (blk_below (g := gb348) (o := .cells #[.int .i64 a0_0, .slice A0_1 l0_1.length c0_1, .string a0_2, .bool a0_3] 24 (0, 0)) (tq16_5 BK348.out) hb); replace HB := Aq16 (below_step (tq16_8 GE348.out) hb); (try clear hb); (try clear hb2); (try clear hk); (try clear hi); have hcz15_0 : w14.cell? ⟨gb348, 0, none⟩ = some (.int .i64 a0_0) := (blk_cell BK348.out 0).trans rfl; have hcz15_1 : w14.cell? ⟨gb348, 1, none⟩ = some (.slice A0_1 l0_1.length c0_1) := (blk_cell BK348.out 1).trans rfl; have hcz15_2 : w14.cell? ⟨gb348, 2, none⟩ = some (.string a0_2) := (blk_cell BK348.out 2).trans rfl; have hcz15_3 : w14.cell? ⟨gb348, 3, none⟩ = some (.bool a0_3) := (blk_cell BK348.out 3).trans rfl; have hfz15_0 := blk_frozen BK348.out 0; have hfz15_1 := blk_frozen BK348.out 1; have hfz15_2 := blk_frozen BK348.out 2; have hfz15_3 := blk_frozen BK348.out 3) | ((with_reducible refine gate_callee (f := 43) rfl ?_); refine goesL_ (some 26) rfl rfl Tryd.func43 (by kernel_rfl) rfl #[.agg #[.int .i64 a0_0, .slice A0_1 l0_1.length c0_1, .string a0_2, .bool a0_3], .int .i64 (a0_2.size : Int)] rfl tq16_7 ?_; (with_reducible refine (usherref8_head.calls kj2 a0_0 _ _ l0_1 a0_2 a0_3 (a0_2.size : Int) t350 _ ?side1 ?side2 A11.out ?side3).mono ?_); (case side1 => repeat (first | exact (Kd.C_below HR0_1.out HB.out) | (with_reducible refine Kd.C_alloc ?_ _) | (with_reducible refine Kd.C_drewN ?_ _) | (with_reducible refine Kd.C_drew ?_))); (case side2 => exact HC0_1.out); (case side3 => exact HG.out.step (tq16_8 GE348.out) rfl); rintro e w16 ⟨rfl, hb⟩; refine ⟨_, rfl, ?_⟩; replace BK348 := Aq16 (blk_below (g := gb348) (o := .cells #[.int .i64 a0_0, .slice A0_1 l0_1.length c0_1, .string a0_2, .bool a0_3] 24 (0, 0)) (tq16_5 BK348.out) hb); replace HB := Aq16 (below_step (tq16_8 GE348.out) hb); (try clear hb); (try clear hb2); (try clear hk); (try clear hi)))
      go_ret2
      exact ⟨tq16_3, (tq16_8 GE348.out)⟩
     ·replace c12 := Bool.eq_false_iff.mpr c12
      subst c12
      have H1 : (if t350.size + a0_2.size ≤ 9223372036854775807 then (some (t350 ++ a0_2, 0)) else (none)) = some (r1, r2) := by rw [if_neg (show ¬ (false = true) by decide)] at H; exact H
      clear H
      have H := H1
      clear H1
      by_cases c17 : t350.size + a0_2.size ≤ 9223372036854775807
      ·rw [if_pos c17] at H
       have c17b0 := eq_true c17
       have c17b1 : decide (t350.size + a0_2.size ≤ 9223372036854775807) = true := decide_eq_true c17
       try have c17b2 : (9223372036854775807 < t350.size + a0_2.size) = False := eq_false (Nat.not_lt.2 c17)
       simp only [Option.some.injEq, Prod.mk.injEq] at H
       obtain ⟨rfl, rfl⟩ := H
       have hcz18_0 : wc.cell? ⟨gb348, 0, none⟩ = some (.int .i64 a0_0) := (blk_cell BK348.out 0).trans rfl
       have hcz18_1 : wc.cell? ⟨gb348, 1, none⟩ = some (.slice A0_1 l0_1.length c0_1) := (blk_cell BK348.out 1).trans rfl
       have hcz18_2 : wc.cell? ⟨gb348, 2, none⟩ = some (.string a0_2) := (blk_cell BK348.out 2).trans rfl
       have hcz18_3 : wc.cell? ⟨gb348, 3, none⟩ = some (.bool a0_3) := (blk_cell BK348.out 3).trans rfl
       have hfz18_0 := blk_frozen BK348.out 0
       have hfz18_1 := blk_frozen BK348.out 1
       have hfz18_2 := blk_frozen BK348.out 2
       have hfz18_3 := blk_frozen BK348.out 3
       go_wp2_with (first | ((with_reducible refine gate_callee (f := 42) rfl ?_); refine goesL_ (some 19) rfl rfl Tryd.func42 (by kernel_rfl) rfl #[.agg #[.int .i64 a0_0, .slice A0_1 l0_1.length c0_1, .string a0_2, .bool a0_3]] rfl tq16_7 ?_; (with_reducible refine (usherref8_mayBe.calls kj2 a0_0 _ _ l0_1 a0_2 a0_3 true _ ?side1 ?side2 A9.out).mono ?_); (case side1 => repeat (first | exact (Kd.C_below HR0_1.out HB.out) | (with_reducible refine Kd.C_alloc ?_ _) | (with_reducible refine Kd.C_drewN ?_ _) | (with_reducible refine Kd.C_drew ?_))); (case side2 => exact HC0_1.out); rintro e w19 ⟨rfl, hb⟩; refine ⟨_, rfl, ?_⟩; replace BK348 := Aq16 (blk_below (g := gb348) (o := .cells #[.int .i64 a0_0, .slice A0_1 l0_1.length c0_1, .string a0_2, .bool a0_3] 24 (0, 0)) (tq16_5 BK348.out) hb); replace HB := Aq16 (below_step (tq16_8 GE348.out) hb); (try clear hb); (try clear hb2); (try clear hk); (try clear hi); have hcz20_0 : w19.cell? ⟨gb348, 0, none⟩ = some (.int .i64 a0_0) := (blk_cell BK348.out 0).trans rfl; have hcz20_1 : w19.cell? ⟨gb348, 1, none⟩ = some (.slice A0_1 l0_1.length c0_1) := (blk_cell BK348.out 1).trans rfl; have hcz20_2 : w19.cell? ⟨gb348, 2, none⟩ = some (.string a0_2) := (blk_cell BK348.out 2).trans rfl; have hcz20_3 : w19.cell? ⟨gb348, 3, none⟩ = some (.bool a0_3) := (blk_cell BK348.out 3).trans rfl; have hfz20_0 := blk_frozen BK348.out 0; have hfz20_1 := blk_frozen BK348.out 1; have hfz20_2 := blk_frozen BK348.out 2; have hfz20_3 := blk_frozen BK348.out 3) | ((with_reducible refine gate_callee (f := 43) rfl ?_); refine goesL_ (some 26) rfl rfl Tryd.func43 (by kernel_rfl) rfl #[.agg #[.int .i64 a0_0, .slice A0_1 l0_1.length c0_1, .string a0_2, .bool a0_3], .int .i64 (a0_2.size : Int)] rfl tq16_7 ?_; (with_reducible refine (usherref8_head.calls kj2 a0_0 _ _ l0_1 a0_2 a0_3 (a0_2.size : Int) t350 _ ?side1 ?side2 A11.out ?side3).mono ?_); (case side1 => repeat (first | exact (Kd.C_below HR0_1.out HB.out) | (with_reducible refine Kd.C_alloc ?_ _) | (with_reducible refine Kd.C_drewN ?_ _) | (with_reducible refine Kd.C_drew ?_))); (case side2 => exact HC0_1.out); (case side3 => exact HG.out.step (tq16_8 GE348.out) rfl); rintro e w21 ⟨rfl, hb⟩; refine ⟨_, rfl, ?_⟩; replace BK348 := Aq16 (blk_below (g := gb348) (o := .cells #[.int .i64 a0_0, .slice A0_1 l0_1.length c0_1, .string a0_2, .bool a0_3] 24 (0, 0)) (tq16_5 BK348.out) hb); replace HB := Aq16 (below_step (tq16_8 GE348.out) hb); (try clear hb); (try clear hb2); (try clear hk); (try clear hi); have hcz22_0 : w21.cell? ⟨gb348, 0, none⟩ = some (.int .i64 a0_0) := (blk_cell BK348.out 0).trans rfl; have hcz22_1 : w21.cell? ⟨gb348, 1, none⟩ = some (.slice A0_1 l0_1.length c0_1) := (blk_cell BK348.out 1).trans rfl; have hcz22_2 : w21.cell? ⟨gb348, 2, none⟩ = some (.string a0_2) := (blk_cell BK348.out 2).trans rfl; have hcz22_3 : w21.cell? ⟨gb348, 3, none⟩ = some (.bool a0_3) := (blk_cell BK348.out 3).trans rfl; have hfz22_0 := blk_frozen BK348.out 0; have hfz22_1 := blk_frozen BK348.out 1; have hfz22_2 := blk_frozen BK348.out 2; have hfz22_3 := blk_frozen BK348.out 3))
       go_ret2
       exact ⟨tq16_3, (tq16_8 GE348.out)⟩
      ·rw [if_neg c17] at H
       exact absurd H (by simp)
    ·replace c10 := Bool.eq_false_iff.mpr c10
     subst c10
     have H1 : (some ((⟨#[]⟩ : ByteArray), 1)) = some (r1, r2) := by rw [if_neg (show ¬ (false = true) by decide)] at H; exact H
     clear H
     have H := H1
     clear H1
     simp only [Option.some.injEq, Prod.mk.injEq] at H
     obtain ⟨rfl, rfl⟩ := H
     have hcz23_0 : wc.cell? ⟨gb348, 0, none⟩ = some (.int .i64 a0_0) := (blk_cell BK348.out 0).trans rfl
     have hcz23_1 : wc.cell? ⟨gb348, 1, none⟩ = some (.slice A0_1 l0_1.length c0_1) := (blk_cell BK348.out 1).trans rfl
     have hcz23_2 : wc.cell? ⟨gb348, 2, none⟩ = some (.string a0_2) := (blk_cell BK348.out 2).trans rfl
     have hcz23_3 : wc.cell? ⟨gb348, 3, none⟩ = some (.bool a0_3) := (blk_cell BK348.out 3).trans rfl
     have hfz23_0 := blk_frozen BK348.out 0
     have hfz23_1 := blk_frozen BK348.out 1
     have hfz23_2 := blk_frozen BK348.out 2
     have hfz23_3 := blk_frozen BK348.out 3
     go_wp2_with (first | ((with_reducible refine gate_callee (f := 42) rfl ?_); refine goesL_ (some 19) rfl rfl Tryd.func42 (by kernel_rfl) rfl #[.agg #[.int .i64 a0_0, .slice A0_1 l0_1.length c0_1, .string a0_2, .bool a0_3]] rfl tq16_7 ?_; (with_reducible refine (usherref8_mayBe.calls kj2 a0_0 _ _ l0_1 a0_2 a0_3 false _ ?side1 ?side2 A9.out).mono ?_); (case side1 => repeat (first | exact (Kd.C_below HR0_1.out HB.out) | (with_reducible refine Kd.C_alloc ?_ _) | (with_reducible refine Kd.C_drewN ?_ _) | (with_reducible refine Kd.C_drew ?_))); (case side2 => exact HC0_1.out); rintro e w24 ⟨rfl, hb⟩; refine ⟨_, rfl, ?_⟩; replace BK348 := Aq16 (blk_below (g := gb348) (o := .cells #[.int .i64 a0_0, .slice A0_1 l0_1.length c0_1, .string a0_2, .bool a0_3] 24 (0, 0)) (tq16_5 BK348.out) hb); replace HB := Aq16 (below_step (tq16_8 GE348.out) hb); (try clear hb); (try clear hb2); (try clear hk); (try clear hi)))
     go_ret2
     exact ⟨tq16_3, (tq16_8 GE348.out)⟩

-- NOT PRINTED: function 3 (usherlaw8_ReplyRenderExact)

/-! ### usherkit_Head: function 19 -/
def usherkit_Head.f (a0 : ByteArray) (a1 : Int) : Option (ByteArray) := if a1 < 1 then (some (⟨#[]⟩ : ByteArray)) else (if a1 ≥ (a0.size : Int) then (some a0) else (if 0 ≤ a1 then (if a1 ≤ (a0.size : Int) then (some (a0.extract 0 (a1 : Int).toNat)) else (none)) else (none)))
set_option maxHeartbeats 8000000 in
set_option maxRecDepth 100000 in
theorem usherkit_Head.calls (a0 : ByteArray) (a1 : Int) (r : ByteArray) (w : World) (h : usherkit_Head.f a0 a1 = some r) :
  Calls Tryd.prog 19 #[.string a0, .int .i64 a1] w fun e w' => e = .returned (.string r) ∧ Drawn0 w w' := by
 have H : (if a1 < 1 then (some (⟨#[]⟩ : ByteArray)) else (if a1 ≥ (a0.size : Int) then (some a0) else (if 0 ≤ a1 then (if a1 ≤ (a0.size : Int) then (some (a0.extract 0 (a1 : Int).toNat)) else (none)) else (none)))) = some r := h
 clear h
 by_cases c3 : a1 < 1
 ·rw [if_pos c3] at H
  have c3b0 : decide (a1 < 1) = true := decide_eq_true c3
  clear c3
  obtain rfl := Option.some.inj H
  go_enter Tryd.func19, Tryd.ntmps19
  go_wp2
  go_ret
  exact ⟨tq16_0, tq16_2⟩
 ·rw [if_neg c3] at H
  have c3b0 : decide (a1 < 1) = false := decide_eq_false c3
  clear c3
  by_cases c4 : a1 ≥ (a0.size : Int)
  ·rw [if_pos c4] at H
   have c4b0 : decide ((a0.size : Int) ≤ a1) = true := decide_eq_true c4
   clear c4
   obtain rfl := Option.some.inj H
   go_enter Tryd.func19, Tryd.ntmps19
   go_wp2
   go_ret
   exact ⟨tq16_0, tq16_2⟩
  ·rw [if_neg c4] at H
   have c4b0 : decide ((a0.size : Int) ≤ a1) = false := decide_eq_false c4
   clear c4
   by_cases c5 : 0 ≤ a1
   ·rw [if_pos c5] at H
    have c5b0 := eq_true c5
    have c5b1 : decide (0 ≤ a1) = true := decide_eq_true c5
    clear c5
    by_cases c6 : a1 ≤ (a0.size : Int)
    ·rw [if_pos c6] at H
     have c6b0 := eq_true c6
     have c6b1 : decide (a1 ≤ (a0.size : Int)) = true := decide_eq_true c6
     clear c6
     obtain rfl := Option.some.inj H
     go_enter Tryd.func19, Tryd.ntmps19
     go_wp2
     go_ret
     exact ⟨tq16_0, tq16_2⟩
    ·rw [if_neg c6] at H
     exact absurd H (by simp)
   ·rw [if_neg c5] at H
    exact absurd H (by simp)

/-! ### usherlaw8_small: function 66 -/
def usherlaw8_small.l0 : Nat → ByteArray → List Int → Int → Option (ByteArray)
 | 0, _, _, _ => none
 | k + 1, x0, x3, x4 => if x4 < (x0.size : Int) then (if 0 ≤ x4 then (if (bt x0 x4) ≥ 65 then (if (bt x0 x4) ≤ 90 then (if x3.length < 140737488355328 then (usherlaw8_small.l0 k x0 (x3 ++ [((bt x0 x4) + 32) % 256]) (wrap64 (x4 + 1))) else (none)) else (if x3.length < 140737488355328 then (usherlaw8_small.l0 k x0 (x3 ++ [bt x0 x4]) (wrap64 (x4 + 1))) else (none))) else (if x3.length < 140737488355328 then (usherlaw8_small.l0 k x0 (x3 ++ [bt x0 x4]) (wrap64 (x4 + 1))) else (none))) else (none)) else (some (strOfNums x3))
def usherlaw8_small.f (k : Nat) (a0 : ByteArray) : Option (ByteArray) := usherlaw8_small.l0 k a0 ([] : List Int) 0
theorem usherlaw8_small.mono_l : ∀ k, (∀ y0 y1 y2, LeO (usherlaw8_small.l0 k y0 y1 y2) (usherlaw8_small.l0 (k + 1) y0 y1 y2))
 | 0 => fun _ _ _ r h => by simp [usherlaw8_small.l0] at h
 | k + 1 => by
  have ih0 := usherlaw8_small.mono_l k
  ·intro y0 y1 y2
   unfold usherlaw8_small.l0
   repeat' first
   | (with_reducible exact ih0 _ _ _)
   | (with_reducible exact LeO.refl _)
   | (with_reducible exact LeO.none _)
   | (with_reducible refine LeO.ite ?_ ?_)
   | (with_reducible refine LeO.bind ?_ (fun _ => ?_))
   | exact ih0 _ _ _
   | exact LeO.none _
   | refine LeO.ite ?_ ?_
   | refine LeO.bind ?_ (fun _ => ?_)
theorem usherlaw8_small.mono : ∀ a0 k, LeO (usherlaw8_small.f k a0) (usherlaw8_small.f (k + 1) a0) := by
 intro a0 k
 have ih0 := usherlaw8_small.mono_l k
 unfold usherlaw8_small.f
 repeat' first
   | (with_reducible exact ih0 _ _ _)
   | (with_reducible exact LeO.refl _)
   | (with_reducible exact LeO.none _)
   | (with_reducible refine LeO.ite ?_ ?_)
   | (with_reducible refine LeO.bind ?_ (fun _ => ?_))
   | exact ih0 _ _ _
   | exact LeO.none _
   | refine LeO.ite ?_ ?_
   | refine LeO.bind ?_ (fun _ => ?_)
set_option maxHeartbeats 8000000 in
set_option maxRecDepth 100000 in
theorem usherlaw8_small.calls (k : Nat) (a0 : ByteArray) (r : ByteArray) (w : World) (h : usherlaw8_small.f k a0 = some r) :
  Calls Tryd.prog 66 #[.string a0] w fun e w' => e = .returned (.string r) ∧ Below w.heap.size w w' := by
 have HB := Aq16 (Below.refl w.heap.size w)
 have H : (usherlaw8_small.l0 k a0 ([] : List Int) 0) = some r := h
 clear h
 have H' := Aq16 H
 clear H
 go_enter Tryd.func66, Tryd.ntmps66
 go_wp2
 go_loopg [3, 4] k (fun kq v3 v4 w' => ∃ (x3_1 : List Int) (x4_1 : Int), v4 = .int .i64 x4_1 ∧ Aside0 (usherlaw8_small.l0 kq a0 x3_1 x4_1 = some r) ∧ Aside0 (kq ≤ k) ∧ Aside0 (Kd.R (Kd.int .u8) 5 w' w.heap.size (fun _ => True) v3 x3_1) ∧ Aside0 (Below w.heap.size w w'))
 case atStart => exact ⟨(([] : List Int)), (0), tq16_0, H', ⟨Nat.le_refl _⟩, ⟨by first | exact Kd.R_nil _ _ _ _ _ | exact Kd.N_nil _ _ _ _ _ | exact Kd.V_nil _ _ _ _ _ | exact Kd.Q_nil _ _ _ _ _ | exact Kd.S_nil _ _ _ _ _⟩, ⟨tq16_6⟩⟩
 case round =>
  clear H'
  obtain ⟨x3_1, x4_1, rfl, HA, HK1, HO_3, HB⟩ := hrel
  cases gk with
  | zero => exact absurd HA.out (by simp [usherlaw8_small.l0])
  | succ k1 =>
   have H := HA.out
   clear HA
   simp only [usherlaw8_small.l0] at H
   by_cases c2 : x4_1 < (a0.size : Int)
   ·rw [if_pos c2] at H
    have c2b0 : decide (x4_1 < (a0.size : Int)) = true := decide_eq_true c2
    clear c2
    by_cases c3 : 0 ≤ x4_1
    ·rw [if_pos c3] at H
     have c3b0 : decide (0 ≤ x4_1) = true := decide_eq_true c3
     clear c3
     by_cases c5 : (bt a0 x4_1) ≥ 65
     ·rw [if_pos c5] at H
      have c5b0 : decide (65 ≤ (bt a0 x4_1)) = true := decide_eq_true c5
      clear c5
      by_cases c6 : (bt a0 x4_1) ≤ 90
      ·rw [if_pos c6] at H
       have c6b0 : decide ((bt a0 x4_1) ≤ 90) = true := decide_eq_true c6
       clear c6
       by_cases c7 : x3_1.length < 140737488355328
       ·rw [if_pos c7] at H
        have LMc7 := Aq16 c7
        clear c7
        obtain ⟨y368, hy368⟩ : ∃ y_ : List Int, y_ = (x3_1 ++ [((bt a0 x4_1) + 32) % 256]) := ⟨_, rfl⟩
        replace H : (usherlaw8_small.l0 k1 a0 y368 (wrap64 (x4_1 + 1))) = some r := by first | (rw [hy368]; with_reducible exact H) | (have H2_ := (Option.bind_some _ _).symm.trans H; rw [hy368]; with_reducible exact H2_) | (have H2_ := (Option.bind_some _ _).symm.trans H; with_reducible exact H2_) | with_reducible exact H | (rw [hy368]; exact H) | exact H
        have Ny368 := Aq16 hy368
        clear hy368
        have H' := Aq16 H
        clear H
        have p4 : 0 ≤ (x4_1 : Int) := of_decide_eq_true tq16_1
        have q4 : x4_1 < (a0.size : Int) := of_decide_eq_true tq16_1
        have hx4 := bt_at a0 x4_1
        replace p4 := eq_true p4
        replace q4 := eq_true q4
        go_wp2_with (first | ((with_reducible refine gate_builtin (b := .append) (xs := #[.tmp 23, .tmp 25]) rfl ?_); at_builtin; refine Kd.R_append (Kd.int .u8) (w0 := w) w.heap.size rfl (.tmp 23) (.tmp 25) 61 5 (.int .u8 0) 1 rfl Tryd.underlying61 info5 rfl (by decide) (by omega) u3 x3_1 (((bt a0 x4_1) + 32) % 256) [.int .u8 (((bt a0 x4_1) + 32) % 256)] (fun _ => True) (fun _ => False) rfl rfl ?aP (fun _ hk => hk.elim) ?aF ?aO ?aB ?aS ?aL ?_; (case aP => exact rfl); (case aB => exact tq16_6); (case aF => exact (fun _ _ => trivial)); (case aO => exact (tq16_4 HO_3.out)); (case aS => exact (below_size tq16_6)); (case aL => have := LMc7.out; omega); intro v369 w8 ho hb hg hat; rw [← Ny368.out] at ho; have n0_ := Aq16 (hb); have n1_ := Aq16 (ho); clear HB; clear HO_3; have HB := n0_; have HO370 := n1_; clear n0_ n1_; clear ho hb hg hat))
        go_roundg k1
        case measure => have := HK1.out; omega
        case rel => exact ⟨(y368), (wrap64 (x4_1 + 1)), tq16_0, H', ⟨by have := HK1.out; omega⟩, ⟨(tq16_4 HO370.out)⟩, ⟨tq16_6⟩⟩
       ·rw [if_neg c7] at H
        exact absurd H (by simp)
      ·rw [if_neg c6] at H
       have c6b0 : decide ((bt a0 x4_1) ≤ 90) = false := decide_eq_false c6
       clear c6
       by_cases c9 : x3_1.length < 140737488355328
       ·rw [if_pos c9] at H
        have LMc9 := Aq16 c9
        clear c9
        obtain ⟨y371, hy371⟩ : ∃ y_ : List Int, y_ = (x3_1 ++ [bt a0 x4_1]) := ⟨_, rfl⟩
        replace H : (usherlaw8_small.l0 k1 a0 y371 (wrap64 (x4_1 + 1))) = some r := by first | (rw [hy371]; with_reducible exact H) | (have H2_ := (Option.bind_some _ _).symm.trans H; rw [hy371]; with_reducible exact H2_) | (have H2_ := (Option.bind_some _ _).symm.trans H; with_reducible exact H2_) | with_reducible exact H | (rw [hy371]; exact H) | exact H
        have Ny371 := Aq16 hy371
        clear hy371
        have H' := Aq16 H
        clear H
        have p4 : 0 ≤ (x4_1 : Int) := of_decide_eq_true tq16_1
        have q4 : x4_1 < (a0.size : Int) := of_decide_eq_true tq16_1
        have hx4 := bt_at a0 x4_1
        replace p4 := eq_true p4
        replace q4 := eq_true q4
        go_wp2_with (first | ((with_reducible refine gate_builtin (b := .append) (xs := #[.tmp 23, .tmp 25]) rfl ?_); at_builtin; refine Kd.R_append (Kd.int .u8) (w0 := w) w.heap.size rfl (.tmp 23) (.tmp 25) 61 5 (.int .u8 0) 1 rfl Tryd.underlying61 info5 rfl (by decide) (by omega) u3 x3_1 (bt a0 x4_1) [.int .u8 (bt a0 x4_1)] (fun _ => True) (fun _ => False) rfl rfl ?aP (fun _ hk => hk.elim) ?aF ?aO ?aB ?aS ?aL ?_; (case aP => exact rfl); (case aB => exact tq16_6); (case aF => exact (fun _ _ => trivial)); (case aO => exact (tq16_4 HO_3.out)); (case aS => exact (below_size tq16_6)); (case aL => have := LMc9.out; omega); intro v372 w10 ho hb hg hat; rw [← Ny371.out] at ho; have n0_ := Aq16 (hb); have n1_ := Aq16 (ho); clear HB; clear HO_3; have HB := n0_; have HO373 := n1_; clear n0_ n1_; clear ho hb hg hat))
        go_roundg k1
        case measure => have := HK1.out; omega
        case rel => exact ⟨(y371), (wrap64 (x4_1 + 1)), tq16_0, H', ⟨by have := HK1.out; omega⟩, ⟨(tq16_4 HO373.out)⟩, ⟨tq16_6⟩⟩
       ·rw [if_neg c9] at H
        exact absurd H (by simp)
     ·rw [if_neg c5] at H
      have c5b0 : decide (65 ≤ (bt a0 x4_1)) = false := decide_eq_false c5
      clear c5
      by_cases c11 : x3_1.length < 140737488355328
      ·rw [if_pos c11] at H
       have LMc11 := Aq16 c11
       clear c11
       obtain ⟨y374, hy374⟩ : ∃ y_ : List Int, y_ = (x3_1 ++ [bt a0 x4_1]) := ⟨_, rfl⟩
       replace H : (usherlaw8_small.l0 k1 a0 y374 (wrap64 (x4_1 + 1))) = some r := by first | (rw [hy374]; with_reducible exact H) | (have H2_ := (Option.bind_some _ _).symm.trans H; rw [hy374]; with_reducible exact H2_) | (have H2_ := (Option.bind_some _ _).symm.trans H; with_reducible exact H2_) | with_reducible exact H | (rw [hy374]; exact H) | exact H
       have Ny374 := Aq16 hy374
       clear hy374
       have H' := Aq16 H
       clear H
       have p4 : 0 ≤ (x4_1 : Int) := of_decide_eq_true tq16_1
       have q4 : x4_1 < (a0.size : Int) := of_decide_eq_true tq16_1
       have hx4 := bt_at a0 x4_1
       replace p4 := eq_true p4
       replace q4 := eq_true q4
       go_wp2_with (first | ((with_reducible refine gate_builtin (b := .append) (xs := #[.tmp 23, .tmp 25]) rfl ?_); at_builtin; refine Kd.R_append (Kd.int .u8) (w0 := w) w.heap.size rfl (.tmp 23) (.tmp 25) 61 5 (.int .u8 0) 1 rfl Tryd.underlying61 info5 rfl (by decide) (by omega) u3 x3_1 (bt a0 x4_1) [.int .u8 (bt a0 x4_1)] (fun _ => True) (fun _ => False) rfl rfl ?aP (fun _ hk => hk.elim) ?aF ?aO ?aB ?aS ?aL ?_; (case aP => exact rfl); (case aB => exact tq16_6); (case aF => exact (fun _ _ => trivial)); (case aO => exact (tq16_4 HO_3.out)); (case aS => exact (below_size tq16_6)); (case aL => have := LMc11.out; omega); intro v375 w12 ho hb hg hat; rw [← Ny374.out] at ho; have n0_ := Aq16 (hb); have n1_ := Aq16 (ho); clear HB; clear HO_3; have HB := n0_; have HO376 := n1_; clear n0_ n1_; clear ho hb hg hat))
       go_roundg k1
       case measure => have := HK1.out; omega
       case rel => exact ⟨(y374), (wrap64 (x4_1 + 1)), tq16_0, H', ⟨by have := HK1.out; omega⟩, ⟨(tq16_4 HO376.out)⟩, ⟨tq16_6⟩⟩
      ·rw [if_neg c11] at H
       exact absurd H (by simp)
    ·rw [if_neg c3] at H
     exact absurd H (by simp)
   ·rw [if_neg c2] at H
    have c2b0 : decide (x4_1 < (a0.size : Int)) = false := decide_eq_false c2
    clear c2
    obtain rfl := Option.some.inj H
    have hcv13 := own_string (P := Tryd.prog) Tryd.underlying61 Tryd.underlying5 Tryd.underlying9 (Kd.own_of_R HO_3.out)
    go_wp2
    go_ret
    exact ⟨tq16_3, tq16_6⟩

/-! ### usherlaw8_own: function 45 -/
def usherlaw8_own.f (k : Nat) (a0 : ByteArray) : Option (Bool) := (usherlaw8_small.f k a0).bind fun t377 => (if t377.toList = ([99, 111, 110, 116, 101, 110, 116, 45, 108, 101, 110, 103, 116, 104] : List UInt8) then (some true) else (if t377.toList = ([99, 111, 110, 110, 101, 99, 116, 105, 111, 110] : List UInt8) then (some true) else (some (t377.toList == ([116, 114, 97, 110, 115, 102, 101, 114, 45, 101, 110, 99, 111, 100, 105, 110, 103] : List UInt8)))))
theorem usherlaw8_own.mono : ∀ a0 k, LeO (usherlaw8_own.f k a0) (usherlaw8_own.f (k + 1) a0) := by
 intro a0 k
 unfold usherlaw8_own.f
 repeat' first
   | (with_reducible exact usherlaw8_small.mono _ _)
   | (with_reducible exact LeO.refl _)
   | (with_reducible exact LeO.none _)
   | (with_reducible refine LeO.ite ?_ ?_)
   | (with_reducible refine LeO.bind ?_ (fun _ => ?_))
   | exact usherlaw8_small.mono _ _
   | exact LeO.none _
   | refine LeO.ite ?_ ?_
   | refine LeO.bind ?_ (fun _ => ?_)
set_option maxHeartbeats 8000000 in
set_option maxRecDepth 100000 in
theorem usherlaw8_own.calls (k : Nat) (a0 : ByteArray) (r : Bool) (w : World) (h : usherlaw8_own.f k a0 = some r) :
  Calls Tryd.prog 45 #[.string a0] w fun e w' => e = .returned (.bool r) ∧ Below w.heap.size w w' := by
 have HB := Aq16 (Below.refl w.heap.size w)
 have H : ((usherlaw8_small.f k a0).bind fun t377 => (if t377.toList = ([99, 111, 110, 116, 101, 110, 116, 45, 108, 101, 110, 103, 116, 104] : List UInt8) then (some true) else (if t377.toList = ([99, 111, 110, 110, 101, 99, 116, 105, 111, 110] : List UInt8) then (some true) else (some (t377.toList == ([116, 114, 97, 110, 115, 102, 101, 114, 45, 101, 110, 99, 111, 100, 105, 110, 103] : List UInt8)))))) = some r := h
 clear h
 replace H := Option.bind_eq_some_iff.mp H
 obtain ⟨t377, A20, H⟩ := H
 replace H : (if t377.toList = ([99, 111, 110, 116, 101, 110, 116, 45, 108, 101, 110, 103, 116, 104] : List UInt8) then (some true) else (if t377.toList = ([99, 111, 110, 110, 101, 99, 116, 105, 111, 110] : List UInt8) then (some true) else (some (t377.toList == ([116, 114, 97, 110, 115, 102, 101, 114, 45, 101, 110, 99, 111, 100, 105, 110, 103] : List UInt8))))) = some r := H
 have A2 := Aq16 A20
 clear A20
 by_cases c3 : t377.toList = ([99, 111, 110, 116, 101, 110, 116, 45, 108, 101, 110, 103, 116, 104] : List UInt8)
 ·rw [if_pos c3] at H
  have c3b0 : (t377.toList == ([99, 111, 110, 116, 101, 110, 116, 45, 108, 101, 110, 103, 116, 104] : List UInt8)) = true := beq_iff_eq.mpr c3
  have c3b1 : (t377.toList != ([99, 111, 110, 116, 101, 110, 116, 45, 108, 101, 110, 103, 116, 104] : List UInt8)) = false := bne_eq_false_iff_eq.mpr c3
  clear c3
  obtain rfl := Option.some.inj H
  go_enter Tryd.func45, Tryd.ntmps45
  go_wp2_with (first | ((with_reducible refine gate_callee (f := 66) rfl ?_); refine goesL_ (some 5) rfl rfl Tryd.func66 (by kernel_rfl) rfl #[.string a0] rfl tq16_7 ?_; (with_reducible refine (usherlaw8_small.calls k a0 t377 _ A2.out).mono ?_); rintro e w4 ⟨rfl, hb⟩; refine ⟨_, rfl, ?_⟩; replace HB := Aq16 (below_step tq16_6 hb); (try clear hb); (try clear hb2); (try clear hk); (try clear hi)))
  go_ret
  exact ⟨tq16_3, tq16_6⟩
 ·rw [if_neg c3] at H
  have c3b0 : (t377.toList == ([99, 111, 110, 116, 101, 110, 116, 45, 108, 101, 110, 103, 116, 104] : List UInt8)) = false := beq_eq_false_iff_ne.mpr c3
  have c3b1 : (t377.toList != ([99, 111, 110, 116, 101, 110, 116, 45, 108, 101, 110, 103, 116, 104] : List UInt8)) = true := bne_iff_ne.mpr c3
  by_cases c5 : t377.toList = ([99, 111, 110, 110, 101, 99, 116, 105, 111, 110] : List UInt8)
  ·rw [if_pos c5] at H
   have c5b0 : (t377.toList == ([99, 111, 110, 110, 101, 99, 116, 105, 111, 110] : List UInt8)) = true := beq_iff_eq.mpr c5
   have c5b1 : (t377.toList != ([99, 111, 110, 110, 101, 99, 116, 105, 111, 110] : List UInt8)) = false := bne_eq_false_iff_eq.mpr c5
   clear c5
   obtain rfl := Option.some.inj H
   go_enter Tryd.func45, Tryd.ntmps45
   go_wp2_with (first | ((with_reducible refine gate_callee (f := 66) rfl ?_); refine goesL_ (some 5) rfl rfl Tryd.func66 (by kernel_rfl) rfl #[.string a0] rfl tq16_7 ?_; (with_reducible refine (usherlaw8_small.calls k a0 t377 _ A2.out).mono ?_); rintro e w6 ⟨rfl, hb⟩; refine ⟨_, rfl, ?_⟩; replace HB := Aq16 (below_step tq16_6 hb); (try clear hb); (try clear hb2); (try clear hk); (try clear hi)))
   go_ret
   exact ⟨tq16_3, tq16_6⟩
  ·rw [if_neg c5] at H
   have c5b0 : (t377.toList == ([99, 111, 110, 110, 101, 99, 116, 105, 111, 110] : List UInt8)) = false := beq_eq_false_iff_ne.mpr c5
   have c5b1 : (t377.toList != ([99, 111, 110, 110, 101, 99, 116, 105, 111, 110] : List UInt8)) = true := bne_iff_ne.mpr c5
   obtain rfl := Option.some.inj H
   go_enter Tryd.func45, Tryd.ntmps45
   go_wp2_with (first | ((with_reducible refine gate_callee (f := 66) rfl ?_); refine goesL_ (some 5) rfl rfl Tryd.func66 (by kernel_rfl) rfl #[.string a0] rfl tq16_7 ?_; (with_reducible refine (usherlaw8_small.calls k a0 t377 _ A2.out).mono ?_); rintro e w7 ⟨rfl, hb⟩; refine ⟨_, rfl, ?_⟩; replace HB := Aq16 (below_step tq16_6 hb); (try clear hb); (try clear hb2); (try clear hk); (try clear hi)))
   go_ret
   exact ⟨tq16_3, tq16_6⟩

end Go.Proofs.YtdlfdmbaejhaaaaDoor.Q
