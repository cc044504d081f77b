/- The plain Lean functions that calls of the program answer, and proofs that they do. Printed by program out of the translation; Lean checks it. -/
import Derived.Test.YtdlfdmbaejhaaaaDoorQ0
import Derived.Test.YtdlfdmbaejhaaaaDoorQ11
import Derived.Test.YtdlfdmbaejhaaaaDoorQ12
namespace Go.Proofs.YtdlfdmbaejhaaaaDoor.Q
open Go.RowKit Go.Proofs.YtdlfdmbaejhaaaaDoorW.PrintWords Go.Proofs.YtdlfdmbaejhaaaaDoorW.PrintLast Go.Proofs.YtdlfdmbaejhaaaaDoorW.PrintMore
attribute [local go_sem] max2_int min2_int max_two min_two max_three min_three max_four min_four   -- for this text's walks alone
set_option linter.unusedVariables false
set_option linter.unusedSimpArgs false

theorem Aq13 {p : Prop} (h : p) : Aside0 p := ⟨h⟩
theorem tq13_0 {P : Prop} (h : P := by first | omega | exact Nat.le_refl _) : P := h
theorem tq13_1 {P : Prop} (h : P := by first | rfl | (simp; done) | (simp [*]; done)) : P := h
theorem tq13_2 {P : Prop} (h : P := by first | (with_reducible assumption) | assumption) : P := h
theorem tq13_3 {P Q0 : Prop} (y0 : Q0) (h : Q0 → P := by intro y0_; (with_reducible repeat (first | apply Kd.R_alloc | apply Kd.R_drewN | apply Kd.R_drew)); exact y0_) : P := h y0
theorem tq13_4 {P Q0 : Prop} (y0 : Q0) (h : Q0 → P := by intro y0_; (with_reducible repeat (first | refine blk_drewN ?_ _ | refine blk_drew ?_ | refine blk_alloc ?_ _)); exact y0_) : P := h y0
theorem tq13_5 {P : Prop} (h : P := by repeat (first | (with_reducible first | exact HB.out | apply below_alloc | apply pw_below_drewN | apply below_drew1) | exact HB.out)) : P := h
theorem tq13_6 {P : Prop} (h : P := by (try simp only [List.map_toArray, List.map_cons, List.map_nil]); first | done | rfl | (simp only [List.length_drop, List.length_take]; rfl)) : P := h
theorem tq13_7 {P : Prop} (h : P := by first | exact Kd.R_nil _ _ _ _ _ | exact Kd.N_nil _ _ _ _ _ | exact Kd.V_nil _ _ _ _ _ | exact Kd.Q_nil _ _ _ _ _ | exact Kd.S_nil _ _ _ _ _) : P := h
theorem tq13_8 {P Q0 : Prop} (y0 : Q0) (h : Q0 → P := by intro y0_; repeat (first | (with_reducible first | exact HB.out | apply below_alloc | apply pw_below_drewN | apply below_drew1 | refine below_set ?_ y0_) | exact HB.out)) : P := h y0
theorem tq13_9 {P Q0 Q1 : Prop} (y0 : Q0) (y1 : Q1) (h : Q0 → Q1 → P := by intro y0_ y1_; repeat (first | (with_reducible first | exact HB.out | apply below_alloc | apply pw_below_drewN | apply below_drew1 | refine below_set ?_ y0_ | refine below_set ?_ y1_) | exact HB.out)) : P := h y0 y1
theorem tq13_a {P Q0 Q1 Q2 : Prop} (y0 : Q0) (y1 : Q1) (y2 : Q2) (h : Q0 → Q1 → Q2 → P := by intro y0_ y1_ y2_; repeat (first | (with_reducible first | exact HB.out | apply below_alloc | apply pw_below_drewN | apply below_drew1 | refine below_set ?_ y0_ | refine below_set ?_ y1_ | refine below_set ?_ y2_) | exact HB.out)) : P := h y0 y1 y2
theorem tq13_b {P Q0 Q1 : Prop} (y0 : Q0) (y1 : Q1) (h : Q0 → Q1 → P := by intro y0_ y1_; (with_reducible repeat (first | refine blk_drewN ?_ _ | refine blk_drew ?_ | refine blk_alloc ?_ _)); refine blk_far ?_ y0_ _; (with_reducible repeat (first | refine blk_drewN ?_ _ | refine blk_drew ?_ | refine blk_alloc ?_ _)); exact y1_) : P := h y0 y1
theorem tq13_c {P Q0 Q1 : Prop} (y0 : Q0) (y1 : Q1) (h : Q0 → Q1 → P := by intro y0_ y1_; (with_reducible repeat (first | apply Kd.R_alloc | apply Kd.R_drewN | apply Kd.R_drew)); exact Kd.R_mono (Kd.R_far (p := ⟨gb278, 1, none⟩) (Kd.R_types y0_ y1_ (by decide)) (fun _ hk => hk.2) (.slice Ao50 y287.length co50)) (fun _ hk => trivial)) : P := h y0 y1
theorem tq13_d {P Q0 Q1 : Prop} (y0 : Q0) (y1 : Q1) (h : Q0 → Q1 → P := by intro y0_ y1_; (iterate 2 ((with_reducible repeat (first | refine blk_drewN ?_ _ | refine blk_drew ?_ | refine blk_alloc ?_ _)); refine blk_far ?_ y0_ _)); (with_reducible repeat (first | refine blk_drewN ?_ _ | refine blk_drew ?_ | refine blk_alloc ?_ _)); exact y1_) : P := h y0 y1
theorem tq13_e {P Q0 : Prop} (y0 : Q0) (h : Q0 → P := by intro y0_; (with_reducible repeat (first | refine blk_drewN ?_ _ | refine blk_drew ?_ | refine blk_alloc ?_ _)); refine blk_put (cs := #[.string t284, .string (⟨#[]⟩ : ByteArray)]) ?_ 1 _ rfl; (with_reducible repeat (first | refine blk_drewN ?_ _ | refine blk_drew ?_ | refine blk_alloc ?_ _)); refine blk_put (cs := #[.string (⟨#[]⟩ : ByteArray), .string (⟨#[]⟩ : ByteArray)]) ?_ 0 _ rfl; (with_reducible repeat (first | refine blk_drewN ?_ _ | refine blk_drew ?_ | refine blk_alloc ?_ _)); exact y0_) : P := h y0
theorem tq13_f {P Q0 : Prop} (y0 : Q0) (h : Q0 → P := by intro y0_; (with_reducible repeat (first | refine blk_drewN ?_ _ | refine blk_drew ?_ | refine blk_alloc ?_ _)); refine blk_put (cs := #[.int .i64 0, .slice none 0 0, .string (⟨#[]⟩ : ByteArray), .bool false]) ?_ 3 _ rfl; (with_reducible repeat (first | refine blk_drewN ?_ _ | refine blk_drew ?_ | refine blk_alloc ?_ _)); refine blk_put (cs := #[.int .i64 0, .slice none 0 0, .string (⟨#[]⟩ : ByteArray), .bool false]) ?_ 2 _ rfl; (with_reducible repeat (first | refine blk_drewN ?_ _ | refine blk_drew ?_ | refine blk_alloc ?_ _)); refine blk_put (cs := #[.int .i64 0, .slice none 0 0, .string (⟨#[]⟩ : ByteArray), .bool false]) ?_ 1 _ rfl; (with_reducible repeat (first | refine blk_drewN ?_ _ | refine blk_drew ?_ | refine blk_alloc ?_ _)); refine blk_put (cs := #[.int .i64 0, .slice none 0 0, .string (⟨#[]⟩ : ByteArray), .bool false]) ?_ 0 _ rfl; (with_reducible repeat (first | refine blk_drewN ?_ _ | refine blk_drew ?_ | refine blk_alloc ?_ _)); exact y0_) : P := h y0
/-! ### usherref8_found: function 57 -/
mutual
def usherref8_found.j0 : Nat → List ByteArray → Int → Bool → Option (Int × (List (S26)) × ByteArray × Bool × Int)
 | 0, _, _, _ => none
 | k + 1, x4, x5, x40 => if x40 = true then (some (0, ([] : List (S26)), (⟨#[]⟩ : ByteArray), false, (-1))) else (if 0 ≤ (wrap64 (x5 - 1)) then (if (wrap64 (x5 - 1)) < (x4.length : Int) then (if 0 < (x4.length : Int) then (if 9 ≤ 12 then (if 12 ≤ ((rdOf ByteArray.empty x4 0).size : Int) then ((usherref8_number.f k ((rdOf ByteArray.empty x4 0).extract 9 12)).bind fun t280 => (if 0 ≤ (wrap64 (x5 - 2)) then (if (wrap64 (x5 - 2)) < (x4.length : Int) then (if 16 ≤ ((rdOf ByteArray.empty x4 (wrap64 (x5 - 2))).size : Int) then ((usherref8_number.f k ((rdOf ByteArray.empty x4 (wrap64 (x5 - 2))).extract 16 (rdOf ByteArray.empty x4 (wrap64 (x5 - 2))).size)).bind fun t282 => (usherref8_found.l0 k x4 x5 t282 1 t280 ([] : List (S26)) (⟨#[]⟩ : ByteArray) ((rdOf ByteArray.empty x4 (wrap64 (x5 - 1))).toList == ([67, 111, 110, 110, 101, 99, 116, 105, 111, 110, 58, 32, 99, 108, 111, 115, 101] : List UInt8)))) else (none)) else (none)) else (none))) else (none)) else (none)) else (none)) else (none)) else (none))
def usherref8_found.l0 : Nat → List ByteArray → Int → Int → Int → Int → List (S26) → ByteArray → Bool → Option (Int × (List (S26)) × ByteArray × Bool × Int)
 | 0, _, _, _, _, _, _, _, _ => none
 | k + 1, x4, x5, x7, x8, x279000, x279001, x279002, x279003 => if x8 < (wrap64 (x5 - 2)) then (if 0 ≤ x8 then (if x8 < (x4.length : Int) then ((usherref8_field.f k (rdOf ByteArray.empty x4 x8)).bind fun bt284 => (if x279001.length < 4398046511104 then (usherref8_found.l0 k x4 x5 x7 (wrap64 (x8 + 1)) x279000 (x279001 ++ [(⟨bt284.1, bt284.2⟩ : S26)]) x279002 x279003) else (none))) else (none)) else (none)) else (some (x279000, x279001, x279002, x279003, x7))
end
def usherref8_found.f (k : Nat) (a0 : ByteArray) : Option (Int × (List (S26)) × ByteArray × Bool × Int) := if 0 ≤ (wrap64 ((a0.size : Int) - 4)) then (if (wrap64 ((a0.size : Int) - 4)) ≤ (a0.size : Int) then ((usherref8_lines.f k (a0.extract 0 ((wrap64 ((a0.size : Int) - 4)) : Int).toNat)).bind fun t272 => (if (t272.length : Int) < 3 then (usherref8_found.j0 k t272 (t272.length : Int) true) else (if (wrap64 ((t272.length : Int) - 3)) > 64 then (usherref8_found.j0 k t272 (t272.length : Int) true) else (if 0 < (t272.length : Int) then (if ((rdOf ByteArray.empty t272 0).size : Int) < 12 then (usherref8_found.j0 k t272 (t272.length : Int) true) else (if 0 ≤ (wrap64 ((t272.length : Int) - 2)) then (if (wrap64 ((t272.length : Int) - 2)) < (t272.length : Int) then (usherref8_found.j0 k t272 (t272.length : Int) (decide (((rdOf ByteArray.empty t272 (wrap64 ((t272.length : Int) - 2))).size : Int) < 16))) else (none)) else (none))) else (none))))) else (none)) else (none)
theorem usherref8_found.mono_l : ∀ k, (∀ y0 y1 y2, LeO (usherref8_found.j0 k y0 y1 y2) (usherref8_found.j0 (k + 1) y0 y1 y2)) ∧ (∀ y0 y1 y2 y3 y4 y5 y6 y7, LeO (usherref8_found.l0 k y0 y1 y2 y3 y4 y5 y6 y7) (usherref8_found.l0 (k + 1) y0 y1 y2 y3 y4 y5 y6 y7))
 | 0 => ⟨fun _ _ _ r h => by simp [usherref8_found.j0] at h, fun _ _ _ _ _ _ _ _ r h => by simp [usherref8_found.l0] at h⟩
 | k + 1 => by
  obtain ⟨ih0, ih1⟩ := usherref8_found.mono_l k
  refine ⟨?_, ?_⟩
  ·intro y0 y1 y2
   unfold usherref8_found.j0
   repeat' first
   | (with_reducible exact ih0 _ _ _)
   | (with_reducible exact ih1 _ _ _ _ _ _ _ _)
   | (with_reducible exact usherref8_field.mono _ _)
   | (with_reducible exact usherref8_lines.mono _ _)
   | (with_reducible exact usherref8_number.mono _ _)
   | (with_reducible exact LeO.refl _)
   | (with_reducible exact LeO.none _)
   | (with_reducible refine LeO.ite ?_ ?_)
   | (with_reducible refine LeO.bind ?_ (fun _ => ?_))
   | exact ih0 _ _ _
   | exact ih1 _ _ _ _ _ _ _ _
   | exact usherref8_field.mono _ _
   | exact usherref8_lines.mono _ _
   | exact usherref8_number.mono _ _
   | exact LeO.none _
   | refine LeO.ite ?_ ?_
   | refine LeO.bind ?_ (fun _ => ?_)
  ·intro y0 y1 y2 y3 y4 y5 y6 y7
   unfold usherref8_found.l0
   repeat' first
   | (with_reducible exact ih0 _ _ _)
   | (with_reducible exact ih1 _ _ _ _ _ _ _ _)
   | (with_reducible exact usherref8_field.mono _ _)
   | (with_reducible exact usherref8_lines.mono _ _)
   | (with_reducible exact usherref8_number.mono _ _)
   | (with_reducible exact LeO.refl _)
   | (with_reducible exact LeO.none _)
   | (with_reducible refine LeO.ite ?_ ?_)
   | (with_reducible refine LeO.bind ?_ (fun _ => ?_))
   | exact ih0 _ _ _
   | exact ih1 _ _ _ _ _ _ _ _
   | exact usherref8_field.mono _ _
   | exact usherref8_lines.mono _ _
   | exact usherref8_number.mono _ _
   | exact LeO.none _
   | refine LeO.ite ?_ ?_
   | refine LeO.bind ?_ (fun _ => ?_)
theorem usherref8_found.mono : ∀ a0 k, LeO (usherref8_found.f k a0) (usherref8_found.f (k + 1) a0) := by
 intro a0 k
 obtain ⟨ih0, ih1⟩ := usherref8_found.mono_l k
 unfold usherref8_found.f
 repeat' first
   | (with_reducible exact ih0 _ _ _)
   | (with_reducible exact ih1 _ _ _ _ _ _ _ _)
   | (with_reducible exact usherref8_field.mono _ _)
   | (with_reducible exact usherref8_lines.mono _ _)
   | (with_reducible exact usherref8_number.mono _ _)
   | (with_reducible exact LeO.refl _)
   | (with_reducible exact LeO.none _)
   | (with_reducible refine LeO.ite ?_ ?_)
   | (with_reducible refine LeO.bind ?_ (fun _ => ?_))
   | exact ih0 _ _ _
   | exact ih1 _ _ _ _ _ _ _ _
   | exact usherref8_field.mono _ _
   | exact usherref8_lines.mono _ _
   | exact usherref8_number.mono _ _
   | exact LeO.none _
   | refine LeO.ite ?_ ?_
   | refine LeO.bind ?_ (fun _ => ?_)
set_option maxHeartbeats 8000000 in
set_option maxRecDepth 100000 in
theorem usherref8_found.calls (k : Nat) (a0 : ByteArray) (r1 : Int) (r2 : List (S26)) (r3 : ByteArray) (r4 : Bool) (r5 : Int) (w : World) (h : usherref8_found.f k a0 = some (r1, r2, r3, r4, r5)) :
  Calls Tryd.prog 57 #[.string a0] w fun e w' => ∃ v1_ : Value, e = .returned (.tuple #[.agg #[.int .i64 r1, v1_, .string r3, .bool r4], .int .i64 r5]) ∧ Kd.R k26 26 w' w.heap.size (fun _ => True) v1_ r2 ∧ Below w.heap.size w w' := by
 have hu24 := Tryd.underlying24
 have hu26 := Tryd.underlying26
 have HB := Aq13 (Below.refl w.heap.size w)
 have H : (if 0 ≤ (wrap64 ((a0.size : Int) - 4)) then (if (wrap64 ((a0.size : Int) - 4)) ≤ (a0.size : Int) then ((usherref8_lines.f k (a0.extract 0 ((wrap64 ((a0.size : Int) - 4)) : Int).toNat)).bind fun t272 => (if (t272.length : Int) < 3 then (usherref8_found.j0 k t272 (t272.length : Int) true) else (if (wrap64 ((t272.length : Int) - 3)) > 64 then (usherref8_found.j0 k t272 (t272.length : Int) true) else (if 0 < (t272.length : Int) then (if ((rdOf ByteArray.empty t272 0).size : Int) < 12 then (usherref8_found.j0 k t272 (t272.length : Int) true) else (if 0 ≤ (wrap64 ((t272.length : Int) - 2)) then (if (wrap64 ((t272.length : Int) - 2)) < (t272.length : Int) then (usherref8_found.j0 k t272 (t272.length : Int) (decide (((rdOf ByteArray.empty t272 (wrap64 ((t272.length : Int) - 2))).size : Int) < 16))) else (none)) else (none))) else (none))))) else (none)) else (none)) = some (r1, r2, r3, r4, r5) := h
 clear h
 obtain ⟨ji2, hji2⟩ : ∃ j_ : Int, (wrap64 ((a0.size : Int) - 4)) = j_ := ⟨_, rfl⟩
 replace H : (if 0 ≤ (ji2) then (if (ji2) ≤ (a0.size : Int) then ((usherref8_lines.f k (a0.extract 0 ((ji2) : Int).toNat)).bind fun t272 => (if (t272.length : Int) < 3 then (usherref8_found.j0 k t272 (t272.length : Int) true) else (if (wrap64 ((t272.length : Int) - 3)) > 64 then (usherref8_found.j0 k t272 (t272.length : Int) true) else (if 0 < (t272.length : Int) then (if ((rdOf ByteArray.empty t272 0).size : Int) < 12 then (usherref8_found.j0 k t272 (t272.length : Int) true) else (if 0 ≤ (wrap64 ((t272.length : Int) - 2)) then (if (wrap64 ((t272.length : Int) - 2)) < (t272.length : Int) then (usherref8_found.j0 k t272 (t272.length : Int) (decide (((rdOf ByteArray.empty t272 (wrap64 ((t272.length : Int) - 2))).size : Int) < 16))) else (none)) else (none))) else (none))))) else (none)) else (none)) = some (r1, r2, r3, r4, r5) := by first | (rw [hji2] at H; exact H) | (simp only [hji2] at H ⊢; exact H)
 have hji2w : (IntKind.i64.wrap ((a0.size : Int) - 4)) = ji2 := (i64_w _).trans hji2
 by_cases c3 : 0 ≤ (ji2)
 ·rw [if_pos c3] at H
  have c3b0 := eq_true c3
  have c3b1 : decide (0 ≤ (ji2)) = true := decide_eq_true c3
  clear c3
  by_cases c4 : (ji2) ≤ (a0.size : Int)
  ·rw [if_pos c4] at H
   have c4b0 := eq_true c4
   have c4b1 : decide ((ji2) ≤ (a0.size : Int)) = true := decide_eq_true c4
   clear c4
   replace H := Option.bind_eq_some_iff.mp H
   obtain ⟨t272, A50, H⟩ := H
   replace H : (if (t272.length : Int) < 3 then (usherref8_found.j0 k t272 (t272.length : Int) true) else (if (wrap64 ((t272.length : Int) - 3)) > 64 then (usherref8_found.j0 k t272 (t272.length : Int) true) else (if 0 < (t272.length : Int) then (if ((rdOf ByteArray.empty t272 0).size : Int) < 12 then (usherref8_found.j0 k t272 (t272.length : Int) true) else (if 0 ≤ (wrap64 ((t272.length : Int) - 2)) then (if (wrap64 ((t272.length : Int) - 2)) < (t272.length : Int) then (usherref8_found.j0 k t272 (t272.length : Int) (decide (((rdOf ByteArray.empty t272 (wrap64 ((t272.length : Int) - 2))).size : Int) < 16))) else (none)) else (none))) else (none)))) = some (r1, r2, r3, r4, r5) := H
   have A5 := Aq13 A50
   clear A50
   have HC6 := Aq13 H
   clear H
   go_enter Tryd.func57, Tryd.ntmps57
   go_upto_region 3 with (first | ((with_reducible refine gate_dst (N := 2) rfl ?_); (try (refine gate_guard (by rfl) ?_; dsimp only)); refine box_event ?hg (N := 2) ?hd (cs := #[.int .i64 0, .slice none 0 0, .string (⟨#[]⟩ : ByteArray), .bool false]) (t := 24) ?hr ?_; (case hd => rfl); (case hg => rfl); (case hr => first | (go_simp; done) | (go_simp; rfl)); intro gb271 hg w7 hbox hb; have BK271 := Aq13 (hbox); have GW271 := Aq13 ((by rw [hg]; exact (below_size tq13_5) : w.heap.size ≤ gb271)); have GE271 := Aq13 ((by rw [hg]; exact (below_size tq13_5) : w.heap.size ≤ gb271)); replace HB := Aq13 (below_step tq13_5 hb); clear hb hbox hg) | ((with_reducible refine gate_callee (f := 79) rfl ?_); refine goesL_ (some 15) rfl rfl Tryd.func79 (by kernel_rfl) rfl #[.string (a0.extract 0 ((ji2) : Int).toNat)] rfl (by (try simp only [List.map_toArray, List.map_cons, List.map_nil]); first | done | (simp only [hji2]; rfl) | rfl | (simp only [List.length_drop, List.length_take]; rfl)) ?_; (with_reducible refine (usherref8_lines.calls k (a0.extract 0 ((ji2) : Int).toNat) t272 _ A5.out).mono ?_); rintro e w8 ⟨v273, rfl, ho0, hb⟩; refine ⟨_, rfl, ?_⟩; have HO274 := Aq13 (Kd.R_lower ho0 (below_size (tq13_8 GE271.out))); replace BK271 := Aq13 (blk_below (g := gb271) (o := .cells #[.int .i64 0, .slice none 0 0, .string (⟨#[]⟩ : ByteArray), .bool false] 24 (0, 0)) (tq13_4 BK271.out) hb); replace HB := Aq13 (below_step (tq13_8 GE271.out) hb); (try clear hb); (try clear hb2); (try clear hk); (try clear hi); (try clear ho0); obtain ⟨Ao9, co9, eo9⟩ := Kd.R_slice HO274.out; subst eo9))
   (try simp only [Act.put, List.setIfInBounds_toArray, List.set_cons_zero, List.set_cons_succ])
   go_cut [40] (fun v40 wc => ∃ (kq : Nat) (x40_5 : Bool), v40 = .bool x40_5 ∧ Aside0 (usherref8_found.j0 kq t272 (t272.length : Int) x40_5 = some (r1, r2, r3, r4, r5)) ∧ Aside0 (kq ≤ k) ∧ Aside0 (Kd.R Kd.string 9 wc w.heap.size (fun _ => True) (.slice Ao9 t272.length co9) t272) ∧ Aside0 (wc.heap[gb271]? = some (.cells #[.int .i64 0, (.slice none 0 0), .string (⟨#[]⟩ : ByteArray), .bool false] 24 (0, 0))) ∧ Aside0 (Below w.heap.size w wc))
   case first =>
    have H := HC6.out
    clear HC6
    by_cases c10 : (t272.length : Int) < 3
    ·rw [if_pos c10] at H
     have c10b0 : decide ((t272.length : Int) < 3) = true := decide_eq_true c10
     have c10b1 : decide (t272.length < 3) = true := decide_eq_true (by omega)
     clear c10
     (first | rw [c10b0] | (simp only [i64_w, i32_w]; rw [c10b0]) | skip)
     have H' := Aq13 H
     clear H
     go_wp2
     go_meet
     case rel => exact ⟨_, (true), tq13_1, H', ⟨tq13_0⟩, ⟨(tq13_3 HO274.out)⟩, ⟨(tq13_4 BK271.out)⟩, ⟨(tq13_8 GE271.out)⟩⟩
    ·rw [if_neg c10] at H
     have c10b0 : decide ((t272.length : Int) < 3) = false := decide_eq_false c10
     have c10b1 : decide (t272.length < 3) = false := decide_eq_false (by omega)
     clear c10
     (first | rw [c10b0] | (simp only [i64_w, i32_w]; rw [c10b0]) | skip)
     by_cases c11 : (wrap64 ((t272.length : Int) - 3)) > 64
     ·rw [if_pos c11] at H
      have c11b0 : decide (64 < (wrap64 ((t272.length : Int) - 3))) = true := decide_eq_true c11
      clear c11
      have H' := Aq13 H
      clear H
      go_wp2
      go_meet
      case rel => exact ⟨_, (true), tq13_1, H', ⟨tq13_0⟩, ⟨(tq13_3 HO274.out)⟩, ⟨(tq13_4 BK271.out)⟩, ⟨(tq13_8 GE271.out)⟩⟩
     ·rw [if_neg c11] at H
      have c11b0 : decide (64 < (wrap64 ((t272.length : Int) - 3))) = false := decide_eq_false c11
      clear c11
      by_cases c12 : 0 < (t272.length : Int)
      ·rw [if_pos c12] at H
       have c12b0 : decide (0 < (t272.length : Int)) = true := decide_eq_true c12
       have c12b1 : decide (0 < t272.length) = true := decide_eq_true (by omega)
       clear c12
       by_cases c13 : ((rdOf ByteArray.empty t272 0).size : Int) < 12
       ·rw [if_pos c13] at H
        have c13b0 : decide (((rdOf ByteArray.empty t272 0).size : Int) < 12) = true := decide_eq_true c13
        have c13b1 : decide ((rdOf ByteArray.empty t272 0).size < 12) = true := decide_eq_true (by omega)
        clear c13
        have H' := Aq13 H
        clear H
        have p275 : 0 ≤ (0 : Int) := (by omega)
        have q275 : 0 < (t272.length : Int) := of_decide_eq_true tq13_2
        obtain ⟨ad275, e275, hx275_0⟩ := Kd.at_string (Kd.R_reads' HO274.out).2.2 0 p275 q275
        cases e275
        have qi275 : (0 < t272.length) = True := eq_true (by omega)
        (try rw [show ((0 : Int)).toNat = 0 from rfl] at hx275_0)
        (try rw [Addr.add_zero'] at hx275_0)
        replace p275 := eq_true p275
        replace q275 := eq_true q275
        go_wp2
        go_meet
        case rel => exact ⟨_, (true), tq13_1, H', ⟨tq13_0⟩, ⟨(tq13_3 HO274.out)⟩, ⟨(tq13_4 BK271.out)⟩, ⟨(tq13_8 GE271.out)⟩⟩
       ·rw [if_neg c13] at H
        have c13b0 : decide (((rdOf ByteArray.empty t272 0).size : Int) < 12) = false := decide_eq_false c13
        have c13b1 : decide ((rdOf ByteArray.empty t272 0).size < 12) = false := decide_eq_false (by omega)
        clear c13
        obtain ⟨ji14, hji14⟩ : ∃ j_ : Int, (wrap64 ((t272.length : Int) - 2)) = j_ := ⟨_, rfl⟩
        replace H : (if 0 ≤ (ji14) then (if (ji14) < (t272.length : Int) then (usherref8_found.j0 k t272 (t272.length : Int) (decide (((rdOf ByteArray.empty t272 (ji14)).size : Int) < 16))) else (none)) else (none)) = some (r1, r2, r3, r4, r5) := by first | (rw [hji14] at H; exact H) | (simp only [hji14] at H ⊢; exact H)
        have hji14w : (IntKind.i64.wrap ((t272.length : Int) - 2)) = ji14 := (i64_w _).trans hji14
        by_cases c15 : 0 ≤ (ji14)
        ·rw [if_pos c15] at H
         have c15b0 : decide (0 ≤ (ji14)) = true := decide_eq_true c15
         clear c15
         by_cases c16 : (ji14) < (t272.length : Int)
         ·rw [if_pos c16] at H
          have c16b0 : decide ((ji14) < (t272.length : Int)) = true := decide_eq_true c16
          clear c16
          have H' := Aq13 H
          clear H
          have p275 : 0 ≤ (0 : Int) := (by omega)
          have q275 : 0 < (t272.length : Int) := of_decide_eq_true tq13_2
          obtain ⟨ad275, e275, hx275_0⟩ := Kd.at_string (Kd.R_reads' HO274.out).2.2 0 p275 q275
          cases e275
          have qi275 : (0 < t272.length) = True := eq_true (by omega)
          (try rw [show ((0 : Int)).toNat = 0 from rfl] at hx275_0)
          (try rw [Addr.add_zero'] at hx275_0)
          replace p275 := eq_true p275
          replace q275 := eq_true q275
          have p276 : 0 ≤ ((ji14) : Int) := of_decide_eq_true tq13_2
          have q276 : (ji14) < (t272.length : Int) := of_decide_eq_true tq13_2
          obtain ⟨ad276, e276, hx276_0⟩ := Kd.at_string (Kd.R_reads' HO274.out).2.2 (ji14) p276 q276
          obtain rfl : ad275 = ad276 := (by injection e276)
          replace p276 := eq_true p276
          replace q276 := eq_true q276
          go_wp2
          go_meet
          case rel => exact ⟨_, (decide (((rdOf ByteArray.empty t272 (ji14)).size : Int) < 16)), (by first | rfl | (simp; done) | (simp only [← hji14] <;> (first | rfl | simp)) | (simp [*]; done)), (by first | exact H' | (simp only [hji14]; exact H') | (simp only [hji14] at *; exact H')), ⟨tq13_0⟩, ⟨(tq13_3 HO274.out)⟩, ⟨(tq13_4 BK271.out)⟩, ⟨(tq13_8 GE271.out)⟩⟩
         ·rw [if_neg c16] at H
          exact absurd H (by simp)
        ·rw [if_neg c15] at H
         exact absurd H (by simp)
      ·rw [if_neg c12] at H
       exact absurd H (by simp)
   case rest =>
    clear HC6
    try clear c1
    try clear p2
    try clear q2
    try clear hx2
    try clear qi2
    try clear c3
    try clear c3b0
    try clear c3b1
    try clear c4
    try clear c4b0
    try clear c4b1
    try clear c5
    try clear p6
    try clear c7
    try clear c10
    try clear c10b0
    try clear c10b1
    try clear c11
    try clear c11b0
    try clear c12
    try clear c12b0
    try clear c12b1
    try clear c13
    try clear c13b0
    try clear c13b1
    try clear c15
    try clear c15b0
    try clear c16
    try clear c16b0
    try clear hx275_0
    try clear hx276_0
    try clear p275
    try clear p276
    try clear q275
    try clear q276
    obtain ⟨kq, x40_5, rfl, HA, HJ5, HO_4, BK271, HB⟩ := hcut
    cases kq with
    | zero => exact absurd HA.out (by simp [usherref8_found.j0])
    | succ kj5 =>
     have H := HA.out
     clear HA
     simp only [usherref8_found.j0] at H
     by_cases c17 : x40_5 = true
     ·subst c17
      have H1 : (some (0, ([] : List (S26)), (⟨#[]⟩ : ByteArray), false, (-1))) = some (r1, r2, r3, r4, r5) := by rw [if_pos rfl] at H; exact H
      clear H
      have H := H1
      clear H1
      simp only [Option.some.injEq, Prod.mk.injEq] at H
      obtain ⟨rfl, rfl, rfl, rfl, rfl⟩ := H
      have hcz18_0 : wc.cell? ⟨gb271, 0, none⟩ = some (.int .i64 0) := (blk_cell BK271.out 0).trans rfl
      have hcz18_1 : wc.cell? ⟨gb271, 1, none⟩ = some (.slice none 0 0) := (blk_cell BK271.out 1).trans rfl
      have hcz18_2 : wc.cell? ⟨gb271, 2, none⟩ = some (.string (⟨#[]⟩ : ByteArray)) := (blk_cell BK271.out 2).trans rfl
      have hcz18_3 : wc.cell? ⟨gb271, 3, none⟩ = some (.bool false) := (blk_cell BK271.out 3).trans rfl
      have hfz18_0 := blk_frozen BK271.out 0
      have hfz18_1 := blk_frozen BK271.out 1
      have hfz18_2 := blk_frozen BK271.out 2
      have hfz18_3 := blk_frozen BK271.out 3
      go_wp2
      refine bodyPost_ret (results_ct rfl _ _ gb271 24 #[.int .i64 0, .slice none 0 0, .string (⟨#[]⟩ : ByteArray), .bool false] (0, 0) _ rfl (tq13_f BK271.out) Tryd.underlying24 rfl (by kernel_rfl)) rfl ?_
      exact ⟨_, by first | rfl | (simp [errW_none, errW_some] <;> rfl) | (simp only [← hji2]; first | rfl | (simp [errW_none, errW_some] <;> rfl)) | (simp [*, errW_none, errW_some] <;> rfl), tq13_7, (tq13_8 GE271.out)⟩
     ·replace c17 := Bool.eq_false_iff.mpr c17
      subst c17
      have H1 : (if 0 ≤ (wrap64 ((t272.length : Int) - 1)) then (if (wrap64 ((t272.length : Int) - 1)) < (t272.length : Int) then (if 0 < (t272.length : Int) then (if 9 ≤ 12 then (if 12 ≤ ((rdOf ByteArray.empty t272 0).size : Int) then ((usherref8_number.f kj5 ((rdOf ByteArray.empty t272 0).extract 9 12)).bind fun t280 => (if 0 ≤ (wrap64 ((t272.length : Int) - 2)) then (if (wrap64 ((t272.length : Int) - 2)) < (t272.length : Int) then (if 16 ≤ ((rdOf ByteArray.empty t272 (wrap64 ((t272.length : Int) - 2))).size : Int) then ((usherref8_number.f kj5 ((rdOf ByteArray.empty t272 (wrap64 ((t272.length : Int) - 2))).extract 16 (rdOf ByteArray.empty t272 (wrap64 ((t272.length : Int) - 2))).size)).bind fun t282 => (usherref8_found.l0 kj5 t272 (t272.length : Int) t282 1 t280 ([] : List (S26)) (⟨#[]⟩ : ByteArray) ((rdOf ByteArray.empty t272 (wrap64 ((t272.length : Int) - 1))).toList == ([67, 111, 110, 110, 101, 99, 116, 105, 111, 110, 58, 32, 99, 108, 111, 115, 101] : List UInt8)))) else (none)) else (none)) else (none))) else (none)) else (none)) else (none)) else (none)) else (none)) = some (r1, r2, r3, r4, r5) := by rw [if_neg (show ¬ (false = true) by decide)] at H; exact H
      clear H
      have H := H1
      clear H1
      obtain ⟨ji19, hji19⟩ : ∃ j_ : Int, (wrap64 ((t272.length : Int) - 1)) = j_ := ⟨_, rfl⟩
      replace H : (if 0 ≤ (ji19) then (if (ji19) < (t272.length : Int) then (if 0 < (t272.length : Int) then (if 9 ≤ 12 then (if 12 ≤ ((rdOf ByteArray.empty t272 0).size : Int) then ((usherref8_number.f kj5 ((rdOf ByteArray.empty t272 0).extract 9 12)).bind fun t280 => (if 0 ≤ (wrap64 ((t272.length : Int) - 2)) then (if (wrap64 ((t272.length : Int) - 2)) < (t272.length : Int) then (if 16 ≤ ((rdOf ByteArray.empty t272 (wrap64 ((t272.length : Int) - 2))).size : Int) then ((usherref8_number.f kj5 ((rdOf ByteArray.empty t272 (wrap64 ((t272.length : Int) - 2))).extract 16 (rdOf ByteArray.empty t272 (wrap64 ((t272.length : Int) - 2))).size)).bind fun t282 => (usherref8_found.l0 kj5 t272 (t272.length : Int) t282 1 t280 ([] : List (S26)) (⟨#[]⟩ : ByteArray) ((rdOf ByteArray.empty t272 (ji19)).toList == ([67, 111, 110, 110, 101, 99, 116, 105, 111, 110, 58, 32, 99, 108, 111, 115, 101] : List UInt8)))) else (none)) else (none)) else (none))) else (none)) else (none)) else (none)) else (none)) else (none)) = some (r1, r2, r3, r4, r5) := by first | (rw [hji19] at H; exact H) | (simp only [hji19] at H ⊢; exact H)
      have hji19w : (IntKind.i64.wrap ((t272.length : Int) - 1)) = ji19 := (i64_w _).trans hji19
      by_cases c20 : 0 ≤ (ji19)
      ·rw [if_pos c20] at H
       have c20b0 : decide (0 ≤ (ji19)) = true := decide_eq_true c20
       clear c20
       by_cases c21 : (ji19) < (t272.length : Int)
       ·rw [if_pos c21] at H
        have c21b0 : decide ((ji19) < (t272.length : Int)) = true := decide_eq_true c21
        clear c21
        by_cases c22 : 0 < (t272.length : Int)
        ·rw [if_pos c22] at H
         have c22b0 : decide (0 < (t272.length : Int)) = true := decide_eq_true c22
         have c22b1 : decide (0 < t272.length) = true := decide_eq_true (by omega)
         clear c22
         by_cases c23 : 9 ≤ 12
         ·rw [if_pos c23] at H
          have c23b0 := eq_true c23
          have c23b1 : decide (9 ≤ 12) = true := decide_eq_true c23
          clear c23
          by_cases c24 : 12 ≤ ((rdOf ByteArray.empty t272 0).size : Int)
          ·rw [if_pos c24] at H
           have c24b0 := eq_true c24
           have c24b1 : decide (12 ≤ ((rdOf ByteArray.empty t272 0).size : Int)) = true := decide_eq_true c24
           clear c24
           replace H := Option.bind_eq_some_iff.mp H
           obtain ⟨t280, A250, H⟩ := H
           replace H : (if 0 ≤ (wrap64 ((t272.length : Int) - 2)) then (if (wrap64 ((t272.length : Int) - 2)) < (t272.length : Int) then (if 16 ≤ ((rdOf ByteArray.empty t272 (wrap64 ((t272.length : Int) - 2))).size : Int) then ((usherref8_number.f kj5 ((rdOf ByteArray.empty t272 (wrap64 ((t272.length : Int) - 2))).extract 16 (rdOf ByteArray.empty t272 (wrap64 ((t272.length : Int) - 2))).size)).bind fun t282 => (usherref8_found.l0 kj5 t272 (t272.length : Int) t282 1 t280 ([] : List (S26)) (⟨#[]⟩ : ByteArray) ((rdOf ByteArray.empty t272 (ji19)).toList == ([67, 111, 110, 110, 101, 99, 116, 105, 111, 110, 58, 32, 99, 108, 111, 115, 101] : List UInt8)))) else (none)) else (none)) else (none)) = some (r1, r2, r3, r4, r5) := H
           have A25 := Aq13 A250
           clear A250
           obtain ⟨ji26, hji26⟩ : ∃ j_ : Int, (wrap64 ((t272.length : Int) - 2)) = j_ := ⟨_, rfl⟩
           replace H : (if 0 ≤ (ji26) then (if (ji26) < (t272.length : Int) then (if 16 ≤ ((rdOf ByteArray.empty t272 (ji26)).size : Int) then ((usherref8_number.f kj5 ((rdOf ByteArray.empty t272 (ji26)).extract 16 (rdOf ByteArray.empty t272 (ji26)).size)).bind fun t282 => (usherref8_found.l0 kj5 t272 (t272.length : Int) t282 1 t280 ([] : List (S26)) (⟨#[]⟩ : ByteArray) ((rdOf ByteArray.empty t272 (ji19)).toList == ([67, 111, 110, 110, 101, 99, 116, 105, 111, 110, 58, 32, 99, 108, 111, 115, 101] : List UInt8)))) else (none)) else (none)) else (none)) = some (r1, r2, r3, r4, r5) := by first | (rw [hji26] at H; exact H) | (simp only [hji26] at H ⊢; exact H)
           (try rw [hji26] at A25)
           have hji26w : (IntKind.i64.wrap ((t272.length : Int) - 2)) = ji26 := (i64_w _).trans hji26
           by_cases c27 : 0 ≤ (ji26)
           ·rw [if_pos c27] at H
            have c27b0 : decide (0 ≤ (ji26)) = true := decide_eq_true c27
            clear c27
            by_cases c28 : (ji26) < (t272.length : Int)
            ·rw [if_pos c28] at H
             have c28b0 : decide ((ji26) < (t272.length : Int)) = true := decide_eq_true c28
             clear c28
             by_cases c29 : 16 ≤ ((rdOf ByteArray.empty t272 (ji26)).size : Int)
             ·rw [if_pos c29] at H
              have c29b0 := eq_true c29
              have c29b1 : decide (16 ≤ ((rdOf ByteArray.empty t272 (ji26)).size : Int)) = true := decide_eq_true c29
              clear c29
              replace H := Option.bind_eq_some_iff.mp H
              obtain ⟨t282, A300, H⟩ := H
              replace H : (usherref8_found.l0 kj5 t272 (t272.length : Int) t282 1 t280 ([] : List (S26)) (⟨#[]⟩ : ByteArray) ((rdOf ByteArray.empty t272 (ji19)).toList == ([67, 111, 110, 110, 101, 99, 116, 105, 111, 110, 58, 32, 99, 108, 111, 115, 101] : List UInt8))) = some (r1, r2, r3, r4, r5) := H
              have A30 := Aq13 A300
              clear A300
              have H' := Aq13 H
              clear H
              have p277 : 0 ≤ ((ji19) : Int) := of_decide_eq_true tq13_2
              have q277 : (ji19) < (t272.length : Int) := of_decide_eq_true tq13_2
              obtain ⟨ad277, e277, hx277_0⟩ := Kd.at_string (Kd.R_reads' HO_4.out).2.2 (ji19) p277 q277
              cases e277
              replace p277 := eq_true p277
              replace q277 := eq_true q277
              go_upto_region 6 with (first | ((with_reducible refine gate_dst (N := 6) rfl ?_); (try (refine gate_guard (by rfl) ?_; dsimp only)); refine box_event ?hg (N := 6) ?hd (cs := #[.int .i64 0, .slice none 0 0, .string (⟨#[]⟩ : ByteArray), .bool false]) (t := 24) ?hr ?_; (case hd => rfl); (case hg => rfl); (case hr => first | (go_simp; done) | (go_simp; rfl)); intro gb278 hg w31 hbox hb; replace HO_4 := Aq13 (Kd.R_below (tq13_3 HO_4.out) hb); have BK278 := Aq13 (hbox); have GW278 := Aq13 ((by rw [hg]; exact (below_size (tq13_8 GE271.out)) : w.heap.size ≤ gb278)); have GE278 := Aq13 ((by rw [hg]; exact (below_size (tq13_8 GE271.out)) : w.heap.size ≤ gb278)); have NB271_278 := Aq13 ((by rw [hg]; exact Nat.ne_of_lt (blk_lt (g := gb271) (o := .cells #[.int .i64 0, .slice none 0 0, .string (⟨#[]⟩ : ByteArray), .bool false] 24 (0, 0)) (tq13_4 BK271.out)) : gb271 ≠ gb278)); have NB278_271 := Aq13 ((by rw [hg]; exact Nat.ne_of_gt (blk_lt (g := gb271) (o := .cells #[.int .i64 0, .slice none 0 0, .string (⟨#[]⟩ : ByteArray), .bool false] 24 (0, 0)) (tq13_4 BK271.out)) : gb278 ≠ gb271)); replace BK271 := Aq13 (blk_below (g := gb271) (o := .cells #[.int .i64 0, .slice none 0 0, .string (⟨#[]⟩ : ByteArray), .bool false] 24 (0, 0)) (tq13_4 BK271.out) hb); replace HB := Aq13 (below_step (tq13_8 GE271.out) hb); clear hb hbox hg; have hnb32 := NB278_271.out; have hnc32 := NB271_278.out; have hcz33_0 : w31.cell? ⟨gb278, 0, none⟩ = some (.int .i64 0) := (blk_cell BK278.out 0).trans rfl; have hcz33_1 : w31.cell? ⟨gb278, 1, none⟩ = some (.slice none 0 0) := (blk_cell BK278.out 1).trans rfl; have hcz33_2 : w31.cell? ⟨gb278, 2, none⟩ = some (.string (⟨#[]⟩ : ByteArray)) := (blk_cell BK278.out 2).trans rfl; have hcz33_3 : w31.cell? ⟨gb278, 3, none⟩ = some (.bool false) := (blk_cell BK278.out 3).trans rfl; have hfz33_0 := blk_frozen BK278.out 0; have hfz33_1 := blk_frozen BK278.out 1; have hfz33_2 := blk_frozen BK278.out 2; have hfz33_3 := blk_frozen BK278.out 3))
              have n0_ : Aside0 (Kd.R Kd.string 9 ((((w31.setCell ⟨gb278, 0, none⟩ (.int .i64 0)).setCell ⟨gb278, 1, none⟩ (.slice none 0 0)).setCell ⟨gb278, 2, none⟩ (.string (⟨#[]⟩ : ByteArray))).setCell ⟨gb278, 3, none⟩ (.bool ((rdOf ByteArray.empty t272 (ji19)).toList == ([67, 111, 110, 110, 101, 99, 116, 105, 111, 110, 58, 32, 99, 108, 111, 115, 101] : List UInt8)))) w.heap.size (fun _ => True) (.slice (some ad277) t272.length co9) t272) := ⟨by (with_reducible repeat (first | apply Kd.R_alloc | apply Kd.R_drewN | apply Kd.R_drew)); exact Kd.R_mono (Kd.R_far (p := ⟨gb278, 3, none⟩) (Kd.R_far (p := ⟨gb278, 2, none⟩) (Kd.R_far (p := ⟨gb278, 1, none⟩) (Kd.R_far (p := ⟨gb278, 0, none⟩) (Kd.R_types HO_4.out BK278.out (by decide)) (fun _ hk => hk.2) (.int .i64 0)) (fun _ hk => hk.2) (.slice none 0 0)) (fun _ hk => hk.2) (.string (⟨#[]⟩ : ByteArray))) (fun _ hk => hk.2) (.bool ((rdOf ByteArray.empty t272 (ji19)).toList == ([67, 111, 110, 110, 101, 99, 116, 105, 111, 110, 58, 32, 99, 108, 111, 115, 101] : List UInt8)))) (fun _ hk => trivial)⟩
              have n1_ : Aside0 (((((w31.setCell ⟨gb278, 0, none⟩ (.int .i64 0)).setCell ⟨gb278, 1, none⟩ (.slice none 0 0)).setCell ⟨gb278, 2, none⟩ (.string (⟨#[]⟩ : ByteArray))).setCell ⟨gb278, 3, none⟩ (.bool ((rdOf ByteArray.empty t272 (ji19)).toList == ([67, 111, 110, 110, 101, 99, 116, 105, 111, 110, 58, 32, 99, 108, 111, 115, 101] : List UInt8)))).heap[gb271]? = some (.cells #[.int .i64 0, .slice none 0 0, .string (⟨#[]⟩ : ByteArray), .bool false] 24 (0, 0))) := ⟨by (iterate 4 ((with_reducible repeat (first | refine blk_drewN ?_ _ | refine blk_drew ?_ | refine blk_alloc ?_ _)); refine blk_far ?_ NB271_278.out _)); (with_reducible repeat (first | refine blk_drewN ?_ _ | refine blk_drew ?_ | refine blk_alloc ?_ _)); exact BK271.out⟩
              have n2_ : Aside0 (((((w31.setCell ⟨gb278, 0, none⟩ (.int .i64 0)).setCell ⟨gb278, 1, none⟩ (.slice none 0 0)).setCell ⟨gb278, 2, none⟩ (.string (⟨#[]⟩ : ByteArray))).setCell ⟨gb278, 3, none⟩ (.bool ((rdOf ByteArray.empty t272 (ji19)).toList == ([67, 111, 110, 110, 101, 99, 116, 105, 111, 110, 58, 32, 99, 108, 111, 115, 101] : List UInt8)))).heap[gb278]? = some (.cells #[.int .i64 0, .slice none 0 0, .string (⟨#[]⟩ : ByteArray), .bool ((rdOf ByteArray.empty t272 (ji19)).toList == ([67, 111, 110, 110, 101, 99, 116, 105, 111, 110, 58, 32, 99, 108, 111, 115, 101] : List UInt8))] 24 (0, 0))) := ⟨(tq13_f BK278.out)⟩
              have n3_ : Aside0 (Below w.heap.size w ((((w31.setCell ⟨gb278, 0, none⟩ (.int .i64 0)).setCell ⟨gb278, 1, none⟩ (.slice none 0 0)).setCell ⟨gb278, 2, none⟩ (.string (⟨#[]⟩ : ByteArray))).setCell ⟨gb278, 3, none⟩ (.bool ((rdOf ByteArray.empty t272 (ji19)).toList == ([67, 111, 110, 110, 101, 99, 116, 105, 111, 110, 58, 32, 99, 108, 111, 115, 101] : List UInt8))))) := ⟨(tq13_9 GE271.out GE278.out)⟩
              (try clear HO_4)
              (try clear BK271)
              (try clear BK278)
              (try clear HB)
              generalize ((((w31.setCell ⟨gb278, 0, none⟩ (.int .i64 0)).setCell ⟨gb278, 1, none⟩ (.slice none 0 0)).setCell ⟨gb278, 2, none⟩ (.string (⟨#[]⟩ : ByteArray))).setCell ⟨gb278, 3, none⟩ (.bool ((rdOf ByteArray.empty t272 (ji19)).toList == ([67, 111, 110, 110, 101, 99, 116, 105, 111, 110, 58, 32, 99, 108, 111, 115, 101] : List UInt8)))) = w34 at n0_ n1_ n2_ n3_ ⊢
              have HO_4 := n0_
              have BK271 := n1_
              have BK278 := n2_
              have HB := n3_
              clear n0_ n1_ n2_ n3_
              have p279 : 0 ≤ (0 : Int) := (by omega)
              have q279 : 0 < (t272.length : Int) := of_decide_eq_true tq13_2
              obtain ⟨ad279, e279, hx279_0⟩ := Kd.at_string (Kd.R_reads' HO_4.out).2.2 0 p279 q279
              obtain rfl : ad277 = ad279 := (by injection e279)
              have qi279 : (0 < t272.length) = True := eq_true (by omega)
              (try rw [show ((0 : Int)).toNat = 0 from rfl] at hx279_0)
              (try rw [Addr.add_zero'] at hx279_0)
              replace p279 := eq_true p279
              replace q279 := eq_true q279
              go_upto_region 7 with (first | ((with_reducible refine gate_callee (f := 80) rfl ?_); refine goesL_ (some 53) rfl rfl Tryd.func80 (by kernel_rfl) rfl #[.string ((rdOf ByteArray.empty t272 0).extract 9 12)] rfl tq13_6 ?_; (with_reducible refine (usherref8_number.calls kj5 ((rdOf ByteArray.empty t272 0).extract 9 12) t280 _ A25.out).mono ?_); rintro e w' ⟨rfl, ⟨nd, rfl⟩⟩; refine ⟨_, rfl, ?_⟩; (try (rw [drewN_self w34]; generalize hq_ : World.drewN w34 _ = w34; have n0_ : Aside0 (Kd.R Kd.string 9 w34 w.heap.size (fun _ => True) (.slice (some ad277) t272.length co9) t272) := ⟨by rw [← hq_]; exact (tq13_3 HO_4.out)⟩; have n1_ : Aside0 (w34.heap[gb271]? = some (.cells #[.int .i64 0, .slice none 0 0, .string (⟨#[]⟩ : ByteArray), .bool false] 24 (0, 0))) := ⟨by rw [← hq_]; exact (tq13_4 BK271.out)⟩; have n2_ : Aside0 (w34.heap[gb278]? = some (.cells #[.int .i64 0, .slice none 0 0, .string (⟨#[]⟩ : ByteArray), .bool ((rdOf ByteArray.empty t272 (ji19)).toList == ([67, 111, 110, 110, 101, 99, 116, 105, 111, 110, 58, 32, 99, 108, 111, 115, 101] : List UInt8))] 24 (0, 0))) := ⟨by rw [← hq_]; exact (tq13_4 BK278.out)⟩; have n3_ : Aside0 (Below w.heap.size w w34) := ⟨by rw [← hq_]; exact (tq13_9 GE271.out GE278.out)⟩; clear HO_4 BK271 BK278 HB hq_; have HO_4 := n0_; have BK271 := n1_; have BK278 := n2_; have HB := n3_; clear n0_ n1_ n2_ n3_)); have hcz35_0 : w34.cell? ⟨gb278, 0, none⟩ = some (.int .i64 0) := (blk_cell BK278.out 0).trans rfl; have hcz35_1 : w34.cell? ⟨gb278, 1, none⟩ = some (.slice none 0 0) := (blk_cell BK278.out 1).trans rfl; have hcz35_2 : w34.cell? ⟨gb278, 2, none⟩ = some (.string (⟨#[]⟩ : ByteArray)) := (blk_cell BK278.out 2).trans rfl; have hcz35_3 : w34.cell? ⟨gb278, 3, none⟩ = some (.bool ((rdOf ByteArray.empty t272 (ji19)).toList == ([67, 111, 110, 110, 101, 99, 116, 105, 111, 110, 58, 32, 99, 108, 111, 115, 101] : List UInt8))) := (blk_cell BK278.out 3).trans rfl; have hfz35_0 := blk_frozen BK278.out 0; have hfz35_1 := blk_frozen BK278.out 1; have hfz35_2 := blk_frozen BK278.out 2; have hfz35_3 := blk_frozen BK278.out 3))
              have n0_ : Aside0 (Kd.R Kd.string 9 (w34.setCell ⟨gb278, 0, none⟩ (.int .i64 t280)) w.heap.size (fun _ => True) (.slice (some ad277) t272.length co9) t272) := ⟨by (with_reducible repeat (first | apply Kd.R_alloc | apply Kd.R_drewN | apply Kd.R_drew)); exact Kd.R_mono (Kd.R_far (p := ⟨gb278, 0, none⟩) (Kd.R_types HO_4.out BK278.out (by decide)) (fun _ hk => hk.2) (.int .i64 t280)) (fun _ hk => trivial)⟩
              have n1_ : Aside0 ((w34.setCell ⟨gb278, 0, none⟩ (.int .i64 t280)).heap[gb271]? = some (.cells #[.int .i64 0, .slice none 0 0, .string (⟨#[]⟩ : ByteArray), .bool false] 24 (0, 0))) := ⟨(tq13_b NB271_278.out BK271.out)⟩
              have n2_ : Aside0 ((w34.setCell ⟨gb278, 0, none⟩ (.int .i64 t280)).heap[gb278]? = some (.cells #[.int .i64 t280, .slice none 0 0, .string (⟨#[]⟩ : ByteArray), .bool ((rdOf ByteArray.empty t272 (ji19)).toList == ([67, 111, 110, 110, 101, 99, 116, 105, 111, 110, 58, 32, 99, 108, 111, 115, 101] : List UInt8))] 24 (0, 0))) := ⟨by (with_reducible repeat (first | refine blk_drewN ?_ _ | refine blk_drew ?_ | refine blk_alloc ?_ _)); refine blk_put (cs := #[.int .i64 0, .slice none 0 0, .string (⟨#[]⟩ : ByteArray), .bool ((rdOf ByteArray.empty t272 (ji19)).toList == ([67, 111, 110, 110, 101, 99, 116, 105, 111, 110, 58, 32, 99, 108, 111, 115, 101] : List UInt8))]) ?_ 0 _ rfl; (with_reducible repeat (first | refine blk_drewN ?_ _ | refine blk_drew ?_ | refine blk_alloc ?_ _)); exact BK278.out⟩
              have n3_ : Aside0 (Below w.heap.size w (w34.setCell ⟨gb278, 0, none⟩ (.int .i64 t280))) := ⟨(tq13_9 GE271.out GE278.out)⟩
              (try clear HO_4)
              (try clear BK271)
              (try clear BK278)
              (try clear HB)
              generalize (w34.setCell ⟨gb278, 0, none⟩ (.int .i64 t280)) = w36 at n0_ n1_ n2_ n3_ ⊢
              have HO_4 := n0_
              have BK271 := n1_
              have BK278 := n2_
              have HB := n3_
              clear n0_ n1_ n2_ n3_
              have p281 : 0 ≤ ((ji26) : Int) := of_decide_eq_true tq13_2
              have q281 : (ji26) < (t272.length : Int) := of_decide_eq_true tq13_2
              obtain ⟨ad281, e281, hx281_0⟩ := Kd.at_string (Kd.R_reads' HO_4.out).2.2 (ji26) p281 q281
              obtain rfl : ad277 = ad281 := (by injection e281)
              replace p281 := eq_true p281
              replace q281 := eq_true q281
              go_wp2_with (first | ((with_reducible refine gate_callee (f := 80) rfl ?_); refine goesL_ (some 61) rfl rfl Tryd.func80 (by kernel_rfl) rfl #[.string ((rdOf ByteArray.empty t272 (ji26)).extract 16 (rdOf ByteArray.empty t272 (ji26)).size)] rfl (by (try simp only [List.map_toArray, List.map_cons, List.map_nil]); first | done | (simp only [hji26]; rfl) | rfl | (simp only [List.length_drop, List.length_take]; rfl)) ?_; (with_reducible refine (usherref8_number.calls kj5 ((rdOf ByteArray.empty t272 (ji26)).extract 16 (rdOf ByteArray.empty t272 (ji26)).size) t282 _ A30.out).mono ?_); rintro e w' ⟨rfl, ⟨nd, rfl⟩⟩; refine ⟨_, rfl, ?_⟩))
              go_loopg [8] kj5 (fun kq v8 w' => ∃ (x8_2 : Int) (x279001_2 : List (S26)) (u279001 : Value), v8 = .int .i64 x8_2 ∧ Aside0 (usherref8_found.l0 kq t272 (t272.length : Int) t282 x8_2 t280 x279001_2 (⟨#[]⟩ : ByteArray) ((rdOf ByteArray.empty t272 (ji19)).toList == ([67, 111, 110, 110, 101, 99, 116, 105, 111, 110, 58, 32, 99, 108, 111, 115, 101] : List UInt8)) = some (r1, r2, r3, r4, r5)) ∧ Aside0 (kq ≤ kj5) ∧ Aside0 (Kd.R Kd.string 9 w' w.heap.size (fun _ => True) (.slice (some ad277) t272.length co9) t272) ∧ Aside0 (Kd.R k26 26 w' w.heap.size (fun _ => True) u279001 x279001_2) ∧ Aside0 (w'.heap[gb271]? = some (.cells #[.int .i64 0, (.slice none 0 0), .string (⟨#[]⟩ : ByteArray), .bool false] 24 (0, 0))) ∧ Aside0 (w'.heap[gb278]? = some (.cells #[.int .i64 t280, u279001, .string (⟨#[]⟩ : ByteArray), .bool ((rdOf ByteArray.empty t272 (ji19)).toList == ([67, 111, 110, 110, 101, 99, 116, 105, 111, 110, 58, 32, 99, 108, 111, 115, 101] : List UInt8))] 24 (0, 0))) ∧ Aside0 (Below w.heap.size w w'))
              case atStart => exact ⟨(1), (([] : List (S26))), (.slice none 0 0), tq13_1, H', ⟨Nat.le_refl _⟩, ⟨(tq13_3 HO_4.out)⟩, ⟨tq13_7⟩, ⟨(tq13_4 BK271.out)⟩, ⟨(tq13_4 BK278.out)⟩, ⟨(tq13_9 GE271.out GE278.out)⟩⟩
              case round =>
               clear H'
               try clear c1
               try clear c2
               try clear p2
               try clear q2
               try clear hx2
               try clear qi2
               try clear c3
               try clear c3b0
               try clear c3b1
               try clear c4
               try clear c4b0
               try clear c4b1
               try clear c5
               try clear p6
               try clear c7
               try clear c8
               try clear c10
               try clear c10b0
               try clear c10b1
               try clear c11
               try clear c11b0
               try clear c12
               try clear c12b0
               try clear c12b1
               try clear c13
               try clear c13b0
               try clear c13b1
               try clear c15
               try clear c15b0
               try clear c16
               try clear c16b0
               try clear c17
               try clear c20
               try clear c20b0
               try clear c21
               try clear c21b0
               try clear c22
               try clear c22b0
               try clear c22b1
               try clear c23
               try clear c23b0
               try clear c23b1
               try clear c24
               try clear c24b0
               try clear c24b1
               try clear c27
               try clear c27b0
               try clear p27
               try clear q27
               try clear hx27
               try clear qi27
               try clear c28
               try clear c28b0
               try clear p28
               try clear q28
               try clear hx28
               try clear c29
               try clear c29b0
               try clear c29b1
               try clear c32
               try clear hcz18_0
               try clear hcz18_1
               try clear hcz18_2
               try clear hcz18_3
               try clear hcz33_0
               try clear hcz33_1
               try clear hcz33_2
               try clear hcz33_3
               try clear hcz35_0
               try clear hcz35_1
               try clear hcz35_2
               try clear hcz35_3
               try clear hfz18_0
               try clear hfz18_1
               try clear hfz18_2
               try clear hfz18_3
               try clear hfz33_0
               try clear hfz33_1
               try clear hfz33_2
               try clear hfz33_3
               try clear hfz35_0
               try clear hfz35_1
               try clear hfz35_2
               try clear hfz35_3
               try clear hx275_0
               try clear hx276_0
               try clear hx277_0
               try clear hx279_0
               try clear hx281_0
               try clear p2
               try clear p275
               try clear p276
               try clear p277
               try clear p279
               try clear p281
               try clear p6
               try clear q2
               try clear q275
               try clear q276
               try clear q277
               try clear q279
               try clear q281
               obtain ⟨x8_2, x279001_2, u279001, rfl, HA, HK2, HO_4, HO_279001, BK271, BK278, HB⟩ := hrel
               cases gk with
               | zero => exact absurd HA.out (by simp [usherref8_found.l0])
               | succ k2 =>
                have H := HA.out
                clear HA
                simp only [usherref8_found.l0] at H
                by_cases c37 : x8_2 < (wrap64 ((t272.length : Int) - 2))
                ·rw [if_pos c37] at H
                 have c37b0 : decide (x8_2 < (wrap64 ((t272.length : Int) - 2))) = true := decide_eq_true c37
                 (try (have c37b0j := c37b0; rw [hji26] at c37b0j))
                 clear c37
                 by_cases c38 : 0 ≤ x8_2
                 ·rw [if_pos c38] at H
                  have c38b0 : decide (0 ≤ x8_2) = true := decide_eq_true c38
                  clear c38
                  by_cases c39 : x8_2 < (t272.length : Int)
                  ·rw [if_pos c39] at H
                   have c39b0 : decide (x8_2 < (t272.length : Int)) = true := decide_eq_true c39
                   clear c39
                   replace H := Option.bind_eq_some_iff.mp H
                   obtain ⟨⟨t284, t285⟩, A400, H⟩ := H
                   replace H : (if x279001_2.length < 4398046511104 then (usherref8_found.l0 k2 t272 (t272.length : Int) t282 (wrap64 (x8_2 + 1)) t280 (x279001_2 ++ [(⟨t284, t285⟩ : S26)]) (⟨#[]⟩ : ByteArray) ((rdOf ByteArray.empty t272 (ji19)).toList == ([67, 111, 110, 110, 101, 99, 116, 105, 111, 110, 58, 32, 99, 108, 111, 115, 101] : List UInt8))) else (none)) = some (r1, r2, r3, r4, r5) := H
                   have A40 := Aq13 A400
                   clear A400
                   by_cases c41 : x279001_2.length < 4398046511104
                   ·rw [if_pos c41] at H
                    have LMc41 := Aq13 c41
                    clear c41
                    obtain ⟨y287, hy287⟩ : ∃ y_ : List (S26), y_ = (x279001_2 ++ [(⟨t284, t285⟩ : S26)]) := ⟨_, rfl⟩
                    replace H : (usherref8_found.l0 k2 t272 (t272.length : Int) t282 (wrap64 (x8_2 + 1)) t280 y287 (⟨#[]⟩ : ByteArray) ((rdOf ByteArray.empty t272 (ji19)).toList == ([67, 111, 110, 110, 101, 99, 116, 105, 111, 110, 58, 32, 99, 108, 111, 115, 101] : List UInt8))) = some (r1, r2, r3, r4, r5) := by first | (rw [hy287]; with_reducible exact H) | (have H2_ := (Option.bind_some _ _).symm.trans H; rw [hy287]; with_reducible exact H2_) | (have H2_ := (Option.bind_some _ _).symm.trans H; with_reducible exact H2_) | with_reducible exact H | (rw [hy287]; exact H) | exact H
                    have Ny287 := Aq13 hy287
                    clear hy287
                    have H' := Aq13 H
                    clear H
                    have p283 : 0 ≤ (x8_2 : Int) := of_decide_eq_true tq13_2
                    have q283 : x8_2 < (t272.length : Int) := of_decide_eq_true tq13_2
                    obtain ⟨ad283, e283, hx283_0⟩ := Kd.at_string (Kd.R_reads' HO_4.out).2.2 x8_2 p283 q283
                    obtain rfl : ad277 = ad283 := (by injection e283)
                    replace p283 := eq_true p283
                    replace q283 := eq_true q283
                    go_wp2_with (first | ((with_reducible refine gate_callee (f := 81) rfl ?_); refine goesL_ (some 72) rfl rfl Tryd.func81 (by kernel_rfl) rfl #[.string (rdOf ByteArray.empty t272 x8_2)] rfl tq13_6 ?_; (with_reducible refine (usherref8_field.calls k2 (rdOf ByteArray.empty t272 x8_2) t284 t285 _ A40.out).mono ?_); rintro e w42 ⟨rfl, hb⟩; refine ⟨_, rfl, ?_⟩; replace HO_4 := Aq13 (Kd.R_below (tq13_3 HO_4.out) hb); replace HO_279001 := Aq13 (Kd.R_below (tq13_3 HO_279001.out) hb); replace BK271 := Aq13 (blk_below (g := gb271) (o := .cells #[.int .i64 0, .slice none 0 0, .string (⟨#[]⟩ : ByteArray), .bool false] 24 (0, 0)) (tq13_4 BK271.out) hb); replace BK278 := Aq13 (blk_below (g := gb278) (o := .cells #[.int .i64 t280, u279001, .string (⟨#[]⟩ : ByteArray), .bool ((rdOf ByteArray.empty t272 (ji19)).toList == ([67, 111, 110, 110, 101, 99, 116, 105, 111, 110, 58, 32, 99, 108, 111, 115, 101] : List UInt8))] 24 (0, 0)) (tq13_4 BK278.out) hb); replace HB := Aq13 (below_step (tq13_9 GE271.out GE278.out) hb); (try clear hb); (try clear hb2); (try clear hk); (try clear hi)) | ((with_reducible refine gate_dst (N := 9) rfl ?_); (try (refine gate_guard (by rfl) ?_; dsimp only)); refine box_event ?hg (N := 9) ?hd (cs := #[.string (⟨#[]⟩ : ByteArray), .string (⟨#[]⟩ : ByteArray)]) (t := 26) ?hr ?_; (case hd => rfl); (case hg => rfl); (case hr => first | (go_simp; done) | (go_simp; rfl)); intro gb286 hg w43 hbox hb; replace HO_4 := Aq13 (Kd.R_below (tq13_3 HO_4.out) hb); replace HO_279001 := Aq13 (Kd.R_below (Kd.R_elderB (tq13_3 HO_279001.out) gb286 (Nat.le_of_eq hg.symm)) hb); have BK286 := Aq13 (hbox); have GW286 := Aq13 ((by rw [hg]; exact (below_size (tq13_9 GE271.out GE278.out)) : w.heap.size ≤ gb286)); have GE286 := Aq13 ((by rw [hg]; exact (below_size (tq13_9 GE271.out GE278.out)) : w.heap.size ≤ gb286)); have NB271_286 := Aq13 ((by rw [hg]; exact Nat.ne_of_lt (blk_lt (g := gb271) (o := .cells #[.int .i64 0, .slice none 0 0, .string (⟨#[]⟩ : ByteArray), .bool false] 24 (0, 0)) (tq13_4 BK271.out)) : gb271 ≠ gb286)); have NB286_271 := Aq13 ((by rw [hg]; exact Nat.ne_of_gt (blk_lt (g := gb271) (o := .cells #[.int .i64 0, .slice none 0 0, .string (⟨#[]⟩ : ByteArray), .bool false] 24 (0, 0)) (tq13_4 BK271.out)) : gb286 ≠ gb271)); replace BK271 := Aq13 (blk_below (g := gb271) (o := .cells #[.int .i64 0, .slice none 0 0, .string (⟨#[]⟩ : ByteArray), .bool false] 24 (0, 0)) (tq13_4 BK271.out) hb); have NB278_286 := Aq13 ((by rw [hg]; exact Nat.ne_of_lt (blk_lt (g := gb278) (o := .cells #[.int .i64 t280, u279001, .string (⟨#[]⟩ : ByteArray), .bool ((rdOf ByteArray.empty t272 (ji19)).toList == ([67, 111, 110, 110, 101, 99, 116, 105, 111, 110, 58, 32, 99, 108, 111, 115, 101] : List UInt8))] 24 (0, 0)) (tq13_4 BK278.out)) : gb278 ≠ gb286)); have NB286_278 := Aq13 ((by rw [hg]; exact Nat.ne_of_gt (blk_lt (g := gb278) (o := .cells #[.int .i64 t280, u279001, .string (⟨#[]⟩ : ByteArray), .bool ((rdOf ByteArray.empty t272 (ji19)).toList == ([67, 111, 110, 110, 101, 99, 116, 105, 111, 110, 58, 32, 99, 108, 111, 115, 101] : List UInt8))] 24 (0, 0)) (tq13_4 BK278.out)) : gb286 ≠ gb278)); replace BK278 := Aq13 (blk_below (g := gb278) (o := .cells #[.int .i64 t280, u279001, .string (⟨#[]⟩ : ByteArray), .bool ((rdOf ByteArray.empty t272 (ji19)).toList == ([67, 111, 110, 110, 101, 99, 116, 105, 111, 110, 58, 32, 99, 108, 111, 115, 101] : List UInt8))] 24 (0, 0)) (tq13_4 BK278.out) hb); replace HB := Aq13 (below_step (tq13_9 GE271.out GE278.out) hb); clear hb hbox hg; have hnb44 := NB286_271.out; have hnc44 := NB271_286.out; have hnb45 := NB286_278.out; have hnc45 := NB278_286.out; have hcz46_0 : w43.cell? ⟨gb286, 0, none⟩ = some (.string (⟨#[]⟩ : ByteArray)) := (blk_cell BK286.out 0).trans rfl; have hcz46_1 : w43.cell? ⟨gb286, 1, none⟩ = some (.string (⟨#[]⟩ : ByteArray)) := (blk_cell BK286.out 1).trans rfl; have hfz46_0 := blk_frozen BK286.out 0; have hfz46_1 := blk_frozen BK286.out 1; have hnb47 := NB278_271.out; have hnc47 := NB271_278.out; have hcz48_0 : w43.cell? ⟨gb278, 0, none⟩ = some (.int .i64 t280) := (blk_cell BK278.out 0).trans rfl; have hcz48_1 : w43.cell? ⟨gb278, 1, none⟩ = some (u279001) := (blk_cell BK278.out 1).trans rfl; have hcz48_2 : w43.cell? ⟨gb278, 2, none⟩ = some (.string (⟨#[]⟩ : ByteArray)) := (blk_cell BK278.out 2).trans rfl; have hcz48_3 : w43.cell? ⟨gb278, 3, none⟩ = some (.bool ((rdOf ByteArray.empty t272 (ji19)).toList == ([67, 111, 110, 110, 101, 99, 116, 105, 111, 110, 58, 32, 99, 108, 111, 115, 101] : List UInt8))) := (blk_cell BK278.out 3).trans rfl; have hfz48_0 := blk_frozen BK278.out 0; have hfz48_1 := blk_frozen BK278.out 1; have hfz48_2 := blk_frozen BK278.out 2; have hfz48_3 := blk_frozen BK278.out 3) | ((with_reducible refine gate_builtin (b := .append) (xs := #[.tmp 74, .tmp 76]) rfl ?_); (try (refine gate_guard (by rfl) ?_; dsimp only)); at_builtin; refine Kd.R_append k26 (w0 := w) w.heap.size rfl (.tmp 74) (.tmp 76) 22 26 (.agg #[(.string ⟨#[]⟩), (.string ⟨#[]⟩)]) 32 rfl Tryd.underlying22 info26 rfl (by decide) (by omega) u279001 x279001_2 (⟨t284, t285⟩ : S26) [.string t284, .string t285] (fun k_ => k_ ≠ gb286) (fun _ => False) rfl (by first | (go_simp; done) | (go_simp; rfl)) ?aP (fun _ hk => hk.elim) ?aF ?aO ?aB ?aS ?aL ?_; (case aP => exact k26_mkM _ _ _ (⟨t284, t285⟩ : S26)); (case aB => exact (tq13_a GE271.out GE278.out GE286.out)); (case aF => exact (fun k_ hk => Kd.freshB (g := gb286) (o := .cells #[.string t284, .string t285] 26 (0, 0)) (tq13_e BK286.out) k_ hk)); (case aO => exact (by (with_reducible repeat (first | apply Kd.R_alloc | apply Kd.R_drewN | apply Kd.R_drew)); exact Kd.R_mono (Kd.R_far (p := ⟨gb286, 1, none⟩) (Kd.R_far (p := ⟨gb286, 0, none⟩) (Kd.R_mono HO_279001.out (fun k_ hk => (⟨hk, hk.2⟩ : _ ∧ k_ ≠ gb286))) (fun _ hk => hk.2) (.string t284)) (fun _ hk => hk.2) (.string t285)) (fun _ hk => hk.1.2))); (case aS => exact (below_size (tq13_a GE271.out GE278.out GE286.out))); (case aL => have := LMc41.out; omega); intro v288 w49 ho hb hg hat; rw [← Ny287.out] at ho; have n0_ := Aq13 (Kd.R_over' (by (with_reducible repeat (first | apply Kd.R_alloc | apply Kd.R_drewN | apply Kd.R_drew)); exact (Kd.R_mono (Kd.R_far (p := ⟨gb286, 1, none⟩) (Kd.R_far (p := ⟨gb286, 0, none⟩) (Kd.R_types HO_4.out BK286.out (by decide)) (fun _ hk => hk.2) (.string t284)) (fun _ hk => hk.2) (.string t285)) (fun _ h_ => h_.1))) (Kd.R_typed (by (with_reducible repeat (first | apply Kd.R_alloc | apply Kd.R_drewN | apply Kd.R_drew)); exact (Kd.R_mono (Kd.R_far (p := ⟨gb286, 1, none⟩) (Kd.R_far (p := ⟨gb286, 0, none⟩) (Kd.R_mono HO_279001.out (fun k_ hk => (⟨hk, hk.2⟩ : _ ∧ k_ ≠ gb286))) (fun _ hk => hk.2) (.string t284)) (fun _ hk => hk.2) (.string t285)) (fun _ h_ => h_.1)))) (by decide) hg); have n1_ := Aq13 (blk_grown (g := gb271) (o := .cells #[.int .i64 0, .slice none 0 0, .string (⟨#[]⟩ : ByteArray), .bool false] 24 (0, 0)) (tq13_d NB271_286.out BK271.out) hg (Kd.R_ne HO_279001.out BK271.out (by decide))); have n2_ := Aq13 (blk_grown (g := gb278) (o := .cells #[.int .i64 t280, u279001, .string (⟨#[]⟩ : ByteArray), .bool ((rdOf ByteArray.empty t272 (ji19)).toList == ([67, 111, 110, 110, 101, 99, 116, 105, 111, 110, 58, 32, 99, 108, 111, 115, 101] : List UInt8))] 24 (0, 0)) (tq13_d NB278_286.out BK278.out) hg (Kd.R_ne HO_279001.out BK278.out (by decide))); have n3_ := Aq13 (blk_grown (g := gb286) (o := .cells #[.string t284, .string t285] 26 (0, 0)) (tq13_e BK286.out) hg (Kd.R_away HO_279001.out (fun _ hk => hk.2))); have n4_ := Aq13 (hb); have n5_ := Aq13 (ho); clear HO_4; clear BK271; clear BK278; clear BK286; clear HB; clear HO_279001; have HO_4 := n0_; have BK271 := n1_; have BK278 := n2_; have BK286 := n3_; have HB := n4_; have HO289 := n5_; clear n0_ n1_ n2_ n3_ n4_ n5_; clear ho hb hg hat; obtain ⟨Ao50, co50, eo50⟩ := Kd.R_slice HO289.out; subst eo50; have hcz51_0 : w49.cell? ⟨gb278, 0, none⟩ = some (.int .i64 t280) := (blk_cell BK278.out 0).trans rfl; have hcz51_1 : w49.cell? ⟨gb278, 1, none⟩ = some (u279001) := (blk_cell BK278.out 1).trans rfl; have hcz51_2 : w49.cell? ⟨gb278, 2, none⟩ = some (.string (⟨#[]⟩ : ByteArray)) := (blk_cell BK278.out 2).trans rfl; have hcz51_3 : w49.cell? ⟨gb278, 3, none⟩ = some (.bool ((rdOf ByteArray.empty t272 (ji19)).toList == ([67, 111, 110, 110, 101, 99, 116, 105, 111, 110, 58, 32, 99, 108, 111, 115, 101] : List UInt8))) := (blk_cell BK278.out 3).trans rfl; have hfz51_0 := blk_frozen BK278.out 0; have hfz51_1 := blk_frozen BK278.out 1; have hfz51_2 := blk_frozen BK278.out 2; have hfz51_3 := blk_frozen BK278.out 3))
                    go_roundg k2
                    case measure => have := HJ5.out; have := HK2.out; omega
                    case rel => exact ⟨(wrap64 (x8_2 + 1)), (y287), (.slice Ao50 y287.length co50), tq13_1, H', ⟨by have := HJ5.out; have := HK2.out; omega⟩, ⟨(tq13_c HO_4.out BK278.out)⟩, ⟨(tq13_c HO289.out BK278.out)⟩, ⟨(tq13_b NB271_278.out BK271.out)⟩, ⟨by (with_reducible repeat (first | refine blk_drewN ?_ _ | refine blk_drew ?_ | refine blk_alloc ?_ _)); refine blk_put (cs := #[.int .i64 t280, u279001, .string (⟨#[]⟩ : ByteArray), .bool ((rdOf ByteArray.empty t272 (ji19)).toList == ([67, 111, 110, 110, 101, 99, 116, 105, 111, 110, 58, 32, 99, 108, 111, 115, 101] : List UInt8))]) ?_ 1 _ rfl; (with_reducible repeat (first | refine blk_drewN ?_ _ | refine blk_drew ?_ | refine blk_alloc ?_ _)); exact BK278.out⟩, ⟨(tq13_a GE271.out GE278.out GE286.out)⟩⟩
                   ·rw [if_neg c41] at H
                    exact absurd H (by simp)
                  ·rw [if_neg c39] at H
                   exact absurd H (by simp)
                 ·rw [if_neg c38] at H
                  exact absurd H (by simp)
                ·rw [if_neg c37] at H
                 have c37b0 : decide (x8_2 < (wrap64 ((t272.length : Int) - 2))) = false := decide_eq_false c37
                 (try (have c37b0j := c37b0; rw [hji26] at c37b0j))
                 clear c37
                 simp only [Option.some.injEq, Prod.mk.injEq] at H
                 obtain ⟨rfl, rfl, rfl, rfl, rfl⟩ := H
                 have hnb52 := NB278_271.out
                 have hnc52 := NB271_278.out
                 have hcz53_0 : wr.cell? ⟨gb278, 0, none⟩ = some (.int .i64 t280) := (blk_cell BK278.out 0).trans rfl
                 have hcz53_1 : wr.cell? ⟨gb278, 1, none⟩ = some (u279001) := (blk_cell BK278.out 1).trans rfl
                 have hcz53_2 : wr.cell? ⟨gb278, 2, none⟩ = some (.string (⟨#[]⟩ : ByteArray)) := (blk_cell BK278.out 2).trans rfl
                 have hcz53_3 : wr.cell? ⟨gb278, 3, none⟩ = some (.bool ((rdOf ByteArray.empty t272 (ji19)).toList == ([67, 111, 110, 110, 101, 99, 116, 105, 111, 110, 58, 32, 99, 108, 111, 115, 101] : List UInt8))) := (blk_cell BK278.out 3).trans rfl
                 have hfz53_0 := blk_frozen BK278.out 0
                 have hfz53_1 := blk_frozen BK278.out 1
                 have hfz53_2 := blk_frozen BK278.out 2
                 have hfz53_3 := blk_frozen BK278.out 3
                 have hcz54_0 : wr.cell? ⟨gb271, 0, none⟩ = some (.int .i64 0) := (blk_cell BK271.out 0).trans rfl
                 have hcz54_1 : wr.cell? ⟨gb271, 1, none⟩ = some (.slice none 0 0) := (blk_cell BK271.out 1).trans rfl
                 have hcz54_2 : wr.cell? ⟨gb271, 2, none⟩ = some (.string (⟨#[]⟩ : ByteArray)) := (blk_cell BK271.out 2).trans rfl
                 have hcz54_3 : wr.cell? ⟨gb271, 3, none⟩ = some (.bool false) := (blk_cell BK271.out 3).trans rfl
                 have hfz54_0 := blk_frozen BK271.out 0
                 have hfz54_1 := blk_frozen BK271.out 1
                 have hfz54_2 := blk_frozen BK271.out 2
                 have hfz54_3 := blk_frozen BK271.out 3
                 obtain ⟨Ao55, co55, eo55⟩ := Kd.R_slice HO_279001.out
                 subst eo55
                 go_wp2
                 refine bodyPost_ret (results_ct rfl _ _ gb271 24 #[.int .i64 t280, .slice Ao55 x279001_2.length co55, .string (⟨#[]⟩ : ByteArray), .bool ((rdOf ByteArray.empty t272 (ji19)).toList == ([67, 111, 110, 110, 101, 99, 116, 105, 111, 110, 58, 32, 99, 108, 111, 115, 101] : List UInt8))] (0, 0) _ rfl (by (with_reducible repeat (first | refine blk_drewN ?_ _ | refine blk_drew ?_ | refine blk_alloc ?_ _)); refine blk_put (cs := #[.int .i64 t280, .slice Ao55 x279001_2.length co55, .string (⟨#[]⟩ : ByteArray), .bool false]) ?_ 3 _ rfl; (with_reducible repeat (first | refine blk_drewN ?_ _ | refine blk_drew ?_ | refine blk_alloc ?_ _)); refine blk_put (cs := #[.int .i64 t280, .slice Ao55 x279001_2.length co55, .string (⟨#[]⟩ : ByteArray), .bool false]) ?_ 2 _ rfl; (with_reducible repeat (first | refine blk_drewN ?_ _ | refine blk_drew ?_ | refine blk_alloc ?_ _)); refine blk_put (cs := #[.int .i64 t280, .slice none 0 0, .string (⟨#[]⟩ : ByteArray), .bool false]) ?_ 1 _ rfl; (with_reducible repeat (first | refine blk_drewN ?_ _ | refine blk_drew ?_ | refine blk_alloc ?_ _)); refine blk_put (cs := #[.int .i64 0, .slice none 0 0, .string (⟨#[]⟩ : ByteArray), .bool false]) ?_ 0 _ rfl; (with_reducible repeat (first | refine blk_drewN ?_ _ | refine blk_drew ?_ | refine blk_alloc ?_ _)); exact BK271.out) Tryd.underlying24 rfl (by kernel_rfl)) rfl ?_
                 exact ⟨_, by first | rfl | (simp [errW_none, errW_some] <;> rfl) | (simp only [← hji2, ← hji19, ← hji26]; first | rfl | (simp [errW_none, errW_some] <;> rfl)) | (simp [*, errW_none, errW_some] <;> rfl), by (with_reducible repeat (first | apply Kd.R_alloc | apply Kd.R_drewN | apply Kd.R_drew)); exact Kd.R_mono (Kd.R_far (p := ⟨gb271, 3, none⟩) (Kd.R_far (p := ⟨gb271, 2, none⟩) (Kd.R_far (p := ⟨gb271, 1, none⟩) (Kd.R_far (p := ⟨gb271, 0, none⟩) (Kd.R_types HO_279001.out BK271.out (by decide)) (fun _ hk => hk.2) (.int .i64 t280)) (fun _ hk => hk.2) (.slice Ao55 x279001_2.length co55)) (fun _ hk => hk.2) (.string (⟨#[]⟩ : ByteArray))) (fun _ hk => hk.2) (.bool ((rdOf ByteArray.empty t272 (ji19)).toList == ([67, 111, 110, 110, 101, 99, 116, 105, 111, 110, 58, 32, 99, 108, 111, 115, 101] : List UInt8)))) (fun _ hk => trivial), (tq13_9 GE271.out GE278.out)⟩
             ·rw [if_neg c29] at H
              exact absurd H (by simp)
            ·rw [if_neg c28] at H
             exact absurd H (by simp)
           ·rw [if_neg c27] at H
            exact absurd H (by simp)
          ·rw [if_neg c24] at H
           exact absurd H (by simp)
         ·rw [if_neg c23] at H
          exact absurd H (by simp)
        ·rw [if_neg c22] at H
         exact absurd H (by simp)
       ·rw [if_neg c21] at H
        exact absurd H (by simp)
      ·rw [if_neg c20] at H
       exact absurd H (by simp)
  ·rw [if_neg c4] at H
   exact absurd H (by simp)
 ·rw [if_neg c3] at H
  exact absurd H (by simp)

end Go.Proofs.YtdlfdmbaejhaaaaDoor.Q
