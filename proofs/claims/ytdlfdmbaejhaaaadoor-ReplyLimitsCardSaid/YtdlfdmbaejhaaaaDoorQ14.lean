/- The plain Lean functions that calls of the program answer, and proofs that they do. Printed by program out of the translation; Lean checks it. -/
import Derived.Test.YtdlfdmbaejhaaaaDoorQ0
import Derived.Test.YtdlfdmbaejhaaaaDoorQ2
import Derived.Test.YtdlfdmbaejhaaaaDoorQ8
import Derived.Test.YtdlfdmbaejhaaaaDoorQ10
import Derived.Test.YtdlfdmbaejhaaaaDoorQ11
import Derived.Test.YtdlfdmbaejhaaaaDoorQ13
import Derived.Test.YtdlfdmbaejhaaaaDoorNum
namespace Go.Proofs.YtdlfdmbaejhaaaaDoor.Q
open Go.RowKit Go.Proofs.YtdlfdmbaejhaaaaDoorW.PrintWords Go.Proofs.YtdlfdmbaejhaaaaDoorW.PrintLast Go.Proofs.YtdlfdmbaejhaaaaDoorW.PrintMore
attribute [local go_sem] max2_int min2_int max_two min_two max_three min_three max_four min_four   -- for this text's walks alone
set_option linter.unusedVariables false
set_option linter.unusedSimpArgs false

theorem Aq14 {p : Prop} (h : p) : Aside0 p := ⟨h⟩
theorem tq14_0 {P : Prop} (h : P := by first | omega | exact Nat.le_refl _) : P := h
theorem tq14_1 {P : Prop} (h : P := by first | rfl | (simp; done) | (simp [*]; done)) : P := h
theorem tq14_2 {P : Prop} (h : P := by repeat (first | exact Drawn0.refl _ | apply Drawn0.step)) : P := h
theorem tq14_3 {P : Prop} (h : P := by first | rfl | (simp [errW_none, errW_some] <;> rfl) | (simp [*, errW_none, errW_some] <;> rfl)) : P := h
theorem tq14_4 {P Q0 : Prop} (y0 : Q0) (h : Q0 → P := by intro y0_; (with_reducible repeat (first | apply Kd.R_alloc | apply Kd.R_drewN | apply Kd.R_drew)); exact y0_) : P := h y0
theorem tq14_5 {P Q0 : Prop} (y0 : Q0) (h : Q0 → P := by intro y0_; (with_reducible repeat (first | refine blk_drewN ?_ _ | refine blk_drew ?_ | refine blk_alloc ?_ _)); exact y0_) : P := h y0
theorem tq14_6 {P : Prop} (h : P := by repeat (first | (with_reducible first | exact HB.out | apply below_alloc | apply pw_below_drewN | apply below_drew1) | exact HB.out)) : P := h
theorem tq14_7 {P : Prop} (h : P := by (try simp only [List.map_toArray, List.map_cons, List.map_nil]); first | done | rfl | (simp only [List.length_drop, List.length_take]; rfl)) : P := h
theorem tq14_8 {P : Prop} (h : P := by first | exact Kd.R_nil _ _ _ _ _ | exact Kd.N_nil _ _ _ _ _ | exact Kd.V_nil _ _ _ _ _ | exact Kd.Q_nil _ _ _ _ _ | exact Kd.S_nil _ _ _ _ _) : P := h
theorem tq14_9 {P Q0 : Prop} (y0 : Q0) (h : Q0 → P := by intro y0_; repeat (first | (with_reducible first | exact HB.out | apply below_alloc | apply pw_below_drewN | apply below_drew1 | refine below_set ?_ y0_) | exact HB.out)) : P := h y0
theorem tq14_a {P Q0 Q1 : Prop} (y0 : Q0) (y1 : Q1) (h : Q0 → Q1 → P := by intro y0_ y1_; repeat (first | (with_reducible first | exact HB.out | apply below_alloc | apply pw_below_drewN | apply below_drew1 | refine below_set ?_ y0_ | refine below_set ?_ y1_) | exact HB.out)) : P := h y0 y1
theorem tq14_b {P Q0 Q1 : Prop} (y0 : Q0) (y1 : Q1) (h : Q0 → Q1 → P := by intro y0_ y1_; (iterate 4 ((with_reducible repeat (first | refine blk_drewN ?_ _ | refine blk_drew ?_ | refine blk_alloc ?_ _)); refine blk_far ?_ y0_ _)); (with_reducible repeat (first | refine blk_drewN ?_ _ | refine blk_drew ?_ | refine blk_alloc ?_ _)); exact y1_) : P := h y0 y1
theorem tq14_c {P Q0 Q1 : Prop} (y0 : Q0) (y1 : Q1) (h : Q0 → Q1 → P := by intro y0_ y1_; (with_reducible repeat (first | apply Kd.R_alloc | apply Kd.R_drewN | apply Kd.R_drew)); exact (Kd.R_mono (Kd.R_far (p := ⟨gb299, 3, none⟩) (Kd.R_far (p := ⟨gb299, 2, none⟩) (Kd.R_far (p := ⟨gb299, 1, none⟩) (Kd.R_far (p := ⟨gb299, 0, none⟩) (Kd.R_types y0_ y1_ (by decide)) (fun _ hk => hk.2) (.int .i64 t292)) (fun _ hk => hk.2) (.slice Ao17 t293.length co17)) (fun _ hk => hk.2) (.string t296)) (fun _ hk => hk.2) (.bool t297)) (fun _ h_ => h_.1))) : P := h y0 y1
theorem tq14_d {P Q0 Q1 : Prop} (y0 : Q0) (y1 : Q1) (h : Q0 → Q1 → P := by intro y0_ y1_; (with_reducible repeat (first | apply Kd.R_alloc | apply Kd.R_drewN | apply Kd.R_drew)); exact (Kd.R_mono (Kd.R_far (p := ⟨gb310, 3, none⟩) (Kd.R_far (p := ⟨gb310, 2, none⟩) (Kd.R_far (p := ⟨gb310, 1, none⟩) (Kd.R_far (p := ⟨gb310, 0, none⟩) (Kd.R_types y0_ y1_ (by decide)) (fun _ hk => hk.2) (.int .i64 t302)) (fun _ hk => hk.2) (.slice Ao11 t303.length co11)) (fun _ hk => hk.2) (.string t306)) (fun _ hk => hk.2) (.bool t307)) (fun _ h_ => h_.1))) : P := h y0 y1
theorem tq14_e {P Q0 Q1 : Prop} (y0 : Q0) (y1 : Q1) (h : Q0 → Q1 → P := by intro y0_ y1_; (with_reducible repeat (first | apply Kd.R_alloc | apply Kd.R_drewN | apply Kd.R_drew)); exact (Kd.R_mono (Kd.R_far (p := ⟨gb319, 3, none⟩) (Kd.R_far (p := ⟨gb319, 2, none⟩) (Kd.R_far (p := ⟨gb319, 1, none⟩) (Kd.R_far (p := ⟨gb319, 0, none⟩) (Kd.R_types y0_ y1_ (by decide)) (fun _ hk => hk.2) (.int .i64 t311)) (fun _ hk => hk.2) (.slice Ao16 t312.length co16)) (fun _ hk => hk.2) (.string t315)) (fun _ hk => hk.2) (.bool t316)) (fun _ h_ => h_.1))) : P := h y0 y1
theorem tq14_f {P Q0 Q1 : Prop} (y0 : Q0) (y1 : Q1) (h : Q0 → Q1 → P := by intro y0_ y1_; (with_reducible repeat (first | apply Kd.R_alloc | apply Kd.R_drewN | apply Kd.R_drew)); exact (Kd.R_mono (Kd.R_far (p := ⟨gb310, 3, none⟩) (Kd.R_far (p := ⟨gb310, 2, none⟩) (Kd.R_far (p := ⟨gb310, 1, none⟩) (Kd.R_far (p := ⟨gb310, 0, none⟩) (Kd.R_types y0_ y1_ (by decide)) (fun _ hk => hk.2) (.int .i64 t302)) (fun _ hk => hk.2) (.slice Ao22 t303.length co22)) (fun _ hk => hk.2) (.string t306)) (fun _ hk => hk.2) (.bool t307)) (fun _ h_ => h_.1))) : P := h y0 y1
theorem tq14_g {P Q0 Q1 : Prop} (y0 : Q0) (y1 : Q1) (h : Q0 → Q1 → P := by intro y0_ y1_; (with_reducible repeat (first | apply Kd.R_alloc | apply Kd.R_drewN | apply Kd.R_drew)); exact (Kd.R_mono (Kd.R_far (p := ⟨gb319, 3, none⟩) (Kd.R_far (p := ⟨gb319, 2, none⟩) (Kd.R_far (p := ⟨gb319, 1, none⟩) (Kd.R_far (p := ⟨gb319, 0, none⟩) (Kd.R_types y0_ y1_ (by decide)) (fun _ hk => hk.2) (.int .i64 t311)) (fun _ hk => hk.2) (.slice Ao27 t312.length co27)) (fun _ hk => hk.2) (.string t315)) (fun _ hk => hk.2) (.bool t316)) (fun _ h_ => h_.1))) : P := h y0 y1
theorem tq14_h {P Q0 Q1 : Prop} (y0 : Q0) (y1 : Q1) (h : Q0 → Q1 → P := by intro y0_ y1_; (with_reducible repeat (first | apply Kd.R_alloc | apply Kd.R_drewN | apply Kd.R_drew)); exact (Kd.R_mono (Kd.R_far (p := ⟨gb310, 3, none⟩) (Kd.R_far (p := ⟨gb310, 2, none⟩) (Kd.R_far (p := ⟨gb310, 1, none⟩) (Kd.R_far (p := ⟨gb310, 0, none⟩) (Kd.R_types y0_ y1_ (by decide)) (fun _ hk => hk.2) (.int .i64 t302)) (fun _ hk => hk.2) (.slice Ao33 t303.length co33)) (fun _ hk => hk.2) (.string t306)) (fun _ hk => hk.2) (.bool t307)) (fun _ h_ => h_.1))) : P := h y0 y1
theorem tq14_i {P Q0 Q1 : Prop} (y0 : Q0) (y1 : Q1) (h : Q0 → Q1 → P := by intro y0_ y1_; (with_reducible repeat (first | apply Kd.R_alloc | apply Kd.R_drewN | apply Kd.R_drew)); exact (Kd.R_mono (Kd.R_far (p := ⟨gb319, 3, none⟩) (Kd.R_far (p := ⟨gb319, 2, none⟩) (Kd.R_far (p := ⟨gb319, 1, none⟩) (Kd.R_far (p := ⟨gb319, 0, none⟩) (Kd.R_types y0_ y1_ (by decide)) (fun _ hk => hk.2) (.int .i64 t311)) (fun _ hk => hk.2) (.slice Ao38 t312.length co38)) (fun _ hk => hk.2) (.string t315)) (fun _ hk => hk.2) (.bool t316)) (fun _ h_ => h_.1))) : P := h y0 y1
theorem tq14_j {P Q0 : Prop} (y0 : Q0) (h : Q0 → P := by intro y0_; (with_reducible repeat (first | refine blk_drewN ?_ _ | refine blk_drew ?_ | refine blk_alloc ?_ _)); refine blk_put (cs := #[.int .i64 0, .slice none 0 0, .string (⟨#[]⟩ : ByteArray), .bool false]) ?_ 3 _ rfl; (with_reducible repeat (first | refine blk_drewN ?_ _ | refine blk_drew ?_ | refine blk_alloc ?_ _)); refine blk_put (cs := #[.int .i64 0, .slice none 0 0, .string (⟨#[]⟩ : ByteArray), .bool false]) ?_ 2 _ rfl; (with_reducible repeat (first | refine blk_drewN ?_ _ | refine blk_drew ?_ | refine blk_alloc ?_ _)); refine blk_put (cs := #[.int .i64 0, .slice none 0 0, .string (⟨#[]⟩ : ByteArray), .bool false]) ?_ 1 _ rfl; (with_reducible repeat (first | refine blk_drewN ?_ _ | refine blk_drew ?_ | refine blk_alloc ?_ _)); refine blk_put (cs := #[.int .i64 0, .slice none 0 0, .string (⟨#[]⟩ : ByteArray), .bool false]) ?_ 0 _ rfl; (with_reducible repeat (first | refine blk_drewN ?_ _ | refine blk_drew ?_ | refine blk_alloc ?_ _)); exact y0_) : P := h y0
/-! ### usherref8_Read: function 33 -/
def usherref8_Read.j0 : Nat → ByteArray → Int → Int → Bool → Int → List (S26) → ByteArray → Bool → Option (Int × (List (S26)) × ByteArray × Bool × Int × Int)
 | 0, _, _, _, _, _, _, _, _ => none
 | k + 1, x0, x5, x7, x43, x300000, x300001, x300002, x300003 => if x43 = true then (some (0, ([] : List (S26)), (⟨#[]⟩ : ByteArray), false, 0, 2)) else (if (wrap64 ((x0.size : Int) - x5)) < x7 then (some (0, ([] : List (S26)), (⟨#[]⟩ : ByteArray), false, 0, 6)) else (if 0 ≤ x5 then (if x5 ≤ (wrap64 (x5 + x7)) then (if (wrap64 (x5 + x7)) ≤ (x0.size : Int) then (some (x300000, x300001, x0.extract (x5 : Int).toNat ((wrap64 (x5 + x7)) : Int).toNat, x300003, wrap64 (x5 + x7), 0)) else (none)) else (none)) else (none)))
def usherref8_Read.f (k : Nat) (a0 : ByteArray) : Option (Int × (List (S26)) × ByteArray × Bool × Int × Int) := (usherref8_headEnd.f k a0).bind fun t291 => (if t291 < 0 then (some (0, ([] : List (S26)), (⟨#[]⟩ : ByteArray), false, 0, 6)) else (if 0 ≤ t291 then (if t291 ≤ (a0.size : Int) then ((usherref8_found.f k (a0.extract 0 (t291 : Int).toNat)).bind fun bt292 => ((usherref8_mayBe.f k bt292.1 bt292.2.1 bt292.2.2.1 bt292.2.2.2.1).bind fun t300 => ((usherref8_head.f k bt292.1 bt292.2.1 bt292.2.2.1 bt292.2.2.2.1 bt292.2.2.2.2).bind fun t301 => (if bt292.2.2.2.2 < 0 then (usherref8_Read.j0 k a0 t291 bt292.2.2.2.2 true bt292.1 bt292.2.1 bt292.2.2.1 bt292.2.2.2.1) else (if bt292.2.2.2.2 > 1048576 then (usherref8_Read.j0 k a0 t291 bt292.2.2.2.2 true bt292.1 bt292.2.1 bt292.2.2.1 bt292.2.2.2.1) else (if t300 = true then (usherref8_Read.j0 k a0 t291 bt292.2.2.2.2 (t301.toList != (a0.extract 0 (t291 : Int).toNat).toList) bt292.1 bt292.2.1 bt292.2.2.1 bt292.2.2.2.1) else (usherref8_Read.j0 k a0 t291 bt292.2.2.2.2 true bt292.1 bt292.2.1 bt292.2.2.1 bt292.2.2.2.1))))))) else (none)) else (none)))
theorem usherref8_Read.mono_l : ∀ k, (∀ y0 y1 y2 y3 y4 y5 y6 y7, LeO (usherref8_Read.j0 k y0 y1 y2 y3 y4 y5 y6 y7) (usherref8_Read.j0 (k + 1) y0 y1 y2 y3 y4 y5 y6 y7))
 | 0 => fun _ _ _ _ _ _ _ _ r h => by simp [usherref8_Read.j0] at h
 | k + 1 => by
  have ih0 := usherref8_Read.mono_l k
  ·intro y0 y1 y2 y3 y4 y5 y6 y7
   unfold usherref8_Read.j0
   repeat' first
   | (with_reducible exact ih0 _ _ _ _ _ _ _ _)
   | (with_reducible exact usherref8_found.mono _ _)
   | (with_reducible exact usherref8_head.mono _ _ _ _ _ _)
   | (with_reducible exact usherref8_headEnd.mono _ _)
   | (with_reducible exact usherref8_mayBe.mono _ _ _ _ _)
   | (with_reducible exact LeO.refl _)
   | (with_reducible exact LeO.none _)
   | (with_reducible refine LeO.ite ?_ ?_)
   | (with_reducible refine LeO.bind ?_ (fun _ => ?_))
   | exact ih0 _ _ _ _ _ _ _ _
   | exact usherref8_found.mono _ _
   | exact usherref8_head.mono _ _ _ _ _ _
   | exact usherref8_headEnd.mono _ _
   | exact usherref8_mayBe.mono _ _ _ _ _
   | exact LeO.none _
   | refine LeO.ite ?_ ?_
   | refine LeO.bind ?_ (fun _ => ?_)
theorem usherref8_Read.mono : ∀ a0 k, LeO (usherref8_Read.f k a0) (usherref8_Read.f (k + 1) a0) := by
 intro a0 k
 have ih0 := usherref8_Read.mono_l k
 unfold usherref8_Read.f
 repeat' first
   | (with_reducible exact ih0 _ _ _ _ _ _ _ _)
   | (with_reducible exact usherref8_found.mono _ _)
   | (with_reducible exact usherref8_head.mono _ _ _ _ _ _)
   | (with_reducible exact usherref8_headEnd.mono _ _)
   | (with_reducible exact usherref8_mayBe.mono _ _ _ _ _)
   | (with_reducible exact LeO.refl _)
   | (with_reducible exact LeO.none _)
   | (with_reducible refine LeO.ite ?_ ?_)
   | (with_reducible refine LeO.bind ?_ (fun _ => ?_))
   | exact ih0 _ _ _ _ _ _ _ _
   | exact usherref8_found.mono _ _
   | exact usherref8_head.mono _ _ _ _ _ _
   | exact usherref8_headEnd.mono _ _
   | exact usherref8_mayBe.mono _ _ _ _ _
   | exact LeO.none _
   | refine LeO.ite ?_ ?_
   | refine LeO.bind ?_ (fun _ => ?_)
set_option maxHeartbeats 8000000 in
set_option maxRecDepth 100000 in
theorem usherref8_Read.calls [Sent] (k : Nat) (a0 : ByteArray) (r1 : Int) (r2 : List (S26)) (r3 : ByteArray) (r4 : Bool) (r5 : Int) (r6 : Int) (w : World) (h : usherref8_Read.f k a0 = some (r1, r2, r3, r4, r5, r6)) (hG : Glob [19] w) :
  Calls Tryd.prog 33 #[.string a0] w fun e w' => ∃ v1_ : Value, e = .returned (.tuple #[.agg #[.int .i64 r1, v1_, .string r3, .bool r4], .int .i64 r5, .int .i64 r6]) ∧ Kd.R k26 26 w' w.heap.size (fun _ => True) v1_ r2 ∧ Below w.heap.size w w' := by
 have HG := Aq14 hG
 clear hG
 have hu24 := Tryd.underlying24
 have HB := Aq14 (Below.refl w.heap.size w)
 have H : ((usherref8_headEnd.f k a0).bind fun t291 => (if t291 < 0 then (some (0, ([] : List (S26)), (⟨#[]⟩ : ByteArray), false, 0, 6)) else (if 0 ≤ t291 then (if t291 ≤ (a0.size : Int) then ((usherref8_found.f k (a0.extract 0 (t291 : Int).toNat)).bind fun bt292 => ((usherref8_mayBe.f k bt292.1 bt292.2.1 bt292.2.2.1 bt292.2.2.2.1).bind fun t300 => ((usherref8_head.f k bt292.1 bt292.2.1 bt292.2.2.1 bt292.2.2.2.1 bt292.2.2.2.2).bind fun t301 => (if bt292.2.2.2.2 < 0 then (usherref8_Read.j0 k a0 t291 bt292.2.2.2.2 true bt292.1 bt292.2.1 bt292.2.2.1 bt292.2.2.2.1) else (if bt292.2.2.2.2 > 1048576 then (usherref8_Read.j0 k a0 t291 bt292.2.2.2.2 true bt292.1 bt292.2.1 bt292.2.2.1 bt292.2.2.2.1) else (if t300 = true then (usherref8_Read.j0 k a0 t291 bt292.2.2.2.2 (t301.toList != (a0.extract 0 (t291 : Int).toNat).toList) bt292.1 bt292.2.1 bt292.2.2.1 bt292.2.2.2.1) else (usherref8_Read.j0 k a0 t291 bt292.2.2.2.2 true bt292.1 bt292.2.1 bt292.2.2.1 bt292.2.2.2.1))))))) else (none)) else (none)))) = some (r1, r2, r3, r4, r5, r6) := h
 clear h
 replace H := Option.bind_eq_some_iff.mp H
 obtain ⟨t291, A20, H⟩ := H
 replace H : (if t291 < 0 then (some (0, ([] : List (S26)), (⟨#[]⟩ : ByteArray), false, 0, 6)) else (if 0 ≤ t291 then (if t291 ≤ (a0.size : Int) then ((usherref8_found.f k (a0.extract 0 (t291 : Int).toNat)).bind fun bt292 => ((usherref8_mayBe.f k bt292.1 bt292.2.1 bt292.2.2.1 bt292.2.2.2.1).bind fun t300 => ((usherref8_head.f k bt292.1 bt292.2.1 bt292.2.2.1 bt292.2.2.2.1 bt292.2.2.2.2).bind fun t301 => (if bt292.2.2.2.2 < 0 then (usherref8_Read.j0 k a0 t291 bt292.2.2.2.2 true bt292.1 bt292.2.1 bt292.2.2.1 bt292.2.2.2.1) else (if bt292.2.2.2.2 > 1048576 then (usherref8_Read.j0 k a0 t291 bt292.2.2.2.2 true bt292.1 bt292.2.1 bt292.2.2.1 bt292.2.2.2.1) else (if t300 = true then (usherref8_Read.j0 k a0 t291 bt292.2.2.2.2 (t301.toList != (a0.extract 0 (t291 : Int).toNat).toList) bt292.1 bt292.2.1 bt292.2.2.1 bt292.2.2.2.1) else (usherref8_Read.j0 k a0 t291 bt292.2.2.2.2 true bt292.1 bt292.2.1 bt292.2.2.1 bt292.2.2.2.1))))))) else (none)) else (none))) = some (r1, r2, r3, r4, r5, r6) := H
 have A2 := Aq14 A20
 clear A20
 by_cases c3 : t291 < 0
 ·rw [if_pos c3] at H
  have c3b0 : decide (t291 < 0) = true := decide_eq_true c3
  clear c3
  simp only [Option.some.injEq, Prod.mk.injEq] at H
  obtain ⟨rfl, rfl, rfl, rfl, rfl, rfl⟩ := H
  go_enter Tryd.func33, Tryd.ntmps33
  go_wp2_with (first | ((with_reducible refine gate_dst (N := 2) rfl ?_); refine box_event ?hg (N := 2) ?hd (cs := #[.int .i64 0, .slice none 0 0, .string (⟨#[]⟩ : ByteArray), .bool false]) (t := 24) ?hr ?_; (case hd => rfl); (case hg => rfl); (case hr => first | (go_simp; done) | (go_simp; rfl)); intro gb290 hg w4 hbox hb; have BK290 := Aq14 (hbox); have GW290 := Aq14 ((by rw [hg]; exact (below_size tq14_6) : w.heap.size ≤ gb290)); have GE290 := Aq14 ((by rw [hg]; exact (below_size tq14_6) : w.heap.size ≤ gb290)); replace HB := Aq14 (below_step tq14_6 hb); clear hb hbox hg) | ((with_reducible refine gate_callee (f := 56) rfl ?_); refine goesL_ (some 11) rfl rfl Tryd.func56 (by kernel_rfl) rfl #[.string a0] rfl tq14_7 ?_; (with_reducible refine (usherref8_headEnd.calls k a0 t291 _ A2.out).mono ?_); rintro e w' ⟨rfl, ⟨nd, rfl⟩⟩; refine ⟨_, rfl, ?_⟩; (try (rw [drewN_self w4]; generalize hq_ : World.drewN w4 _ = w4; have n0_ : Aside0 (w4.heap[gb290]? = some (.cells #[.int .i64 0, .slice none 0 0, .string (⟨#[]⟩ : ByteArray), .bool false] 24 (0, 0))) := ⟨by rw [← hq_]; exact (tq14_5 BK290.out)⟩; have n1_ : Aside0 (Below w.heap.size w w4) := ⟨by rw [← hq_]; exact (tq14_9 GE290.out)⟩; clear BK290 HB hq_; have BK290 := n0_; have HB := n1_; clear n0_ n1_)); have hcz5_0 : w4.cell? ⟨gb290, 0, none⟩ = some (.int .i64 0) := (blk_cell BK290.out 0).trans rfl; have hcz5_1 : w4.cell? ⟨gb290, 1, none⟩ = some (.slice none 0 0) := (blk_cell BK290.out 1).trans rfl; have hcz5_2 : w4.cell? ⟨gb290, 2, none⟩ = some (.string (⟨#[]⟩ : ByteArray)) := (blk_cell BK290.out 2).trans rfl; have hcz5_3 : w4.cell? ⟨gb290, 3, none⟩ = some (.bool false) := (blk_cell BK290.out 3).trans rfl; have hfz5_0 := blk_frozen BK290.out 0; have hfz5_1 := blk_frozen BK290.out 1; have hfz5_2 := blk_frozen BK290.out 2; have hfz5_3 := blk_frozen BK290.out 3))
  refine bodyPost_ret (results_ctt rfl _ _ gb290 24 #[.int .i64 0, .slice none 0 0, .string (⟨#[]⟩ : ByteArray), .bool false] (0, 0) _ rfl (tq14_j BK290.out) Tryd.underlying24 rfl (by kernel_rfl)) rfl ?_
  exact ⟨_, tq14_3, tq14_8, (tq14_9 GE290.out)⟩
 ·rw [if_neg c3] at H
  have c3b0 : decide (t291 < 0) = false := decide_eq_false c3
  clear c3
  by_cases c6 : 0 ≤ t291
  ·rw [if_pos c6] at H
   have c6b0 := eq_true c6
   have c6b1 : decide (0 ≤ t291) = true := decide_eq_true c6
   clear c6
   by_cases c7 : t291 ≤ (a0.size : Int)
   ·rw [if_pos c7] at H
    have c7b0 := eq_true c7
    have c7b1 : decide (t291 ≤ (a0.size : Int)) = true := decide_eq_true c7
    clear c7
    replace H := Option.bind_eq_some_iff.mp H
    obtain ⟨⟨t292, t293, t296, t297, t298⟩, A80, H⟩ := H
    replace H : ((usherref8_mayBe.f k t292 t293 t296 t297).bind fun t300 => ((usherref8_head.f k t292 t293 t296 t297 t298).bind fun t301 => (if t298 < 0 then (usherref8_Read.j0 k a0 t291 t298 true t292 t293 t296 t297) else (if t298 > 1048576 then (usherref8_Read.j0 k a0 t291 t298 true t292 t293 t296 t297) else (if t300 = true then (usherref8_Read.j0 k a0 t291 t298 (t301.toList != (a0.extract 0 (t291 : Int).toNat).toList) t292 t293 t296 t297) else (usherref8_Read.j0 k a0 t291 t298 true t292 t293 t296 t297)))))) = some (r1, r2, r3, r4, r5, r6) := H
    have A8 := Aq14 A80
    clear A80
    replace H := Option.bind_eq_some_iff.mp H
    obtain ⟨t300, A90, H⟩ := H
    replace H : ((usherref8_head.f k t292 t293 t296 t297 t298).bind fun t301 => (if t298 < 0 then (usherref8_Read.j0 k a0 t291 t298 true t292 t293 t296 t297) else (if t298 > 1048576 then (usherref8_Read.j0 k a0 t291 t298 true t292 t293 t296 t297) else (if t300 = true then (usherref8_Read.j0 k a0 t291 t298 (t301.toList != (a0.extract 0 (t291 : Int).toNat).toList) t292 t293 t296 t297) else (usherref8_Read.j0 k a0 t291 t298 true t292 t293 t296 t297))))) = some (r1, r2, r3, r4, r5, r6) := H
    have A9 := Aq14 A90
    clear A90
    replace H := Option.bind_eq_some_iff.mp H
    obtain ⟨t301, A100, H⟩ := H
    replace H : (if t298 < 0 then (usherref8_Read.j0 k a0 t291 t298 true t292 t293 t296 t297) else (if t298 > 1048576 then (usherref8_Read.j0 k a0 t291 t298 true t292 t293 t296 t297) else (if t300 = true then (usherref8_Read.j0 k a0 t291 t298 (t301.toList != (a0.extract 0 (t291 : Int).toNat).toList) t292 t293 t296 t297) else (usherref8_Read.j0 k a0 t291 t298 true t292 t293 t296 t297)))) = some (r1, r2, r3, r4, r5, r6) := H
    have A10 := Aq14 A100
    clear A100
    have HC11 := Aq14 H
    clear H
    go_enter Tryd.func33, Tryd.ntmps33
    go_upto_region 7 with (first | ((with_reducible refine gate_dst (N := 2) rfl ?_); refine box_event ?hg (N := 2) ?hd (cs := #[.int .i64 0, .slice none 0 0, .string (⟨#[]⟩ : ByteArray), .bool false]) (t := 24) ?hr ?_; (case hd => rfl); (case hg => rfl); (case hr => first | (go_simp; done) | (go_simp; rfl)); intro gb290 hg w12 hbox hb; have BK290 := Aq14 (hbox); have GW290 := Aq14 ((by rw [hg]; exact (below_size tq14_6) : w.heap.size ≤ gb290)); have GE290 := Aq14 ((by rw [hg]; exact (below_size tq14_6) : w.heap.size ≤ gb290)); replace HB := Aq14 (below_step tq14_6 hb); clear hb hbox hg) | ((with_reducible refine gate_callee (f := 56) rfl ?_); refine goesL_ (some 11) rfl rfl Tryd.func56 (by kernel_rfl) rfl #[.string a0] rfl tq14_7 ?_; (with_reducible refine (usherref8_headEnd.calls k a0 t291 _ A2.out).mono ?_); rintro e w' ⟨rfl, ⟨nd, rfl⟩⟩; refine ⟨_, rfl, ?_⟩; (try (rw [drewN_self w12]; generalize hq_ : World.drewN w12 _ = w12; have n0_ : Aside0 (w12.heap[gb290]? = some (.cells #[.int .i64 0, .slice none 0 0, .string (⟨#[]⟩ : ByteArray), .bool false] 24 (0, 0))) := ⟨by rw [← hq_]; exact (tq14_5 BK290.out)⟩; have n1_ : Aside0 (Below w.heap.size w w12) := ⟨by rw [← hq_]; exact (tq14_9 GE290.out)⟩; clear BK290 HB hq_; have BK290 := n0_; have HB := n1_; clear n0_ n1_))) | ((with_reducible refine gate_callee (f := 57) rfl ?_); refine goesL_ (some 19) rfl rfl Tryd.func57 (by kernel_rfl) rfl #[.string (a0.extract 0 (t291 : Int).toNat)] rfl tq14_7 ?_; (with_reducible refine (usherref8_found.calls k (a0.extract 0 (t291 : Int).toNat) t292 t293 t296 t297 t298 _ A8.out).mono ?_); rintro e w13 ⟨v294, rfl, ho0, hb⟩; refine ⟨_, rfl, ?_⟩; have HO295 := Aq14 (Kd.R_lower ho0 (below_size (tq14_9 GE290.out))); replace BK290 := Aq14 (blk_below (g := gb290) (o := .cells #[.int .i64 0, .slice none 0 0, .string (⟨#[]⟩ : ByteArray), .bool false] 24 (0, 0)) (tq14_5 BK290.out) hb); replace HB := Aq14 (below_step (tq14_9 GE290.out) hb); (try clear hb); (try clear hb2); (try clear hk); (try clear hi); (try clear ho0)) | ((with_reducible refine gate_dst (N := 6) rfl ?_); refine box_event ?hg (N := 6) ?hd (cs := #[.int .i64 0, .slice none 0 0, .string (⟨#[]⟩ : ByteArray), .bool false]) (t := 24) ?hr ?_; (case hd => rfl); (case hg => rfl); (case hr => first | (go_simp; done) | (go_simp; rfl)); intro gb299 hg w14 hbox hb; replace HO295 := Aq14 (Kd.R_below (tq14_4 HO295.out) hb); have BK299 := Aq14 (hbox); have GW299 := Aq14 ((by rw [hg]; exact (below_size (tq14_9 GE290.out)) : w.heap.size ≤ gb299)); have GE299 := Aq14 ((by rw [hg]; exact (below_size (tq14_9 GE290.out)) : w.heap.size ≤ gb299)); have NB290_299 := Aq14 ((by rw [hg]; exact Nat.ne_of_lt (blk_lt (g := gb290) (o := .cells #[.int .i64 0, .slice none 0 0, .string (⟨#[]⟩ : ByteArray), .bool false] 24 (0, 0)) (tq14_5 BK290.out)) : gb290 ≠ gb299)); have NB299_290 := Aq14 ((by rw [hg]; exact Nat.ne_of_gt (blk_lt (g := gb290) (o := .cells #[.int .i64 0, .slice none 0 0, .string (⟨#[]⟩ : ByteArray), .bool false] 24 (0, 0)) (tq14_5 BK290.out)) : gb299 ≠ gb290)); replace BK290 := Aq14 (blk_below (g := gb290) (o := .cells #[.int .i64 0, .slice none 0 0, .string (⟨#[]⟩ : ByteArray), .bool false] 24 (0, 0)) (tq14_5 BK290.out) hb); replace HB := Aq14 (below_step (tq14_9 GE290.out) hb); clear hb hbox hg; have hnb15 := NB299_290.out; have hnc15 := NB290_299.out; have hcz16_0 : w14.cell? ⟨gb299, 0, none⟩ = some (.int .i64 0) := (blk_cell BK299.out 0).trans rfl; have hcz16_1 : w14.cell? ⟨gb299, 1, none⟩ = some (.slice none 0 0) := (blk_cell BK299.out 1).trans rfl; have hcz16_2 : w14.cell? ⟨gb299, 2, none⟩ = some (.string (⟨#[]⟩ : ByteArray)) := (blk_cell BK299.out 2).trans rfl; have hcz16_3 : w14.cell? ⟨gb299, 3, none⟩ = some (.bool false) := (blk_cell BK299.out 3).trans rfl; have hfz16_0 := blk_frozen BK299.out 0; have hfz16_1 := blk_frozen BK299.out 1; have hfz16_2 := blk_frozen BK299.out 2; have hfz16_3 := blk_frozen BK299.out 3; obtain ⟨Ao17, co17, eo17⟩ := Kd.R_slice HO295.out; subst eo17) | ((with_reducible refine gate_callee (f := 42) rfl ?_); refine goesL_ (some 23) rfl rfl Tryd.func42 (by kernel_rfl) rfl #[.agg #[.int .i64 t292, .slice Ao17 t293.length co17, .string t296, .bool t297]] rfl tq14_7 ?_; (with_reducible refine (usherref8_mayBe.calls k t292 _ _ t293 t296 t297 t300 _ ?side1 ?side2 A9.out).mono ?_); (case side1 => refine (Kd.R_reads' (e := 26) (base := w.heap.size) (ok := fun k_ => True) (n := t293.length) (c := co17) ?_).2.2; exact (tq14_c HO295.out BK299.out)); (case side2 => exact (Kd.R_reads' HO295.out).2.1); rintro e w18 ⟨rfl, hb⟩; refine ⟨_, rfl, ?_⟩; replace HO295 := Aq14 (Kd.R_below (tq14_c HO295.out BK299.out) hb); replace BK290 := Aq14 (blk_below (g := gb290) (o := .cells #[.int .i64 0, .slice none 0 0, .string (⟨#[]⟩ : ByteArray), .bool false] 24 (0, 0)) (tq14_b NB290_299.out BK290.out) hb); replace BK299 := Aq14 (blk_below (g := gb299) (o := .cells #[.int .i64 t292, .slice Ao17 t293.length co17, .string t296, .bool t297] 24 (0, 0)) (by (with_reducible repeat (first | refine blk_drewN ?_ _ | refine blk_drew ?_ | refine blk_alloc ?_ _)); refine blk_put (cs := #[.int .i64 t292, .slice Ao17 t293.length co17, .string t296, .bool false]) ?_ 3 _ rfl; (with_reducible repeat (first | refine blk_drewN ?_ _ | refine blk_drew ?_ | refine blk_alloc ?_ _)); refine blk_put (cs := #[.int .i64 t292, .slice Ao17 t293.length co17, .string (⟨#[]⟩ : ByteArray), .bool false]) ?_ 2 _ rfl; (with_reducible repeat (first | refine blk_drewN ?_ _ | refine blk_drew ?_ | refine blk_alloc ?_ _)); refine blk_put (cs := #[.int .i64 t292, .slice none 0 0, .string (⟨#[]⟩ : ByteArray), .bool false]) ?_ 1 _ rfl; (with_reducible repeat (first | refine blk_drewN ?_ _ | refine blk_drew ?_ | refine blk_alloc ?_ _)); refine blk_put (cs := #[.int .i64 0, .slice none 0 0, .string (⟨#[]⟩ : ByteArray), .bool false]) ?_ 0 _ rfl; (with_reducible repeat (first | refine blk_drewN ?_ _ | refine blk_drew ?_ | refine blk_alloc ?_ _)); exact BK299.out) hb); replace HB := Aq14 (below_step (tq14_a GE290.out GE299.out) hb); (try clear hb); (try clear hb2); (try clear hk); (try clear hi); have hcz19_0 : w18.cell? ⟨gb299, 0, none⟩ = some (.int .i64 t292) := (blk_cell BK299.out 0).trans rfl; have hcz19_1 : w18.cell? ⟨gb299, 1, none⟩ = some (.slice Ao17 t293.length co17) := (blk_cell BK299.out 1).trans rfl; have hcz19_2 : w18.cell? ⟨gb299, 2, none⟩ = some (.string t296) := (blk_cell BK299.out 2).trans rfl; have hcz19_3 : w18.cell? ⟨gb299, 3, none⟩ = some (.bool t297) := (blk_cell BK299.out 3).trans rfl; have hfz19_0 := blk_frozen BK299.out 0; have hfz19_1 := blk_frozen BK299.out 1; have hfz19_2 := blk_frozen BK299.out 2; have hfz19_3 := blk_frozen BK299.out 3) | ((with_reducible refine gate_callee (f := 43) rfl ?_); refine goesL_ (some 26) rfl rfl Tryd.func43 (by kernel_rfl) rfl #[.agg #[.int .i64 t292, .slice Ao17 t293.length co17, .string t296, .bool t297], .int .i64 t298] rfl tq14_7 ?_; (with_reducible refine (usherref8_head.calls k t292 _ _ t293 t296 t297 t298 t301 _ ?side1 ?side2 A10.out ?side3).mono ?_); (case side1 => repeat (first | exact (Kd.R_reads' HO295.out).2.2 | (with_reducible refine Kd.C_alloc ?_ _) | (with_reducible refine Kd.C_drewN ?_ _) | (with_reducible refine Kd.C_drew ?_))); (case side2 => exact (Kd.R_reads' HO295.out).2.1); (case side3 => exact HG.out.step (tq14_a GE290.out GE299.out) rfl); rintro e w20 ⟨rfl, hb⟩; refine ⟨_, rfl, ?_⟩; replace HO295 := Aq14 (Kd.R_below (tq14_4 HO295.out) hb); replace BK290 := Aq14 (blk_below (g := gb290) (o := .cells #[.int .i64 0, .slice none 0 0, .string (⟨#[]⟩ : ByteArray), .bool false] 24 (0, 0)) (tq14_5 BK290.out) hb); replace BK299 := Aq14 (blk_below (g := gb299) (o := .cells #[.int .i64 t292, .slice Ao17 t293.length co17, .string t296, .bool t297] 24 (0, 0)) (tq14_5 BK299.out) hb); replace HB := Aq14 (below_step (tq14_a GE290.out GE299.out) hb); (try clear hb); (try clear hb2); (try clear hk); (try clear hi)))
    (try simp only [Act.put, List.setIfInBounds_toArray, List.set_cons_zero, List.set_cons_succ])
    go_cut [43] (fun v43 wc => ∃ (kq : Nat) (x43_10 : Bool), v43 = .bool x43_10 ∧ Aside0 (usherref8_Read.j0 kq a0 t291 t298 x43_10 t292 t293 t296 t297 = some (r1, r2, r3, r4, r5, r6)) ∧ Aside0 (kq ≤ k) ∧ Aside0 (Kd.R k26 26 wc w.heap.size (fun _ => True) (.slice Ao17 t293.length co17) t293) ∧ Aside0 (wc.heap[gb290]? = some (.cells #[.int .i64 0, (.slice none 0 0), .string (⟨#[]⟩ : ByteArray), .bool false] 24 (0, 0))) ∧ Aside0 (wc.heap[gb299]? = some (.cells #[.int .i64 t292, (.slice Ao17 t293.length co17), .string t296, .bool t297] 24 (0, 0))) ∧ Aside0 (Below w.heap.size w wc))
    case first =>
     have H := HC11.out
     clear HC11
     by_cases c21 : t298 < 0
     ·rw [if_pos c21] at H
      have c21b0 : decide (t298 < 0) = true := decide_eq_true c21
      clear c21
      (first | rw [c21b0] | (simp only [i64_w, i32_w]; rw [c21b0]) | skip)
      have H' := Aq14 H
      clear H
      go_wp2
      go_meet
      case rel => exact ⟨_, (true), tq14_1, H', ⟨tq14_0⟩, ⟨(tq14_4 HO295.out)⟩, ⟨(tq14_5 BK290.out)⟩, ⟨(tq14_5 BK299.out)⟩, ⟨(tq14_a GE290.out GE299.out)⟩⟩
     ·rw [if_neg c21] at H
      have c21b0 : decide (t298 < 0) = false := decide_eq_false c21
      clear c21
      (first | rw [c21b0] | (simp only [i64_w, i32_w]; rw [c21b0]) | skip)
      by_cases c22 : t298 > 1048576
      ·rw [if_pos c22] at H
       have c22b0 : decide (1048576 < t298) = true := decide_eq_true c22
       clear c22
       have H' := Aq14 H
       clear H
       go_wp2
       go_meet
       case rel => exact ⟨_, (true), tq14_1, H', ⟨tq14_0⟩, ⟨(tq14_4 HO295.out)⟩, ⟨(tq14_5 BK290.out)⟩, ⟨(tq14_5 BK299.out)⟩, ⟨(tq14_a GE290.out GE299.out)⟩⟩
      ·rw [if_neg c22] at H
       have c22b0 : decide (1048576 < t298) = false := decide_eq_false c22
       clear c22
       by_cases c23 : t300 = true
       ·subst c23
        have H1 : (usherref8_Read.j0 k a0 t291 t298 (t301.toList != (a0.extract 0 (t291 : Int).toNat).toList) t292 t293 t296 t297) = some (r1, r2, r3, r4, r5, r6) := by rw [if_pos rfl] at H; exact H
        clear H
        have H := H1
        clear H1
        have c24b0 := eq_true (of_decide_eq_true (by first | (with_reducible assumption) | assumption) : 0 ≤ t291)
        have c25b0 := eq_true (of_decide_eq_true (by first | (with_reducible assumption) | assumption) : t291 ≤ (a0.size : Int))
        have H' := Aq14 H
        clear H
        go_wp2
        go_meet
        case rel => exact ⟨_, ((t301.toList != (a0.extract 0 (t291 : Int).toNat).toList)), tq14_1, H', ⟨tq14_0⟩, ⟨(tq14_4 HO295.out)⟩, ⟨(tq14_5 BK290.out)⟩, ⟨(tq14_5 BK299.out)⟩, ⟨(tq14_a GE290.out GE299.out)⟩⟩
       ·replace c23 := Bool.eq_false_iff.mpr c23
        subst c23
        have H1 : (usherref8_Read.j0 k a0 t291 t298 true t292 t293 t296 t297) = some (r1, r2, r3, r4, r5, r6) := by rw [if_neg (show ¬ (false = true) by decide)] at H; exact H
        clear H
        have H := H1
        clear H1
        have H' := Aq14 H
        clear H
        go_wp2
        go_meet
        case rel => exact ⟨_, (true), tq14_1, H', ⟨tq14_0⟩, ⟨(tq14_4 HO295.out)⟩, ⟨(tq14_5 BK290.out)⟩, ⟨(tq14_5 BK299.out)⟩, ⟨(tq14_a GE290.out GE299.out)⟩⟩
    case rest =>
     clear HC11
     try clear c1
     try clear c2
     try clear p2
     try clear c3
     try clear c3b0
     try clear c4
     try clear c5
     try clear c6
     try clear c6b0
     try clear c6b1
     try clear c7
     try clear c7b0
     try clear c7b1
     try clear c15
     try clear c21
     try clear c21b0
     try clear c22
     try clear c22b0
     try clear c23
     try clear c24
     try clear c24b0
     try clear c25
     try clear c25b0
     try clear hcz16_0
     try clear hcz16_1
     try clear hcz16_2
     try clear hcz16_3
     try clear hcz19_0
     try clear hcz19_1
     try clear hcz19_2
     try clear hcz19_3
     try clear hcz5_0
     try clear hcz5_1
     try clear hcz5_2
     try clear hcz5_3
     try clear hfz16_0
     try clear hfz16_1
     try clear hfz16_2
     try clear hfz16_3
     try clear hfz19_0
     try clear hfz19_1
     try clear hfz19_2
     try clear hfz19_3
     try clear hfz5_0
     try clear hfz5_1
     try clear hfz5_2
     try clear hfz5_3
     obtain ⟨kq, x43_10, rfl, HA, HJ10, HO_300001, BK290, BK299, HB⟩ := hcut
     cases kq with
     | zero => exact absurd HA.out (by simp [usherref8_Read.j0])
     | succ kj10 =>
      have H := HA.out
      clear HA
      simp only [usherref8_Read.j0] at H
      by_cases c26 : x43_10 = true
      ·subst c26
       have H1 : (some (0, ([] : List (S26)), (⟨#[]⟩ : ByteArray), false, 0, 2)) = some (r1, r2, r3, r4, r5, r6) := by rw [if_pos rfl] at H; exact H
       clear H
       have H := H1
       clear H1
       simp only [Option.some.injEq, Prod.mk.injEq] at H
       obtain ⟨rfl, rfl, rfl, rfl, rfl, rfl⟩ := H
       have hnb27 := NB290_299.out
       have hnc27 := NB299_290.out
       have hcz28_0 : wc.cell? ⟨gb290, 0, none⟩ = some (.int .i64 0) := (blk_cell BK290.out 0).trans rfl
       have hcz28_1 : wc.cell? ⟨gb290, 1, none⟩ = some (.slice none 0 0) := (blk_cell BK290.out 1).trans rfl
       have hcz28_2 : wc.cell? ⟨gb290, 2, none⟩ = some (.string (⟨#[]⟩ : ByteArray)) := (blk_cell BK290.out 2).trans rfl
       have hcz28_3 : wc.cell? ⟨gb290, 3, none⟩ = some (.bool false) := (blk_cell BK290.out 3).trans rfl
       have hfz28_0 := blk_frozen BK290.out 0
       have hfz28_1 := blk_frozen BK290.out 1
       have hfz28_2 := blk_frozen BK290.out 2
       have hfz28_3 := blk_frozen BK290.out 3
       go_wp2
       refine bodyPost_ret (results_ctt rfl _ _ gb290 24 #[.int .i64 0, .slice none 0 0, .string (⟨#[]⟩ : ByteArray), .bool false] (0, 0) _ rfl (tq14_j BK290.out) Tryd.underlying24 rfl (by kernel_rfl)) rfl ?_
       exact ⟨_, tq14_3, tq14_8, (tq14_a GE290.out GE299.out)⟩
      ·replace c26 := Bool.eq_false_iff.mpr c26
       subst c26
       have H1 : (if (wrap64 ((a0.size : Int) - t291)) < t298 then (some (0, ([] : List (S26)), (⟨#[]⟩ : ByteArray), false, 0, 6)) else (if 0 ≤ t291 then (if t291 ≤ (wrap64 (t291 + t298)) then (if (wrap64 (t291 + t298)) ≤ (a0.size : Int) then (some (t292, t293, a0.extract (t291 : Int).toNat ((wrap64 (t291 + t298)) : Int).toNat, t297, wrap64 (t291 + t298), 0)) else (none)) else (none)) else (none))) = some (r1, r2, r3, r4, r5, r6) := by rw [if_neg (show ¬ (false = true) by decide)] at H; exact H
       clear H
       have H := H1
       clear H1
       by_cases c29 : (wrap64 ((a0.size : Int) - t291)) < t298
       ·rw [if_pos c29] at H
        have c29b0 : decide ((wrap64 ((a0.size : Int) - t291)) < t298) = true := decide_eq_true c29
        clear c29
        simp only [Option.some.injEq, Prod.mk.injEq] at H
        obtain ⟨rfl, rfl, rfl, rfl, rfl, rfl⟩ := H
        have hnb30 := NB290_299.out
        have hnc30 := NB299_290.out
        have hcz31_0 : wc.cell? ⟨gb290, 0, none⟩ = some (.int .i64 0) := (blk_cell BK290.out 0).trans rfl
        have hcz31_1 : wc.cell? ⟨gb290, 1, none⟩ = some (.slice none 0 0) := (blk_cell BK290.out 1).trans rfl
        have hcz31_2 : wc.cell? ⟨gb290, 2, none⟩ = some (.string (⟨#[]⟩ : ByteArray)) := (blk_cell BK290.out 2).trans rfl
        have hcz31_3 : wc.cell? ⟨gb290, 3, none⟩ = some (.bool false) := (blk_cell BK290.out 3).trans rfl
        have hfz31_0 := blk_frozen BK290.out 0
        have hfz31_1 := blk_frozen BK290.out 1
        have hfz31_2 := blk_frozen BK290.out 2
        have hfz31_3 := blk_frozen BK290.out 3
        go_wp2
        refine bodyPost_ret (results_ctt rfl _ _ gb290 24 #[.int .i64 0, .slice none 0 0, .string (⟨#[]⟩ : ByteArray), .bool false] (0, 0) _ rfl (tq14_j BK290.out) Tryd.underlying24 rfl (by kernel_rfl)) rfl ?_
        exact ⟨_, tq14_3, tq14_8, (tq14_a GE290.out GE299.out)⟩
       ·rw [if_neg c29] at H
        have c29b0 : decide ((wrap64 ((a0.size : Int) - t291)) < t298) = false := decide_eq_false c29
        clear c29
        by_cases c32 : 0 ≤ t291
        ·rw [if_pos c32] at H
         have c32b0 := eq_true c32
         have c32b1 : decide (0 ≤ t291) = true := decide_eq_true c32
         clear c32
         by_cases c33 : t291 ≤ (wrap64 (t291 + t298))
         ·rw [if_pos c33] at H
          have c33b0 := eq_true c33
          have c33b1 : decide (t291 ≤ (wrap64 (t291 + t298))) = true := decide_eq_true c33
          clear c33
          by_cases c34 : (wrap64 (t291 + t298)) ≤ (a0.size : Int)
          ·rw [if_pos c34] at H
           have c34b0 := eq_true c34
           have c34b1 : decide ((wrap64 (t291 + t298)) ≤ (a0.size : Int)) = true := decide_eq_true c34
           clear c34
           simp only [Option.some.injEq, Prod.mk.injEq] at H
           obtain ⟨rfl, rfl, rfl, rfl, rfl, rfl⟩ := H
           have hnb35 := NB299_290.out
           have hnc35 := NB290_299.out
           have hcz36_0 : wc.cell? ⟨gb299, 0, none⟩ = some (.int .i64 t292) := (blk_cell BK299.out 0).trans rfl
           have hcz36_1 : wc.cell? ⟨gb299, 1, none⟩ = some (.slice Ao17 t293.length co17) := (blk_cell BK299.out 1).trans rfl
           have hcz36_2 : wc.cell? ⟨gb299, 2, none⟩ = some (.string t296) := (blk_cell BK299.out 2).trans rfl
           have hcz36_3 : wc.cell? ⟨gb299, 3, none⟩ = some (.bool t297) := (blk_cell BK299.out 3).trans rfl
           have hfz36_0 := blk_frozen BK299.out 0
           have hfz36_1 := blk_frozen BK299.out 1
           have hfz36_2 := blk_frozen BK299.out 2
           have hfz36_3 := blk_frozen BK299.out 3
           have hcz37_0 : wc.cell? ⟨gb290, 0, none⟩ = some (.int .i64 0) := (blk_cell BK290.out 0).trans rfl
           have hcz37_1 : wc.cell? ⟨gb290, 1, none⟩ = some (.slice none 0 0) := (blk_cell BK290.out 1).trans rfl
           have hcz37_2 : wc.cell? ⟨gb290, 2, none⟩ = some (.string (⟨#[]⟩ : ByteArray)) := (blk_cell BK290.out 2).trans rfl
           have hcz37_3 : wc.cell? ⟨gb290, 3, none⟩ = some (.bool false) := (blk_cell BK290.out 3).trans rfl
           have hfz37_0 := blk_frozen BK290.out 0
           have hfz37_1 := blk_frozen BK290.out 1
           have hfz37_2 := blk_frozen BK290.out 2
           have hfz37_3 := blk_frozen BK290.out 3
           go_wp2
           refine bodyPost_ret (results_ctt rfl _ _ gb290 24 #[.int .i64 t292, .slice Ao17 t293.length co17, .string (a0.extract (t291 : Int).toNat ((wrap64 (t291 + t298)) : Int).toNat), .bool t297] (0, 0) _ rfl (by (with_reducible repeat (first | refine blk_drewN ?_ _ | refine blk_drew ?_ | refine blk_alloc ?_ _)); refine blk_put (cs := #[.int .i64 t292, .slice Ao17 t293.length co17, .string (a0.extract (t291 : Int).toNat ((wrap64 (t291 + t298)) : Int).toNat), .bool false]) ?_ 3 _ rfl; (with_reducible repeat (first | refine blk_drewN ?_ _ | refine blk_drew ?_ | refine blk_alloc ?_ _)); refine blk_put (cs := #[.int .i64 t292, .slice Ao17 t293.length co17, .string (⟨#[]⟩ : ByteArray), .bool false]) ?_ 2 _ rfl; (with_reducible repeat (first | refine blk_drewN ?_ _ | refine blk_drew ?_ | refine blk_alloc ?_ _)); refine blk_put (cs := #[.int .i64 t292, .slice none 0 0, .string (⟨#[]⟩ : ByteArray), .bool false]) ?_ 1 _ rfl; (with_reducible repeat (first | refine blk_drewN ?_ _ | refine blk_drew ?_ | refine blk_alloc ?_ _)); refine blk_put (cs := #[.int .i64 0, .slice none 0 0, .string (⟨#[]⟩ : ByteArray), .bool false]) ?_ 0 _ rfl; (with_reducible repeat (first | refine blk_drewN ?_ _ | refine blk_drew ?_ | refine blk_alloc ?_ _)); refine blk_far ?_ NB290_299.out _; (with_reducible repeat (first | refine blk_drewN ?_ _ | refine blk_drew ?_ | refine blk_alloc ?_ _)); exact BK290.out) Tryd.underlying24 rfl (by kernel_rfl)) rfl ?_
           exact ⟨_, tq14_3, by (with_reducible repeat (first | apply Kd.R_alloc | apply Kd.R_drewN | apply Kd.R_drew)); exact Kd.R_mono (Kd.R_far (p := ⟨gb290, 3, none⟩) (Kd.R_far (p := ⟨gb290, 2, none⟩) (Kd.R_far (p := ⟨gb290, 1, none⟩) (Kd.R_far (p := ⟨gb290, 0, none⟩) (Kd.R_far (p := ⟨gb299, 2, none⟩) (Kd.R_types (Kd.R_types HO_300001.out BK299.out (by decide)) BK290.out (by decide)) (fun _ hk => hk.1.2) (.string (a0.extract (t291 : Int).toNat ((wrap64 (t291 + t298)) : Int).toNat))) (fun _ hk => hk.2) (.int .i64 t292)) (fun _ hk => hk.2) (.slice Ao17 t293.length co17)) (fun _ hk => hk.2) (.string (a0.extract (t291 : Int).toNat ((wrap64 (t291 + t298)) : Int).toNat))) (fun _ hk => hk.2) (.bool t297)) (fun _ hk => trivial), (tq14_a GE290.out GE299.out)⟩
          ·rw [if_neg c34] at H
           exact absurd H (by simp)
         ·rw [if_neg c33] at H
          exact absurd H (by simp)
        ·rw [if_neg c32] at H
         exact absurd H (by simp)
   ·rw [if_neg c7] at H
    exact absurd H (by simp)
  ·rw [if_neg c6] at H
   exact absurd H (by simp)

/-! ### usherkit_Pick: function 34 -/
def usherkit_Pick.f (a0 : Int) (a1 : Int) : Option (Int) := if a1 < 1 then (some 0) else (if a1 = 0 then (none) else (if (Int.tmod a0 a1) < 0 then (some (wrap64 ((Int.tmod a0 a1) + a1))) else (some (Int.tmod a0 a1))))
set_option maxHeartbeats 8000000 in
set_option maxRecDepth 100000 in
theorem usherkit_Pick.calls (a0 : Int) (a1 : Int) (r : Int) (w : World) (h : usherkit_Pick.f a0 a1 = some r) :
  Calls Tryd.prog 34 #[.int .i64 a0, .int .i64 a1] w fun e w' => e = .returned (.int .i64 r) ∧ Drawn0 w w' := by
 have H : (if a1 < 1 then (some 0) else (if a1 = 0 then (none) else (if (Int.tmod a0 a1) < 0 then (some (wrap64 ((Int.tmod a0 a1) + a1))) else (some (Int.tmod a0 a1))))) = some r := h
 clear h
 by_cases c3 : a1 < 1
 ·rw [if_pos c3] at H
  have c3b0 : decide (a1 < 1) = true := decide_eq_true c3
  clear c3
  obtain rfl := Option.some.inj H
  go_enter Tryd.func34, Tryd.ntmps34
  go_wp2
  go_ret
  exact ⟨tq14_1, tq14_2⟩
 ·rw [if_neg c3] at H
  have c3b0 : decide (a1 < 1) = false := decide_eq_false c3
  clear c3
  by_cases c4 : a1 = 0
  ·rw [if_pos c4] at H
   exact absurd H (by simp)
  ·rw [if_neg c4] at H
   have c4b0 : (a1 == 0) = false := beq_eq_false_iff_ne.mpr c4
   have c4b1 : (a1 != 0) = true := bne_iff_ne.mpr c4
   by_cases c5 : (Int.tmod a0 a1) < 0
   ·rw [if_pos c5] at H
    have c5b0 : decide ((Int.tmod a0 a1) < 0) = true := decide_eq_true c5
    clear c5
    obtain rfl := Option.some.inj H
    go_enter Tryd.func34, Tryd.ntmps34
    go_wp2
    go_ret
    exact ⟨tq14_1, tq14_2⟩
   ·rw [if_neg c5] at H
    have c5b0 : decide ((Int.tmod a0 a1) < 0) = false := decide_eq_false c5
    clear c5
    obtain rfl := Option.some.inj H
    go_enter Tryd.func34, Tryd.ntmps34
    go_wp2
    go_ret
    exact ⟨tq14_1, tq14_2⟩

end Go.Proofs.YtdlfdmbaejhaaaaDoor.Q
