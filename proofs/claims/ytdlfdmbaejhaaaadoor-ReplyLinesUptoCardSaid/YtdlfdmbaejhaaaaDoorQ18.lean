/- The plain Lean functions that calls of the program answer, and proofs that they do. Printed by program out of the translation; Lean checks it. -/
import Derived.Test.YtdlfdmbaejhaaaaDoorQ0
import Derived.Test.YtdlfdmbaejhaaaaDoorQ5
import Derived.Test.YtdlfdmbaejhaaaaDoorQ16
import Derived.Test.YtdlfdmbaejhaaaaDoorQ17
import Derived.Test.YtdlfdmbaejhaaaaDoorNum
namespace Go.Proofs.YtdlfdmbaejhaaaaDoor.Q
open Go.RowKit Go.Proofs.YtdlfdmbaejhaaaaDoorW.PrintWords Go.Proofs.YtdlfdmbaejhaaaaDoorW.PrintLast Go.Proofs.YtdlfdmbaejhaaaaDoorW.PrintMore
attribute [local go_sem] max2_int min2_int max_two min_two max_three min_three max_four min_four   -- for this text's walks alone
set_option linter.unusedVariables false
set_option linter.unusedSimpArgs false

theorem Aq18 {p : Prop} (h : p) : Aside0 p := ⟨h⟩
theorem tq18_0 {P : Prop} (h : P := by first | rfl | (simp [errW_none, errW_some] <;> rfl) | (simp [*, errW_none, errW_some] <;> rfl)) : P := h
theorem tq18_1 {P Q0 : Prop} (y0 : Q0) (h : Q0 → P := by intro y0_; (with_reducible repeat (first | refine blk_drewN ?_ _ | refine blk_drew ?_ | refine blk_alloc ?_ _)); exact y0_) : P := h y0
theorem tq18_2 {P Q0 : Prop} (y0 : Q0) (h : Q0 → P := by intro y0_; rw [← hq_]; exact (tq18_1 y0_)) : P := h y0
theorem tq18_3 {P : Prop} (h : P := by repeat (first | (with_reducible first | exact HB.out | apply below_alloc | apply pw_below_drewN | apply below_drew1) | exact HB.out)) : P := h
theorem tq18_4 {P : Prop} (h : P := by (try simp only [List.map_toArray, List.map_cons, List.map_nil]); first | done | rfl | (simp only [List.length_drop, List.length_take]; rfl)) : P := h
theorem tq18_5 {P Q0 : Prop} (y0 : Q0) (h : Q0 → P := by intro y0_; repeat (first | (with_reducible first | exact HB.out | apply below_alloc | apply pw_below_drewN | apply below_drew1 | refine below_set ?_ y0_) | exact HB.out)) : P := h y0
theorem tq18_6 {P Q0 Q1 : Prop} (y0 : Q0) (y1 : Q1) (h : Q0 → Q1 → P := by intro y0_ y1_; repeat (first | (with_reducible first | exact HB.out | apply below_alloc | apply pw_below_drewN | apply below_drew1 | refine below_set ?_ y0_ | refine below_set ?_ y1_) | exact HB.out)) : P := h y0 y1
theorem tq18_7 {P Q0 Q1 : Prop} (y0 : Q0) (y1 : Q1) (h : Q0 → Q1 → P := by intro y0_ y1_; rw [← hq_]; exact (tq18_6 y0_ y1_)) : P := h y0 y1
theorem tq18_8 {P Q0 Q1 : Prop} (y0 : Q0) (y1 : Q1) (h : Q0 → Q1 → P := by intro y0_ y1_; (with_reducible repeat (first | refine blk_drewN ?_ _ | refine blk_drew ?_ | refine blk_alloc ?_ _)); refine blk_far ?_ y0_ _; (with_reducible repeat (first | refine blk_drewN ?_ _ | refine blk_drew ?_ | refine blk_alloc ?_ _)); exact y1_) : P := h y0 y1
theorem tq18_9 {P Q0 Q1 : Prop} (y0 : Q0) (y1 : Q1) (h : Q0 → Q1 → P := by intro y0_ y1_; (iterate 4 ((with_reducible repeat (first | refine blk_drewN ?_ _ | refine blk_drew ?_ | refine blk_alloc ?_ _)); refine blk_far ?_ y0_ _)); (with_reducible repeat (first | refine blk_drewN ?_ _ | refine blk_drew ?_ | refine blk_alloc ?_ _)); exact y1_) : P := h y0 y1
theorem tq18_a {P Q0 : Prop} (y0 : Q0) (h : Q0 → P := by intro y0_; (with_reducible repeat (first | refine blk_drewN ?_ _ | refine blk_drew ?_ | refine blk_alloc ?_ _)); refine blk_put (cs := #[.int .i64 a0_0, .slice A0_1 l0_1.length c0_1, .string a0_2, .bool a0_3]) ?_ 2 _ rfl; (with_reducible repeat (first | refine blk_drewN ?_ _ | refine blk_drew ?_ | refine blk_alloc ?_ _)); exact y0_) : P := h y0
theorem tq18_b {P Q0 : Prop} (y0 : Q0) (h : Q0 → P := by intro y0_; (with_reducible repeat (first | refine blk_drewN ?_ _ | refine blk_drew ?_ | refine blk_alloc ?_ _)); refine blk_put (cs := #[.int .i64 a0_0, .slice A0_1 l0_1.length c0_1, .string a0_2, .bool false]) ?_ 3 _ rfl; (with_reducible repeat (first | refine blk_drewN ?_ _ | refine blk_drew ?_ | refine blk_alloc ?_ _)); refine blk_put (cs := #[.int .i64 a0_0, .slice A0_1 l0_1.length c0_1, .string (⟨#[]⟩ : ByteArray), .bool false]) ?_ 2 _ rfl; (with_reducible repeat (first | refine blk_drewN ?_ _ | refine blk_drew ?_ | refine blk_alloc ?_ _)); refine blk_put (cs := #[.int .i64 a0_0, .slice none 0 0, .string (⟨#[]⟩ : ByteArray), .bool false]) ?_ 1 _ rfl; (with_reducible repeat (first | refine blk_drewN ?_ _ | refine blk_drew ?_ | refine blk_alloc ?_ _)); refine blk_put (cs := #[.int .i64 0, .slice none 0 0, .string (⟨#[]⟩ : ByteArray), .bool false]) ?_ 0 _ rfl; (with_reducible repeat (first | refine blk_drewN ?_ _ | refine blk_drew ?_ | refine blk_alloc ?_ _)); exact y0_) : P := h y0
/-! ### usherlaw8_ReplyLines: function 4 -/
def usherlaw8_ReplyLines.f (k : Nat) (a0_0 : Int) (l0_1 : List (S26)) (a0_2 : ByteArray) (a0_3 : Bool) : Option (Bool) := (usherkit_Head.f a0_2 1048576).bind fun t388 => ((reply_Render.f k a0_0 l0_1 t388 a0_3 true).bind fun bt389 => (if (l0_1.length : Int) > 64 then (if bt389.1.toList = ([] : List UInt8) then ((usherkit_Num.f bt389.2).bind fun t391 => (some (t391 == 3))) else (some false)) else ((usherlaw8_mayBe.f k a0_0 l0_1 t388 a0_3).bind fun t392 => (if t392 = true then ((usherlaw8_lineEnds.f k bt389.1).bind fun bt393 => (if bt389.2.isNone = true then (if bt393.1 = (wrap64 ((l0_1.length : Int) + 4)) then (some (bt393.2 == bt393.1)) else (some false)) else (some false))) else (if bt389.1.toList = ([] : List UInt8) then ((usherkit_Num.f bt389.2).bind fun t396 => (some (t396 == 1))) else (some false))))))
theorem usherlaw8_ReplyLines.mono : ∀ a0 a1 a2 a3 k, LeO (usherlaw8_ReplyLines.f k a0 a1 a2 a3) (usherlaw8_ReplyLines.f (k + 1) a0 a1 a2 a3) := by
 intro a0 a1 a2 a3 k
 unfold usherlaw8_ReplyLines.f
 repeat' first
   | (with_reducible exact reply_Render.mono _ _ _ _ _ _)
   | (with_reducible exact usherlaw8_lineEnds.mono _ _)
   | (with_reducible exact usherlaw8_mayBe.mono _ _ _ _ _)
   | (with_reducible exact LeO.refl _)
   | (with_reducible exact LeO.none _)
   | (with_reducible refine LeO.ite ?_ ?_)
   | (with_reducible refine LeO.bind ?_ (fun _ => ?_))
   | exact reply_Render.mono _ _ _ _ _ _
   | exact usherlaw8_lineEnds.mono _ _
   | exact usherlaw8_mayBe.mono _ _ _ _ _
   | exact LeO.none _
   | refine LeO.ite ?_ ?_
   | refine LeO.bind ?_ (fun _ => ?_)
set_option maxHeartbeats 8000000 in
set_option maxRecDepth 100000 in
theorem usherlaw8_ReplyLines.calls [Sent] (k : Nat) (a0_0 : Int) (A0_1 : Option Addr) (c0_1 : Nat) (l0_1 : List (S26)) (a0_2 : ByteArray) (a0_3 : Bool) (r : Bool) (w : World) (hr0_1 : Kd.C k26 w A0_1 l0_1.length l0_1) (hc0_1 : l0_1.length ≤ c0_1) (h : usherlaw8_ReplyLines.f k a0_0 l0_1 a0_2 a0_3 = some r) (hG : Glob [0, 1, 2, 3, 4, 5, 6, 7, 8, 9, 10, 11, 12, 13, 14, 15, 16, 19, 999] w) :
  Calls Tryd.prog 4 #[.agg #[.int .i64 a0_0, .slice A0_1 l0_1.length c0_1, .string a0_2, .bool a0_3]] w fun e w' => e = .returned (.bool r) ∧ Below w.heap.size w w' := by
 have HG := Aq18 hG
 clear hG
 have hu24 := Tryd.underlying24
 have hu28 := Tryd.underlying28
 have hu143 := Tryd.underlying143
 have HR0_1 := Aq18 hr0_1
 have HC0_1 := Aq18 hc0_1
 clear hr0_1 hc0_1
 have HB := Aq18 (Below.refl w.heap.size w)
 have H : ((usherkit_Head.f a0_2 1048576).bind fun t388 => ((reply_Render.f k a0_0 l0_1 t388 a0_3 true).bind fun bt389 => (if (l0_1.length : Int) > 64 then (if bt389.1.toList = ([] : List UInt8) then ((usherkit_Num.f bt389.2).bind fun t391 => (some (t391 == 3))) else (some false)) else ((usherlaw8_mayBe.f k a0_0 l0_1 t388 a0_3).bind fun t392 => (if t392 = true then ((usherlaw8_lineEnds.f k bt389.1).bind fun bt393 => (if bt389.2.isNone = true then (if bt393.1 = (wrap64 ((l0_1.length : Int) + 4)) then (some (bt393.2 == bt393.1)) else (some false)) else (some false))) else (if bt389.1.toList = ([] : List UInt8) then ((usherkit_Num.f bt389.2).bind fun t396 => (some (t396 == 1))) else (some false))))))) = some r := h
 clear h
 replace H := Option.bind_eq_some_iff.mp H
 obtain ⟨t388, A20, H⟩ := H
 replace H : ((reply_Render.f k a0_0 l0_1 t388 a0_3 true).bind fun bt389 => (if (l0_1.length : Int) > 64 then (if bt389.1.toList = ([] : List UInt8) then ((usherkit_Num.f bt389.2).bind fun t391 => (some (t391 == 3))) else (some false)) else ((usherlaw8_mayBe.f k a0_0 l0_1 t388 a0_3).bind fun t392 => (if t392 = true then ((usherlaw8_lineEnds.f k bt389.1).bind fun bt393 => (if bt389.2.isNone = true then (if bt393.1 = (wrap64 ((l0_1.length : Int) + 4)) then (some (bt393.2 == bt393.1)) else (some false)) else (some false))) else (if bt389.1.toList = ([] : List UInt8) then ((usherkit_Num.f bt389.2).bind fun t396 => (some (t396 == 1))) else (some false)))))) = some r := H
 have A2 := Aq18 A20
 clear A20
 replace H := Option.bind_eq_some_iff.mp H
 obtain ⟨⟨t389, t390⟩, A30, H⟩ := H
 replace H : (if (l0_1.length : Int) > 64 then (if t389.toList = ([] : List UInt8) then ((usherkit_Num.f t390).bind fun t391 => (some (t391 == 3))) else (some false)) else ((usherlaw8_mayBe.f k a0_0 l0_1 t388 a0_3).bind fun t392 => (if t392 = true then ((usherlaw8_lineEnds.f k t389).bind fun bt393 => (if t390.isNone = true then (if bt393.1 = (wrap64 ((l0_1.length : Int) + 4)) then (some (bt393.2 == bt393.1)) else (some false)) else (some false))) else (if t389.toList = ([] : List UInt8) then ((usherkit_Num.f t390).bind fun t396 => (some (t396 == 1))) else (some false))))) = some r := H
 have A3 := Aq18 A30
 clear A30
 by_cases c4 : (l0_1.length : Int) > 64
 ·rw [if_pos c4] at H
  have c4b0 : decide (64 < (l0_1.length : Int)) = true := decide_eq_true c4
  have c4b1 : decide (64 < l0_1.length) = true := decide_eq_true (by omega)
  clear c4
  by_cases c5 : t389.toList = ([] : List UInt8)
  ·rw [if_pos c5] at H
   have c5b0 : (t389.toList == ([] : List UInt8)) = true := beq_iff_eq.mpr c5
   have c5b1 : (t389.toList != ([] : List UInt8)) = false := bne_eq_false_iff_eq.mpr c5
   clear c5
   replace H := Option.bind_eq_some_iff.mp H
   obtain ⟨t391, A60, H⟩ := H
   replace H : (some (t391 == 3)) = some r := H
   have A6 := Aq18 A60
   clear A60
   obtain rfl := Option.some.inj H
   go_enter Tryd.func4, Tryd.ntmps4
   go_upto_region 2 with (first | ((with_reducible refine gate_dst (N := 1) rfl ?_); (try (refine gate_guard (by rfl) ?_; dsimp only)); refine box_event ?hg (N := 1) ?hd (cs := #[.int .i64 a0_0, .slice A0_1 l0_1.length c0_1, .string a0_2, .bool a0_3]) (t := 24) ?hr ?_; (case hd => rfl); (case hg => rfl); (case hr => first | (go_simp; done) | (go_simp; rfl)); intro gb386 hg w7 hbox hb; have BK386 := Aq18 (hbox); have GW386 := Aq18 ((by rw [hg]; exact (below_size tq18_3) : w.heap.size ≤ gb386)); have GE386 := Aq18 ((by rw [hg]; exact (below_size tq18_3) : w.heap.size ≤ gb386)); replace HB := Aq18 (below_step tq18_3 hb); clear hb hbox hg; have hcz8_0 : w7.cell? ⟨gb386, 0, none⟩ = some (.int .i64 a0_0) := (blk_cell BK386.out 0).trans rfl; have hcz8_1 : w7.cell? ⟨gb386, 1, none⟩ = some (.slice A0_1 l0_1.length c0_1) := (blk_cell BK386.out 1).trans rfl; have hcz8_2 : w7.cell? ⟨gb386, 2, none⟩ = some (.string a0_2) := (blk_cell BK386.out 2).trans rfl; have hcz8_3 : w7.cell? ⟨gb386, 3, none⟩ = some (.bool a0_3) := (blk_cell BK386.out 3).trans rfl; have hfz8_0 := blk_frozen BK386.out 0; have hfz8_1 := blk_frozen BK386.out 1; have hfz8_2 := blk_frozen BK386.out 2; have hfz8_3 := blk_frozen BK386.out 3) | ((with_reducible refine gate_dst (N := 3) rfl ?_); (try (refine gate_guard (by rfl) ?_; dsimp only)); refine box_event ?hg (N := 3) ?hd (cs := #[.int .i64 0, .slice none 0 0, .string (⟨#[]⟩ : ByteArray), .bool false]) (t := 24) ?hr ?_; (case hd => rfl); (case hg => rfl); (case hr => first | (go_simp; done) | (go_simp; rfl)); intro gb387 hg w9 hbox hb; have BK387 := Aq18 (hbox); have GW387 := Aq18 ((by rw [hg]; exact (below_size (tq18_5 GE386.out)) : w.heap.size ≤ gb387)); have GE387 := Aq18 ((by rw [hg]; exact (below_size (tq18_5 GE386.out)) : w.heap.size ≤ gb387)); have NB386_387 := Aq18 ((by rw [hg]; exact Nat.ne_of_lt (blk_lt (g := gb386) (o := .cells #[.int .i64 a0_0, .slice A0_1 l0_1.length c0_1, .string a0_2, .bool a0_3] 24 (0, 0)) (tq18_1 BK386.out)) : gb386 ≠ gb387)); have NB387_386 := Aq18 ((by rw [hg]; exact Nat.ne_of_gt (blk_lt (g := gb386) (o := .cells #[.int .i64 a0_0, .slice A0_1 l0_1.length c0_1, .string a0_2, .bool a0_3] 24 (0, 0)) (tq18_1 BK386.out)) : gb387 ≠ gb386)); replace BK386 := Aq18 (blk_below (g := gb386) (o := .cells #[.int .i64 a0_0, .slice A0_1 l0_1.length c0_1, .string a0_2, .bool a0_3] 24 (0, 0)) (tq18_1 BK386.out) hb); replace HB := Aq18 (below_step (tq18_5 GE386.out) hb); clear hb hbox hg; have hnb10 := NB387_386.out; have hnc10 := NB386_387.out; have hcz11_0 : w9.cell? ⟨gb387, 0, none⟩ = some (.int .i64 0) := (blk_cell BK387.out 0).trans rfl; have hcz11_1 : w9.cell? ⟨gb387, 1, none⟩ = some (.slice none 0 0) := (blk_cell BK387.out 1).trans rfl; have hcz11_2 : w9.cell? ⟨gb387, 2, none⟩ = some (.string (⟨#[]⟩ : ByteArray)) := (blk_cell BK387.out 2).trans rfl; have hcz11_3 : w9.cell? ⟨gb387, 3, none⟩ = some (.bool false) := (blk_cell BK387.out 3).trans rfl; have hfz11_0 := blk_frozen BK387.out 0; have hfz11_1 := blk_frozen BK387.out 1; have hfz11_2 := blk_frozen BK387.out 2; have hfz11_3 := blk_frozen BK387.out 3))
   have n0_ : Aside0 (((((w9.setCell ⟨gb387, 0, none⟩ (.int .i64 a0_0)).setCell ⟨gb387, 1, none⟩ (.slice A0_1 l0_1.length c0_1)).setCell ⟨gb387, 2, none⟩ (.string a0_2)).setCell ⟨gb387, 3, none⟩ (.bool a0_3)).heap[gb386]? = some (.cells #[.int .i64 a0_0, .slice A0_1 l0_1.length c0_1, .string a0_2, .bool a0_3] 24 (0, 0))) := ⟨(tq18_9 NB386_387.out BK386.out)⟩
   have n1_ : Aside0 (((((w9.setCell ⟨gb387, 0, none⟩ (.int .i64 a0_0)).setCell ⟨gb387, 1, none⟩ (.slice A0_1 l0_1.length c0_1)).setCell ⟨gb387, 2, none⟩ (.string a0_2)).setCell ⟨gb387, 3, none⟩ (.bool a0_3)).heap[gb387]? = some (.cells #[.int .i64 a0_0, .slice A0_1 l0_1.length c0_1, .string a0_2, .bool a0_3] 24 (0, 0))) := ⟨(tq18_b BK387.out)⟩
   have n2_ : Aside0 (Below w.heap.size w ((((w9.setCell ⟨gb387, 0, none⟩ (.int .i64 a0_0)).setCell ⟨gb387, 1, none⟩ (.slice A0_1 l0_1.length c0_1)).setCell ⟨gb387, 2, none⟩ (.string a0_2)).setCell ⟨gb387, 3, none⟩ (.bool a0_3))) := ⟨(tq18_6 GE386.out GE387.out)⟩
   (try clear BK386)
   (try clear BK387)
   (try clear HB)
   generalize ((((w9.setCell ⟨gb387, 0, none⟩ (.int .i64 a0_0)).setCell ⟨gb387, 1, none⟩ (.slice A0_1 l0_1.length c0_1)).setCell ⟨gb387, 2, none⟩ (.string a0_2)).setCell ⟨gb387, 3, none⟩ (.bool a0_3)) = w12 at n0_ n1_ n2_ ⊢
   have BK386 := n0_
   have BK387 := n1_
   have HB := n2_
   clear n0_ n1_ n2_
   have hcz13_0 : w12.cell? ⟨gb386, 0, none⟩ = some (.int .i64 a0_0) := (blk_cell BK386.out 0).trans rfl
   have hcz13_1 : w12.cell? ⟨gb386, 1, none⟩ = some (.slice A0_1 l0_1.length c0_1) := (blk_cell BK386.out 1).trans rfl
   have hcz13_2 : w12.cell? ⟨gb386, 2, none⟩ = some (.string a0_2) := (blk_cell BK386.out 2).trans rfl
   have hcz13_3 : w12.cell? ⟨gb386, 3, none⟩ = some (.bool a0_3) := (blk_cell BK386.out 3).trans rfl
   have hfz13_0 := blk_frozen BK386.out 0
   have hfz13_1 := blk_frozen BK386.out 1
   have hfz13_2 := blk_frozen BK386.out 2
   have hfz13_3 := blk_frozen BK386.out 3
   go_upto_region 3 with (first | ((with_reducible refine gate_callee (f := 19) rfl ?_); refine goesL_ (some 12) rfl rfl Tryd.func19 (by kernel_rfl) rfl #[.string a0_2, .int .i64 1048576] rfl tq18_4 ?_; (with_reducible refine (usherkit_Head.calls a0_2 1048576 t388 _ A2.out).mono ?_); rintro e w' ⟨rfl, ⟨nd, rfl⟩⟩; refine ⟨_, rfl, ?_⟩; (try (rw [drewN_self w12]; generalize hq_ : World.drewN w12 _ = w12; have n0_ : Aside0 (w12.heap[gb386]? = some (.cells #[.int .i64 a0_0, .slice A0_1 l0_1.length c0_1, .string a0_2, .bool a0_3] 24 (0, 0))) := ⟨(tq18_2 BK386.out)⟩; have n1_ : Aside0 (w12.heap[gb387]? = some (.cells #[.int .i64 a0_0, .slice A0_1 l0_1.length c0_1, .string a0_2, .bool a0_3] 24 (0, 0))) := ⟨(tq18_2 BK387.out)⟩; have n2_ : Aside0 (Below w.heap.size w w12) := ⟨(tq18_7 GE386.out GE387.out)⟩; clear BK386 BK387 HB hq_; have BK386 := n0_; have BK387 := n1_; have HB := n2_; clear n0_ n1_ n2_)); have hcz14_0 : w12.cell? ⟨gb387, 0, none⟩ = some (.int .i64 a0_0) := (blk_cell BK387.out 0).trans rfl; have hcz14_1 : w12.cell? ⟨gb387, 1, none⟩ = some (.slice A0_1 l0_1.length c0_1) := (blk_cell BK387.out 1).trans rfl; have hcz14_2 : w12.cell? ⟨gb387, 2, none⟩ = some (.string a0_2) := (blk_cell BK387.out 2).trans rfl; have hcz14_3 : w12.cell? ⟨gb387, 3, none⟩ = some (.bool a0_3) := (blk_cell BK387.out 3).trans rfl; have hfz14_0 := blk_frozen BK387.out 0; have hfz14_1 := blk_frozen BK387.out 1; have hfz14_2 := blk_frozen BK387.out 2; have hfz14_3 := blk_frozen BK387.out 3))
   have n0_ : Aside0 ((w12.setCell ⟨gb387, 2, none⟩ (.string t388)).heap[gb386]? = some (.cells #[.int .i64 a0_0, .slice A0_1 l0_1.length c0_1, .string a0_2, .bool a0_3] 24 (0, 0))) := ⟨(tq18_8 NB386_387.out BK386.out)⟩
   have n1_ : Aside0 ((w12.setCell ⟨gb387, 2, none⟩ (.string t388)).heap[gb387]? = some (.cells #[.int .i64 a0_0, .slice A0_1 l0_1.length c0_1, .string t388, .bool a0_3] 24 (0, 0))) := ⟨(tq18_a BK387.out)⟩
   have n2_ : Aside0 (Below w.heap.size w (w12.setCell ⟨gb387, 2, none⟩ (.string t388))) := ⟨(tq18_6 GE386.out GE387.out)⟩
   (try clear BK386)
   (try clear BK387)
   (try clear HB)
   generalize (w12.setCell ⟨gb387, 2, none⟩ (.string t388)) = w15 at n0_ n1_ n2_ ⊢
   have BK386 := n0_
   have BK387 := n1_
   have HB := n2_
   clear n0_ n1_ n2_
   have hcz16_0 : w15.cell? ⟨gb387, 0, none⟩ = some (.int .i64 a0_0) := (blk_cell BK387.out 0).trans rfl
   have hcz16_1 : w15.cell? ⟨gb387, 1, none⟩ = some (.slice A0_1 l0_1.length c0_1) := (blk_cell BK387.out 1).trans rfl
   have hcz16_2 : w15.cell? ⟨gb387, 2, none⟩ = some (.string t388) := (blk_cell BK387.out 2).trans rfl
   have hcz16_3 : w15.cell? ⟨gb387, 3, none⟩ = some (.bool a0_3) := (blk_cell BK387.out 3).trans rfl
   have hfz16_0 := blk_frozen BK387.out 0
   have hfz16_1 := blk_frozen BK387.out 1
   have hfz16_2 := blk_frozen BK387.out 2
   have hfz16_3 := blk_frozen BK387.out 3
   go_wp2_with (first | ((with_reducible refine gate_callee (f := 15) rfl ?_); refine goesL_ (some 16) rfl rfl Tryd.func15 (by kernel_rfl) rfl #[.agg #[.int .i64 a0_0, .slice A0_1 l0_1.length c0_1, .string t388, .bool a0_3], .bool true] rfl tq18_4 ?_; (with_reducible refine (reply_Render.calls k a0_0 _ _ l0_1 t388 a0_3 true t389 t390 _ ?side1 ?side2 A3.out ?side3).mono ?_); (case side1 => repeat (first | exact (Kd.C_below HR0_1.out HB.out) | (with_reducible refine Kd.C_alloc ?_ _) | (with_reducible refine Kd.C_drewN ?_ _) | (with_reducible refine Kd.C_drew ?_))); (case side2 => exact HC0_1.out); (case side3 => exact HG.out.step (tq18_6 GE386.out GE387.out) rfl); rintro e w17 ⟨rfl, hb⟩; refine ⟨_, rfl, ?_⟩; replace BK386 := Aq18 (blk_below (g := gb386) (o := .cells #[.int .i64 a0_0, .slice A0_1 l0_1.length c0_1, .string a0_2, .bool a0_3] 24 (0, 0)) (tq18_1 BK386.out) hb); replace BK387 := Aq18 (blk_below (g := gb387) (o := .cells #[.int .i64 a0_0, .slice A0_1 l0_1.length c0_1, .string t388, .bool a0_3] 24 (0, 0)) (tq18_1 BK387.out) hb); replace HB := Aq18 (below_step (tq18_6 GE386.out GE387.out) hb); (try clear hb); (try clear hb2); (try clear hk); (try clear hi); (try simp only [errW_none, errW_some]); have hcz18_0 : w17.cell? ⟨gb387, 0, none⟩ = some (.int .i64 a0_0) := (blk_cell BK387.out 0).trans rfl; have hcz18_1 : w17.cell? ⟨gb387, 1, none⟩ = some (.slice A0_1 l0_1.length c0_1) := (blk_cell BK387.out 1).trans rfl; have hcz18_2 : w17.cell? ⟨gb387, 2, none⟩ = some (.string t388) := (blk_cell BK387.out 2).trans rfl; have hcz18_3 : w17.cell? ⟨gb387, 3, none⟩ = some (.bool a0_3) := (blk_cell BK387.out 3).trans rfl; have hfz18_0 := blk_frozen BK387.out 0; have hfz18_1 := blk_frozen BK387.out 1; have hfz18_2 := blk_frozen BK387.out 2; have hfz18_3 := blk_frozen BK387.out 3; have CA6 := fun W (hG_ : Glob [0, 1, 2, 3, 4, 5, 6, 10, 11, 12, 13, 14, 15, 999] W) => usherkit_Num.calls t390 t391 W A6.out (hG_.sub rfl); try simp only [errW_none, errW_some] at CA6) | (go_at_call 17; (with_reducible refine (CA6 _ ?side1).mono ?_); (case side1 => exact HG.out.step (tq18_6 GE386.out GE387.out) rfl); rintro e w' ⟨rfl, ⟨nd, rfl⟩⟩))
   go_ret
   exact ⟨tq18_0, (tq18_6 GE386.out GE387.out)⟩
  ·rw [if_neg c5] at H
   have c5b0 : (t389.toList == ([] : List UInt8)) = false := beq_eq_false_iff_ne.mpr c5
   have c5b1 : (t389.toList != ([] : List UInt8)) = true := bne_iff_ne.mpr c5
   obtain rfl := Option.some.inj H
   go_enter Tryd.func4, Tryd.ntmps4
   go_upto_region 2 with (first | ((with_reducible refine gate_dst (N := 1) rfl ?_); (try (refine gate_guard (by rfl) ?_; dsimp only)); refine box_event ?hg (N := 1) ?hd (cs := #[.int .i64 a0_0, .slice A0_1 l0_1.length c0_1, .string a0_2, .bool a0_3]) (t := 24) ?hr ?_; (case hd => rfl); (case hg => rfl); (case hr => first | (go_simp; done) | (go_simp; rfl)); intro gb386 hg w19 hbox hb; have BK386 := Aq18 (hbox); have GW386 := Aq18 ((by rw [hg]; exact (below_size tq18_3) : w.heap.size ≤ gb386)); have GE386 := Aq18 ((by rw [hg]; exact (below_size tq18_3) : w.heap.size ≤ gb386)); replace HB := Aq18 (below_step tq18_3 hb); clear hb hbox hg; have hcz20_0 : w19.cell? ⟨gb386, 0, none⟩ = some (.int .i64 a0_0) := (blk_cell BK386.out 0).trans rfl; have hcz20_1 : w19.cell? ⟨gb386, 1, none⟩ = some (.slice A0_1 l0_1.length c0_1) := (blk_cell BK386.out 1).trans rfl; have hcz20_2 : w19.cell? ⟨gb386, 2, none⟩ = some (.string a0_2) := (blk_cell BK386.out 2).trans rfl; have hcz20_3 : w19.cell? ⟨gb386, 3, none⟩ = some (.bool a0_3) := (blk_cell BK386.out 3).trans rfl; have hfz20_0 := blk_frozen BK386.out 0; have hfz20_1 := blk_frozen BK386.out 1; have hfz20_2 := blk_frozen BK386.out 2; have hfz20_3 := blk_frozen BK386.out 3) | ((with_reducible refine gate_dst (N := 3) rfl ?_); (try (refine gate_guard (by rfl) ?_; dsimp only)); refine box_event ?hg (N := 3) ?hd (cs := #[.int .i64 0, .slice none 0 0, .string (⟨#[]⟩ : ByteArray), .bool false]) (t := 24) ?hr ?_; (case hd => rfl); (case hg => rfl); (case hr => first | (go_simp; done) | (go_simp; rfl)); intro gb387 hg w21 hbox hb; have BK387 := Aq18 (hbox); have GW387 := Aq18 ((by rw [hg]; exact (below_size (tq18_5 GE386.out)) : w.heap.size ≤ gb387)); have GE387 := Aq18 ((by rw [hg]; exact (below_size (tq18_5 GE386.out)) : w.heap.size ≤ gb387)); have NB386_387 := Aq18 ((by rw [hg]; exact Nat.ne_of_lt (blk_lt (g := gb386) (o := .cells #[.int .i64 a0_0, .slice A0_1 l0_1.length c0_1, .string a0_2, .bool a0_3] 24 (0, 0)) (tq18_1 BK386.out)) : gb386 ≠ gb387)); have NB387_386 := Aq18 ((by rw [hg]; exact Nat.ne_of_gt (blk_lt (g := gb386) (o := .cells #[.int .i64 a0_0, .slice A0_1 l0_1.length c0_1, .string a0_2, .bool a0_3] 24 (0, 0)) (tq18_1 BK386.out)) : gb387 ≠ gb386)); replace BK386 := Aq18 (blk_below (g := gb386) (o := .cells #[.int .i64 a0_0, .slice A0_1 l0_1.length c0_1, .string a0_2, .bool a0_3] 24 (0, 0)) (tq18_1 BK386.out) hb); replace HB := Aq18 (below_step (tq18_5 GE386.out) hb); clear hb hbox hg; have hnb22 := NB387_386.out; have hnc22 := NB386_387.out; have hcz23_0 : w21.cell? ⟨gb387, 0, none⟩ = some (.int .i64 0) := (blk_cell BK387.out 0).trans rfl; have hcz23_1 : w21.cell? ⟨gb387, 1, none⟩ = some (.slice none 0 0) := (blk_cell BK387.out 1).trans rfl; have hcz23_2 : w21.cell? ⟨gb387, 2, none⟩ = some (.string (⟨#[]⟩ : ByteArray)) := (blk_cell BK387.out 2).trans rfl; have hcz23_3 : w21.cell? ⟨gb387, 3, none⟩ = some (.bool false) := (blk_cell BK387.out 3).trans rfl; have hfz23_0 := blk_frozen BK387.out 0; have hfz23_1 := blk_frozen BK387.out 1; have hfz23_2 := blk_frozen BK387.out 2; have hfz23_3 := blk_frozen BK387.out 3))
   have n0_ : Aside0 (((((w21.setCell ⟨gb387, 0, none⟩ (.int .i64 a0_0)).setCell ⟨gb387, 1, none⟩ (.slice A0_1 l0_1.length c0_1)).setCell ⟨gb387, 2, none⟩ (.string a0_2)).setCell ⟨gb387, 3, none⟩ (.bool a0_3)).heap[gb386]? = some (.cells #[.int .i64 a0_0, .slice A0_1 l0_1.length c0_1, .string a0_2, .bool a0_3] 24 (0, 0))) := ⟨(tq18_9 NB386_387.out BK386.out)⟩
   have n1_ : Aside0 (((((w21.setCell ⟨gb387, 0, none⟩ (.int .i64 a0_0)).setCell ⟨gb387, 1, none⟩ (.slice A0_1 l0_1.length c0_1)).setCell ⟨gb387, 2, none⟩ (.string a0_2)).setCell ⟨gb387, 3, none⟩ (.bool a0_3)).heap[gb387]? = some (.cells #[.int .i64 a0_0, .slice A0_1 l0_1.length c0_1, .string a0_2, .bool a0_3] 24 (0, 0))) := ⟨(tq18_b BK387.out)⟩
   have n2_ : Aside0 (Below w.heap.size w ((((w21.setCell ⟨gb387, 0, none⟩ (.int .i64 a0_0)).setCell ⟨gb387, 1, none⟩ (.slice A0_1 l0_1.length c0_1)).setCell ⟨gb387, 2, none⟩ (.string a0_2)).setCell ⟨gb387, 3, none⟩ (.bool a0_3))) := ⟨(tq18_6 GE386.out GE387.out)⟩
   (try clear BK386)
   (try clear BK387)
   (try clear HB)
   generalize ((((w21.setCell ⟨gb387, 0, none⟩ (.int .i64 a0_0)).setCell ⟨gb387, 1, none⟩ (.slice A0_1 l0_1.length c0_1)).setCell ⟨gb387, 2, none⟩ (.string a0_2)).setCell ⟨gb387, 3, none⟩ (.bool a0_3)) = w24 at n0_ n1_ n2_ ⊢
   have BK386 := n0_
   have BK387 := n1_
   have HB := n2_
   clear n0_ n1_ n2_
   have hcz25_0 : w24.cell? ⟨gb386, 0, none⟩ = some (.int .i64 a0_0) := (blk_cell BK386.out 0).trans rfl
   have hcz25_1 : w24.cell? ⟨gb386, 1, none⟩ = some (.slice A0_1 l0_1.length c0_1) := (blk_cell BK386.out 1).trans rfl
   have hcz25_2 : w24.cell? ⟨gb386, 2, none⟩ = some (.string a0_2) := (blk_cell BK386.out 2).trans rfl
   have hcz25_3 : w24.cell? ⟨gb386, 3, none⟩ = some (.bool a0_3) := (blk_cell BK386.out 3).trans rfl
   have hfz25_0 := blk_frozen BK386.out 0
   have hfz25_1 := blk_frozen BK386.out 1
   have hfz25_2 := blk_frozen BK386.out 2
   have hfz25_3 := blk_frozen BK386.out 3
   go_upto_region 3 with (first | ((with_reducible refine gate_callee (f := 19) rfl ?_); refine goesL_ (some 12) rfl rfl Tryd.func19 (by kernel_rfl) rfl #[.string a0_2, .int .i64 1048576] rfl tq18_4 ?_; (with_reducible refine (usherkit_Head.calls a0_2 1048576 t388 _ A2.out).mono ?_); rintro e w' ⟨rfl, ⟨nd, rfl⟩⟩; refine ⟨_, rfl, ?_⟩; (try (rw [drewN_self w24]; generalize hq_ : World.drewN w24 _ = w24; have n0_ : Aside0 (w24.heap[gb386]? = some (.cells #[.int .i64 a0_0, .slice A0_1 l0_1.length c0_1, .string a0_2, .bool a0_3] 24 (0, 0))) := ⟨(tq18_2 BK386.out)⟩; have n1_ : Aside0 (w24.heap[gb387]? = some (.cells #[.int .i64 a0_0, .slice A0_1 l0_1.length c0_1, .string a0_2, .bool a0_3] 24 (0, 0))) := ⟨(tq18_2 BK387.out)⟩; have n2_ : Aside0 (Below w.heap.size w w24) := ⟨(tq18_7 GE386.out GE387.out)⟩; clear BK386 BK387 HB hq_; have BK386 := n0_; have BK387 := n1_; have HB := n2_; clear n0_ n1_ n2_)); have hcz26_0 : w24.cell? ⟨gb387, 0, none⟩ = some (.int .i64 a0_0) := (blk_cell BK387.out 0).trans rfl; have hcz26_1 : w24.cell? ⟨gb387, 1, none⟩ = some (.slice A0_1 l0_1.length c0_1) := (blk_cell BK387.out 1).trans rfl; have hcz26_2 : w24.cell? ⟨gb387, 2, none⟩ = some (.string a0_2) := (blk_cell BK387.out 2).trans rfl; have hcz26_3 : w24.cell? ⟨gb387, 3, none⟩ = some (.bool a0_3) := (blk_cell BK387.out 3).trans rfl; have hfz26_0 := blk_frozen BK387.out 0; have hfz26_1 := blk_frozen BK387.out 1; have hfz26_2 := blk_frozen BK387.out 2; have hfz26_3 := blk_frozen BK387.out 3))
   have n0_ : Aside0 ((w24.setCell ⟨gb387, 2, none⟩ (.string t388)).heap[gb386]? = some (.cells #[.int .i64 a0_0, .slice A0_1 l0_1.length c0_1, .string a0_2, .bool a0_3] 24 (0, 0))) := ⟨(tq18_8 NB386_387.out BK386.out)⟩
   have n1_ : Aside0 ((w24.setCell ⟨gb387, 2, none⟩ (.string t388)).heap[gb387]? = some (.cells #[.int .i64 a0_0, .slice A0_1 l0_1.length c0_1, .string t388, .bool a0_3] 24 (0, 0))) := ⟨(tq18_a BK387.out)⟩
   have n2_ : Aside0 (Below w.heap.size w (w24.setCell ⟨gb387, 2, none⟩ (.string t388))) := ⟨(tq18_6 GE386.out GE387.out)⟩
   (try clear BK386)
   (try clear BK387)
   (try clear HB)
   generalize (w24.setCell ⟨gb387, 2, none⟩ (.string t388)) = w27 at n0_ n1_ n2_ ⊢
   have BK386 := n0_
   have BK387 := n1_
   have HB := n2_
   clear n0_ n1_ n2_
   have hcz28_0 : w27.cell? ⟨gb387, 0, none⟩ = some (.int .i64 a0_0) := (blk_cell BK387.out 0).trans rfl
   have hcz28_1 : w27.cell? ⟨gb387, 1, none⟩ = some (.slice A0_1 l0_1.length c0_1) := (blk_cell BK387.out 1).trans rfl
   have hcz28_2 : w27.cell? ⟨gb387, 2, none⟩ = some (.string t388) := (blk_cell BK387.out 2).trans rfl
   have hcz28_3 : w27.cell? ⟨gb387, 3, none⟩ = some (.bool a0_3) := (blk_cell BK387.out 3).trans rfl
   have hfz28_0 := blk_frozen BK387.out 0
   have hfz28_1 := blk_frozen BK387.out 1
   have hfz28_2 := blk_frozen BK387.out 2
   have hfz28_3 := blk_frozen BK387.out 3
   go_wp2_with (first | ((with_reducible refine gate_callee (f := 15) rfl ?_); refine goesL_ (some 16) rfl rfl Tryd.func15 (by kernel_rfl) rfl #[.agg #[.int .i64 a0_0, .slice A0_1 l0_1.length c0_1, .string t388, .bool a0_3], .bool true] rfl tq18_4 ?_; (with_reducible refine (reply_Render.calls k a0_0 _ _ l0_1 t388 a0_3 true t389 t390 _ ?side1 ?side2 A3.out ?side3).mono ?_); (case side1 => repeat (first | exact (Kd.C_below HR0_1.out HB.out) | (with_reducible refine Kd.C_alloc ?_ _) | (with_reducible refine Kd.C_drewN ?_ _) | (with_reducible refine Kd.C_drew ?_))); (case side2 => exact HC0_1.out); (case side3 => exact HG.out.step (tq18_6 GE386.out GE387.out) rfl); rintro e w29 ⟨rfl, hb⟩; refine ⟨_, rfl, ?_⟩; replace BK386 := Aq18 (blk_below (g := gb386) (o := .cells #[.int .i64 a0_0, .slice A0_1 l0_1.length c0_1, .string a0_2, .bool a0_3] 24 (0, 0)) (tq18_1 BK386.out) hb); replace BK387 := Aq18 (blk_below (g := gb387) (o := .cells #[.int .i64 a0_0, .slice A0_1 l0_1.length c0_1, .string t388, .bool a0_3] 24 (0, 0)) (tq18_1 BK387.out) hb); replace HB := Aq18 (below_step (tq18_6 GE386.out GE387.out) hb); (try clear hb); (try clear hb2); (try clear hk); (try clear hi); (try simp only [errW_none, errW_some]); have hcz30_0 : w29.cell? ⟨gb387, 0, none⟩ = some (.int .i64 a0_0) := (blk_cell BK387.out 0).trans rfl; have hcz30_1 : w29.cell? ⟨gb387, 1, none⟩ = some (.slice A0_1 l0_1.length c0_1) := (blk_cell BK387.out 1).trans rfl; have hcz30_2 : w29.cell? ⟨gb387, 2, none⟩ = some (.string t388) := (blk_cell BK387.out 2).trans rfl; have hcz30_3 : w29.cell? ⟨gb387, 3, none⟩ = some (.bool a0_3) := (blk_cell BK387.out 3).trans rfl; have hfz30_0 := blk_frozen BK387.out 0; have hfz30_1 := blk_frozen BK387.out 1; have hfz30_2 := blk_frozen BK387.out 2; have hfz30_3 := blk_frozen BK387.out 3))
   go_ret
   exact ⟨tq18_0, (tq18_6 GE386.out GE387.out)⟩
 ·rw [if_neg c4] at H
  have c4b0 : decide (64 < (l0_1.length : Int)) = false := decide_eq_false c4
  have c4b1 : decide (64 < l0_1.length) = false := decide_eq_false (by omega)
  clear c4
  replace H := Option.bind_eq_some_iff.mp H
  obtain ⟨t392, A310, H⟩ := H
  replace H : (if t392 = true then ((usherlaw8_lineEnds.f k t389).bind fun bt393 => (if t390.isNone = true then (if bt393.1 = (wrap64 ((l0_1.length : Int) + 4)) then (some (bt393.2 == bt393.1)) else (some false)) else (some false))) else (if t389.toList = ([] : List UInt8) then ((usherkit_Num.f t390).bind fun t396 => (some (t396 == 1))) else (some false))) = some r := H
  have A31 := Aq18 A310
  clear A310
  by_cases c32 : t392 = true
  ·subst c32
   have H1 : ((usherlaw8_lineEnds.f k t389).bind fun bt393 => (if t390.isNone = true then (if bt393.1 = (wrap64 ((l0_1.length : Int) + 4)) then (some (bt393.2 == bt393.1)) else (some false)) else (some false))) = some r := by rw [if_pos rfl] at H; exact H
   clear H
   have H := H1
   clear H1
   replace H := Option.bind_eq_some_iff.mp H
   obtain ⟨⟨t393, t394⟩, A330, H⟩ := H
   replace H : (if t390.isNone = true then (if t393 = (wrap64 ((l0_1.length : Int) + 4)) then (some (t394 == t393)) else (some false)) else (some false)) = some r := H
   have A33 := Aq18 A330
   clear A330
   rcases t390 with _ | q395
   ·have H1 : (if t393 = (wrap64 ((l0_1.length : Int) + 4)) then (some (t394 == t393)) else (some false)) = some r := by rw [if_pos (show (none : Option Int).isNone = true by rfl)] at H; exact H
    clear H
    have H := H1
    clear H1
    try simp only [errW_none, errW_some]
    by_cases c34 : t393 = (wrap64 ((l0_1.length : Int) + 4))
    ·rw [if_pos c34] at H
     have c34b0 : (t393 == (wrap64 ((l0_1.length : Int) + 4))) = true := beq_iff_eq.mpr c34
     have c34b1 : (t393 != (wrap64 ((l0_1.length : Int) + 4))) = false := bne_eq_false_iff_eq.mpr c34
     clear c34
     obtain rfl := Option.some.inj H
     go_enter Tryd.func4, Tryd.ntmps4
     go_upto_region 2 with (first | ((with_reducible refine gate_dst (N := 1) rfl ?_); (try (refine gate_guard (by rfl) ?_; dsimp only)); refine box_event ?hg (N := 1) ?hd (cs := #[.int .i64 a0_0, .slice A0_1 l0_1.length c0_1, .string a0_2, .bool a0_3]) (t := 24) ?hr ?_; (case hd => rfl); (case hg => rfl); (case hr => first | (go_simp; done) | (go_simp; rfl)); intro gb386 hg w35 hbox hb; have BK386 := Aq18 (hbox); have GW386 := Aq18 ((by rw [hg]; exact (below_size tq18_3) : w.heap.size ≤ gb386)); have GE386 := Aq18 ((by rw [hg]; exact (below_size tq18_3) : w.heap.size ≤ gb386)); replace HB := Aq18 (below_step tq18_3 hb); clear hb hbox hg; have hcz36_0 : w35.cell? ⟨gb386, 0, none⟩ = some (.int .i64 a0_0) := (blk_cell BK386.out 0).trans rfl; have hcz36_1 : w35.cell? ⟨gb386, 1, none⟩ = some (.slice A0_1 l0_1.length c0_1) := (blk_cell BK386.out 1).trans rfl; have hcz36_2 : w35.cell? ⟨gb386, 2, none⟩ = some (.string a0_2) := (blk_cell BK386.out 2).trans rfl; have hcz36_3 : w35.cell? ⟨gb386, 3, none⟩ = some (.bool a0_3) := (blk_cell BK386.out 3).trans rfl; have hfz36_0 := blk_frozen BK386.out 0; have hfz36_1 := blk_frozen BK386.out 1; have hfz36_2 := blk_frozen BK386.out 2; have hfz36_3 := blk_frozen BK386.out 3) | ((with_reducible refine gate_dst (N := 3) rfl ?_); (try (refine gate_guard (by rfl) ?_; dsimp only)); refine box_event ?hg (N := 3) ?hd (cs := #[.int .i64 0, .slice none 0 0, .string (⟨#[]⟩ : ByteArray), .bool false]) (t := 24) ?hr ?_; (case hd => rfl); (case hg => rfl); (case hr => first | (go_simp; done) | (go_simp; rfl)); intro gb387 hg w37 hbox hb; have BK387 := Aq18 (hbox); have GW387 := Aq18 ((by rw [hg]; exact (below_size (tq18_5 GE386.out)) : w.heap.size ≤ gb387)); have GE387 := Aq18 ((by rw [hg]; exact (below_size (tq18_5 GE386.out)) : w.heap.size ≤ gb387)); have NB386_387 := Aq18 ((by rw [hg]; exact Nat.ne_of_lt (blk_lt (g := gb386) (o := .cells #[.int .i64 a0_0, .slice A0_1 l0_1.length c0_1, .string a0_2, .bool a0_3] 24 (0, 0)) (tq18_1 BK386.out)) : gb386 ≠ gb387)); have NB387_386 := Aq18 ((by rw [hg]; exact Nat.ne_of_gt (blk_lt (g := gb386) (o := .cells #[.int .i64 a0_0, .slice A0_1 l0_1.length c0_1, .string a0_2, .bool a0_3] 24 (0, 0)) (tq18_1 BK386.out)) : gb387 ≠ gb386)); replace BK386 := Aq18 (blk_below (g := gb386) (o := .cells #[.int .i64 a0_0, .slice A0_1 l0_1.length c0_1, .string a0_2, .bool a0_3] 24 (0, 0)) (tq18_1 BK386.out) hb); replace HB := Aq18 (below_step (tq18_5 GE386.out) hb); clear hb hbox hg; have hnb38 := NB387_386.out; have hnc38 := NB386_387.out; have hcz39_0 : w37.cell? ⟨gb387, 0, none⟩ = some (.int .i64 0) := (blk_cell BK387.out 0).trans rfl; have hcz39_1 : w37.cell? ⟨gb387, 1, none⟩ = some (.slice none 0 0) := (blk_cell BK387.out 1).trans rfl; have hcz39_2 : w37.cell? ⟨gb387, 2, none⟩ = some (.string (⟨#[]⟩ : ByteArray)) := (blk_cell BK387.out 2).trans rfl; have hcz39_3 : w37.cell? ⟨gb387, 3, none⟩ = some (.bool false) := (blk_cell BK387.out 3).trans rfl; have hfz39_0 := blk_frozen BK387.out 0; have hfz39_1 := blk_frozen BK387.out 1; have hfz39_2 := blk_frozen BK387.out 2; have hfz39_3 := blk_frozen BK387.out 3))
     have n0_ : Aside0 (((((w37.setCell ⟨gb387, 0, none⟩ (.int .i64 a0_0)).setCell ⟨gb387, 1, none⟩ (.slice A0_1 l0_1.length c0_1)).setCell ⟨gb387, 2, none⟩ (.string a0_2)).setCell ⟨gb387, 3, none⟩ (.bool a0_3)).heap[gb386]? = some (.cells #[.int .i64 a0_0, .slice A0_1 l0_1.length c0_1, .string a0_2, .bool a0_3] 24 (0, 0))) := ⟨(tq18_9 NB386_387.out BK386.out)⟩
     have n1_ : Aside0 (((((w37.setCell ⟨gb387, 0, none⟩ (.int .i64 a0_0)).setCell ⟨gb387, 1, none⟩ (.slice A0_1 l0_1.length c0_1)).setCell ⟨gb387, 2, none⟩ (.string a0_2)).setCell ⟨gb387, 3, none⟩ (.bool a0_3)).heap[gb387]? = some (.cells #[.int .i64 a0_0, .slice A0_1 l0_1.length c0_1, .string a0_2, .bool a0_3] 24 (0, 0))) := ⟨(tq18_b BK387.out)⟩
     have n2_ : Aside0 (Below w.heap.size w ((((w37.setCell ⟨gb387, 0, none⟩ (.int .i64 a0_0)).setCell ⟨gb387, 1, none⟩ (.slice A0_1 l0_1.length c0_1)).setCell ⟨gb387, 2, none⟩ (.string a0_2)).setCell ⟨gb387, 3, none⟩ (.bool a0_3))) := ⟨(tq18_6 GE386.out GE387.out)⟩
     (try clear BK386)
     (try clear BK387)
     (try clear HB)
     generalize ((((w37.setCell ⟨gb387, 0, none⟩ (.int .i64 a0_0)).setCell ⟨gb387, 1, none⟩ (.slice A0_1 l0_1.length c0_1)).setCell ⟨gb387, 2, none⟩ (.string a0_2)).setCell ⟨gb387, 3, none⟩ (.bool a0_3)) = w40 at n0_ n1_ n2_ ⊢
     have BK386 := n0_
     have BK387 := n1_
     have HB := n2_
     clear n0_ n1_ n2_
     have hcz41_0 : w40.cell? ⟨gb386, 0, none⟩ = some (.int .i64 a0_0) := (blk_cell BK386.out 0).trans rfl
     have hcz41_1 : w40.cell? ⟨gb386, 1, none⟩ = some (.slice A0_1 l0_1.length c0_1) := (blk_cell BK386.out 1).trans rfl
     have hcz41_2 : w40.cell? ⟨gb386, 2, none⟩ = some (.string a0_2) := (blk_cell BK386.out 2).trans rfl
     have hcz41_3 : w40.cell? ⟨gb386, 3, none⟩ = some (.bool a0_3) := (blk_cell BK386.out 3).trans rfl
     have hfz41_0 := blk_frozen BK386.out 0
     have hfz41_1 := blk_frozen BK386.out 1
     have hfz41_2 := blk_frozen BK386.out 2
     have hfz41_3 := blk_frozen BK386.out 3
     go_upto_region 3 with (first | ((with_reducible refine gate_callee (f := 19) rfl ?_); refine goesL_ (some 12) rfl rfl Tryd.func19 (by kernel_rfl) rfl #[.string a0_2, .int .i64 1048576] rfl tq18_4 ?_; (with_reducible refine (usherkit_Head.calls a0_2 1048576 t388 _ A2.out).mono ?_); rintro e w' ⟨rfl, ⟨nd, rfl⟩⟩; refine ⟨_, rfl, ?_⟩; (try (rw [drewN_self w40]; generalize hq_ : World.drewN w40 _ = w40; have n0_ : Aside0 (w40.heap[gb386]? = some (.cells #[.int .i64 a0_0, .slice A0_1 l0_1.length c0_1, .string a0_2, .bool a0_3] 24 (0, 0))) := ⟨(tq18_2 BK386.out)⟩; have n1_ : Aside0 (w40.heap[gb387]? = some (.cells #[.int .i64 a0_0, .slice A0_1 l0_1.length c0_1, .string a0_2, .bool a0_3] 24 (0, 0))) := ⟨(tq18_2 BK387.out)⟩; have n2_ : Aside0 (Below w.heap.size w w40) := ⟨(tq18_7 GE386.out GE387.out)⟩; clear BK386 BK387 HB hq_; have BK386 := n0_; have BK387 := n1_; have HB := n2_; clear n0_ n1_ n2_)); have hcz42_0 : w40.cell? ⟨gb387, 0, none⟩ = some (.int .i64 a0_0) := (blk_cell BK387.out 0).trans rfl; have hcz42_1 : w40.cell? ⟨gb387, 1, none⟩ = some (.slice A0_1 l0_1.length c0_1) := (blk_cell BK387.out 1).trans rfl; have hcz42_2 : w40.cell? ⟨gb387, 2, none⟩ = some (.string a0_2) := (blk_cell BK387.out 2).trans rfl; have hcz42_3 : w40.cell? ⟨gb387, 3, none⟩ = some (.bool a0_3) := (blk_cell BK387.out 3).trans rfl; have hfz42_0 := blk_frozen BK387.out 0; have hfz42_1 := blk_frozen BK387.out 1; have hfz42_2 := blk_frozen BK387.out 2; have hfz42_3 := blk_frozen BK387.out 3))
     have n0_ : Aside0 ((w40.setCell ⟨gb387, 2, none⟩ (.string t388)).heap[gb386]? = some (.cells #[.int .i64 a0_0, .slice A0_1 l0_1.length c0_1, .string a0_2, .bool a0_3] 24 (0, 0))) := ⟨(tq18_8 NB386_387.out BK386.out)⟩
     have n1_ : Aside0 ((w40.setCell ⟨gb387, 2, none⟩ (.string t388)).heap[gb387]? = some (.cells #[.int .i64 a0_0, .slice A0_1 l0_1.length c0_1, .string t388, .bool a0_3] 24 (0, 0))) := ⟨(tq18_a BK387.out)⟩
     have n2_ : Aside0 (Below w.heap.size w (w40.setCell ⟨gb387, 2, none⟩ (.string t388))) := ⟨(tq18_6 GE386.out GE387.out)⟩
     (try clear BK386)
     (try clear BK387)
     (try clear HB)
     generalize (w40.setCell ⟨gb387, 2, none⟩ (.string t388)) = w43 at n0_ n1_ n2_ ⊢
     have BK386 := n0_
     have BK387 := n1_
     have HB := n2_
     clear n0_ n1_ n2_
     have hcz44_0 : w43.cell? ⟨gb387, 0, none⟩ = some (.int .i64 a0_0) := (blk_cell BK387.out 0).trans rfl
     have hcz44_1 : w43.cell? ⟨gb387, 1, none⟩ = some (.slice A0_1 l0_1.length c0_1) := (blk_cell BK387.out 1).trans rfl
     have hcz44_2 : w43.cell? ⟨gb387, 2, none⟩ = some (.string t388) := (blk_cell BK387.out 2).trans rfl
     have hcz44_3 : w43.cell? ⟨gb387, 3, none⟩ = some (.bool a0_3) := (blk_cell BK387.out 3).trans rfl
     have hfz44_0 := blk_frozen BK387.out 0
     have hfz44_1 := blk_frozen BK387.out 1
     have hfz44_2 := blk_frozen BK387.out 2
     have hfz44_3 := blk_frozen BK387.out 3
     go_wp2_with (first | ((with_reducible refine gate_callee (f := 15) rfl ?_); refine goesL_ (some 16) rfl rfl Tryd.func15 (by kernel_rfl) rfl #[.agg #[.int .i64 a0_0, .slice A0_1 l0_1.length c0_1, .string t388, .bool a0_3], .bool true] rfl tq18_4 ?_; (with_reducible refine (reply_Render.calls k a0_0 _ _ l0_1 t388 a0_3 true t389 none _ ?side1 ?side2 A3.out ?side3).mono ?_); (case side1 => repeat (first | exact (Kd.C_below HR0_1.out HB.out) | (with_reducible refine Kd.C_alloc ?_ _) | (with_reducible refine Kd.C_drewN ?_ _) | (with_reducible refine Kd.C_drew ?_))); (case side2 => exact HC0_1.out); (case side3 => exact HG.out.step (tq18_6 GE386.out GE387.out) rfl); rintro e w45 ⟨rfl, hb⟩; refine ⟨_, rfl, ?_⟩; replace BK386 := Aq18 (blk_below (g := gb386) (o := .cells #[.int .i64 a0_0, .slice A0_1 l0_1.length c0_1, .string a0_2, .bool a0_3] 24 (0, 0)) (tq18_1 BK386.out) hb); replace BK387 := Aq18 (blk_below (g := gb387) (o := .cells #[.int .i64 a0_0, .slice A0_1 l0_1.length c0_1, .string t388, .bool a0_3] 24 (0, 0)) (tq18_1 BK387.out) hb); replace HB := Aq18 (below_step (tq18_6 GE386.out GE387.out) hb); (try clear hb); (try clear hb2); (try clear hk); (try clear hi); (try simp only [errW_none, errW_some]); have hcz46_0 : w45.cell? ⟨gb387, 0, none⟩ = some (.int .i64 a0_0) := (blk_cell BK387.out 0).trans rfl; have hcz46_1 : w45.cell? ⟨gb387, 1, none⟩ = some (.slice A0_1 l0_1.length c0_1) := (blk_cell BK387.out 1).trans rfl; have hcz46_2 : w45.cell? ⟨gb387, 2, none⟩ = some (.string t388) := (blk_cell BK387.out 2).trans rfl; have hcz46_3 : w45.cell? ⟨gb387, 3, none⟩ = some (.bool a0_3) := (blk_cell BK387.out 3).trans rfl; have hfz46_0 := blk_frozen BK387.out 0; have hfz46_1 := blk_frozen BK387.out 1; have hfz46_2 := blk_frozen BK387.out 2; have hfz46_3 := blk_frozen BK387.out 3) | ((with_reducible refine gate_callee (f := 20) rfl ?_); refine goesL_ (some 31) rfl rfl Tryd.func20 (by kernel_rfl) rfl #[.agg #[.int .i64 a0_0, .slice A0_1 l0_1.length c0_1, .string t388, .bool a0_3]] rfl tq18_4 ?_; (with_reducible refine (usherlaw8_mayBe.calls k a0_0 _ _ l0_1 t388 a0_3 true _ ?side1 ?side2 A31.out ?side3).mono ?_); (case side1 => repeat (first | exact (Kd.C_below HR0_1.out HB.out) | (with_reducible refine Kd.C_alloc ?_ _) | (with_reducible refine Kd.C_drewN ?_ _) | (with_reducible refine Kd.C_drew ?_))); (case side2 => exact HC0_1.out); (case side3 => exact HG.out.step (tq18_6 GE386.out GE387.out) rfl); rintro e w47 ⟨rfl, hb⟩; refine ⟨_, rfl, ?_⟩; replace BK386 := Aq18 (blk_below (g := gb386) (o := .cells #[.int .i64 a0_0, .slice A0_1 l0_1.length c0_1, .string a0_2, .bool a0_3] 24 (0, 0)) (tq18_1 BK386.out) hb); replace BK387 := Aq18 (blk_below (g := gb387) (o := .cells #[.int .i64 a0_0, .slice A0_1 l0_1.length c0_1, .string t388, .bool a0_3] 24 (0, 0)) (tq18_1 BK387.out) hb); replace HB := Aq18 (below_step (tq18_6 GE386.out GE387.out) hb); (try clear hb); (try clear hb2); (try clear hk); (try clear hi)) | ((with_reducible refine gate_callee (f := 21) rfl ?_); refine goesL_ (some 43) rfl rfl Tryd.func21 (by kernel_rfl) rfl #[.string t389] rfl tq18_4 ?_; (with_reducible refine (usherlaw8_lineEnds.calls k t389 t393 t394 _ A33.out).mono ?_); rintro e w' ⟨rfl, ⟨nd, rfl⟩⟩; refine ⟨_, rfl, ?_⟩; have hcz48_0 : w47.cell? ⟨gb387, 0, none⟩ = some (.int .i64 a0_0) := (blk_cell BK387.out 0).trans rfl; have hcz48_1 : w47.cell? ⟨gb387, 1, none⟩ = some (.slice A0_1 l0_1.length c0_1) := (blk_cell BK387.out 1).trans rfl; have hcz48_2 : w47.cell? ⟨gb387, 2, none⟩ = some (.string t388) := (blk_cell BK387.out 2).trans rfl; have hcz48_3 : w47.cell? ⟨gb387, 3, none⟩ = some (.bool a0_3) := (blk_cell BK387.out 3).trans rfl; have hfz48_0 := blk_frozen BK387.out 0; have hfz48_1 := blk_frozen BK387.out 1; have hfz48_2 := blk_frozen BK387.out 2; have hfz48_3 := blk_frozen BK387.out 3))
     go_ret
     exact ⟨tq18_0, (tq18_6 GE386.out GE387.out)⟩
    ·rw [if_neg c34] at H
     have c34b0 : (t393 == (wrap64 ((l0_1.length : Int) + 4))) = false := beq_eq_false_iff_ne.mpr c34
     have c34b1 : (t393 != (wrap64 ((l0_1.length : Int) + 4))) = true := bne_iff_ne.mpr c34
     obtain rfl := Option.some.inj H
     go_enter Tryd.func4, Tryd.ntmps4
     go_upto_region 2 with (first | ((with_reducible refine gate_dst (N := 1) rfl ?_); (try (refine gate_guard (by rfl) ?_; dsimp only)); refine box_event ?hg (N := 1) ?hd (cs := #[.int .i64 a0_0, .slice A0_1 l0_1.length c0_1, .string a0_2, .bool a0_3]) (t := 24) ?hr ?_; (case hd => rfl); (case hg => rfl); (case hr => first | (go_simp; done) | (go_simp; rfl)); intro gb386 hg w49 hbox hb; have BK386 := Aq18 (hbox); have GW386 := Aq18 ((by rw [hg]; exact (below_size tq18_3) : w.heap.size ≤ gb386)); have GE386 := Aq18 ((by rw [hg]; exact (below_size tq18_3) : w.heap.size ≤ gb386)); replace HB := Aq18 (below_step tq18_3 hb); clear hb hbox hg; have hcz50_0 : w49.cell? ⟨gb386, 0, none⟩ = some (.int .i64 a0_0) := (blk_cell BK386.out 0).trans rfl; have hcz50_1 : w49.cell? ⟨gb386, 1, none⟩ = some (.slice A0_1 l0_1.length c0_1) := (blk_cell BK386.out 1).trans rfl; have hcz50_2 : w49.cell? ⟨gb386, 2, none⟩ = some (.string a0_2) := (blk_cell BK386.out 2).trans rfl; have hcz50_3 : w49.cell? ⟨gb386, 3, none⟩ = some (.bool a0_3) := (blk_cell BK386.out 3).trans rfl; have hfz50_0 := blk_frozen BK386.out 0; have hfz50_1 := blk_frozen BK386.out 1; have hfz50_2 := blk_frozen BK386.out 2; have hfz50_3 := blk_frozen BK386.out 3) | ((with_reducible refine gate_dst (N := 3) rfl ?_); (try (refine gate_guard (by rfl) ?_; dsimp only)); refine box_event ?hg (N := 3) ?hd (cs := #[.int .i64 0, .slice none 0 0, .string (⟨#[]⟩ : ByteArray), .bool false]) (t := 24) ?hr ?_; (case hd => rfl); (case hg => rfl); (case hr => first | (go_simp; done) | (go_simp; rfl)); intro gb387 hg w51 hbox hb; have BK387 := Aq18 (hbox); have GW387 := Aq18 ((by rw [hg]; exact (below_size (tq18_5 GE386.out)) : w.heap.size ≤ gb387)); have GE387 := Aq18 ((by rw [hg]; exact (below_size (tq18_5 GE386.out)) : w.heap.size ≤ gb387)); have NB386_387 := Aq18 ((by rw [hg]; exact Nat.ne_of_lt (blk_lt (g := gb386) (o := .cells #[.int .i64 a0_0, .slice A0_1 l0_1.length c0_1, .string a0_2, .bool a0_3] 24 (0, 0)) (tq18_1 BK386.out)) : gb386 ≠ gb387)); have NB387_386 := Aq18 ((by rw [hg]; exact Nat.ne_of_gt (blk_lt (g := gb386) (o := .cells #[.int .i64 a0_0, .slice A0_1 l0_1.length c0_1, .string a0_2, .bool a0_3] 24 (0, 0)) (tq18_1 BK386.out)) : gb387 ≠ gb386)); replace BK386 := Aq18 (blk_below (g := gb386) (o := .cells #[.int .i64 a0_0, .slice A0_1 l0_1.length c0_1, .string a0_2, .bool a0_3] 24 (0, 0)) (tq18_1 BK386.out) hb); replace HB := Aq18 (below_step (tq18_5 GE386.out) hb); clear hb hbox hg; have hnb52 := NB387_386.out; have hnc52 := NB386_387.out; have hcz53_0 : w51.cell? ⟨gb387, 0, none⟩ = some (.int .i64 0) := (blk_cell BK387.out 0).trans rfl; have hcz53_1 : w51.cell? ⟨gb387, 1, none⟩ = some (.slice none 0 0) := (blk_cell BK387.out 1).trans rfl; have hcz53_2 : w51.cell? ⟨gb387, 2, none⟩ = some (.string (⟨#[]⟩ : ByteArray)) := (blk_cell BK387.out 2).trans rfl; have hcz53_3 : w51.cell? ⟨gb387, 3, none⟩ = some (.bool false) := (blk_cell BK387.out 3).trans rfl; have hfz53_0 := blk_frozen BK387.out 0; have hfz53_1 := blk_frozen BK387.out 1; have hfz53_2 := blk_frozen BK387.out 2; have hfz53_3 := blk_frozen BK387.out 3))
     have n0_ : Aside0 (((((w51.setCell ⟨gb387, 0, none⟩ (.int .i64 a0_0)).setCell ⟨gb387, 1, none⟩ (.slice A0_1 l0_1.length c0_1)).setCell ⟨gb387, 2, none⟩ (.string a0_2)).setCell ⟨gb387, 3, none⟩ (.bool a0_3)).heap[gb386]? = some (.cells #[.int .i64 a0_0, .slice A0_1 l0_1.length c0_1, .string a0_2, .bool a0_3] 24 (0, 0))) := ⟨(tq18_9 NB386_387.out BK386.out)⟩
     have n1_ : Aside0 (((((w51.setCell ⟨gb387, 0, none⟩ (.int .i64 a0_0)).setCell ⟨gb387, 1, none⟩ (.slice A0_1 l0_1.length c0_1)).setCell ⟨gb387, 2, none⟩ (.string a0_2)).setCell ⟨gb387, 3, none⟩ (.bool a0_3)).heap[gb387]? = some (.cells #[.int .i64 a0_0, .slice A0_1 l0_1.length c0_1, .string a0_2, .bool a0_3] 24 (0, 0))) := ⟨(tq18_b BK387.out)⟩
     have n2_ : Aside0 (Below w.heap.size w ((((w51.setCell ⟨gb387, 0, none⟩ (.int .i64 a0_0)).setCell ⟨gb387, 1, none⟩ (.slice A0_1 l0_1.length c0_1)).setCell ⟨gb387, 2, none⟩ (.string a0_2)).setCell ⟨gb387, 3, none⟩ (.bool a0_3))) := ⟨(tq18_6 GE386.out GE387.out)⟩
     (try clear BK386)
     (try clear BK387)
     (try clear HB)
     generalize ((((w51.setCell ⟨gb387, 0, none⟩ (.int .i64 a0_0)).setCell ⟨gb387, 1, none⟩ (.slice A0_1 l0_1.length c0_1)).setCell ⟨gb387, 2, none⟩ (.string a0_2)).setCell ⟨gb387, 3, none⟩ (.bool a0_3)) = w54 at n0_ n1_ n2_ ⊢
     have BK386 := n0_
     have BK387 := n1_
     have HB := n2_
     clear n0_ n1_ n2_
     have hcz55_0 : w54.cell? ⟨gb386, 0, none⟩ = some (.int .i64 a0_0) := (blk_cell BK386.out 0).trans rfl
     have hcz55_1 : w54.cell? ⟨gb386, 1, none⟩ = some (.slice A0_1 l0_1.length c0_1) := (blk_cell BK386.out 1).trans rfl
     have hcz55_2 : w54.cell? ⟨gb386, 2, none⟩ = some (.string a0_2) := (blk_cell BK386.out 2).trans rfl
     have hcz55_3 : w54.cell? ⟨gb386, 3, none⟩ = some (.bool a0_3) := (blk_cell BK386.out 3).trans rfl
     have hfz55_0 := blk_frozen BK386.out 0
     have hfz55_1 := blk_frozen BK386.out 1
     have hfz55_2 := blk_frozen BK386.out 2
     have hfz55_3 := blk_frozen BK386.out 3
     go_upto_region 3 with (first | ((with_reducible refine gate_callee (f := 19) rfl ?_); refine goesL_ (some 12) rfl rfl Tryd.func19 (by kernel_rfl) rfl #[.string a0_2, .int .i64 1048576] rfl tq18_4 ?_; (with_reducible refine (usherkit_Head.calls a0_2 1048576 t388 _ A2.out).mono ?_); rintro e w' ⟨rfl, ⟨nd, rfl⟩⟩; refine ⟨_, rfl, ?_⟩; (try (rw [drewN_self w54]; generalize hq_ : World.drewN w54 _ = w54; have n0_ : Aside0 (w54.heap[gb386]? = some (.cells #[.int .i64 a0_0, .slice A0_1 l0_1.length c0_1, .string a0_2, .bool a0_3] 24 (0, 0))) := ⟨(tq18_2 BK386.out)⟩; have n1_ : Aside0 (w54.heap[gb387]? = some (.cells #[.int .i64 a0_0, .slice A0_1 l0_1.length c0_1, .string a0_2, .bool a0_3] 24 (0, 0))) := ⟨(tq18_2 BK387.out)⟩; have n2_ : Aside0 (Below w.heap.size w w54) := ⟨(tq18_7 GE386.out GE387.out)⟩; clear BK386 BK387 HB hq_; have BK386 := n0_; have BK387 := n1_; have HB := n2_; clear n0_ n1_ n2_)); have hcz56_0 : w54.cell? ⟨gb387, 0, none⟩ = some (.int .i64 a0_0) := (blk_cell BK387.out 0).trans rfl; have hcz56_1 : w54.cell? ⟨gb387, 1, none⟩ = some (.slice A0_1 l0_1.length c0_1) := (blk_cell BK387.out 1).trans rfl; have hcz56_2 : w54.cell? ⟨gb387, 2, none⟩ = some (.string a0_2) := (blk_cell BK387.out 2).trans rfl; have hcz56_3 : w54.cell? ⟨gb387, 3, none⟩ = some (.bool a0_3) := (blk_cell BK387.out 3).trans rfl; have hfz56_0 := blk_frozen BK387.out 0; have hfz56_1 := blk_frozen BK387.out 1; have hfz56_2 := blk_frozen BK387.out 2; have hfz56_3 := blk_frozen BK387.out 3))
     have n0_ : Aside0 ((w54.setCell ⟨gb387, 2, none⟩ (.string t388)).heap[gb386]? = some (.cells #[.int .i64 a0_0, .slice A0_1 l0_1.length c0_1, .string a0_2, .bool a0_3] 24 (0, 0))) := ⟨(tq18_8 NB386_387.out BK386.out)⟩
     have n1_ : Aside0 ((w54.setCell ⟨gb387, 2, none⟩ (.string t388)).heap[gb387]? = some (.cells #[.int .i64 a0_0, .slice A0_1 l0_1.length c0_1, .string t388, .bool a0_3] 24 (0, 0))) := ⟨(tq18_a BK387.out)⟩
     have n2_ : Aside0 (Below w.heap.size w (w54.setCell ⟨gb387, 2, none⟩ (.string t388))) := ⟨(tq18_6 GE386.out GE387.out)⟩
     (try clear BK386)
     (try clear BK387)
     (try clear HB)
     generalize (w54.setCell ⟨gb387, 2, none⟩ (.string t388)) = w57 at n0_ n1_ n2_ ⊢
     have BK386 := n0_
     have BK387 := n1_
     have HB := n2_
     clear n0_ n1_ n2_
     have hcz58_0 : w57.cell? ⟨gb387, 0, none⟩ = some (.int .i64 a0_0) := (blk_cell BK387.out 0).trans rfl
     have hcz58_1 : w57.cell? ⟨gb387, 1, none⟩ = some (.slice A0_1 l0_1.length c0_1) := (blk_cell BK387.out 1).trans rfl
     have hcz58_2 : w57.cell? ⟨gb387, 2, none⟩ = some (.string t388) := (blk_cell BK387.out 2).trans rfl
     have hcz58_3 : w57.cell? ⟨gb387, 3, none⟩ = some (.bool a0_3) := (blk_cell BK387.out 3).trans rfl
     have hfz58_0 := blk_frozen BK387.out 0
     have hfz58_1 := blk_frozen BK387.out 1
     have hfz58_2 := blk_frozen BK387.out 2
     have hfz58_3 := blk_frozen BK387.out 3
     go_wp2_with (first | ((with_reducible refine gate_callee (f := 15) rfl ?_); refine goesL_ (some 16) rfl rfl Tryd.func15 (by kernel_rfl) rfl #[.agg #[.int .i64 a0_0, .slice A0_1 l0_1.length c0_1, .string t388, .bool a0_3], .bool true] rfl tq18_4 ?_; (with_reducible refine (reply_Render.calls k a0_0 _ _ l0_1 t388 a0_3 true t389 none _ ?side1 ?side2 A3.out ?side3).mono ?_); (case side1 => repeat (first | exact (Kd.C_below HR0_1.out HB.out) | (with_reducible refine Kd.C_alloc ?_ _) | (with_reducible refine Kd.C_drewN ?_ _) | (with_reducible refine Kd.C_drew ?_))); (case side2 => exact HC0_1.out); (case side3 => exact HG.out.step (tq18_6 GE386.out GE387.out) rfl); rintro e w59 ⟨rfl, hb⟩; refine ⟨_, rfl, ?_⟩; replace BK386 := Aq18 (blk_below (g := gb386) (o := .cells #[.int .i64 a0_0, .slice A0_1 l0_1.length c0_1, .string a0_2, .bool a0_3] 24 (0, 0)) (tq18_1 BK386.out) hb); replace BK387 := Aq18 (blk_below (g := gb387) (o := .cells #[.int .i64 a0_0, .slice A0_1 l0_1.length c0_1, .string t388, .bool a0_3] 24 (0, 0)) (tq18_1 BK387.out) hb); replace HB := Aq18 (below_step (tq18_6 GE386.out GE387.out) hb); (try clear hb); (try clear hb2); (try clear hk); (try clear hi); (try simp only [errW_none, errW_some]); have hcz60_0 : w59.cell? ⟨gb387, 0, none⟩ = some (.int .i64 a0_0) := (blk_cell BK387.out 0).trans rfl; have hcz60_1 : w59.cell? ⟨gb387, 1, none⟩ = some (.slice A0_1 l0_1.length c0_1) := (blk_cell BK387.out 1).trans rfl; have hcz60_2 : w59.cell? ⟨gb387, 2, none⟩ = some (.string t388) := (blk_cell BK387.out 2).trans rfl; have hcz60_3 : w59.cell? ⟨gb387, 3, none⟩ = some (.bool a0_3) := (blk_cell BK387.out 3).trans rfl; have hfz60_0 := blk_frozen BK387.out 0; have hfz60_1 := blk_frozen BK387.out 1; have hfz60_2 := blk_frozen BK387.out 2; have hfz60_3 := blk_frozen BK387.out 3) | ((with_reducible refine gate_callee (f := 20) rfl ?_); refine goesL_ (some 31) rfl rfl Tryd.func20 (by kernel_rfl) rfl #[.agg #[.int .i64 a0_0, .slice A0_1 l0_1.length c0_1, .string t388, .bool a0_3]] rfl tq18_4 ?_; (with_reducible refine (usherlaw8_mayBe.calls k a0_0 _ _ l0_1 t388 a0_3 true _ ?side1 ?side2 A31.out ?side3).mono ?_); (case side1 => repeat (first | exact (Kd.C_below HR0_1.out HB.out) | (with_reducible refine Kd.C_alloc ?_ _) | (with_reducible refine Kd.C_drewN ?_ _) | (with_reducible refine Kd.C_drew ?_))); (case side2 => exact HC0_1.out); (case side3 => exact HG.out.step (tq18_6 GE386.out GE387.out) rfl); rintro e w61 ⟨rfl, hb⟩; refine ⟨_, rfl, ?_⟩; replace BK386 := Aq18 (blk_below (g := gb386) (o := .cells #[.int .i64 a0_0, .slice A0_1 l0_1.length c0_1, .string a0_2, .bool a0_3] 24 (0, 0)) (tq18_1 BK386.out) hb); replace BK387 := Aq18 (blk_below (g := gb387) (o := .cells #[.int .i64 a0_0, .slice A0_1 l0_1.length c0_1, .string t388, .bool a0_3] 24 (0, 0)) (tq18_1 BK387.out) hb); replace HB := Aq18 (below_step (tq18_6 GE386.out GE387.out) hb); (try clear hb); (try clear hb2); (try clear hk); (try clear hi)) | ((with_reducible refine gate_callee (f := 21) rfl ?_); refine goesL_ (some 43) rfl rfl Tryd.func21 (by kernel_rfl) rfl #[.string t389] rfl tq18_4 ?_; (with_reducible refine (usherlaw8_lineEnds.calls k t389 t393 t394 _ A33.out).mono ?_); rintro e w' ⟨rfl, ⟨nd, rfl⟩⟩; refine ⟨_, rfl, ?_⟩; have hcz62_0 : w61.cell? ⟨gb387, 0, none⟩ = some (.int .i64 a0_0) := (blk_cell BK387.out 0).trans rfl; have hcz62_1 : w61.cell? ⟨gb387, 1, none⟩ = some (.slice A0_1 l0_1.length c0_1) := (blk_cell BK387.out 1).trans rfl; have hcz62_2 : w61.cell? ⟨gb387, 2, none⟩ = some (.string t388) := (blk_cell BK387.out 2).trans rfl; have hcz62_3 : w61.cell? ⟨gb387, 3, none⟩ = some (.bool a0_3) := (blk_cell BK387.out 3).trans rfl; have hfz62_0 := blk_frozen BK387.out 0; have hfz62_1 := blk_frozen BK387.out 1; have hfz62_2 := blk_frozen BK387.out 2; have hfz62_3 := blk_frozen BK387.out 3))
     go_ret
     exact ⟨tq18_0, (tq18_6 GE386.out GE387.out)⟩
   ·have H1 : (some false) = some r := by rw [if_neg (show ¬ (some q395).isNone = true by simp)] at H; exact H
    clear H
    have H := H1
    clear H1
    try simp only [errW_none, errW_some]
    obtain rfl := Option.some.inj H
    go_enter Tryd.func4, Tryd.ntmps4
    go_upto_region 2 with (first | ((with_reducible refine gate_dst (N := 1) rfl ?_); (try (refine gate_guard (by rfl) ?_; dsimp only)); refine box_event ?hg (N := 1) ?hd (cs := #[.int .i64 a0_0, .slice A0_1 l0_1.length c0_1, .string a0_2, .bool a0_3]) (t := 24) ?hr ?_; (case hd => rfl); (case hg => rfl); (case hr => first | (go_simp; done) | (go_simp; rfl)); intro gb386 hg w63 hbox hb; have BK386 := Aq18 (hbox); have GW386 := Aq18 ((by rw [hg]; exact (below_size tq18_3) : w.heap.size ≤ gb386)); have GE386 := Aq18 ((by rw [hg]; exact (below_size tq18_3) : w.heap.size ≤ gb386)); replace HB := Aq18 (below_step tq18_3 hb); clear hb hbox hg; have hcz64_0 : w63.cell? ⟨gb386, 0, none⟩ = some (.int .i64 a0_0) := (blk_cell BK386.out 0).trans rfl; have hcz64_1 : w63.cell? ⟨gb386, 1, none⟩ = some (.slice A0_1 l0_1.length c0_1) := (blk_cell BK386.out 1).trans rfl; have hcz64_2 : w63.cell? ⟨gb386, 2, none⟩ = some (.string a0_2) := (blk_cell BK386.out 2).trans rfl; have hcz64_3 : w63.cell? ⟨gb386, 3, none⟩ = some (.bool a0_3) := (blk_cell BK386.out 3).trans rfl; have hfz64_0 := blk_frozen BK386.out 0; have hfz64_1 := blk_frozen BK386.out 1; have hfz64_2 := blk_frozen BK386.out 2; have hfz64_3 := blk_frozen BK386.out 3) | ((with_reducible refine gate_dst (N := 3) rfl ?_); (try (refine gate_guard (by rfl) ?_; dsimp only)); refine box_event ?hg (N := 3) ?hd (cs := #[.int .i64 0, .slice none 0 0, .string (⟨#[]⟩ : ByteArray), .bool false]) (t := 24) ?hr ?_; (case hd => rfl); (case hg => rfl); (case hr => first | (go_simp; done) | (go_simp; rfl)); intro gb387 hg w65 hbox hb; have BK387 := Aq18 (hbox); have GW387 := Aq18 ((by rw [hg]; exact (below_size (tq18_5 GE386.out)) : w.heap.size ≤ gb387)); have GE387 := Aq18 ((by rw [hg]; exact (below_size (tq18_5 GE386.out)) : w.heap.size ≤ gb387)); have NB386_387 := Aq18 ((by rw [hg]; exact Nat.ne_of_lt (blk_lt (g := gb386) (o := .cells #[.int .i64 a0_0, .slice A0_1 l0_1.length c0_1, .string a0_2, .bool a0_3] 24 (0, 0)) (tq18_1 BK386.out)) : gb386 ≠ gb387)); have NB387_386 := Aq18 ((by rw [hg]; exact Nat.ne_of_gt (blk_lt (g := gb386) (o := .cells #[.int .i64 a0_0, .slice A0_1 l0_1.length c0_1, .string a0_2, .bool a0_3] 24 (0, 0)) (tq18_1 BK386.out)) : gb387 ≠ gb386)); replace BK386 := Aq18 (blk_below (g := gb386) (o := .cells #[.int .i64 a0_0, .slice A0_1 l0_1.length c0_1, .string a0_2, .bool a0_3] 24 (0, 0)) (tq18_1 BK386.out) hb); replace HB := Aq18 (below_step (tq18_5 GE386.out) hb); clear hb hbox hg; have hnb66 := NB387_386.out; have hnc66 := NB386_387.out; have hcz67_0 : w65.cell? ⟨gb387, 0, none⟩ = some (.int .i64 0) := (blk_cell BK387.out 0).trans rfl; have hcz67_1 : w65.cell? ⟨gb387, 1, none⟩ = some (.slice none 0 0) := (blk_cell BK387.out 1).trans rfl; have hcz67_2 : w65.cell? ⟨gb387, 2, none⟩ = some (.string (⟨#[]⟩ : ByteArray)) := (blk_cell BK387.out 2).trans rfl; have hcz67_3 : w65.cell? ⟨gb387, 3, none⟩ = some (.bool false) := (blk_cell BK387.out 3).trans rfl; have hfz67_0 := blk_frozen BK387.out 0; have hfz67_1 := blk_frozen BK387.out 1; have hfz67_2 := blk_frozen BK387.out 2; have hfz67_3 := blk_frozen BK387.out 3))
    have n0_ : Aside0 (((((w65.setCell ⟨gb387, 0, none⟩ (.int .i64 a0_0)).setCell ⟨gb387, 1, none⟩ (.slice A0_1 l0_1.length c0_1)).setCell ⟨gb387, 2, none⟩ (.string a0_2)).setCell ⟨gb387, 3, none⟩ (.bool a0_3)).heap[gb386]? = some (.cells #[.int .i64 a0_0, .slice A0_1 l0_1.length c0_1, .string a0_2, .bool a0_3] 24 (0, 0))) := ⟨(tq18_9 NB386_387.out BK386.out)⟩
    have n1_ : Aside0 (((((w65.setCell ⟨gb387, 0, none⟩ (.int .i64 a0_0)).setCell ⟨gb387, 1, none⟩ (.slice A0_1 l0_1.length c0_1)).setCell ⟨gb387, 2, none⟩ (.string a0_2)).setCell ⟨gb387, 3, none⟩ (.bool a0_3)).heap[gb387]? = some (.cells #[.int .i64 a0_0, .slice A0_1 l0_1.length c0_1, .string a0_2, .bool a0_3] 24 (0, 0))) := ⟨(tq18_b BK387.out)⟩
    have n2_ : Aside0 (Below w.heap.size w ((((w65.setCell ⟨gb387, 0, none⟩ (.int .i64 a0_0)).setCell ⟨gb387, 1, none⟩ (.slice A0_1 l0_1.length c0_1)).setCell ⟨gb387, 2, none⟩ (.string a0_2)).setCell ⟨gb387, 3, none⟩ (.bool a0_3))) := ⟨(tq18_6 GE386.out GE387.out)⟩
    (try clear BK386)
    (try clear BK387)
    (try clear HB)
    generalize ((((w65.setCell ⟨gb387, 0, none⟩ (.int .i64 a0_0)).setCell ⟨gb387, 1, none⟩ (.slice A0_1 l0_1.length c0_1)).setCell ⟨gb387, 2, none⟩ (.string a0_2)).setCell ⟨gb387, 3, none⟩ (.bool a0_3)) = w68 at n0_ n1_ n2_ ⊢
    have BK386 := n0_
    have BK387 := n1_
    have HB := n2_
    clear n0_ n1_ n2_
    have hcz69_0 : w68.cell? ⟨gb386, 0, none⟩ = some (.int .i64 a0_0) := (blk_cell BK386.out 0).trans rfl
    have hcz69_1 : w68.cell? ⟨gb386, 1, none⟩ = some (.slice A0_1 l0_1.length c0_1) := (blk_cell BK386.out 1).trans rfl
    have hcz69_2 : w68.cell? ⟨gb386, 2, none⟩ = some (.string a0_2) := (blk_cell BK386.out 2).trans rfl
    have hcz69_3 : w68.cell? ⟨gb386, 3, none⟩ = some (.bool a0_3) := (blk_cell BK386.out 3).trans rfl
    have hfz69_0 := blk_frozen BK386.out 0
    have hfz69_1 := blk_frozen BK386.out 1
    have hfz69_2 := blk_frozen BK386.out 2
    have hfz69_3 := blk_frozen BK386.out 3
    go_upto_region 3 with (first | ((with_reducible refine gate_callee (f := 19) rfl ?_); refine goesL_ (some 12) rfl rfl Tryd.func19 (by kernel_rfl) rfl #[.string a0_2, .int .i64 1048576] rfl tq18_4 ?_; (with_reducible refine (usherkit_Head.calls a0_2 1048576 t388 _ A2.out).mono ?_); rintro e w' ⟨rfl, ⟨nd, rfl⟩⟩; refine ⟨_, rfl, ?_⟩; (try (rw [drewN_self w68]; generalize hq_ : World.drewN w68 _ = w68; have n0_ : Aside0 (w68.heap[gb386]? = some (.cells #[.int .i64 a0_0, .slice A0_1 l0_1.length c0_1, .string a0_2, .bool a0_3] 24 (0, 0))) := ⟨(tq18_2 BK386.out)⟩; have n1_ : Aside0 (w68.heap[gb387]? = some (.cells #[.int .i64 a0_0, .slice A0_1 l0_1.length c0_1, .string a0_2, .bool a0_3] 24 (0, 0))) := ⟨(tq18_2 BK387.out)⟩; have n2_ : Aside0 (Below w.heap.size w w68) := ⟨(tq18_7 GE386.out GE387.out)⟩; clear BK386 BK387 HB hq_; have BK386 := n0_; have BK387 := n1_; have HB := n2_; clear n0_ n1_ n2_)); have hcz70_0 : w68.cell? ⟨gb387, 0, none⟩ = some (.int .i64 a0_0) := (blk_cell BK387.out 0).trans rfl; have hcz70_1 : w68.cell? ⟨gb387, 1, none⟩ = some (.slice A0_1 l0_1.length c0_1) := (blk_cell BK387.out 1).trans rfl; have hcz70_2 : w68.cell? ⟨gb387, 2, none⟩ = some (.string a0_2) := (blk_cell BK387.out 2).trans rfl; have hcz70_3 : w68.cell? ⟨gb387, 3, none⟩ = some (.bool a0_3) := (blk_cell BK387.out 3).trans rfl; have hfz70_0 := blk_frozen BK387.out 0; have hfz70_1 := blk_frozen BK387.out 1; have hfz70_2 := blk_frozen BK387.out 2; have hfz70_3 := blk_frozen BK387.out 3))
    have n0_ : Aside0 ((w68.setCell ⟨gb387, 2, none⟩ (.string t388)).heap[gb386]? = some (.cells #[.int .i64 a0_0, .slice A0_1 l0_1.length c0_1, .string a0_2, .bool a0_3] 24 (0, 0))) := ⟨(tq18_8 NB386_387.out BK386.out)⟩
    have n1_ : Aside0 ((w68.setCell ⟨gb387, 2, none⟩ (.string t388)).heap[gb387]? = some (.cells #[.int .i64 a0_0, .slice A0_1 l0_1.length c0_1, .string t388, .bool a0_3] 24 (0, 0))) := ⟨(tq18_a BK387.out)⟩
    have n2_ : Aside0 (Below w.heap.size w (w68.setCell ⟨gb387, 2, none⟩ (.string t388))) := ⟨(tq18_6 GE386.out GE387.out)⟩
    (try clear BK386)
    (try clear BK387)
    (try clear HB)
    generalize (w68.setCell ⟨gb387, 2, none⟩ (.string t388)) = w71 at n0_ n1_ n2_ ⊢
    have BK386 := n0_
    have BK387 := n1_
    have HB := n2_
    clear n0_ n1_ n2_
    have hcz72_0 : w71.cell? ⟨gb387, 0, none⟩ = some (.int .i64 a0_0) := (blk_cell BK387.out 0).trans rfl
    have hcz72_1 : w71.cell? ⟨gb387, 1, none⟩ = some (.slice A0_1 l0_1.length c0_1) := (blk_cell BK387.out 1).trans rfl
    have hcz72_2 : w71.cell? ⟨gb387, 2, none⟩ = some (.string t388) := (blk_cell BK387.out 2).trans rfl
    have hcz72_3 : w71.cell? ⟨gb387, 3, none⟩ = some (.bool a0_3) := (blk_cell BK387.out 3).trans rfl
    have hfz72_0 := blk_frozen BK387.out 0
    have hfz72_1 := blk_frozen BK387.out 1
    have hfz72_2 := blk_frozen BK387.out 2
    have hfz72_3 := blk_frozen BK387.out 3
    go_wp2_with (first | ((with_reducible refine gate_callee (f := 15) rfl ?_); refine goesL_ (some 16) rfl rfl Tryd.func15 (by kernel_rfl) rfl #[.agg #[.int .i64 a0_0, .slice A0_1 l0_1.length c0_1, .string t388, .bool a0_3], .bool true] rfl tq18_4 ?_; (with_reducible refine (reply_Render.calls k a0_0 _ _ l0_1 t388 a0_3 true t389 (some q395) _ ?side1 ?side2 A3.out ?side3).mono ?_); (case side1 => repeat (first | exact (Kd.C_below HR0_1.out HB.out) | (with_reducible refine Kd.C_alloc ?_ _) | (with_reducible refine Kd.C_drewN ?_ _) | (with_reducible refine Kd.C_drew ?_))); (case side2 => exact HC0_1.out); (case side3 => exact HG.out.step (tq18_6 GE386.out GE387.out) rfl); rintro e w73 ⟨rfl, hb⟩; refine ⟨_, rfl, ?_⟩; replace BK386 := Aq18 (blk_below (g := gb386) (o := .cells #[.int .i64 a0_0, .slice A0_1 l0_1.length c0_1, .string a0_2, .bool a0_3] 24 (0, 0)) (tq18_1 BK386.out) hb); replace BK387 := Aq18 (blk_below (g := gb387) (o := .cells #[.int .i64 a0_0, .slice A0_1 l0_1.length c0_1, .string t388, .bool a0_3] 24 (0, 0)) (tq18_1 BK387.out) hb); replace HB := Aq18 (below_step (tq18_6 GE386.out GE387.out) hb); (try clear hb); (try clear hb2); (try clear hk); (try clear hi); (try simp only [errW_none, errW_some]); have hcz74_0 : w73.cell? ⟨gb387, 0, none⟩ = some (.int .i64 a0_0) := (blk_cell BK387.out 0).trans rfl; have hcz74_1 : w73.cell? ⟨gb387, 1, none⟩ = some (.slice A0_1 l0_1.length c0_1) := (blk_cell BK387.out 1).trans rfl; have hcz74_2 : w73.cell? ⟨gb387, 2, none⟩ = some (.string t388) := (blk_cell BK387.out 2).trans rfl; have hcz74_3 : w73.cell? ⟨gb387, 3, none⟩ = some (.bool a0_3) := (blk_cell BK387.out 3).trans rfl; have hfz74_0 := blk_frozen BK387.out 0; have hfz74_1 := blk_frozen BK387.out 1; have hfz74_2 := blk_frozen BK387.out 2; have hfz74_3 := blk_frozen BK387.out 3) | ((with_reducible refine gate_callee (f := 20) rfl ?_); refine goesL_ (some 31) rfl rfl Tryd.func20 (by kernel_rfl) rfl #[.agg #[.int .i64 a0_0, .slice A0_1 l0_1.length c0_1, .string t388, .bool a0_3]] rfl tq18_4 ?_; (with_reducible refine (usherlaw8_mayBe.calls k a0_0 _ _ l0_1 t388 a0_3 true _ ?side1 ?side2 A31.out ?side3).mono ?_); (case side1 => repeat (first | exact (Kd.C_below HR0_1.out HB.out) | (with_reducible refine Kd.C_alloc ?_ _) | (with_reducible refine Kd.C_drewN ?_ _) | (with_reducible refine Kd.C_drew ?_))); (case side2 => exact HC0_1.out); (case side3 => exact HG.out.step (tq18_6 GE386.out GE387.out) rfl); rintro e w75 ⟨rfl, hb⟩; refine ⟨_, rfl, ?_⟩; replace BK386 := Aq18 (blk_below (g := gb386) (o := .cells #[.int .i64 a0_0, .slice A0_1 l0_1.length c0_1, .string a0_2, .bool a0_3] 24 (0, 0)) (tq18_1 BK386.out) hb); replace BK387 := Aq18 (blk_below (g := gb387) (o := .cells #[.int .i64 a0_0, .slice A0_1 l0_1.length c0_1, .string t388, .bool a0_3] 24 (0, 0)) (tq18_1 BK387.out) hb); replace HB := Aq18 (below_step (tq18_6 GE386.out GE387.out) hb); (try clear hb); (try clear hb2); (try clear hk); (try clear hi)) | ((with_reducible refine gate_callee (f := 21) rfl ?_); refine goesL_ (some 43) rfl rfl Tryd.func21 (by kernel_rfl) rfl #[.string t389] rfl tq18_4 ?_; (with_reducible refine (usherlaw8_lineEnds.calls k t389 t393 t394 _ A33.out).mono ?_); rintro e w' ⟨rfl, ⟨nd, rfl⟩⟩; refine ⟨_, rfl, ?_⟩))
    go_ret
    exact ⟨tq18_0, (tq18_6 GE386.out GE387.out)⟩
  ·replace c32 := Bool.eq_false_iff.mpr c32
   subst c32
   have H1 : (if t389.toList = ([] : List UInt8) then ((usherkit_Num.f t390).bind fun t396 => (some (t396 == 1))) else (some false)) = some r := by rw [if_neg (show ¬ (false = true) by decide)] at H; exact H
   clear H
   have H := H1
   clear H1
   by_cases c76 : t389.toList = ([] : List UInt8)
   ·rw [if_pos c76] at H
    have c76b0 : (t389.toList == ([] : List UInt8)) = true := beq_iff_eq.mpr c76
    have c76b1 : (t389.toList != ([] : List UInt8)) = false := bne_eq_false_iff_eq.mpr c76
    clear c76
    replace H := Option.bind_eq_some_iff.mp H
    obtain ⟨t396, A770, H⟩ := H
    replace H : (some (t396 == 1)) = some r := H
    have A77 := Aq18 A770
    clear A770
    obtain rfl := Option.some.inj H
    go_enter Tryd.func4, Tryd.ntmps4
    go_upto_region 2 with (first | ((with_reducible refine gate_dst (N := 1) rfl ?_); (try (refine gate_guard (by rfl) ?_; dsimp only)); refine box_event ?hg (N := 1) ?hd (cs := #[.int .i64 a0_0, .slice A0_1 l0_1.length c0_1, .string a0_2, .bool a0_3]) (t := 24) ?hr ?_; (case hd => rfl); (case hg => rfl); (case hr => first | (go_simp; done) | (go_simp; rfl)); intro gb386 hg w78 hbox hb; have BK386 := Aq18 (hbox); have GW386 := Aq18 ((by rw [hg]; exact (below_size tq18_3) : w.heap.size ≤ gb386)); have GE386 := Aq18 ((by rw [hg]; exact (below_size tq18_3) : w.heap.size ≤ gb386)); replace HB := Aq18 (below_step tq18_3 hb); clear hb hbox hg; have hcz79_0 : w78.cell? ⟨gb386, 0, none⟩ = some (.int .i64 a0_0) := (blk_cell BK386.out 0).trans rfl; have hcz79_1 : w78.cell? ⟨gb386, 1, none⟩ = some (.slice A0_1 l0_1.length c0_1) := (blk_cell BK386.out 1).trans rfl; have hcz79_2 : w78.cell? ⟨gb386, 2, none⟩ = some (.string a0_2) := (blk_cell BK386.out 2).trans rfl; have hcz79_3 : w78.cell? ⟨gb386, 3, none⟩ = some (.bool a0_3) := (blk_cell BK386.out 3).trans rfl; have hfz79_0 := blk_frozen BK386.out 0; have hfz79_1 := blk_frozen BK386.out 1; have hfz79_2 := blk_frozen BK386.out 2; have hfz79_3 := blk_frozen BK386.out 3) | ((with_reducible refine gate_dst (N := 3) rfl ?_); (try (refine gate_guard (by rfl) ?_; dsimp only)); refine box_event ?hg (N := 3) ?hd (cs := #[.int .i64 0, .slice none 0 0, .string (⟨#[]⟩ : ByteArray), .bool false]) (t := 24) ?hr ?_; (case hd => rfl); (case hg => rfl); (case hr => first | (go_simp; done) | (go_simp; rfl)); intro gb387 hg w80 hbox hb; have BK387 := Aq18 (hbox); have GW387 := Aq18 ((by rw [hg]; exact (below_size (tq18_5 GE386.out)) : w.heap.size ≤ gb387)); have GE387 := Aq18 ((by rw [hg]; exact (below_size (tq18_5 GE386.out)) : w.heap.size ≤ gb387)); have NB386_387 := Aq18 ((by rw [hg]; exact Nat.ne_of_lt (blk_lt (g := gb386) (o := .cells #[.int .i64 a0_0, .slice A0_1 l0_1.length c0_1, .string a0_2, .bool a0_3] 24 (0, 0)) (tq18_1 BK386.out)) : gb386 ≠ gb387)); have NB387_386 := Aq18 ((by rw [hg]; exact Nat.ne_of_gt (blk_lt (g := gb386) (o := .cells #[.int .i64 a0_0, .slice A0_1 l0_1.length c0_1, .string a0_2, .bool a0_3] 24 (0, 0)) (tq18_1 BK386.out)) : gb387 ≠ gb386)); replace BK386 := Aq18 (blk_below (g := gb386) (o := .cells #[.int .i64 a0_0, .slice A0_1 l0_1.length c0_1, .string a0_2, .bool a0_3] 24 (0, 0)) (tq18_1 BK386.out) hb); replace HB := Aq18 (below_step (tq18_5 GE386.out) hb); clear hb hbox hg; have hnb81 := NB387_386.out; have hnc81 := NB386_387.out; have hcz82_0 : w80.cell? ⟨gb387, 0, none⟩ = some (.int .i64 0) := (blk_cell BK387.out 0).trans rfl; have hcz82_1 : w80.cell? ⟨gb387, 1, none⟩ = some (.slice none 0 0) := (blk_cell BK387.out 1).trans rfl; have hcz82_2 : w80.cell? ⟨gb387, 2, none⟩ = some (.string (⟨#[]⟩ : ByteArray)) := (blk_cell BK387.out 2).trans rfl; have hcz82_3 : w80.cell? ⟨gb387, 3, none⟩ = some (.bool false) := (blk_cell BK387.out 3).trans rfl; have hfz82_0 := blk_frozen BK387.out 0; have hfz82_1 := blk_frozen BK387.out 1; have hfz82_2 := blk_frozen BK387.out 2; have hfz82_3 := blk_frozen BK387.out 3))
    have n0_ : Aside0 (((((w80.setCell ⟨gb387, 0, none⟩ (.int .i64 a0_0)).setCell ⟨gb387, 1, none⟩ (.slice A0_1 l0_1.length c0_1)).setCell ⟨gb387, 2, none⟩ (.string a0_2)).setCell ⟨gb387, 3, none⟩ (.bool a0_3)).heap[gb386]? = some (.cells #[.int .i64 a0_0, .slice A0_1 l0_1.length c0_1, .string a0_2, .bool a0_3] 24 (0, 0))) := ⟨(tq18_9 NB386_387.out BK386.out)⟩
    have n1_ : Aside0 (((((w80.setCell ⟨gb387, 0, none⟩ (.int .i64 a0_0)).setCell ⟨gb387, 1, none⟩ (.slice A0_1 l0_1.length c0_1)).setCell ⟨gb387, 2, none⟩ (.string a0_2)).setCell ⟨gb387, 3, none⟩ (.bool a0_3)).heap[gb387]? = some (.cells #[.int .i64 a0_0, .slice A0_1 l0_1.length c0_1, .string a0_2, .bool a0_3] 24 (0, 0))) := ⟨(tq18_b BK387.out)⟩
    have n2_ : Aside0 (Below w.heap.size w ((((w80.setCell ⟨gb387, 0, none⟩ (.int .i64 a0_0)).setCell ⟨gb387, 1, none⟩ (.slice A0_1 l0_1.length c0_1)).setCell ⟨gb387, 2, none⟩ (.string a0_2)).setCell ⟨gb387, 3, none⟩ (.bool a0_3))) := ⟨(tq18_6 GE386.out GE387.out)⟩
    (try clear BK386)
    (try clear BK387)
    (try clear HB)
    generalize ((((w80.setCell ⟨gb387, 0, none⟩ (.int .i64 a0_0)).setCell ⟨gb387, 1, none⟩ (.slice A0_1 l0_1.length c0_1)).setCell ⟨gb387, 2, none⟩ (.string a0_2)).setCell ⟨gb387, 3, none⟩ (.bool a0_3)) = w83 at n0_ n1_ n2_ ⊢
    have BK386 := n0_
    have BK387 := n1_
    have HB := n2_
    clear n0_ n1_ n2_
    have hcz84_0 : w83.cell? ⟨gb386, 0, none⟩ = some (.int .i64 a0_0) := (blk_cell BK386.out 0).trans rfl
    have hcz84_1 : w83.cell? ⟨gb386, 1, none⟩ = some (.slice A0_1 l0_1.length c0_1) := (blk_cell BK386.out 1).trans rfl
    have hcz84_2 : w83.cell? ⟨gb386, 2, none⟩ = some (.string a0_2) := (blk_cell BK386.out 2).trans rfl
    have hcz84_3 : w83.cell? ⟨gb386, 3, none⟩ = some (.bool a0_3) := (blk_cell BK386.out 3).trans rfl
    have hfz84_0 := blk_frozen BK386.out 0
    have hfz84_1 := blk_frozen BK386.out 1
    have hfz84_2 := blk_frozen BK386.out 2
    have hfz84_3 := blk_frozen BK386.out 3
    go_upto_region 3 with (first | ((with_reducible refine gate_callee (f := 19) rfl ?_); refine goesL_ (some 12) rfl rfl Tryd.func19 (by kernel_rfl) rfl #[.string a0_2, .int .i64 1048576] rfl tq18_4 ?_; (with_reducible refine (usherkit_Head.calls a0_2 1048576 t388 _ A2.out).mono ?_); rintro e w' ⟨rfl, ⟨nd, rfl⟩⟩; refine ⟨_, rfl, ?_⟩; (try (rw [drewN_self w83]; generalize hq_ : World.drewN w83 _ = w83; have n0_ : Aside0 (w83.heap[gb386]? = some (.cells #[.int .i64 a0_0, .slice A0_1 l0_1.length c0_1, .string a0_2, .bool a0_3] 24 (0, 0))) := ⟨(tq18_2 BK386.out)⟩; have n1_ : Aside0 (w83.heap[gb387]? = some (.cells #[.int .i64 a0_0, .slice A0_1 l0_1.length c0_1, .string a0_2, .bool a0_3] 24 (0, 0))) := ⟨(tq18_2 BK387.out)⟩; have n2_ : Aside0 (Below w.heap.size w w83) := ⟨(tq18_7 GE386.out GE387.out)⟩; clear BK386 BK387 HB hq_; have BK386 := n0_; have BK387 := n1_; have HB := n2_; clear n0_ n1_ n2_)); have hcz85_0 : w83.cell? ⟨gb387, 0, none⟩ = some (.int .i64 a0_0) := (blk_cell BK387.out 0).trans rfl; have hcz85_1 : w83.cell? ⟨gb387, 1, none⟩ = some (.slice A0_1 l0_1.length c0_1) := (blk_cell BK387.out 1).trans rfl; have hcz85_2 : w83.cell? ⟨gb387, 2, none⟩ = some (.string a0_2) := (blk_cell BK387.out 2).trans rfl; have hcz85_3 : w83.cell? ⟨gb387, 3, none⟩ = some (.bool a0_3) := (blk_cell BK387.out 3).trans rfl; have hfz85_0 := blk_frozen BK387.out 0; have hfz85_1 := blk_frozen BK387.out 1; have hfz85_2 := blk_frozen BK387.out 2; have hfz85_3 := blk_frozen BK387.out 3))
    have n0_ : Aside0 ((w83.setCell ⟨gb387, 2, none⟩ (.string t388)).heap[gb386]? = some (.cells #[.int .i64 a0_0, .slice A0_1 l0_1.length c0_1, .string a0_2, .bool a0_3] 24 (0, 0))) := ⟨(tq18_8 NB386_387.out BK386.out)⟩
    have n1_ : Aside0 ((w83.setCell ⟨gb387, 2, none⟩ (.string t388)).heap[gb387]? = some (.cells #[.int .i64 a0_0, .slice A0_1 l0_1.length c0_1, .string t388, .bool a0_3] 24 (0, 0))) := ⟨(tq18_a BK387.out)⟩
    have n2_ : Aside0 (Below w.heap.size w (w83.setCell ⟨gb387, 2, none⟩ (.string t388))) := ⟨(tq18_6 GE386.out GE387.out)⟩
    (try clear BK386)
    (try clear BK387)
    (try clear HB)
    generalize (w83.setCell ⟨gb387, 2, none⟩ (.string t388)) = w86 at n0_ n1_ n2_ ⊢
    have BK386 := n0_
    have BK387 := n1_
    have HB := n2_
    clear n0_ n1_ n2_
    have hcz87_0 : w86.cell? ⟨gb387, 0, none⟩ = some (.int .i64 a0_0) := (blk_cell BK387.out 0).trans rfl
    have hcz87_1 : w86.cell? ⟨gb387, 1, none⟩ = some (.slice A0_1 l0_1.length c0_1) := (blk_cell BK387.out 1).trans rfl
    have hcz87_2 : w86.cell? ⟨gb387, 2, none⟩ = some (.string t388) := (blk_cell BK387.out 2).trans rfl
    have hcz87_3 : w86.cell? ⟨gb387, 3, none⟩ = some (.bool a0_3) := (blk_cell BK387.out 3).trans rfl
    have hfz87_0 := blk_frozen BK387.out 0
    have hfz87_1 := blk_frozen BK387.out 1
    have hfz87_2 := blk_frozen BK387.out 2
    have hfz87_3 := blk_frozen BK387.out 3
    go_wp2_with (first | ((with_reducible refine gate_callee (f := 15) rfl ?_); refine goesL_ (some 16) rfl rfl Tryd.func15 (by kernel_rfl) rfl #[.agg #[.int .i64 a0_0, .slice A0_1 l0_1.length c0_1, .string t388, .bool a0_3], .bool true] rfl tq18_4 ?_; (with_reducible refine (reply_Render.calls k a0_0 _ _ l0_1 t388 a0_3 true t389 t390 _ ?side1 ?side2 A3.out ?side3).mono ?_); (case side1 => repeat (first | exact (Kd.C_below HR0_1.out HB.out) | (with_reducible refine Kd.C_alloc ?_ _) | (with_reducible refine Kd.C_drewN ?_ _) | (with_reducible refine Kd.C_drew ?_))); (case side2 => exact HC0_1.out); (case side3 => exact HG.out.step (tq18_6 GE386.out GE387.out) rfl); rintro e w88 ⟨rfl, hb⟩; refine ⟨_, rfl, ?_⟩; replace BK386 := Aq18 (blk_below (g := gb386) (o := .cells #[.int .i64 a0_0, .slice A0_1 l0_1.length c0_1, .string a0_2, .bool a0_3] 24 (0, 0)) (tq18_1 BK386.out) hb); replace BK387 := Aq18 (blk_below (g := gb387) (o := .cells #[.int .i64 a0_0, .slice A0_1 l0_1.length c0_1, .string t388, .bool a0_3] 24 (0, 0)) (tq18_1 BK387.out) hb); replace HB := Aq18 (below_step (tq18_6 GE386.out GE387.out) hb); (try clear hb); (try clear hb2); (try clear hk); (try clear hi); (try simp only [errW_none, errW_some]); have hcz89_0 : w88.cell? ⟨gb387, 0, none⟩ = some (.int .i64 a0_0) := (blk_cell BK387.out 0).trans rfl; have hcz89_1 : w88.cell? ⟨gb387, 1, none⟩ = some (.slice A0_1 l0_1.length c0_1) := (blk_cell BK387.out 1).trans rfl; have hcz89_2 : w88.cell? ⟨gb387, 2, none⟩ = some (.string t388) := (blk_cell BK387.out 2).trans rfl; have hcz89_3 : w88.cell? ⟨gb387, 3, none⟩ = some (.bool a0_3) := (blk_cell BK387.out 3).trans rfl; have hfz89_0 := blk_frozen BK387.out 0; have hfz89_1 := blk_frozen BK387.out 1; have hfz89_2 := blk_frozen BK387.out 2; have hfz89_3 := blk_frozen BK387.out 3) | ((with_reducible refine gate_callee (f := 20) rfl ?_); refine goesL_ (some 31) rfl rfl Tryd.func20 (by kernel_rfl) rfl #[.agg #[.int .i64 a0_0, .slice A0_1 l0_1.length c0_1, .string t388, .bool a0_3]] rfl tq18_4 ?_; (with_reducible refine (usherlaw8_mayBe.calls k a0_0 _ _ l0_1 t388 a0_3 false _ ?side1 ?side2 A31.out ?side3).mono ?_); (case side1 => repeat (first | exact (Kd.C_below HR0_1.out HB.out) | (with_reducible refine Kd.C_alloc ?_ _) | (with_reducible refine Kd.C_drewN ?_ _) | (with_reducible refine Kd.C_drew ?_))); (case side2 => exact HC0_1.out); (case side3 => exact HG.out.step (tq18_6 GE386.out GE387.out) rfl); rintro e w90 ⟨rfl, hb⟩; refine ⟨_, rfl, ?_⟩; replace BK386 := Aq18 (blk_below (g := gb386) (o := .cells #[.int .i64 a0_0, .slice A0_1 l0_1.length c0_1, .string a0_2, .bool a0_3] 24 (0, 0)) (tq18_1 BK386.out) hb); replace BK387 := Aq18 (blk_below (g := gb387) (o := .cells #[.int .i64 a0_0, .slice A0_1 l0_1.length c0_1, .string t388, .bool a0_3] 24 (0, 0)) (tq18_1 BK387.out) hb); replace HB := Aq18 (below_step (tq18_6 GE386.out GE387.out) hb); (try clear hb); (try clear hb2); (try clear hk); (try clear hi); have CA77 := fun W (hG_ : Glob [0, 1, 2, 3, 4, 5, 6, 10, 11, 12, 13, 14, 15, 999] W) => usherkit_Num.calls t390 t396 W A77.out (hG_.sub rfl); try simp only [errW_none, errW_some] at CA77) | (go_at_call 17; (with_reducible refine (CA77 _ ?side1).mono ?_); (case side1 => exact HG.out.step (tq18_6 GE386.out GE387.out) rfl); rintro e w' ⟨rfl, ⟨nd, rfl⟩⟩))
    go_ret
    exact ⟨tq18_0, (tq18_6 GE386.out GE387.out)⟩
   ·rw [if_neg c76] at H
    have c76b0 : (t389.toList == ([] : List UInt8)) = false := beq_eq_false_iff_ne.mpr c76
    have c76b1 : (t389.toList != ([] : List UInt8)) = true := bne_iff_ne.mpr c76
    obtain rfl := Option.some.inj H
    go_enter Tryd.func4, Tryd.ntmps4
    go_upto_region 2 with (first | ((with_reducible refine gate_dst (N := 1) rfl ?_); (try (refine gate_guard (by rfl) ?_; dsimp only)); refine box_event ?hg (N := 1) ?hd (cs := #[.int .i64 a0_0, .slice A0_1 l0_1.length c0_1, .string a0_2, .bool a0_3]) (t := 24) ?hr ?_; (case hd => rfl); (case hg => rfl); (case hr => first | (go_simp; done) | (go_simp; rfl)); intro gb386 hg w91 hbox hb; have BK386 := Aq18 (hbox); have GW386 := Aq18 ((by rw [hg]; exact (below_size tq18_3) : w.heap.size ≤ gb386)); have GE386 := Aq18 ((by rw [hg]; exact (below_size tq18_3) : w.heap.size ≤ gb386)); replace HB := Aq18 (below_step tq18_3 hb); clear hb hbox hg; have hcz92_0 : w91.cell? ⟨gb386, 0, none⟩ = some (.int .i64 a0_0) := (blk_cell BK386.out 0).trans rfl; have hcz92_1 : w91.cell? ⟨gb386, 1, none⟩ = some (.slice A0_1 l0_1.length c0_1) := (blk_cell BK386.out 1).trans rfl; have hcz92_2 : w91.cell? ⟨gb386, 2, none⟩ = some (.string a0_2) := (blk_cell BK386.out 2).trans rfl; have hcz92_3 : w91.cell? ⟨gb386, 3, none⟩ = some (.bool a0_3) := (blk_cell BK386.out 3).trans rfl; have hfz92_0 := blk_frozen BK386.out 0; have hfz92_1 := blk_frozen BK386.out 1; have hfz92_2 := blk_frozen BK386.out 2; have hfz92_3 := blk_frozen BK386.out 3) | ((with_reducible refine gate_dst (N := 3) rfl ?_); (try (refine gate_guard (by rfl) ?_; dsimp only)); refine box_event ?hg (N := 3) ?hd (cs := #[.int .i64 0, .slice none 0 0, .string (⟨#[]⟩ : ByteArray), .bool false]) (t := 24) ?hr ?_; (case hd => rfl); (case hg => rfl); (case hr => first | (go_simp; done) | (go_simp; rfl)); intro gb387 hg w93 hbox hb; have BK387 := Aq18 (hbox); have GW387 := Aq18 ((by rw [hg]; exact (below_size (tq18_5 GE386.out)) : w.heap.size ≤ gb387)); have GE387 := Aq18 ((by rw [hg]; exact (below_size (tq18_5 GE386.out)) : w.heap.size ≤ gb387)); have NB386_387 := Aq18 ((by rw [hg]; exact Nat.ne_of_lt (blk_lt (g := gb386) (o := .cells #[.int .i64 a0_0, .slice A0_1 l0_1.length c0_1, .string a0_2, .bool a0_3] 24 (0, 0)) (tq18_1 BK386.out)) : gb386 ≠ gb387)); have NB387_386 := Aq18 ((by rw [hg]; exact Nat.ne_of_gt (blk_lt (g := gb386) (o := .cells #[.int .i64 a0_0, .slice A0_1 l0_1.length c0_1, .string a0_2, .bool a0_3] 24 (0, 0)) (tq18_1 BK386.out)) : gb387 ≠ gb386)); replace BK386 := Aq18 (blk_below (g := gb386) (o := .cells #[.int .i64 a0_0, .slice A0_1 l0_1.length c0_1, .string a0_2, .bool a0_3] 24 (0, 0)) (tq18_1 BK386.out) hb); replace HB := Aq18 (below_step (tq18_5 GE386.out) hb); clear hb hbox hg; have hnb94 := NB387_386.out; have hnc94 := NB386_387.out; have hcz95_0 : w93.cell? ⟨gb387, 0, none⟩ = some (.int .i64 0) := (blk_cell BK387.out 0).trans rfl; have hcz95_1 : w93.cell? ⟨gb387, 1, none⟩ = some (.slice none 0 0) := (blk_cell BK387.out 1).trans rfl; have hcz95_2 : w93.cell? ⟨gb387, 2, none⟩ = some (.string (⟨#[]⟩ : ByteArray)) := (blk_cell BK387.out 2).trans rfl; have hcz95_3 : w93.cell? ⟨gb387, 3, none⟩ = some (.bool false) := (blk_cell BK387.out 3).trans rfl; have hfz95_0 := blk_frozen BK387.out 0; have hfz95_1 := blk_frozen BK387.out 1; have hfz95_2 := blk_frozen BK387.out 2; have hfz95_3 := blk_frozen BK387.out 3))
    have n0_ : Aside0 (((((w93.setCell ⟨gb387, 0, none⟩ (.int .i64 a0_0)).setCell ⟨gb387, 1, none⟩ (.slice A0_1 l0_1.length c0_1)).setCell ⟨gb387, 2, none⟩ (.string a0_2)).setCell ⟨gb387, 3, none⟩ (.bool a0_3)).heap[gb386]? = some (.cells #[.int .i64 a0_0, .slice A0_1 l0_1.length c0_1, .string a0_2, .bool a0_3] 24 (0, 0))) := ⟨(tq18_9 NB386_387.out BK386.out)⟩
    have n1_ : Aside0 (((((w93.setCell ⟨gb387, 0, none⟩ (.int .i64 a0_0)).setCell ⟨gb387, 1, none⟩ (.slice A0_1 l0_1.length c0_1)).setCell ⟨gb387, 2, none⟩ (.string a0_2)).setCell ⟨gb387, 3, none⟩ (.bool a0_3)).heap[gb387]? = some (.cells #[.int .i64 a0_0, .slice A0_1 l0_1.length c0_1, .string a0_2, .bool a0_3] 24 (0, 0))) := ⟨(tq18_b BK387.out)⟩
    have n2_ : Aside0 (Below w.heap.size w ((((w93.setCell ⟨gb387, 0, none⟩ (.int .i64 a0_0)).setCell ⟨gb387, 1, none⟩ (.slice A0_1 l0_1.length c0_1)).setCell ⟨gb387, 2, none⟩ (.string a0_2)).setCell ⟨gb387, 3, none⟩ (.bool a0_3))) := ⟨(tq18_6 GE386.out GE387.out)⟩
    (try clear BK386)
    (try clear BK387)
    (try clear HB)
    generalize ((((w93.setCell ⟨gb387, 0, none⟩ (.int .i64 a0_0)).setCell ⟨gb387, 1, none⟩ (.slice A0_1 l0_1.length c0_1)).setCell ⟨gb387, 2, none⟩ (.string a0_2)).setCell ⟨gb387, 3, none⟩ (.bool a0_3)) = w96 at n0_ n1_ n2_ ⊢
    have BK386 := n0_
    have BK387 := n1_
    have HB := n2_
    clear n0_ n1_ n2_
    have hcz97_0 : w96.cell? ⟨gb386, 0, none⟩ = some (.int .i64 a0_0) := (blk_cell BK386.out 0).trans rfl
    have hcz97_1 : w96.cell? ⟨gb386, 1, none⟩ = some (.slice A0_1 l0_1.length c0_1) := (blk_cell BK386.out 1).trans rfl
    have hcz97_2 : w96.cell? ⟨gb386, 2, none⟩ = some (.string a0_2) := (blk_cell BK386.out 2).trans rfl
    have hcz97_3 : w96.cell? ⟨gb386, 3, none⟩ = some (.bool a0_3) := (blk_cell BK386.out 3).trans rfl
    have hfz97_0 := blk_frozen BK386.out 0
    have hfz97_1 := blk_frozen BK386.out 1
    have hfz97_2 := blk_frozen BK386.out 2
    have hfz97_3 := blk_frozen BK386.out 3
    go_upto_region 3 with (first | ((with_reducible refine gate_callee (f := 19) rfl ?_); refine goesL_ (some 12) rfl rfl Tryd.func19 (by kernel_rfl) rfl #[.string a0_2, .int .i64 1048576] rfl tq18_4 ?_; (with_reducible refine (usherkit_Head.calls a0_2 1048576 t388 _ A2.out).mono ?_); rintro e w' ⟨rfl, ⟨nd, rfl⟩⟩; refine ⟨_, rfl, ?_⟩; (try (rw [drewN_self w96]; generalize hq_ : World.drewN w96 _ = w96; have n0_ : Aside0 (w96.heap[gb386]? = some (.cells #[.int .i64 a0_0, .slice A0_1 l0_1.length c0_1, .string a0_2, .bool a0_3] 24 (0, 0))) := ⟨(tq18_2 BK386.out)⟩; have n1_ : Aside0 (w96.heap[gb387]? = some (.cells #[.int .i64 a0_0, .slice A0_1 l0_1.length c0_1, .string a0_2, .bool a0_3] 24 (0, 0))) := ⟨(tq18_2 BK387.out)⟩; have n2_ : Aside0 (Below w.heap.size w w96) := ⟨(tq18_7 GE386.out GE387.out)⟩; clear BK386 BK387 HB hq_; have BK386 := n0_; have BK387 := n1_; have HB := n2_; clear n0_ n1_ n2_)); have hcz98_0 : w96.cell? ⟨gb387, 0, none⟩ = some (.int .i64 a0_0) := (blk_cell BK387.out 0).trans rfl; have hcz98_1 : w96.cell? ⟨gb387, 1, none⟩ = some (.slice A0_1 l0_1.length c0_1) := (blk_cell BK387.out 1).trans rfl; have hcz98_2 : w96.cell? ⟨gb387, 2, none⟩ = some (.string a0_2) := (blk_cell BK387.out 2).trans rfl; have hcz98_3 : w96.cell? ⟨gb387, 3, none⟩ = some (.bool a0_3) := (blk_cell BK387.out 3).trans rfl; have hfz98_0 := blk_frozen BK387.out 0; have hfz98_1 := blk_frozen BK387.out 1; have hfz98_2 := blk_frozen BK387.out 2; have hfz98_3 := blk_frozen BK387.out 3))
    have n0_ : Aside0 ((w96.setCell ⟨gb387, 2, none⟩ (.string t388)).heap[gb386]? = some (.cells #[.int .i64 a0_0, .slice A0_1 l0_1.length c0_1, .string a0_2, .bool a0_3] 24 (0, 0))) := ⟨(tq18_8 NB386_387.out BK386.out)⟩
    have n1_ : Aside0 ((w96.setCell ⟨gb387, 2, none⟩ (.string t388)).heap[gb387]? = some (.cells #[.int .i64 a0_0, .slice A0_1 l0_1.length c0_1, .string t388, .bool a0_3] 24 (0, 0))) := ⟨(tq18_a BK387.out)⟩
    have n2_ : Aside0 (Below w.heap.size w (w96.setCell ⟨gb387, 2, none⟩ (.string t388))) := ⟨(tq18_6 GE386.out GE387.out)⟩
    (try clear BK386)
    (try clear BK387)
    (try clear HB)
    generalize (w96.setCell ⟨gb387, 2, none⟩ (.string t388)) = w99 at n0_ n1_ n2_ ⊢
    have BK386 := n0_
    have BK387 := n1_
    have HB := n2_
    clear n0_ n1_ n2_
    have hcz100_0 : w99.cell? ⟨gb387, 0, none⟩ = some (.int .i64 a0_0) := (blk_cell BK387.out 0).trans rfl
    have hcz100_1 : w99.cell? ⟨gb387, 1, none⟩ = some (.slice A0_1 l0_1.length c0_1) := (blk_cell BK387.out 1).trans rfl
    have hcz100_2 : w99.cell? ⟨gb387, 2, none⟩ = some (.string t388) := (blk_cell BK387.out 2).trans rfl
    have hcz100_3 : w99.cell? ⟨gb387, 3, none⟩ = some (.bool a0_3) := (blk_cell BK387.out 3).trans rfl
    have hfz100_0 := blk_frozen BK387.out 0
    have hfz100_1 := blk_frozen BK387.out 1
    have hfz100_2 := blk_frozen BK387.out 2
    have hfz100_3 := blk_frozen BK387.out 3
    go_wp2_with (first | ((with_reducible refine gate_callee (f := 15) rfl ?_); refine goesL_ (some 16) rfl rfl Tryd.func15 (by kernel_rfl) rfl #[.agg #[.int .i64 a0_0, .slice A0_1 l0_1.length c0_1, .string t388, .bool a0_3], .bool true] rfl tq18_4 ?_; (with_reducible refine (reply_Render.calls k a0_0 _ _ l0_1 t388 a0_3 true t389 t390 _ ?side1 ?side2 A3.out ?side3).mono ?_); (case side1 => repeat (first | exact (Kd.C_below HR0_1.out HB.out) | (with_reducible refine Kd.C_alloc ?_ _) | (with_reducible refine Kd.C_drewN ?_ _) | (with_reducible refine Kd.C_drew ?_))); (case side2 => exact HC0_1.out); (case side3 => exact HG.out.step (tq18_6 GE386.out GE387.out) rfl); rintro e w101 ⟨rfl, hb⟩; refine ⟨_, rfl, ?_⟩; replace BK386 := Aq18 (blk_below (g := gb386) (o := .cells #[.int .i64 a0_0, .slice A0_1 l0_1.length c0_1, .string a0_2, .bool a0_3] 24 (0, 0)) (tq18_1 BK386.out) hb); replace BK387 := Aq18 (blk_below (g := gb387) (o := .cells #[.int .i64 a0_0, .slice A0_1 l0_1.length c0_1, .string t388, .bool a0_3] 24 (0, 0)) (tq18_1 BK387.out) hb); replace HB := Aq18 (below_step (tq18_6 GE386.out GE387.out) hb); (try clear hb); (try clear hb2); (try clear hk); (try clear hi); (try simp only [errW_none, errW_some]); have hcz102_0 : w101.cell? ⟨gb387, 0, none⟩ = some (.int .i64 a0_0) := (blk_cell BK387.out 0).trans rfl; have hcz102_1 : w101.cell? ⟨gb387, 1, none⟩ = some (.slice A0_1 l0_1.length c0_1) := (blk_cell BK387.out 1).trans rfl; have hcz102_2 : w101.cell? ⟨gb387, 2, none⟩ = some (.string t388) := (blk_cell BK387.out 2).trans rfl; have hcz102_3 : w101.cell? ⟨gb387, 3, none⟩ = some (.bool a0_3) := (blk_cell BK387.out 3).trans rfl; have hfz102_0 := blk_frozen BK387.out 0; have hfz102_1 := blk_frozen BK387.out 1; have hfz102_2 := blk_frozen BK387.out 2; have hfz102_3 := blk_frozen BK387.out 3) | ((with_reducible refine gate_callee (f := 20) rfl ?_); refine goesL_ (some 31) rfl rfl Tryd.func20 (by kernel_rfl) rfl #[.agg #[.int .i64 a0_0, .slice A0_1 l0_1.length c0_1, .string t388, .bool a0_3]] rfl tq18_4 ?_; (with_reducible refine (usherlaw8_mayBe.calls k a0_0 _ _ l0_1 t388 a0_3 false _ ?side1 ?side2 A31.out ?side3).mono ?_); (case side1 => repeat (first | exact (Kd.C_below HR0_1.out HB.out) | (with_reducible refine Kd.C_alloc ?_ _) | (with_reducible refine Kd.C_drewN ?_ _) | (with_reducible refine Kd.C_drew ?_))); (case side2 => exact HC0_1.out); (case side3 => exact HG.out.step (tq18_6 GE386.out GE387.out) rfl); rintro e w103 ⟨rfl, hb⟩; refine ⟨_, rfl, ?_⟩; replace BK386 := Aq18 (blk_below (g := gb386) (o := .cells #[.int .i64 a0_0, .slice A0_1 l0_1.length c0_1, .string a0_2, .bool a0_3] 24 (0, 0)) (tq18_1 BK386.out) hb); replace BK387 := Aq18 (blk_below (g := gb387) (o := .cells #[.int .i64 a0_0, .slice A0_1 l0_1.length c0_1, .string t388, .bool a0_3] 24 (0, 0)) (tq18_1 BK387.out) hb); replace HB := Aq18 (below_step (tq18_6 GE386.out GE387.out) hb); (try clear hb); (try clear hb2); (try clear hk); (try clear hi)))
    go_ret
    exact ⟨tq18_0, (tq18_6 GE386.out GE387.out)⟩

end Go.Proofs.YtdlfdmbaejhaaaaDoor.Q
