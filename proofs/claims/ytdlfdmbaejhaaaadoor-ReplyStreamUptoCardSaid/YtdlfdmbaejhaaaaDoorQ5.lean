/- The plain Lean functions that calls of the program answer, and proofs that they do. Printed by program out of the translation; Lean checks it. -/
import Derived.Test.YtdlfdmbaejhaaaaDoorQ0
import Derived.Test.YtdlfdmbaejhaaaaDoorQ1
import Derived.Test.YtdlfdmbaejhaaaaDoorItoa
import Derived.Test.YtdlfdmbaejhaaaaDoorTabs
namespace Go.Proofs.YtdlfdmbaejhaaaaDoor.Q
open Go.RowKit Go.Proofs.YtdlfdmbaejhaaaaDoorW.PrintWords Go.Proofs.YtdlfdmbaejhaaaaDoorW.PrintLast Go.Proofs.YtdlfdmbaejhaaaaDoorW.PrintMore
attribute [local go_sem] max2_int min2_int max_two min_two max_three min_three max_four min_four   -- for this text's walks alone
set_option linter.unusedVariables false
set_option linter.unusedSimpArgs false

attribute [local go_sem high] eqA26
theorem Aq5 {p : Prop} (h : p) : Aside0 p := ⟨h⟩
theorem tq5_0 {P : Prop} (h : P := by first | rfl | (simp; done) | (simp [*]; done)) : P := h
theorem tq5_1 {P : Prop} (h : P := by first | (with_reducible assumption) | assumption) : P := h
theorem tq5_2 {P : Prop} (h : P := by repeat (first | exact Drawn0.refl _ | apply Drawn0.step)) : P := h
theorem tq5_3 {P : Prop} (h : P := by first | rfl | (simp [errW_none, errW_some] <;> rfl) | (simp [*, errW_none, errW_some] <;> rfl)) : P := h
theorem tq5_4 {P Q0 : Prop} (y0 : Q0) (h : Q0 → P := by intro y0_; (with_reducible repeat (first | refine blk_drewN ?_ _ | refine blk_drew ?_ | refine blk_alloc ?_ _)); exact y0_) : P := h y0
theorem tq5_5 {P : Prop} (h : P := by repeat (first | (with_reducible first | exact HB.out | apply below_alloc | apply pw_below_drewN | apply below_drew1) | exact HB.out)) : P := h
theorem tq5_6 {P : Prop} (h : P := by (try simp only [List.map_toArray, List.map_cons, List.map_nil]); first | done | rfl | (simp only [List.length_drop, List.length_take]; rfl)) : P := h
theorem tq5_7 {P Q0 : Prop} (y0 : Q0) (h : Q0 → P := by intro y0_; repeat (first | (with_reducible first | exact HB.out | apply below_alloc | apply pw_below_drewN | apply below_drew1 | refine below_set ?_ y0_) | exact HB.out)) : P := h y0
theorem tq5_8 {P Q0 Q1 : Prop} (y0 : Q0) (y1 : Q1) (h : Q0 → Q1 → P := by intro y0_ y1_; repeat (first | (with_reducible first | exact HB.out | apply below_alloc | apply pw_below_drewN | apply below_drew1 | refine below_set ?_ y0_ | refine below_set ?_ y1_) | exact HB.out)) : P := h y0 y1
theorem tq5_9 {P Q0 : Prop} (y0 : Q0) (h : Q0 → P := by intro y0_; (with_reducible repeat (first | refine blk_drewN ?_ _ | refine blk_drew ?_ | refine blk_alloc ?_ _)); refine blk_put (cs := #[.int .i64 (reply_phrases.c0 x6_1), .string (⟨#[]⟩ : ByteArray)]) ?_ 1 _ rfl; (with_reducible repeat (first | refine blk_drewN ?_ _ | refine blk_drew ?_ | refine blk_alloc ?_ _)); refine blk_put (cs := #[.int .i64 0, .string (⟨#[]⟩ : ByteArray)]) ?_ 0 _ rfl; (with_reducible repeat (first | refine blk_drewN ?_ _ | refine blk_drew ?_ | refine blk_alloc ?_ _)); exact y0_) : P := h y0
/-! ### usherref0_SamePairs: function 27 -/
def usherref0_SamePairs.l0 : Nat → List (S26) → List (S26) → Int → Option (Bool)
 | 0, _, _, _ => none
 | k + 1, x0, x1, x5 => if x5 < (x0.length : Int) then (if 0 ≤ x5 then (if x5 < (x1.length : Int) then (if (!((((rd_T26 x0 x5).f0).toList) == (((rd_T26 x1 x5).f0).toList)) || (!((((rd_T26 x0 x5).f1).toList) == (((rd_T26 x1 x5).f1).toList)))) = true then (some false) else (usherref0_SamePairs.l0 k x0 x1 (wrap64 (x5 + 1)))) else (none)) else (none)) else (some true)
def usherref0_SamePairs.f (k : Nat) (l0 : List (S26)) (l1 : List (S26)) : Option (Bool) := if (l0.length : Int) = (l1.length : Int) then (usherref0_SamePairs.l0 k l0 l1 0) else (some false)
theorem usherref0_SamePairs.mono_l : ∀ k, (∀ y0 y1 y2, LeO (usherref0_SamePairs.l0 k y0 y1 y2) (usherref0_SamePairs.l0 (k + 1) y0 y1 y2))
 | 0 => fun _ _ _ r h => by simp [usherref0_SamePairs.l0] at h
 | k + 1 => by
  have ih0 := usherref0_SamePairs.mono_l k
  ·intro y0 y1 y2
   unfold usherref0_SamePairs.l0
   repeat' first
   | (with_reducible exact ih0 _ _ _)
   | (with_reducible exact LeO.refl _)
   | (with_reducible exact LeO.none _)
   | (with_reducible refine LeO.ite ?_ ?_)
   | (with_reducible refine LeO.bind ?_ (fun _ => ?_))
   | exact ih0 _ _ _
   | exact LeO.none _
   | refine LeO.ite ?_ ?_
   | refine LeO.bind ?_ (fun _ => ?_)
theorem usherref0_SamePairs.mono : ∀ a0 a1 k, LeO (usherref0_SamePairs.f k a0 a1) (usherref0_SamePairs.f (k + 1) a0 a1) := by
 intro a0 a1 k
 have ih0 := usherref0_SamePairs.mono_l k
 unfold usherref0_SamePairs.f
 repeat' first
   | (with_reducible exact ih0 _ _ _)
   | (with_reducible exact LeO.refl _)
   | (with_reducible exact LeO.none _)
   | (with_reducible refine LeO.ite ?_ ?_)
   | (with_reducible refine LeO.bind ?_ (fun _ => ?_))
   | exact ih0 _ _ _
   | exact LeO.none _
   | refine LeO.ite ?_ ?_
   | refine LeO.bind ?_ (fun _ => ?_)
set_option maxHeartbeats 8000000 in
set_option maxRecDepth 100000 in
theorem usherref0_SamePairs.calls (k : Nat) (A0 : Option Addr) (c0 : Nat) (l0 : List (S26)) (A1 : Option Addr) (c1 : Nat) (l1 : List (S26)) (r : Bool) (w : World) (hr0 : Kd.C k26 w A0 l0.length l0) (hc0 : l0.length ≤ c0) (hr1 : Kd.C k26 w A1 l1.length l1) (hc1 : l1.length ≤ c1) (h : usherref0_SamePairs.f k l0 l1 = some r) :
  Calls Tryd.prog 27 #[.slice A0 l0.length c0, .slice A1 l1.length c1] w fun e w' => e = .returned (.bool r) ∧ Drawn0 w w' := by
 have hu26 := Tryd.underlying26
 have HR0 := Aq5 hr0
 have HC0 := Aq5 hc0
 clear hr0 hc0
 have HR1 := Aq5 hr1
 have HC1 := Aq5 hc1
 clear hr1 hc1
 have H : (if (l0.length : Int) = (l1.length : Int) then (usherref0_SamePairs.l0 k l0 l1 0) else (some false)) = some r := h
 clear h
 by_cases c3 : (l0.length : Int) = (l1.length : Int)
 ·rw [if_pos c3] at H
  have c3b0 : ((l0.length : Int) == (l1.length : Int)) = true := beq_iff_eq.mpr c3
  have c3b1 : ((l0.length : Int) != (l1.length : Int)) = false := bne_eq_false_iff_eq.mpr c3
  have c3b2 : (l0.length == l1.length) = true := by first | simpa using c3 | (simp at c3 ⊢; omega)
  clear c3
  have H' := Aq5 H
  clear H
  go_enter Tryd.func27, Tryd.ntmps27
  go_wp2
  repeat (go_quiet (fail); try go_wp2)
  go_loopg [5] k (fun kq v5 w' => ∃ (x5_1 : Int), v5 = .int .i64 x5_1 ∧ Aside0 (usherref0_SamePairs.l0 kq l0 l1 x5_1 = some r) ∧ Aside0 (kq ≤ k) ∧ Drawn0 w w')
  case atStart => exact ⟨(0), tq5_0, H', ⟨Nat.le_refl _⟩, tq5_2⟩
  case round =>
   clear H'
   try clear c1
   try clear c2
   try clear p2
   try clear c3
   try clear c3b0
   try clear c3b1
   try clear c3b2
   obtain ⟨x5_1, rfl, HA, HK1, ⟨m1, rfl⟩⟩ := hrel
   cases gk with
   | zero => exact absurd HA.out (by simp [usherref0_SamePairs.l0])
   | succ k1 =>
    have H := HA.out
    clear HA
    simp only [usherref0_SamePairs.l0] at H
    by_cases c4 : x5_1 < (l0.length : Int)
    ·rw [if_pos c4] at H
     have c4b0 : decide (x5_1 < (l0.length : Int)) = true := decide_eq_true c4
     clear c4
     by_cases c5 : 0 ≤ x5_1
     ·rw [if_pos c5] at H
      have c5b0 : decide (0 ≤ x5_1) = true := decide_eq_true c5
      clear c5
      by_cases c6 : x5_1 < (l1.length : Int)
      ·rw [if_pos c6] at H
       have c6b0 : decide (x5_1 < (l1.length : Int)) = true := decide_eq_true c6
       clear c6
       by_cases c7 : (!((((rd_T26 l0 x5_1).f0).toList) == (((rd_T26 l1 x5_1).f0).toList)) || (!((((rd_T26 l0 x5_1).f1).toList) == (((rd_T26 l1 x5_1).f1).toList)))) = true
       ·rw [if_pos c7] at H
        have c7b0 : (!((((rd_T26 l0 x5_1).f0).toList) == (((rd_T26 l1 x5_1).f0).toList)) || (!((((rd_T26 l0 x5_1).f1).toList) == (((rd_T26 l1 x5_1).f1).toList)))) = true := c7
        clear c7
        obtain rfl := Option.some.inj H
        have p141 : 0 ≤ (x5_1 : Int) := of_decide_eq_true tq5_1
        have q141 : x5_1 < (l0.length : Int) := of_decide_eq_true tq5_1
        obtain ⟨ad141, e141, hx141_0, hx141_1⟩ := at_T26 HR0.out x5_1 p141 q141
        cases e141
        replace p141 := eq_true p141
        replace q141 := eq_true q141
        have p142 : 0 ≤ (x5_1 : Int) := of_decide_eq_true tq5_1
        have q142 : x5_1 < (l1.length : Int) := of_decide_eq_true tq5_1
        obtain ⟨ad142, e142, hx142_0, hx142_1⟩ := at_T26 HR1.out x5_1 p142 q142
        cases e142
        replace p142 := eq_true p142
        replace q142 := eq_true q142
        go_wp2
        repeat (go_quiet (fail); try go_wp2)
        go_ret
        exact ⟨tq5_0, tq5_2⟩
       ·rw [if_neg c7] at H
        have c7b0 : (!((((rd_T26 l0 x5_1).f0).toList) == (((rd_T26 l1 x5_1).f0).toList)) || (!((((rd_T26 l0 x5_1).f1).toList) == (((rd_T26 l1 x5_1).f1).toList)))) = false := by simpa using c7
        clear c7
        have H' := Aq5 H
        clear H
        have p141 : 0 ≤ (x5_1 : Int) := of_decide_eq_true tq5_1
        have q141 : x5_1 < (l0.length : Int) := of_decide_eq_true tq5_1
        obtain ⟨ad141, e141, hx141_0, hx141_1⟩ := at_T26 HR0.out x5_1 p141 q141
        cases e141
        replace p141 := eq_true p141
        replace q141 := eq_true q141
        have p142 : 0 ≤ (x5_1 : Int) := of_decide_eq_true tq5_1
        have q142 : x5_1 < (l1.length : Int) := of_decide_eq_true tq5_1
        obtain ⟨ad142, e142, hx142_0, hx142_1⟩ := at_T26 HR1.out x5_1 p142 q142
        cases e142
        replace p142 := eq_true p142
        replace q142 := eq_true q142
        go_wp2
        repeat (go_quiet (fail); try go_wp2)
        go_roundg k1
        case measure => have := HK1.out; omega
        case rel => exact ⟨(wrap64 (x5_1 + 1)), tq5_0, H', ⟨by have := HK1.out; omega⟩, tq5_2⟩
      ·rw [if_neg c6] at H
       exact absurd H (by simp)
     ·rw [if_neg c5] at H
      exact absurd H (by simp)
    ·rw [if_neg c4] at H
     have c4b0 : decide (x5_1 < (l0.length : Int)) = false := decide_eq_false c4
     clear c4
     obtain rfl := Option.some.inj H
     go_wp2
     repeat (go_quiet (fail); try go_wp2)
     go_ret
     exact ⟨tq5_0, tq5_2⟩
 ·rw [if_neg c3] at H
  have c3b0 : ((l0.length : Int) == (l1.length : Int)) = false := beq_eq_false_iff_ne.mpr c3
  have c3b1 : ((l0.length : Int) != (l1.length : Int)) = true := bne_iff_ne.mpr c3
  have c3b2 : (l0.length == l1.length) = false := by first | simpa using c3 | (simp at c3 ⊢; omega)
  obtain rfl := Option.some.inj H
  go_enter Tryd.func27, Tryd.ntmps27
  go_wp2
  repeat (go_quiet (fail); try go_wp2)
  go_ret
  exact ⟨tq5_0, tq5_2⟩

/-! ### usherref0_SameReply: function 18 -/
def usherref0_SameReply.f (k : Nat) (a0_0 : Int) (l0_1 : List (S26)) (a0_2 : ByteArray) (a0_3 : Bool) (a1_0 : Int) (l1_1 : List (S26)) (a1_2 : ByteArray) (a1_3 : Bool) : Option (Bool) := (usherref0_SamePairs.f k l0_1 l1_1).bind fun t145 => (if a0_0 = a1_0 then (if a0_2.toList = a1_2.toList then (if (a0_3 == a1_3) = true then (some t145) else (some false)) else (some false)) else (some false))
theorem usherref0_SameReply.mono : ∀ a0 a1 a2 a3 a4 a5 a6 a7 k, LeO (usherref0_SameReply.f k a0 a1 a2 a3 a4 a5 a6 a7) (usherref0_SameReply.f (k + 1) a0 a1 a2 a3 a4 a5 a6 a7) := by
 intro a0 a1 a2 a3 a4 a5 a6 a7 k
 unfold usherref0_SameReply.f
 repeat' first
   | (with_reducible exact usherref0_SamePairs.mono _ _ _)
   | (with_reducible exact LeO.refl _)
   | (with_reducible exact LeO.none _)
   | (with_reducible refine LeO.ite ?_ ?_)
   | (with_reducible refine LeO.bind ?_ (fun _ => ?_))
   | exact usherref0_SamePairs.mono _ _ _
   | exact LeO.none _
   | refine LeO.ite ?_ ?_
   | refine LeO.bind ?_ (fun _ => ?_)
set_option maxHeartbeats 8000000 in
set_option maxRecDepth 100000 in
theorem usherref0_SameReply.calls (k : Nat) (a0_0 : Int) (A0_1 : Option Addr) (c0_1 : Nat) (l0_1 : List (S26)) (a0_2 : ByteArray) (a0_3 : Bool) (a1_0 : Int) (A1_1 : Option Addr) (c1_1 : Nat) (l1_1 : List (S26)) (a1_2 : ByteArray) (a1_3 : Bool) (r : Bool) (w : World) (hr0_1 : Kd.C k26 w A0_1 l0_1.length l0_1) (hc0_1 : l0_1.length ≤ c0_1) (hr1_1 : Kd.C k26 w A1_1 l1_1.length l1_1) (hc1_1 : l1_1.length ≤ c1_1) (h : usherref0_SameReply.f k a0_0 l0_1 a0_2 a0_3 a1_0 l1_1 a1_2 a1_3 = some r) :
  Calls Tryd.prog 18 #[.agg #[.int .i64 a0_0, .slice A0_1 l0_1.length c0_1, .string a0_2, .bool a0_3], .agg #[.int .i64 a1_0, .slice A1_1 l1_1.length c1_1, .string a1_2, .bool a1_3]] w fun e w' => e = .returned (.bool r) ∧ Below w.heap.size w w' := by
 have hu24 := Tryd.underlying24
 have HR0_1 := Aq5 hr0_1
 have HC0_1 := Aq5 hc0_1
 clear hr0_1 hc0_1
 have HR1_1 := Aq5 hr1_1
 have HC1_1 := Aq5 hc1_1
 clear hr1_1 hc1_1
 have HB := Aq5 (Below.refl w.heap.size w)
 have H : ((usherref0_SamePairs.f k l0_1 l1_1).bind fun t145 => (if a0_0 = a1_0 then (if a0_2.toList = a1_2.toList then (if (a0_3 == a1_3) = true then (some t145) else (some false)) else (some false)) else (some false))) = some r := h
 clear h
 replace H := Option.bind_eq_some_iff.mp H
 obtain ⟨t145, A30, H⟩ := H
 replace H : (if a0_0 = a1_0 then (if a0_2.toList = a1_2.toList then (if (a0_3 == a1_3) = true then (some t145) else (some false)) else (some false)) else (some false)) = some r := H
 have A3 := Aq5 A30
 clear A30
 by_cases c4 : a0_0 = a1_0
 ·rw [if_pos c4] at H
  have c4b0 : (a0_0 == a1_0) = true := beq_iff_eq.mpr c4
  have c4b1 : (a0_0 != a1_0) = false := bne_eq_false_iff_eq.mpr c4
  clear c4
  by_cases c5 : a0_2.toList = a1_2.toList
  ·rw [if_pos c5] at H
   have c5b0 : (a0_2.toList == a1_2.toList) = true := beq_iff_eq.mpr c5
   have c5b1 : (a0_2.toList != a1_2.toList) = false := bne_eq_false_iff_eq.mpr c5
   clear c5
   by_cases c6 : (a0_3 == a1_3) = true
   ·rw [if_pos c6] at H
    have c6b0 : (a0_3 == a1_3) = true := c6
    (try (have c6b1 : decide (a0_3 = a1_3) = true := by simpa using c6))
    (try (have c6b2 : (a0_3 == a1_3) = true := by simpa using c6))
    clear c6
    obtain rfl := Option.some.inj H
    go_enter Tryd.func18, Tryd.ntmps18
    go_wp2_with (first | ((with_reducible refine gate_dst (N := 2) rfl ?_); refine box_event ?hg (N := 2) ?hd (cs := #[.int .i64 a0_0, .slice A0_1 l0_1.length c0_1, .string a0_2, .bool a0_3]) (t := 24) ?hr ?_; (case hd => rfl); (case hg => rfl); (case hr => first | (go_simp; done) | (go_simp; rfl)); intro gb143 hg w7 hbox hb; have BK143 := Aq5 (hbox); have GW143 := Aq5 ((by rw [hg]; exact (below_size tq5_5) : w.heap.size ≤ gb143)); have GE143 := Aq5 ((by rw [hg]; exact (below_size tq5_5) : w.heap.size ≤ gb143)); replace HB := Aq5 (below_step tq5_5 hb); clear hb hbox hg) | ((with_reducible refine gate_dst (N := 3) rfl ?_); refine box_event ?hg (N := 3) ?hd (cs := #[.int .i64 a1_0, .slice A1_1 l1_1.length c1_1, .string a1_2, .bool a1_3]) (t := 24) ?hr ?_; (case hd => rfl); (case hg => rfl); (case hr => first | (go_simp; done) | (go_simp; rfl)); intro gb144 hg w8 hbox hb; have BK144 := Aq5 (hbox); have GW144 := Aq5 ((by rw [hg]; exact (below_size (tq5_7 GE143.out)) : w.heap.size ≤ gb144)); have GE144 := Aq5 ((by rw [hg]; exact (below_size (tq5_7 GE143.out)) : w.heap.size ≤ gb144)); have NB143_144 := Aq5 ((by rw [hg]; exact Nat.ne_of_lt (blk_lt (g := gb143) (o := .cells #[.int .i64 a0_0, .slice A0_1 l0_1.length c0_1, .string a0_2, .bool a0_3] 24 (0, 0)) (tq5_4 BK143.out)) : gb143 ≠ gb144)); have NB144_143 := Aq5 ((by rw [hg]; exact Nat.ne_of_gt (blk_lt (g := gb143) (o := .cells #[.int .i64 a0_0, .slice A0_1 l0_1.length c0_1, .string a0_2, .bool a0_3] 24 (0, 0)) (tq5_4 BK143.out)) : gb144 ≠ gb143)); replace BK143 := Aq5 (blk_below (g := gb143) (o := .cells #[.int .i64 a0_0, .slice A0_1 l0_1.length c0_1, .string a0_2, .bool a0_3] 24 (0, 0)) (tq5_4 BK143.out) hb); replace HB := Aq5 (below_step (tq5_7 GE143.out) hb); clear hb hbox hg; have hnb9 := NB143_144.out; have hnc9 := NB144_143.out; have hcz10_0 : w8.cell? ⟨gb143, 0, none⟩ = some (.int .i64 a0_0) := (blk_cell BK143.out 0).trans rfl; have hcz10_1 : w8.cell? ⟨gb143, 1, none⟩ = some (.slice A0_1 l0_1.length c0_1) := (blk_cell BK143.out 1).trans rfl; have hcz10_2 : w8.cell? ⟨gb143, 2, none⟩ = some (.string a0_2) := (blk_cell BK143.out 2).trans rfl; have hcz10_3 : w8.cell? ⟨gb143, 3, none⟩ = some (.bool a0_3) := (blk_cell BK143.out 3).trans rfl; have hfz10_0 := blk_frozen BK143.out 0; have hfz10_1 := blk_frozen BK143.out 1; have hfz10_2 := blk_frozen BK143.out 2; have hfz10_3 := blk_frozen BK143.out 3; have hcz11_0 : w8.cell? ⟨gb144, 0, none⟩ = some (.int .i64 a1_0) := (blk_cell BK144.out 0).trans rfl; have hcz11_1 : w8.cell? ⟨gb144, 1, none⟩ = some (.slice A1_1 l1_1.length c1_1) := (blk_cell BK144.out 1).trans rfl; have hcz11_2 : w8.cell? ⟨gb144, 2, none⟩ = some (.string a1_2) := (blk_cell BK144.out 2).trans rfl; have hcz11_3 : w8.cell? ⟨gb144, 3, none⟩ = some (.bool a1_3) := (blk_cell BK144.out 3).trans rfl; have hfz11_0 := blk_frozen BK144.out 0; have hfz11_1 := blk_frozen BK144.out 1; have hfz11_2 := blk_frozen BK144.out 2; have hfz11_3 := blk_frozen BK144.out 3) | ((with_reducible refine gate_callee (f := 27) rfl ?_); refine goesL_ (some 10) rfl rfl Tryd.func27 (by kernel_rfl) rfl #[.slice A0_1 l0_1.length c0_1, .slice A1_1 l1_1.length c1_1] rfl tq5_6 ?_; (with_reducible refine (usherref0_SamePairs.calls k _ _ l0_1 _ _ l1_1 t145 _ ?side1 ?side2 ?side3 ?side4 A3.out).mono ?_); (case side1 => repeat (first | exact (Kd.C_below HR0_1.out HB.out) | (with_reducible refine Kd.C_alloc ?_ _) | (with_reducible refine Kd.C_drewN ?_ _) | (with_reducible refine Kd.C_drew ?_))); (case side2 => exact HC0_1.out); (case side3 => repeat (first | exact (Kd.C_below HR1_1.out HB.out) | (with_reducible refine Kd.C_alloc ?_ _) | (with_reducible refine Kd.C_drewN ?_ _) | (with_reducible refine Kd.C_drew ?_))); (case side4 => exact HC1_1.out); rintro e w' ⟨rfl, ⟨nd, rfl⟩⟩; refine ⟨_, rfl, ?_⟩))
    go_ret
    exact ⟨tq5_3, (tq5_8 GE143.out GE144.out)⟩
   ·rw [if_neg c6] at H
    have c6b0 : (a0_3 == a1_3) = false := by simpa using c6
    (try (have c6b1 : decide (a0_3 = a1_3) = false := by simpa using c6))
    (try (have c6b2 : (a0_3 == a1_3) = false := by simpa using c6))
    (try (have c6b3 : ¬ (a0_3 = a1_3) := by simpa using c6))
    clear c6
    obtain rfl := Option.some.inj H
    go_enter Tryd.func18, Tryd.ntmps18
    go_wp2_with (first | ((with_reducible refine gate_dst (N := 2) rfl ?_); refine box_event ?hg (N := 2) ?hd (cs := #[.int .i64 a0_0, .slice A0_1 l0_1.length c0_1, .string a0_2, .bool a0_3]) (t := 24) ?hr ?_; (case hd => rfl); (case hg => rfl); (case hr => first | (go_simp; done) | (go_simp; rfl)); intro gb143 hg w12 hbox hb; have BK143 := Aq5 (hbox); have GW143 := Aq5 ((by rw [hg]; exact (below_size tq5_5) : w.heap.size ≤ gb143)); have GE143 := Aq5 ((by rw [hg]; exact (below_size tq5_5) : w.heap.size ≤ gb143)); replace HB := Aq5 (below_step tq5_5 hb); clear hb hbox hg) | ((with_reducible refine gate_dst (N := 3) rfl ?_); refine box_event ?hg (N := 3) ?hd (cs := #[.int .i64 a1_0, .slice A1_1 l1_1.length c1_1, .string a1_2, .bool a1_3]) (t := 24) ?hr ?_; (case hd => rfl); (case hg => rfl); (case hr => first | (go_simp; done) | (go_simp; rfl)); intro gb144 hg w13 hbox hb; have BK144 := Aq5 (hbox); have GW144 := Aq5 ((by rw [hg]; exact (below_size (tq5_7 GE143.out)) : w.heap.size ≤ gb144)); have GE144 := Aq5 ((by rw [hg]; exact (below_size (tq5_7 GE143.out)) : w.heap.size ≤ gb144)); have NB143_144 := Aq5 ((by rw [hg]; exact Nat.ne_of_lt (blk_lt (g := gb143) (o := .cells #[.int .i64 a0_0, .slice A0_1 l0_1.length c0_1, .string a0_2, .bool a0_3] 24 (0, 0)) (tq5_4 BK143.out)) : gb143 ≠ gb144)); have NB144_143 := Aq5 ((by rw [hg]; exact Nat.ne_of_gt (blk_lt (g := gb143) (o := .cells #[.int .i64 a0_0, .slice A0_1 l0_1.length c0_1, .string a0_2, .bool a0_3] 24 (0, 0)) (tq5_4 BK143.out)) : gb144 ≠ gb143)); replace BK143 := Aq5 (blk_below (g := gb143) (o := .cells #[.int .i64 a0_0, .slice A0_1 l0_1.length c0_1, .string a0_2, .bool a0_3] 24 (0, 0)) (tq5_4 BK143.out) hb); replace HB := Aq5 (below_step (tq5_7 GE143.out) hb); clear hb hbox hg; have hnb14 := NB143_144.out; have hnc14 := NB144_143.out; have hcz15_0 : w13.cell? ⟨gb143, 0, none⟩ = some (.int .i64 a0_0) := (blk_cell BK143.out 0).trans rfl; have hcz15_1 : w13.cell? ⟨gb143, 1, none⟩ = some (.slice A0_1 l0_1.length c0_1) := (blk_cell BK143.out 1).trans rfl; have hcz15_2 : w13.cell? ⟨gb143, 2, none⟩ = some (.string a0_2) := (blk_cell BK143.out 2).trans rfl; have hcz15_3 : w13.cell? ⟨gb143, 3, none⟩ = some (.bool a0_3) := (blk_cell BK143.out 3).trans rfl; have hfz15_0 := blk_frozen BK143.out 0; have hfz15_1 := blk_frozen BK143.out 1; have hfz15_2 := blk_frozen BK143.out 2; have hfz15_3 := blk_frozen BK143.out 3; have hcz16_0 : w13.cell? ⟨gb144, 0, none⟩ = some (.int .i64 a1_0) := (blk_cell BK144.out 0).trans rfl; have hcz16_1 : w13.cell? ⟨gb144, 1, none⟩ = some (.slice A1_1 l1_1.length c1_1) := (blk_cell BK144.out 1).trans rfl; have hcz16_2 : w13.cell? ⟨gb144, 2, none⟩ = some (.string a1_2) := (blk_cell BK144.out 2).trans rfl; have hcz16_3 : w13.cell? ⟨gb144, 3, none⟩ = some (.bool a1_3) := (blk_cell BK144.out 3).trans rfl; have hfz16_0 := blk_frozen BK144.out 0; have hfz16_1 := blk_frozen BK144.out 1; have hfz16_2 := blk_frozen BK144.out 2; have hfz16_3 := blk_frozen BK144.out 3) | ((with_reducible refine gate_callee (f := 27) rfl ?_); refine goesL_ (some 10) rfl rfl Tryd.func27 (by kernel_rfl) rfl #[.slice A0_1 l0_1.length c0_1, .slice A1_1 l1_1.length c1_1] rfl tq5_6 ?_; (with_reducible refine (usherref0_SamePairs.calls k _ _ l0_1 _ _ l1_1 t145 _ ?side1 ?side2 ?side3 ?side4 A3.out).mono ?_); (case side1 => repeat (first | exact (Kd.C_below HR0_1.out HB.out) | (with_reducible refine Kd.C_alloc ?_ _) | (with_reducible refine Kd.C_drewN ?_ _) | (with_reducible refine Kd.C_drew ?_))); (case side2 => exact HC0_1.out); (case side3 => repeat (first | exact (Kd.C_below HR1_1.out HB.out) | (with_reducible refine Kd.C_alloc ?_ _) | (with_reducible refine Kd.C_drewN ?_ _) | (with_reducible refine Kd.C_drew ?_))); (case side4 => exact HC1_1.out); rintro e w' ⟨rfl, ⟨nd, rfl⟩⟩; refine ⟨_, rfl, ?_⟩))
    go_ret
    exact ⟨tq5_3, (tq5_8 GE143.out GE144.out)⟩
  ·rw [if_neg c5] at H
   have c5b0 : (a0_2.toList == a1_2.toList) = false := beq_eq_false_iff_ne.mpr c5
   have c5b1 : (a0_2.toList != a1_2.toList) = true := bne_iff_ne.mpr c5
   obtain rfl := Option.some.inj H
   go_enter Tryd.func18, Tryd.ntmps18
   go_wp2_with (first | ((with_reducible refine gate_dst (N := 2) rfl ?_); refine box_event ?hg (N := 2) ?hd (cs := #[.int .i64 a0_0, .slice A0_1 l0_1.length c0_1, .string a0_2, .bool a0_3]) (t := 24) ?hr ?_; (case hd => rfl); (case hg => rfl); (case hr => first | (go_simp; done) | (go_simp; rfl)); intro gb143 hg w17 hbox hb; have BK143 := Aq5 (hbox); have GW143 := Aq5 ((by rw [hg]; exact (below_size tq5_5) : w.heap.size ≤ gb143)); have GE143 := Aq5 ((by rw [hg]; exact (below_size tq5_5) : w.heap.size ≤ gb143)); replace HB := Aq5 (below_step tq5_5 hb); clear hb hbox hg) | ((with_reducible refine gate_dst (N := 3) rfl ?_); refine box_event ?hg (N := 3) ?hd (cs := #[.int .i64 a1_0, .slice A1_1 l1_1.length c1_1, .string a1_2, .bool a1_3]) (t := 24) ?hr ?_; (case hd => rfl); (case hg => rfl); (case hr => first | (go_simp; done) | (go_simp; rfl)); intro gb144 hg w18 hbox hb; have BK144 := Aq5 (hbox); have GW144 := Aq5 ((by rw [hg]; exact (below_size (tq5_7 GE143.out)) : w.heap.size ≤ gb144)); have GE144 := Aq5 ((by rw [hg]; exact (below_size (tq5_7 GE143.out)) : w.heap.size ≤ gb144)); have NB143_144 := Aq5 ((by rw [hg]; exact Nat.ne_of_lt (blk_lt (g := gb143) (o := .cells #[.int .i64 a0_0, .slice A0_1 l0_1.length c0_1, .string a0_2, .bool a0_3] 24 (0, 0)) (tq5_4 BK143.out)) : gb143 ≠ gb144)); have NB144_143 := Aq5 ((by rw [hg]; exact Nat.ne_of_gt (blk_lt (g := gb143) (o := .cells #[.int .i64 a0_0, .slice A0_1 l0_1.length c0_1, .string a0_2, .bool a0_3] 24 (0, 0)) (tq5_4 BK143.out)) : gb144 ≠ gb143)); replace BK143 := Aq5 (blk_below (g := gb143) (o := .cells #[.int .i64 a0_0, .slice A0_1 l0_1.length c0_1, .string a0_2, .bool a0_3] 24 (0, 0)) (tq5_4 BK143.out) hb); replace HB := Aq5 (below_step (tq5_7 GE143.out) hb); clear hb hbox hg; have hnb19 := NB143_144.out; have hnc19 := NB144_143.out; have hcz20_0 : w18.cell? ⟨gb143, 0, none⟩ = some (.int .i64 a0_0) := (blk_cell BK143.out 0).trans rfl; have hcz20_1 : w18.cell? ⟨gb143, 1, none⟩ = some (.slice A0_1 l0_1.length c0_1) := (blk_cell BK143.out 1).trans rfl; have hcz20_2 : w18.cell? ⟨gb143, 2, none⟩ = some (.string a0_2) := (blk_cell BK143.out 2).trans rfl; have hcz20_3 : w18.cell? ⟨gb143, 3, none⟩ = some (.bool a0_3) := (blk_cell BK143.out 3).trans rfl; have hfz20_0 := blk_frozen BK143.out 0; have hfz20_1 := blk_frozen BK143.out 1; have hfz20_2 := blk_frozen BK143.out 2; have hfz20_3 := blk_frozen BK143.out 3; have hcz21_0 : w18.cell? ⟨gb144, 0, none⟩ = some (.int .i64 a1_0) := (blk_cell BK144.out 0).trans rfl; have hcz21_1 : w18.cell? ⟨gb144, 1, none⟩ = some (.slice A1_1 l1_1.length c1_1) := (blk_cell BK144.out 1).trans rfl; have hcz21_2 : w18.cell? ⟨gb144, 2, none⟩ = some (.string a1_2) := (blk_cell BK144.out 2).trans rfl; have hcz21_3 : w18.cell? ⟨gb144, 3, none⟩ = some (.bool a1_3) := (blk_cell BK144.out 3).trans rfl; have hfz21_0 := blk_frozen BK144.out 0; have hfz21_1 := blk_frozen BK144.out 1; have hfz21_2 := blk_frozen BK144.out 2; have hfz21_3 := blk_frozen BK144.out 3) | ((with_reducible refine gate_callee (f := 27) rfl ?_); refine goesL_ (some 10) rfl rfl Tryd.func27 (by kernel_rfl) rfl #[.slice A0_1 l0_1.length c0_1, .slice A1_1 l1_1.length c1_1] rfl tq5_6 ?_; (with_reducible refine (usherref0_SamePairs.calls k _ _ l0_1 _ _ l1_1 t145 _ ?side1 ?side2 ?side3 ?side4 A3.out).mono ?_); (case side1 => repeat (first | exact (Kd.C_below HR0_1.out HB.out) | (with_reducible refine Kd.C_alloc ?_ _) | (with_reducible refine Kd.C_drewN ?_ _) | (with_reducible refine Kd.C_drew ?_))); (case side2 => exact HC0_1.out); (case side3 => repeat (first | exact (Kd.C_below HR1_1.out HB.out) | (with_reducible refine Kd.C_alloc ?_ _) | (with_reducible refine Kd.C_drewN ?_ _) | (with_reducible refine Kd.C_drew ?_))); (case side4 => exact HC1_1.out); rintro e w' ⟨rfl, ⟨nd, rfl⟩⟩; refine ⟨_, rfl, ?_⟩))
   go_ret
   exact ⟨tq5_3, (tq5_8 GE143.out GE144.out)⟩
 ·rw [if_neg c4] at H
  have c4b0 : (a0_0 == a1_0) = false := beq_eq_false_iff_ne.mpr c4
  have c4b1 : (a0_0 != a1_0) = true := bne_iff_ne.mpr c4
  obtain rfl := Option.some.inj H
  go_enter Tryd.func18, Tryd.ntmps18
  go_wp2_with (first | ((with_reducible refine gate_dst (N := 2) rfl ?_); refine box_event ?hg (N := 2) ?hd (cs := #[.int .i64 a0_0, .slice A0_1 l0_1.length c0_1, .string a0_2, .bool a0_3]) (t := 24) ?hr ?_; (case hd => rfl); (case hg => rfl); (case hr => first | (go_simp; done) | (go_simp; rfl)); intro gb143 hg w22 hbox hb; have BK143 := Aq5 (hbox); have GW143 := Aq5 ((by rw [hg]; exact (below_size tq5_5) : w.heap.size ≤ gb143)); have GE143 := Aq5 ((by rw [hg]; exact (below_size tq5_5) : w.heap.size ≤ gb143)); replace HB := Aq5 (below_step tq5_5 hb); clear hb hbox hg) | ((with_reducible refine gate_dst (N := 3) rfl ?_); refine box_event ?hg (N := 3) ?hd (cs := #[.int .i64 a1_0, .slice A1_1 l1_1.length c1_1, .string a1_2, .bool a1_3]) (t := 24) ?hr ?_; (case hd => rfl); (case hg => rfl); (case hr => first | (go_simp; done) | (go_simp; rfl)); intro gb144 hg w23 hbox hb; have BK144 := Aq5 (hbox); have GW144 := Aq5 ((by rw [hg]; exact (below_size (tq5_7 GE143.out)) : w.heap.size ≤ gb144)); have GE144 := Aq5 ((by rw [hg]; exact (below_size (tq5_7 GE143.out)) : w.heap.size ≤ gb144)); have NB143_144 := Aq5 ((by rw [hg]; exact Nat.ne_of_lt (blk_lt (g := gb143) (o := .cells #[.int .i64 a0_0, .slice A0_1 l0_1.length c0_1, .string a0_2, .bool a0_3] 24 (0, 0)) (tq5_4 BK143.out)) : gb143 ≠ gb144)); have NB144_143 := Aq5 ((by rw [hg]; exact Nat.ne_of_gt (blk_lt (g := gb143) (o := .cells #[.int .i64 a0_0, .slice A0_1 l0_1.length c0_1, .string a0_2, .bool a0_3] 24 (0, 0)) (tq5_4 BK143.out)) : gb144 ≠ gb143)); replace BK143 := Aq5 (blk_below (g := gb143) (o := .cells #[.int .i64 a0_0, .slice A0_1 l0_1.length c0_1, .string a0_2, .bool a0_3] 24 (0, 0)) (tq5_4 BK143.out) hb); replace HB := Aq5 (below_step (tq5_7 GE143.out) hb); clear hb hbox hg; have hnb24 := NB143_144.out; have hnc24 := NB144_143.out; have hcz25_0 : w23.cell? ⟨gb143, 0, none⟩ = some (.int .i64 a0_0) := (blk_cell BK143.out 0).trans rfl; have hcz25_1 : w23.cell? ⟨gb143, 1, none⟩ = some (.slice A0_1 l0_1.length c0_1) := (blk_cell BK143.out 1).trans rfl; have hcz25_2 : w23.cell? ⟨gb143, 2, none⟩ = some (.string a0_2) := (blk_cell BK143.out 2).trans rfl; have hcz25_3 : w23.cell? ⟨gb143, 3, none⟩ = some (.bool a0_3) := (blk_cell BK143.out 3).trans rfl; have hfz25_0 := blk_frozen BK143.out 0; have hfz25_1 := blk_frozen BK143.out 1; have hfz25_2 := blk_frozen BK143.out 2; have hfz25_3 := blk_frozen BK143.out 3; have hcz26_0 : w23.cell? ⟨gb144, 0, none⟩ = some (.int .i64 a1_0) := (blk_cell BK144.out 0).trans rfl; have hcz26_1 : w23.cell? ⟨gb144, 1, none⟩ = some (.slice A1_1 l1_1.length c1_1) := (blk_cell BK144.out 1).trans rfl; have hcz26_2 : w23.cell? ⟨gb144, 2, none⟩ = some (.string a1_2) := (blk_cell BK144.out 2).trans rfl; have hcz26_3 : w23.cell? ⟨gb144, 3, none⟩ = some (.bool a1_3) := (blk_cell BK144.out 3).trans rfl; have hfz26_0 := blk_frozen BK144.out 0; have hfz26_1 := blk_frozen BK144.out 1; have hfz26_2 := blk_frozen BK144.out 2; have hfz26_3 := blk_frozen BK144.out 3) | ((with_reducible refine gate_callee (f := 27) rfl ?_); refine goesL_ (some 10) rfl rfl Tryd.func27 (by kernel_rfl) rfl #[.slice A0_1 l0_1.length c0_1, .slice A1_1 l1_1.length c1_1] rfl tq5_6 ?_; (with_reducible refine (usherref0_SamePairs.calls k _ _ l0_1 _ _ l1_1 t145 _ ?side1 ?side2 ?side3 ?side4 A3.out).mono ?_); (case side1 => repeat (first | exact (Kd.C_below HR0_1.out HB.out) | (with_reducible refine Kd.C_alloc ?_ _) | (with_reducible refine Kd.C_drewN ?_ _) | (with_reducible refine Kd.C_drew ?_))); (case side2 => exact HC0_1.out); (case side3 => repeat (first | exact (Kd.C_below HR1_1.out HB.out) | (with_reducible refine Kd.C_alloc ?_ _) | (with_reducible refine Kd.C_drewN ?_ _) | (with_reducible refine Kd.C_drew ?_))); (case side4 => exact HC1_1.out); rintro e w' ⟨rfl, ⟨nd, rfl⟩⟩; refine ⟨_, rfl, ?_⟩))
  go_ret
  exact ⟨tq5_3, (tq5_8 GE143.out GE144.out)⟩

-- NOT PRINTED: function 108 (bytealg_IndexByteString)

-- NOT PRINTED: function 91 (stringslite_IndexByte)

-- NOT PRINTED: function 92 (bytealg_IndexString)

-- NOT PRINTED: function 93 (bytealg_Cutover)

-- NOT PRINTED: function 109 (bytealg_hashStr_string)

-- NOT PRINTED: function 94 (bytealg_IndexRabinKarp_string)

-- NOT PRINTED: function 74 (stringslite_Index)

-- NOT PRINTED: function 105 (utf8_RuneCountInString)

-- NOT PRINTED: function 118 (utf8_decodeRuneInStringSlow)

-- NOT PRINTED: function 106 (utf8_DecodeRuneInString)

-- NOT PRINTED: function 88 (strings_explode)

-- NOT PRINTED: function 107 (bytealg_CountString)

-- NOT PRINTED: function 89 (strings_Count)

-- NOT PRINTED: function 67 (strings_genSplit)

/-! ### reply_status: function 75 -/
def reply_status.l0 : Nat → ByteArray → Int → Option (Int)
 | 0, _, _ => none
 | k + 1, x0, x6 => if x6 < 17 then (if 0 ≤ x6 then ((strconv_Itoa_39.f (reply_phrases.c0 x6)).bind fun t149 => (if 9 + t149.size ≤ 9223372036854775807 then (if ((⟨#[72, 84, 84, 80, 47, 49, 46, 49, 32]⟩ : ByteArray) ++ t149).size + 1 ≤ 9223372036854775807 then (if (((⟨#[72, 84, 84, 80, 47, 49, 46, 49, 32]⟩ : ByteArray) ++ t149) ++ (⟨#[32]⟩ : ByteArray)).size + (reply_phrases.c1 x6).size ≤ 9223372036854775807 then (if x0.toList = ((((⟨#[72, 84, 84, 80, 47, 49, 46, 49, 32]⟩ : ByteArray) ++ t149) ++ (⟨#[32]⟩ : ByteArray)) ++ (reply_phrases.c1 x6)).toList then (some (reply_phrases.c0 x6)) else (reply_status.l0 k x0 (wrap64 (x6 + 1)))) else (none)) else (none)) else (none))) else (none)) else (some 0)
def reply_status.f (k : Nat) (a0 : ByteArray) : Option (Int) := reply_status.l0 k a0 0
theorem reply_status.mono_l : ∀ k, (∀ y0 y1, LeO (reply_status.l0 k y0 y1) (reply_status.l0 (k + 1) y0 y1))
 | 0 => fun _ _ r h => by simp [reply_status.l0] at h
 | k + 1 => by
  have ih0 := reply_status.mono_l k
  ·intro y0 y1
   unfold reply_status.l0
   repeat' first
   | (with_reducible exact ih0 _ _)
   | (with_reducible exact LeO.refl _)
   | (with_reducible exact LeO.none _)
   | (with_reducible refine LeO.ite ?_ ?_)
   | (with_reducible refine LeO.bind ?_ (fun _ => ?_))
   | exact ih0 _ _
   | exact LeO.none _
   | refine LeO.ite ?_ ?_
   | refine LeO.bind ?_ (fun _ => ?_)
theorem reply_status.mono : ∀ a0 k, LeO (reply_status.f k a0) (reply_status.f (k + 1) a0) := by
 intro a0 k
 have ih0 := reply_status.mono_l k
 unfold reply_status.f
 repeat' first
   | (with_reducible exact ih0 _ _)
   | (with_reducible exact LeO.refl _)
   | (with_reducible exact LeO.none _)
   | (with_reducible refine LeO.ite ?_ ?_)
   | (with_reducible refine LeO.bind ?_ (fun _ => ?_))
   | exact ih0 _ _
   | exact LeO.none _
   | refine LeO.ite ?_ ?_
   | refine LeO.bind ?_ (fun _ => ?_)
def reply_status.T4 : Bool × List (List Nat × List Nat) := (true, [([], []), ([], []), ([1], [1]), ([2], [2]), ([3], [3]), ([4], [4]), ([], []), ([6], [6]), ([5, 7], [5, 7]), ([0, 8], [0, 8])])
def reply_status.B4 : List Nat := [0, 0, 2, 6, 14, 30, 0, 64, 254, 511]
theorem reply_status.tab4 : rtab .any (opsOf Tryd.f75 4) = reply_status.T4 := by kernel_rfl
theorem reply_status.bits4 : waitsOk reply_status.T4.2 reply_status.B4 = true := by kernel_rfl
set_option maxHeartbeats 8000000 in
set_option maxRecDepth 100000 in
theorem reply_status.calls [Sent] (k : Nat) (a0 : ByteArray) (r : Int) (w : World) (h : reply_status.f k a0 = some r) (hG : Glob [8, 19] w) :
  Calls Tryd.prog 75 #[.string a0] w fun e w' => e = .returned (.int .i64 r) ∧ Below w.heap.size w w' := by
 have HG := Aq5 hG
 clear hG
 have hu97 := Tryd.underlying97
 have HB := Aq5 (Below.refl w.heap.size w)
 have H : (reply_status.l0 k a0 0) = some r := h
 clear h
 have H' := Aq5 H
 clear H
 obtain ⟨tyTV146, frTV146, hbTV146⟩ := Glob.phrases (HG.out) (by rfl)
 obtain ⟨TV146, hTV146⟩ : ∃ V_ : Array Value, V_ = phrasesV.toArray := ⟨_, rfl⟩
 rw [← hTV146] at hbTV146
 have HSTV146 := Aq5 (show (Tryd.prog.info? 98).map (·.size) = some TV146.size from by rw [hTV146]; exact reply_phrases.size)
 have HTTV146 := Aq5 hTV146
 have HKTV146 := Aq5 hbTV146
 clear hTV146 hbTV146
 go_enter Tryd.func75, Tryd.ntmps75
 go_wp2_with (first | ((with_reducible refine gate_dst (N := 5) rfl ?_); refine wpList_load_row rfl 98 (.global 8) rfl 8 rfl tyTV146 TV146 frTV146 _ (by repeat (first | exact HKTV146.out | refine blk_drewN ?_ _ | refine blk_drew ?_ | refine blk_alloc ?_ _)) Tryd.underlying98 rfl HSTV146.out ?_))
 go_loopg [6] k (fun kq v6 w' => ∃ (x6_1 : Int), v6 = .int .i64 x6_1 ∧ Aside0 (reply_status.l0 kq a0 x6_1 = some r) ∧ Aside0 (kq ≤ k) ∧ Aside0 (Below w.heap.size w w'))
 case atStart => exact ⟨(0), tq5_0, H', ⟨Nat.le_refl _⟩, ⟨tq5_5⟩⟩
 case round =>
  clear H'
  obtain ⟨x6_1, rfl, HA, HK1, HB⟩ := hrel
  cases gk with
  | zero => exact absurd HA.out (by simp [reply_status.l0])
  | succ k1 =>
   have H := HA.out
   clear HA
   simp only [reply_status.l0] at H
   by_cases c2 : x6_1 < 17
   ·rw [if_pos c2] at H
    have c2b0 : decide (x6_1 < 17) = true := decide_eq_true c2
    clear c2
    by_cases c3 : 0 ≤ x6_1
    ·rw [if_pos c3] at H
     have c3b0 : decide (0 ≤ x6_1) = true := decide_eq_true c3
     clear c3
     replace H := Option.bind_eq_some_iff.mp H
     obtain ⟨t149, A50, H⟩ := H
     replace H : (if 9 + t149.size ≤ 9223372036854775807 then (if ((⟨#[72, 84, 84, 80, 47, 49, 46, 49, 32]⟩ : ByteArray) ++ t149).size + 1 ≤ 9223372036854775807 then (if (((⟨#[72, 84, 84, 80, 47, 49, 46, 49, 32]⟩ : ByteArray) ++ t149) ++ (⟨#[32]⟩ : ByteArray)).size + (reply_phrases.c1 x6_1).size ≤ 9223372036854775807 then (if a0.toList = ((((⟨#[72, 84, 84, 80, 47, 49, 46, 49, 32]⟩ : ByteArray) ++ t149) ++ (⟨#[32]⟩ : ByteArray)) ++ (reply_phrases.c1 x6_1)).toList then (some (reply_phrases.c0 x6_1)) else (reply_status.l0 k1 a0 (wrap64 (x6_1 + 1)))) else (none)) else (none)) else (none)) = some r := H
     have A5 := Aq5 A50
     clear A50
     by_cases c6 : 9 + t149.size ≤ 9223372036854775807
     ·rw [if_pos c6] at H
      have c6b0 := eq_true c6
      have c6b1 : decide (9 + t149.size ≤ 9223372036854775807) = true := decide_eq_true c6
      try have c6b2 : (9223372036854775807 < 9 + t149.size) = False := eq_false (Nat.not_lt.2 c6)
      by_cases c7 : ((⟨#[72, 84, 84, 80, 47, 49, 46, 49, 32]⟩ : ByteArray) ++ t149).size + 1 ≤ 9223372036854775807
      ·rw [if_pos c7] at H
       have c7b0 := eq_true c7
       have c7b1 : decide (((⟨#[72, 84, 84, 80, 47, 49, 46, 49, 32]⟩ : ByteArray) ++ t149).size + 1 ≤ 9223372036854775807) = true := decide_eq_true c7
       try have c7b2 : (9223372036854775807 < ((⟨#[72, 84, 84, 80, 47, 49, 46, 49, 32]⟩ : ByteArray) ++ t149).size + 1) = False := eq_false (Nat.not_lt.2 c7)
       (try (have c7b3 := c7b0; simp only [ByteArray.size_append', ByteArray.size_mk', List.size_toArray, List.length_cons, List.length_nil, Nat.reduceAdd] at c7b3))
       (try (have c7b4 := c7b1; simp only [ByteArray.size_append', ByteArray.size_mk', List.size_toArray, List.length_cons, List.length_nil, Nat.reduceAdd] at c7b4))
       (try (have c7b5 := c7b2; simp only [ByteArray.size_append', ByteArray.size_mk', List.size_toArray, List.length_cons, List.length_nil, Nat.reduceAdd] at c7b5))
       by_cases c8 : (((⟨#[72, 84, 84, 80, 47, 49, 46, 49, 32]⟩ : ByteArray) ++ t149) ++ (⟨#[32]⟩ : ByteArray)).size + (reply_phrases.c1 x6_1).size ≤ 9223372036854775807
       ·rw [if_pos c8] at H
        have c8b0 := eq_true c8
        have c8b1 : decide ((((⟨#[72, 84, 84, 80, 47, 49, 46, 49, 32]⟩ : ByteArray) ++ t149) ++ (⟨#[32]⟩ : ByteArray)).size + (reply_phrases.c1 x6_1).size ≤ 9223372036854775807) = true := decide_eq_true c8
        try have c8b2 : (9223372036854775807 < (((⟨#[72, 84, 84, 80, 47, 49, 46, 49, 32]⟩ : ByteArray) ++ t149) ++ (⟨#[32]⟩ : ByteArray)).size + (reply_phrases.c1 x6_1).size) = False := eq_false (Nat.not_lt.2 c8)
        (try (have c8b3 := c8b0; simp only [ByteArray.size_append', ByteArray.size_mk', List.size_toArray, List.length_cons, List.length_nil, Nat.reduceAdd] at c8b3))
        (try (have c8b4 := c8b1; simp only [ByteArray.size_append', ByteArray.size_mk', List.size_toArray, List.length_cons, List.length_nil, Nat.reduceAdd] at c8b4))
        (try (have c8b5 := c8b2; simp only [ByteArray.size_append', ByteArray.size_mk', List.size_toArray, List.length_cons, List.length_nil, Nat.reduceAdd] at c8b5))
        by_cases c9 : a0.toList = ((((⟨#[72, 84, 84, 80, 47, 49, 46, 49, 32]⟩ : ByteArray) ++ t149) ++ (⟨#[32]⟩ : ByteArray)) ++ (reply_phrases.c1 x6_1)).toList
        ·rw [if_pos c9] at H
         have c9b0 : (a0.toList == ((((⟨#[72, 84, 84, 80, 47, 49, 46, 49, 32]⟩ : ByteArray) ++ t149) ++ (⟨#[32]⟩ : ByteArray)) ++ (reply_phrases.c1 x6_1)).toList) = true := beq_iff_eq.mpr c9
         have c9b1 : (a0.toList != ((((⟨#[72, 84, 84, 80, 47, 49, 46, 49, 32]⟩ : ByteArray) ++ t149) ++ (⟨#[32]⟩ : ByteArray)) ++ (reply_phrases.c1 x6_1)).toList) = false := bne_eq_false_iff_eq.mpr c9
         clear c9
         obtain rfl := Option.some.inj H
         have p4 : 0 ≤ (x6_1 : Int) := of_decide_eq_true tq5_1
         have q4 : (x6_1 : Int) < 17 := of_decide_eq_true tq5_1
         have hx4 := reply_phrases.index x6_1 p4 q4
         rw [← HTTV146.out] at hx4
         clear p4 q4
         try go_wp2_with (first | ((with_reducible refine gate_dst (N := 4) rfl ?_); refine box_event ?hg (N := 4) ?hd (cs := #[.int .i64 0, .string (⟨#[]⟩ : ByteArray)]) (t := 97) ?hr ?_; (case hd => rfl); (case hg => rfl); (case hr => first | (go_simp; done) | (go_simp; rfl)); intro gb148 hg w10 hbox hb; have BK148 := Aq5 (hbox); have GW148 := Aq5 ((by rw [hg]; exact (below_size tq5_5) : w.heap.size ≤ gb148)); have GE148 := Aq5 ((by rw [hg]; exact (below_size tq5_5) : w.heap.size ≤ gb148)); replace HB := Aq5 (below_step tq5_5 hb); clear hb hbox hg; have hcz11_0 : w10.cell? ⟨gb148, 0, none⟩ = some (.int .i64 0) := (blk_cell BK148.out 0).trans rfl; have hcz11_1 : w10.cell? ⟨gb148, 1, none⟩ = some (.string (⟨#[]⟩ : ByteArray)) := (blk_cell BK148.out 1).trans rfl; have hfz11_0 := blk_frozen BK148.out 0; have hfz11_1 := blk_frozen BK148.out 1))
         have n0_ : Aside0 (((w10.setCell ⟨gb148, 0, none⟩ (.int .i64 (reply_phrases.c0 x6_1))).setCell ⟨gb148, 1, none⟩ (.string (reply_phrases.c1 x6_1))).heap[gb148]? = some (.cells #[.int .i64 (reply_phrases.c0 x6_1), .string (reply_phrases.c1 x6_1)] 97 (0, 0))) := ⟨(tq5_9 BK148.out)⟩
         have n1_ : Aside0 (Below w.heap.size w ((w10.setCell ⟨gb148, 0, none⟩ (.int .i64 (reply_phrases.c0 x6_1))).setCell ⟨gb148, 1, none⟩ (.string (reply_phrases.c1 x6_1)))) := ⟨(tq5_7 GE148.out)⟩
         (try clear BK148)
         (try clear HB)
         generalize ((w10.setCell ⟨gb148, 0, none⟩ (.int .i64 (reply_phrases.c0 x6_1))).setCell ⟨gb148, 1, none⟩ (.string (reply_phrases.c1 x6_1))) = w12 at n0_ n1_ ⊢
         have BK148 := n0_
         have HB := n1_
         clear n0_ n1_
         have n0_ := Aq5 (blk_drew BK148.out)
         have n1_ := Aq5 (below_drew1 HB.out)
         clear BK148
         clear HB
         have BK148 := n0_
         have HB := n1_
         clear n0_ n1_
         refine start_ (n := 10) (S := fun w' => w'.cell? ⟨gb148, 0, none⟩ = some (.int .i64 (reply_phrases.c0 x6_1)) ∧ w'.cell? ⟨gb148, 1, none⟩ = some (.string (reply_phrases.c1 x6_1))) (ds := []) #[false, false, false, false, false, false, false, false, false, false] (by kernel_rfl) rfl rfl ⟨(blk_cell BK148.out 0).trans rfl, (blk_cell BK148.out 1).trans rfl⟩ (fun hHeld => ?_); refine with_tabW reply_status.tab4 reply_status.bits4 (fun HT_ HW_ => ?_)
         generalize w12.drew = w13 at BK148 HB hHeld ⊢
         refine pure_ (i := 0) (N := some 9) (v := ?_) (a' := ?_) #[true, false, false, false, false, false, false, false, false, false] rfl rfl (any_of HT_.out (by kernel_rfl)) (fun _ _ _ h => h) (Or.inl ⟨by rfl, ?_⟩) ?_ ?_
         rotate_left
         ·intro w'
          go_simp
          with_reducible rfl
         rotate_left
         ·simp only [Act.put, List.setIfInBounds_toArray, List.set_cons_zero, List.set_cons_succ, i64_w, i32_w]
          rfl
         refine pure_ (i := 1) (N := some 10) (v := ?_) (a' := ?_) #[true, true, false, false, false, false, false, false, false, false] rfl rfl (any_of HT_.out (by kernel_rfl)) (fun _ _ _ h => h) (Or.inl ⟨by rfl, ?_⟩) ?_ ?_
         rotate_left
         ·intro w'
          go_simp
          with_reducible rfl
         rotate_left
         ·simp only [Act.put, List.setIfInBounds_toArray, List.set_cons_zero, List.set_cons_succ, i64_w, i32_w]
          rfl
         refine pure_ (i := 6) (N := some 15) (v := ?_) (a' := ?_) #[true, true, false, false, false, false, true, false, false, false] rfl rfl (any_of HT_.out (by kernel_rfl)) (fun _ _ _ h => h) (Or.inl ⟨by rfl, ?_⟩) ?_ ?_
         rotate_left
         ·intro w'
          go_simp
          with_reducible rfl
         rotate_left
         ·simp only [Act.put, List.setIfInBounds_toArray, List.set_cons_zero, List.set_cons_succ, i64_w, i32_w]
          rfl
         refine take_ (i := 2) (N := some 11) (v := ?_) (a' := ?_) #[true, true, true, false, false, false, true, false, false, false] rfl rfl (take_ofW HT_.out HW_.out (by kernel_rfl)) (fun _ _ _ h => h) (Or.inl ⟨by rfl, ?_⟩) hHeld ?_ ?_
         rotate_left
         ·rintro w' ⟨s0, s1⟩
          go_simp
          with_reducible rfl
         rotate_left
         ·simp only [Act.put, List.setIfInBounds_toArray, List.set_cons_zero, List.set_cons_succ, i64_w, i32_w]
          rfl
         refine take_ (i := 7) (N := some 16) (v := ?_) (a' := ?_) #[true, true, true, false, false, false, true, true, false, false] rfl rfl (take_ofW HT_.out HW_.out (by kernel_rfl)) (fun _ _ _ h => h) (Or.inl ⟨by rfl, ?_⟩) hHeld ?_ ?_
         rotate_left
         ·rintro w' ⟨s0, s1⟩
          go_simp
          with_reducible rfl
         rotate_left
         ·simp only [Act.put, List.setIfInBounds_toArray, List.set_cons_zero, List.set_cons_succ, i64_w, i32_w]
          rfl
         refine one_ (i := 3) (N := some 12) #[true, true, true, true, false, false, true, true, false, false] rfl rfl (one_of HT_.out (by kernel_rfl)) (by decide) (fun K hK => ?_)
         refine goes_ Tryd.func39 (by kernel_rfl) rfl #[.int .i64 (reply_phrases.c0 x6_1)] (by rfl) rfl rfl tq5_6 ?_
         with_reducible refine (strconv_Itoa_39.calls (reply_phrases.c0 x6_1) t149 _ A5.out ?side1).mono ?_
         (case side1 => exact HG.out.step (tq5_7 GE148.out) rfl)
         rintro e w14 ⟨rfl, hb⟩
         refine ⟨_, rfl, ?_⟩
         have n0_ := Aq5 (blk_below (g := gb148) (o := .cells #[.int .i64 (reply_phrases.c0 x6_1), .string (reply_phrases.c1 x6_1)] 97 (0, 0)) (tq5_4 BK148.out) hb)
         have n1_ := Aq5 (below_step (tq5_7 GE148.out) hb)
         clear BK148
         clear HB
         have BK148 := n0_
         have HB := n1_
         clear n0_ n1_
         (try clear hb)
         (try clear hb2)
         (try clear hk)
         (try clear hi)
         refine hK.out _ _ ⟨(blk_cell BK148.out 0).trans rfl, (blk_cell BK148.out 1).trans rfl⟩ (fun hHeld => ?_)
         clear hK K
         refine norm_ (a' := ?_) ?_ ?_
         rotate_left
         ·show Act.put _ (some 12) _ = _
          simp only [Act.put, List.setIfInBounds_toArray, List.set_cons_zero, List.set_cons_succ, i64_w, i32_w]
          rfl
         refine pure_ (i := 4) (N := some 13) (v := ?_) (a' := ?_) #[true, true, true, true, true, false, true, true, false, false] rfl rfl (any_of HT_.out (by kernel_rfl)) (fun _ _ _ h => h) (Or.inl ⟨by rfl, ?_⟩) ?_ ?_
         rotate_left
         ·intro w'
          go_simp
          with_reducible rfl
         rotate_left
         ·simp only [Act.put, List.setIfInBounds_toArray, List.set_cons_zero, List.set_cons_succ, i64_w, i32_w]
          rfl
         refine pure_ (i := 5) (N := some 14) (v := ?_) (a' := ?_) #[true, true, true, true, true, true, true, true, false, false] rfl rfl (any_of HT_.out (by kernel_rfl)) (fun _ _ _ h => h) (Or.inl ⟨by rfl, ?_⟩) ?_ ?_
         rotate_left
         ·intro w'
          go_simp
          with_reducible rfl
         rotate_left
         ·simp only [Act.put, List.setIfInBounds_toArray, List.set_cons_zero, List.set_cons_succ, i64_w, i32_w]
          rfl
         refine pure_ (i := 8) (N := some 17) (v := ?_) (a' := ?_) #[true, true, true, true, true, true, true, true, true, false] rfl rfl (any_of HT_.out (by kernel_rfl)) (fun _ _ _ h => h) (Or.inl ⟨by rfl, ?_⟩) ?_ ?_
         rotate_left
         ·intro w'
          go_simp
          with_reducible rfl
         rotate_left
         ·simp only [Act.put, List.setIfInBounds_toArray, List.set_cons_zero, List.set_cons_succ, i64_w, i32_w]
          rfl
         refine pure_ (i := 9) (N := some 18) (v := ?_) (a' := ?_) #[true, true, true, true, true, true, true, true, true, true] rfl rfl (any_of HT_.out (by kernel_rfl)) (fun _ _ _ h => h) (Or.inl ⟨by rfl, ?_⟩) ?_ ?_
         rotate_left
         ·intro w'
          go_simp
          with_reducible rfl
         rotate_left
         ·simp only [Act.put, List.setIfInBounds_toArray, List.set_cons_zero, List.set_cons_succ, i64_w, i32_w]
          rfl
         refine done_ (done_of HT_.out (by kernel_rfl)) ?_
         have hcz15_0 : w14.cell? ⟨gb148, 0, none⟩ = some (.int .i64 (reply_phrases.c0 x6_1)) := (blk_cell BK148.out 0).trans rfl
         have hcz15_1 : w14.cell? ⟨gb148, 1, none⟩ = some (.string (reply_phrases.c1 x6_1)) := (blk_cell BK148.out 1).trans rfl
         have hfz15_0 := blk_frozen BK148.out 0
         have hfz15_1 := blk_frozen BK148.out 1
         try go_wp2
         go_ret
         exact ⟨tq5_3, (tq5_7 GE148.out)⟩
        ·rw [if_neg c9] at H
         have c9b0 : (a0.toList == ((((⟨#[72, 84, 84, 80, 47, 49, 46, 49, 32]⟩ : ByteArray) ++ t149) ++ (⟨#[32]⟩ : ByteArray)) ++ (reply_phrases.c1 x6_1)).toList) = false := beq_eq_false_iff_ne.mpr c9
         have c9b1 : (a0.toList != ((((⟨#[72, 84, 84, 80, 47, 49, 46, 49, 32]⟩ : ByteArray) ++ t149) ++ (⟨#[32]⟩ : ByteArray)) ++ (reply_phrases.c1 x6_1)).toList) = true := bne_iff_ne.mpr c9
         have H' := Aq5 H
         clear H
         have p4 : 0 ≤ (x6_1 : Int) := of_decide_eq_true tq5_1
         have q4 : (x6_1 : Int) < 17 := of_decide_eq_true tq5_1
         have hx4 := reply_phrases.index x6_1 p4 q4
         rw [← HTTV146.out] at hx4
         clear p4 q4
         try go_wp2_with (first | ((with_reducible refine gate_dst (N := 4) rfl ?_); refine box_event ?hg (N := 4) ?hd (cs := #[.int .i64 0, .string (⟨#[]⟩ : ByteArray)]) (t := 97) ?hr ?_; (case hd => rfl); (case hg => rfl); (case hr => first | (go_simp; done) | (go_simp; rfl)); intro gb148 hg w16 hbox hb; have BK148 := Aq5 (hbox); have GW148 := Aq5 ((by rw [hg]; exact (below_size tq5_5) : w.heap.size ≤ gb148)); have GE148 := Aq5 ((by rw [hg]; exact (below_size tq5_5) : w.heap.size ≤ gb148)); replace HB := Aq5 (below_step tq5_5 hb); clear hb hbox hg; have hcz17_0 : w16.cell? ⟨gb148, 0, none⟩ = some (.int .i64 0) := (blk_cell BK148.out 0).trans rfl; have hcz17_1 : w16.cell? ⟨gb148, 1, none⟩ = some (.string (⟨#[]⟩ : ByteArray)) := (blk_cell BK148.out 1).trans rfl; have hfz17_0 := blk_frozen BK148.out 0; have hfz17_1 := blk_frozen BK148.out 1))
         have n0_ : Aside0 (((w16.setCell ⟨gb148, 0, none⟩ (.int .i64 (reply_phrases.c0 x6_1))).setCell ⟨gb148, 1, none⟩ (.string (reply_phrases.c1 x6_1))).heap[gb148]? = some (.cells #[.int .i64 (reply_phrases.c0 x6_1), .string (reply_phrases.c1 x6_1)] 97 (0, 0))) := ⟨(tq5_9 BK148.out)⟩
         have n1_ : Aside0 (Below w.heap.size w ((w16.setCell ⟨gb148, 0, none⟩ (.int .i64 (reply_phrases.c0 x6_1))).setCell ⟨gb148, 1, none⟩ (.string (reply_phrases.c1 x6_1)))) := ⟨(tq5_7 GE148.out)⟩
         (try clear BK148)
         (try clear HB)
         generalize ((w16.setCell ⟨gb148, 0, none⟩ (.int .i64 (reply_phrases.c0 x6_1))).setCell ⟨gb148, 1, none⟩ (.string (reply_phrases.c1 x6_1))) = w18 at n0_ n1_ ⊢
         have BK148 := n0_
         have HB := n1_
         clear n0_ n1_
         have n0_ := Aq5 (blk_drew BK148.out)
         have n1_ := Aq5 (below_drew1 HB.out)
         clear BK148
         clear HB
         have BK148 := n0_
         have HB := n1_
         clear n0_ n1_
         refine start_ (n := 10) (S := fun w' => w'.cell? ⟨gb148, 0, none⟩ = some (.int .i64 (reply_phrases.c0 x6_1)) ∧ w'.cell? ⟨gb148, 1, none⟩ = some (.string (reply_phrases.c1 x6_1))) (ds := []) #[false, false, false, false, false, false, false, false, false, false] (by kernel_rfl) rfl rfl ⟨(blk_cell BK148.out 0).trans rfl, (blk_cell BK148.out 1).trans rfl⟩ (fun hHeld => ?_); refine with_tabW reply_status.tab4 reply_status.bits4 (fun HT_ HW_ => ?_)
         generalize w18.drew = w19 at BK148 HB hHeld ⊢
         refine pure_ (i := 0) (N := some 9) (v := ?_) (a' := ?_) #[true, false, false, false, false, false, false, false, false, false] rfl rfl (any_of HT_.out (by kernel_rfl)) (fun _ _ _ h => h) (Or.inl ⟨by rfl, ?_⟩) ?_ ?_
         rotate_left
         ·intro w'
          go_simp
          with_reducible rfl
         rotate_left
         ·simp only [Act.put, List.setIfInBounds_toArray, List.set_cons_zero, List.set_cons_succ, i64_w, i32_w]
          rfl
         refine pure_ (i := 1) (N := some 10) (v := ?_) (a' := ?_) #[true, true, false, false, false, false, false, false, false, false] rfl rfl (any_of HT_.out (by kernel_rfl)) (fun _ _ _ h => h) (Or.inl ⟨by rfl, ?_⟩) ?_ ?_
         rotate_left
         ·intro w'
          go_simp
          with_reducible rfl
         rotate_left
         ·simp only [Act.put, List.setIfInBounds_toArray, List.set_cons_zero, List.set_cons_succ, i64_w, i32_w]
          rfl
         refine pure_ (i := 6) (N := some 15) (v := ?_) (a' := ?_) #[true, true, false, false, false, false, true, false, false, false] rfl rfl (any_of HT_.out (by kernel_rfl)) (fun _ _ _ h => h) (Or.inl ⟨by rfl, ?_⟩) ?_ ?_
         rotate_left
         ·intro w'
          go_simp
          with_reducible rfl
         rotate_left
         ·simp only [Act.put, List.setIfInBounds_toArray, List.set_cons_zero, List.set_cons_succ, i64_w, i32_w]
          rfl
         refine take_ (i := 2) (N := some 11) (v := ?_) (a' := ?_) #[true, true, true, false, false, false, true, false, false, false] rfl rfl (take_ofW HT_.out HW_.out (by kernel_rfl)) (fun _ _ _ h => h) (Or.inl ⟨by rfl, ?_⟩) hHeld ?_ ?_
         rotate_left
         ·rintro w' ⟨s0, s1⟩
          go_simp
          with_reducible rfl
         rotate_left
         ·simp only [Act.put, List.setIfInBounds_toArray, List.set_cons_zero, List.set_cons_succ, i64_w, i32_w]
          rfl
         refine take_ (i := 7) (N := some 16) (v := ?_) (a' := ?_) #[true, true, true, false, false, false, true, true, false, false] rfl rfl (take_ofW HT_.out HW_.out (by kernel_rfl)) (fun _ _ _ h => h) (Or.inl ⟨by rfl, ?_⟩) hHeld ?_ ?_
         rotate_left
         ·rintro w' ⟨s0, s1⟩
          go_simp
          with_reducible rfl
         rotate_left
         ·simp only [Act.put, List.setIfInBounds_toArray, List.set_cons_zero, List.set_cons_succ, i64_w, i32_w]
          rfl
         refine one_ (i := 3) (N := some 12) #[true, true, true, true, false, false, true, true, false, false] rfl rfl (one_of HT_.out (by kernel_rfl)) (by decide) (fun K hK => ?_)
         refine goes_ Tryd.func39 (by kernel_rfl) rfl #[.int .i64 (reply_phrases.c0 x6_1)] (by rfl) rfl rfl tq5_6 ?_
         with_reducible refine (strconv_Itoa_39.calls (reply_phrases.c0 x6_1) t149 _ A5.out ?side1).mono ?_
         (case side1 => exact HG.out.step (tq5_7 GE148.out) rfl)
         rintro e w20 ⟨rfl, hb⟩
         refine ⟨_, rfl, ?_⟩
         have n0_ := Aq5 (blk_below (g := gb148) (o := .cells #[.int .i64 (reply_phrases.c0 x6_1), .string (reply_phrases.c1 x6_1)] 97 (0, 0)) (tq5_4 BK148.out) hb)
         have n1_ := Aq5 (below_step (tq5_7 GE148.out) hb)
         clear BK148
         clear HB
         have BK148 := n0_
         have HB := n1_
         clear n0_ n1_
         (try clear hb)
         (try clear hb2)
         (try clear hk)
         (try clear hi)
         refine hK.out _ _ ⟨(blk_cell BK148.out 0).trans rfl, (blk_cell BK148.out 1).trans rfl⟩ (fun hHeld => ?_)
         clear hK K
         refine norm_ (a' := ?_) ?_ ?_
         rotate_left
         ·show Act.put _ (some 12) _ = _
          simp only [Act.put, List.setIfInBounds_toArray, List.set_cons_zero, List.set_cons_succ, i64_w, i32_w]
          rfl
         refine pure_ (i := 4) (N := some 13) (v := ?_) (a' := ?_) #[true, true, true, true, true, false, true, true, false, false] rfl rfl (any_of HT_.out (by kernel_rfl)) (fun _ _ _ h => h) (Or.inl ⟨by rfl, ?_⟩) ?_ ?_
         rotate_left
         ·intro w'
          go_simp
          with_reducible rfl
         rotate_left
         ·simp only [Act.put, List.setIfInBounds_toArray, List.set_cons_zero, List.set_cons_succ, i64_w, i32_w]
          rfl
         refine pure_ (i := 5) (N := some 14) (v := ?_) (a' := ?_) #[true, true, true, true, true, true, true, true, false, false] rfl rfl (any_of HT_.out (by kernel_rfl)) (fun _ _ _ h => h) (Or.inl ⟨by rfl, ?_⟩) ?_ ?_
         rotate_left
         ·intro w'
          go_simp
          with_reducible rfl
         rotate_left
         ·simp only [Act.put, List.setIfInBounds_toArray, List.set_cons_zero, List.set_cons_succ, i64_w, i32_w]
          rfl
         refine pure_ (i := 8) (N := some 17) (v := ?_) (a' := ?_) #[true, true, true, true, true, true, true, true, true, false] rfl rfl (any_of HT_.out (by kernel_rfl)) (fun _ _ _ h => h) (Or.inl ⟨by rfl, ?_⟩) ?_ ?_
         rotate_left
         ·intro w'
          go_simp
          with_reducible rfl
         rotate_left
         ·simp only [Act.put, List.setIfInBounds_toArray, List.set_cons_zero, List.set_cons_succ, i64_w, i32_w]
          rfl
         refine pure_ (i := 9) (N := some 18) (v := ?_) (a' := ?_) #[true, true, true, true, true, true, true, true, true, true] rfl rfl (any_of HT_.out (by kernel_rfl)) (fun _ _ _ h => h) (Or.inl ⟨by rfl, ?_⟩) ?_ ?_
         rotate_left
         ·intro w'
          go_simp
          with_reducible rfl
         rotate_left
         ·simp only [Act.put, List.setIfInBounds_toArray, List.set_cons_zero, List.set_cons_succ, i64_w, i32_w]
          rfl
         refine done_ (done_of HT_.out (by kernel_rfl)) ?_
         try go_wp2
         go_roundg k1
         case measure => have := HK1.out; omega
         case rel => exact ⟨(wrap64 (x6_1 + 1)), tq5_0, H', ⟨by have := HK1.out; omega⟩, ⟨(tq5_7 GE148.out)⟩⟩
       ·rw [if_neg c8] at H
        exact absurd H (by simp)
      ·rw [if_neg c7] at H
       exact absurd H (by simp)
     ·rw [if_neg c6] at H
      exact absurd H (by simp)
    ·rw [if_neg c3] at H
     exact absurd H (by simp)
   ·rw [if_neg c2] at H
    have c2b0 : decide (x6_1 < 17) = false := decide_eq_false c2
    clear c2
    obtain rfl := Option.some.inj H
    go_wp2
    go_ret
    exact ⟨tq5_3, tq5_5⟩

-- NOT PRINTED: function 119 (stringslite_HasSuffix)

-- NOT PRINTED: function 110 (stringslite_TrimSuffix)

end Go.Proofs.YtdlfdmbaejhaaaaDoor.Q
