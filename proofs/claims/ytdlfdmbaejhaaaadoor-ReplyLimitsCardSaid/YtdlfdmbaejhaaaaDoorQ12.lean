/- The plain Lean functions that calls of the program answer, and proofs that they do. Printed by program out of the translation; Lean checks it. -/
import Derived.Test.YtdlfdmbaejhaaaaDoorQ0
namespace Go.Proofs.YtdlfdmbaejhaaaaDoor.Q
open Go.RowKit Go.Proofs.YtdlfdmbaejhaaaaDoorW.PrintWords Go.Proofs.YtdlfdmbaejhaaaaDoorW.PrintLast Go.Proofs.YtdlfdmbaejhaaaaDoorW.PrintMore
attribute [local go_sem] max2_int min2_int max_two min_two max_three min_three max_four min_four   -- for this text's walks alone
set_option linter.unusedVariables false
set_option linter.unusedSimpArgs false

theorem Aq12 {p : Prop} (h : p) : Aside0 p := ⟨h⟩
theorem tq12_0 {P : Prop} (h : P := by first | rfl | (simp; done) | (simp [*]; done)) : P := h
theorem tq12_1 {P : Prop} (h : P := by first | (with_reducible assumption) | assumption) : P := h
theorem tq12_2 {P : Prop} (h : P := by repeat (first | exact Drawn0.refl _ | apply Drawn0.step)) : P := h
theorem tq12_3 {P : Prop} (h : P := by first | rfl | (simp [errW_none, errW_some] <;> rfl) | (simp [*, errW_none, errW_some] <;> rfl)) : P := h
theorem tq12_4 {P Q0 : Prop} (y0 : Q0) (h : Q0 → P := by intro y0_; (with_reducible repeat (first | refine blk_drewN ?_ _ | refine blk_drew ?_ | refine blk_alloc ?_ _)); exact y0_) : P := h y0
theorem tq12_5 {P : Prop} (h : P := by repeat (first | (with_reducible first | exact HB.out | apply below_alloc | apply pw_below_drewN | apply below_drew1) | exact HB.out)) : P := h
theorem tq12_6 {P Q0 : Prop} (y0 : Q0) (h : Q0 → P := by intro y0_; repeat (first | (with_reducible first | exact HB.out | apply below_alloc | apply pw_below_drewN | apply below_drew1 | refine below_set ?_ y0_) | exact HB.out)) : P := h y0
theorem tq12_7 {P Q0 : Prop} (y0 : Q0) (h : Q0 → P := by intro y0_; (with_reducible repeat (first | refine blk_drewN ?_ _ | refine blk_drew ?_ | refine blk_alloc ?_ _)); refine blk_put (cs := #[.string (a0.extract 0 (x3_1 : Int).toNat), .string x271001_1]) ?_ 1 _ rfl; (with_reducible repeat (first | refine blk_drewN ?_ _ | refine blk_drew ?_ | refine blk_alloc ?_ _)); refine blk_put (cs := #[.string x271000_1, .string x271001_1]) ?_ 0 _ rfl; (with_reducible repeat (first | refine blk_drewN ?_ _ | refine blk_drew ?_ | refine blk_alloc ?_ _)); exact y0_) : P := h y0
/-! ### usherref8_number: function 80 -/
mutual
def usherref8_number.j0 : Nat → ByteArray → Bool → Option (Int)
 | 0, _, _ => none
 | k + 1, x0, x12 => if x12 = true then (some (-1)) else (usherref8_number.l0 k x0 0 0)
def usherref8_number.l0 : Nat → ByteArray → Int → Int → Option (Int)
 | 0, _, _, _ => none
 | k + 1, x0, x3, x4 => if x4 < (x0.size : Int) then (if 0 ≤ x4 then (if (bt x0 x4) < 48 then (some (-1)) else (if (bt x0 x4) > 57 then (some (-1)) else (usherref8_number.l0 k x0 (wrap64 ((wrap64 (10 * x3)) + (((bt x0 x4) - 48) % 256))) (wrap64 (x4 + 1))))) else (none)) else (some x3)
end
def usherref8_number.f (k : Nat) (a0 : ByteArray) : Option (Int) := if (a0.size : Int) < 1 then (usherref8_number.j0 k a0 true) else (usherref8_number.j0 k a0 (decide ((a0.size : Int) > 7)))
theorem usherref8_number.mono_l : ∀ k, (∀ y0 y1, LeO (usherref8_number.j0 k y0 y1) (usherref8_number.j0 (k + 1) y0 y1)) ∧ (∀ y0 y1 y2, LeO (usherref8_number.l0 k y0 y1 y2) (usherref8_number.l0 (k + 1) y0 y1 y2))
 | 0 => ⟨fun _ _ r h => by simp [usherref8_number.j0] at h, fun _ _ _ r h => by simp [usherref8_number.l0] at h⟩
 | k + 1 => by
  obtain ⟨ih0, ih1⟩ := usherref8_number.mono_l k
  refine ⟨?_, ?_⟩
  ·intro y0 y1
   unfold usherref8_number.j0
   repeat' first
   | (with_reducible exact ih0 _ _)
   | (with_reducible exact ih1 _ _ _)
   | (with_reducible exact LeO.refl _)
   | (with_reducible exact LeO.none _)
   | (with_reducible refine LeO.ite ?_ ?_)
   | (with_reducible refine LeO.bind ?_ (fun _ => ?_))
   | exact ih0 _ _
   | exact ih1 _ _ _
   | exact LeO.none _
   | refine LeO.ite ?_ ?_
   | refine LeO.bind ?_ (fun _ => ?_)
  ·intro y0 y1 y2
   unfold usherref8_number.l0
   repeat' first
   | (with_reducible exact ih0 _ _)
   | (with_reducible exact ih1 _ _ _)
   | (with_reducible exact LeO.refl _)
   | (with_reducible exact LeO.none _)
   | (with_reducible refine LeO.ite ?_ ?_)
   | (with_reducible refine LeO.bind ?_ (fun _ => ?_))
   | exact ih0 _ _
   | exact ih1 _ _ _
   | exact LeO.none _
   | refine LeO.ite ?_ ?_
   | refine LeO.bind ?_ (fun _ => ?_)
theorem usherref8_number.mono : ∀ a0 k, LeO (usherref8_number.f k a0) (usherref8_number.f (k + 1) a0) := by
 intro a0 k
 obtain ⟨ih0, ih1⟩ := usherref8_number.mono_l k
 unfold usherref8_number.f
 repeat' first
   | (with_reducible exact ih0 _ _)
   | (with_reducible exact ih1 _ _ _)
   | (with_reducible exact LeO.refl _)
   | (with_reducible exact LeO.none _)
   | (with_reducible refine LeO.ite ?_ ?_)
   | (with_reducible refine LeO.bind ?_ (fun _ => ?_))
   | exact ih0 _ _
   | exact ih1 _ _ _
   | exact LeO.none _
   | refine LeO.ite ?_ ?_
   | refine LeO.bind ?_ (fun _ => ?_)
set_option maxHeartbeats 8000000 in
set_option maxRecDepth 100000 in
theorem usherref8_number.calls (k : Nat) (a0 : ByteArray) (r : Int) (w : World) (h : usherref8_number.f k a0 = some r) :
  Calls Tryd.prog 80 #[.string a0] w fun e w' => e = .returned (.int .i64 r) ∧ Drawn0 w w' := by
 have H : (if (a0.size : Int) < 1 then (usherref8_number.j0 k a0 true) else (usherref8_number.j0 k a0 (decide ((a0.size : Int) > 7)))) = some r := h
 clear h
 have HC2 := Aq12 H
 clear H
 go_enter Tryd.func80, Tryd.ntmps80
 go_upto_region 1 with (fail)
 go_cut [12] (fun v12 wc => ∃ (kq : Nat) (x12_1 : Bool), v12 = .bool x12_1 ∧ Aside0 (usherref8_number.j0 kq a0 x12_1 = some r) ∧ Aside0 (kq ≤ k) ∧ Drawn0 w wc)
 case first =>
  have H := HC2.out
  clear HC2
  by_cases c3 : (a0.size : Int) < 1
  ·rw [if_pos c3] at H
   have c3b0 : decide ((a0.size : Int) < 1) = true := decide_eq_true c3
   have c3b1 : decide (a0.size < 1) = true := decide_eq_true (by omega)
   clear c3
   (first | rw [c3b0] | (simp only [i64_w, i32_w]; rw [c3b0]) | skip)
   have H' := Aq12 H
   clear H
   go_wp2
   go_meet
   case rel => exact ⟨_, (true), tq12_0, H', ⟨by first | omega | exact Nat.le_refl _⟩, tq12_2⟩
  ·rw [if_neg c3] at H
   have c3b0 : decide ((a0.size : Int) < 1) = false := decide_eq_false c3
   have c3b1 : decide (a0.size < 1) = false := decide_eq_false (by omega)
   clear c3
   (first | rw [c3b0] | (simp only [i64_w, i32_w]; rw [c3b0]) | skip)
   have H' := Aq12 H
   clear H
   go_wp2
   go_meet
   case rel => exact ⟨_, (decide ((a0.size : Int) > 7)), tq12_0, H', ⟨by first | omega | exact Nat.le_refl _⟩, tq12_2⟩
 case rest =>
  clear HC2
  try clear p2
  try clear c3
  try clear c3b0
  try clear c3b1
  obtain ⟨kq, x12_1, rfl, HA, HJ1, ⟨mc1, rfl⟩⟩ := hcut
  cases kq with
  | zero => exact absurd HA.out (by simp [usherref8_number.j0])
  | succ kj1 =>
   have H := HA.out
   clear HA
   simp only [usherref8_number.j0] at H
   by_cases c4 : x12_1 = true
   ·subst c4
    have H1 : (some (-1)) = some r := by rw [if_pos rfl] at H; exact H
    clear H
    have H := H1
    clear H1
    obtain rfl := Option.some.inj H
    go_wp2
    go_ret
    exact ⟨tq12_0, tq12_2⟩
   ·replace c4 := Bool.eq_false_iff.mpr c4
    subst c4
    have H1 : (usherref8_number.l0 kj1 a0 0 0) = some r := by rw [if_neg (show ¬ (false = true) by decide)] at H; exact H
    clear H
    have H := H1
    clear H1
    have H' := Aq12 H
    clear H
    go_wp2
    go_loopg [3, 4] kj1 (fun kq v3 v4 w' => ∃ (x3_2 : Int) (x4_2 : Int), v3 = .int .i64 x3_2 ∧ v4 = .int .i64 x4_2 ∧ Aside0 (usherref8_number.l0 kq a0 x3_2 x4_2 = some r) ∧ Aside0 (kq ≤ kj1) ∧ Drawn0 w w')
    case atStart => exact ⟨(0), (0), tq12_0, tq12_0, H', ⟨Nat.le_refl _⟩, tq12_2⟩
    case round =>
     clear H'
     try clear c1
     try clear p2
     try clear c3
     try clear c3b0
     try clear c3b1
     try clear c4
     try clear p2
     obtain ⟨x3_2, x4_2, rfl, rfl, HA, HK2, ⟨m2, rfl⟩⟩ := hrel
     cases gk with
     | zero => exact absurd HA.out (by simp [usherref8_number.l0])
     | succ k2 =>
      have H := HA.out
      clear HA
      simp only [usherref8_number.l0] at H
      by_cases c5 : x4_2 < (a0.size : Int)
      ·rw [if_pos c5] at H
       have c5b0 : decide (x4_2 < (a0.size : Int)) = true := decide_eq_true c5
       clear c5
       by_cases c6 : 0 ≤ x4_2
       ·rw [if_pos c6] at H
        have c6b0 : decide (0 ≤ x4_2) = true := decide_eq_true c6
        clear c6
        by_cases c8 : (bt a0 x4_2) < 48
        ·rw [if_pos c8] at H
         have c8b0 : decide ((bt a0 x4_2) < 48) = true := decide_eq_true c8
         clear c8
         obtain rfl := Option.some.inj H
         have p7 : 0 ≤ (x4_2 : Int) := of_decide_eq_true tq12_1
         have q7 : x4_2 < (a0.size : Int) := of_decide_eq_true tq12_1
         have hx7 := bt_at a0 x4_2
         replace p7 := eq_true p7
         replace q7 := eq_true q7
         go_wp2
         go_ret
         exact ⟨tq12_0, tq12_2⟩
        ·rw [if_neg c8] at H
         have c8b0 : decide ((bt a0 x4_2) < 48) = false := decide_eq_false c8
         clear c8
         by_cases c10 : (bt a0 x4_2) > 57
         ·rw [if_pos c10] at H
          have c10b0 : decide (57 < (bt a0 x4_2)) = true := decide_eq_true c10
          clear c10
          obtain rfl := Option.some.inj H
          have p7 : 0 ≤ (x4_2 : Int) := of_decide_eq_true tq12_1
          have q7 : x4_2 < (a0.size : Int) := of_decide_eq_true tq12_1
          have hx7 := bt_at a0 x4_2
          replace p7 := eq_true p7
          replace q7 := eq_true q7
          have p9 : 0 ≤ (x4_2 : Int) := of_decide_eq_true tq12_1
          have q9 : x4_2 < (a0.size : Int) := of_decide_eq_true tq12_1
          have hx9 := bt_at a0 x4_2
          replace p9 := eq_true p9
          replace q9 := eq_true q9
          go_wp2
          go_ret
          exact ⟨tq12_0, tq12_2⟩
         ·rw [if_neg c10] at H
          have c10b0 : decide (57 < (bt a0 x4_2)) = false := decide_eq_false c10
          clear c10
          have H' := Aq12 H
          clear H
          have p7 : 0 ≤ (x4_2 : Int) := of_decide_eq_true tq12_1
          have q7 : x4_2 < (a0.size : Int) := of_decide_eq_true tq12_1
          have hx7 := bt_at a0 x4_2
          replace p7 := eq_true p7
          replace q7 := eq_true q7
          have p9 : 0 ≤ (x4_2 : Int) := of_decide_eq_true tq12_1
          have q9 : x4_2 < (a0.size : Int) := of_decide_eq_true tq12_1
          have hx9 := bt_at a0 x4_2
          replace p9 := eq_true p9
          replace q9 := eq_true q9
          have p11 : 0 ≤ (x4_2 : Int) := of_decide_eq_true tq12_1
          have q11 : x4_2 < (a0.size : Int) := of_decide_eq_true tq12_1
          have hx11 := bt_at a0 x4_2
          replace p11 := eq_true p11
          replace q11 := eq_true q11
          go_wp2
          go_roundg k2
          case measure => have := HJ1.out; have := HK2.out; omega
          case rel => exact ⟨(wrap64 ((wrap64 (10 * x3_2)) + (((bt a0 x4_2) - 48) % 256))), (wrap64 (x4_2 + 1)), tq12_0, tq12_0, H', ⟨by have := HJ1.out; have := HK2.out; omega⟩, tq12_2⟩
       ·rw [if_neg c6] at H
        exact absurd H (by simp)
      ·rw [if_neg c5] at H
       have c5b0 : decide (x4_2 < (a0.size : Int)) = false := decide_eq_false c5
       clear c5
       obtain rfl := Option.some.inj H
       go_wp2
       go_ret
       exact ⟨tq12_0, tq12_2⟩

/-! ### usherref8_field: function 81 -/
def usherref8_field.l0 : Nat → ByteArray → Int → Option (ByteArray × ByteArray)
 | 0, _, _ => none
 | k + 1, x0, x3 => if x3 < (x0.size : Int) then (if 0 ≤ x3 then (if (bt x0 x3) = 58 then (if (wrap64 (x3 + 2)) > (x0.size : Int) then (if x3 ≤ (x0.size : Int) then (some (x0.extract 0 (x3 : Int).toNat, (⟨#[]⟩ : ByteArray))) else (none)) else (if x3 ≤ (x0.size : Int) then (if 0 ≤ (wrap64 (x3 + 2)) then (if (wrap64 (x3 + 2)) ≤ (x0.size : Int) then (some (x0.extract 0 (x3 : Int).toNat, x0.extract ((wrap64 (x3 + 2)) : Int).toNat x0.size)) else (none)) else (none)) else (none))) else (usherref8_field.l0 k x0 (wrap64 (x3 + 1)))) else (none)) else (some (x0, (⟨#[]⟩ : ByteArray)))
def usherref8_field.f (k : Nat) (a0 : ByteArray) : Option (ByteArray × ByteArray) := usherref8_field.l0 k a0 0
theorem usherref8_field.mono_l : ∀ k, (∀ y0 y1, LeO (usherref8_field.l0 k y0 y1) (usherref8_field.l0 (k + 1) y0 y1))
 | 0 => fun _ _ r h => by simp [usherref8_field.l0] at h
 | k + 1 => by
  have ih0 := usherref8_field.mono_l k
  ·intro y0 y1
   unfold usherref8_field.l0
   repeat' first
   | (with_reducible exact ih0 _ _)
   | (with_reducible exact LeO.refl _)
   | (with_reducible exact LeO.none _)
   | (with_reducible refine LeO.ite ?_ ?_)
   | (with_reducible refine LeO.bind ?_ (fun _ => ?_))
   | exact ih0 _ _
   | exact LeO.none _
   | refine LeO.ite ?_ ?_
   | refine LeO.bind ?_ (fun _ => ?_)
theorem usherref8_field.mono : ∀ a0 k, LeO (usherref8_field.f k a0) (usherref8_field.f (k + 1) a0) := by
 intro a0 k
 have ih0 := usherref8_field.mono_l k
 unfold usherref8_field.f
 repeat' first
   | (with_reducible exact ih0 _ _)
   | (with_reducible exact LeO.refl _)
   | (with_reducible exact LeO.none _)
   | (with_reducible refine LeO.ite ?_ ?_)
   | (with_reducible refine LeO.bind ?_ (fun _ => ?_))
   | exact ih0 _ _
   | exact LeO.none _
   | refine LeO.ite ?_ ?_
   | refine LeO.bind ?_ (fun _ => ?_)
def usherref8_field.T7 : Bool × List (List Nat × List Nat) := (true, [([], []), ([], []), ([0, 1], [0, 1]), ([], []), ([], []), ([4], [4]), ([3, 5], [3, 5]), ([2, 6], [2, 6]), ([7, 0, 1, 2, 3, 4, 5, 6, 7], [7])])
def usherref8_field.B7 : List Nat := [0, 0, 3, 0, 0, 16, 56, 127, 255]
theorem usherref8_field.tab7 : rtab .any (opsOf Tryd.f81 7) = usherref8_field.T7 := by kernel_rfl
theorem usherref8_field.bits7 : waitsOk usherref8_field.T7.2 usherref8_field.B7 = true := by kernel_rfl
set_option maxHeartbeats 8000000 in
set_option maxRecDepth 100000 in
theorem usherref8_field.calls (k : Nat) (a0 : ByteArray) (r1 : ByteArray) (r2 : ByteArray) (w : World) (h : usherref8_field.f k a0 = some (r1, r2)) :
  Calls Tryd.prog 81 #[.string a0] w fun e w' => e = .returned (.agg #[.string r1, .string r2]) ∧ Below w.heap.size w w' := by
 have hu26 := Tryd.underlying26
 have HB := Aq12 (Below.refl w.heap.size w)
 have H : (usherref8_field.l0 k a0 0) = some (r1, r2) := h
 clear h
 have H' := Aq12 H
 clear H
 go_enter Tryd.func81, Tryd.ntmps81
 go_wp2_with (first | ((with_reducible refine gate_dst (N := 2) rfl ?_); refine box_event ?hg (N := 2) ?hd (cs := #[.string (⟨#[]⟩ : ByteArray), .string (⟨#[]⟩ : ByteArray)]) (t := 26) ?hr ?_; (case hd => rfl); (case hg => rfl); (case hr => first | (go_simp; done) | (go_simp; rfl)); intro gb270 hg w2 hbox hb; have BK270 := Aq12 (hbox); have GW270 := Aq12 ((by rw [hg]; exact (below_size tq12_5) : w.heap.size ≤ gb270)); have GE270 := Aq12 ((by rw [hg]; exact (below_size tq12_5) : w.heap.size ≤ gb270)); replace HB := Aq12 (below_step tq12_5 hb); clear hb hbox hg))
 go_loopg [3] k (fun kq v3 w' => ∃ (x3_1 : Int) (x271000_1 : ByteArray) (x271001_1 : ByteArray), v3 = .int .i64 x3_1 ∧ Aside0 (usherref8_field.l0 kq a0 x3_1 = some (r1, r2)) ∧ Aside0 (kq ≤ k) ∧ Aside0 (w'.heap[gb270]? = some (.cells #[.string x271000_1, .string x271001_1] 26 (0, 0))) ∧ Aside0 (Below w.heap.size w w'))
 case atStart => exact ⟨(0), ((⟨#[]⟩ : ByteArray)), ((⟨#[]⟩ : ByteArray)), tq12_0, H', ⟨Nat.le_refl _⟩, ⟨(tq12_4 BK270.out)⟩, ⟨(tq12_6 GE270.out)⟩⟩
 case round =>
  clear H'
  try clear p2
  obtain ⟨x3_1, x271000_1, x271001_1, rfl, HA, HK1, BK270, HB⟩ := hrel
  cases gk with
  | zero => exact absurd HA.out (by simp [usherref8_field.l0])
  | succ k1 =>
   have H := HA.out
   clear HA
   simp only [usherref8_field.l0] at H
   by_cases c3 : x3_1 < (a0.size : Int)
   ·rw [if_pos c3] at H
    have c3b0 : decide (x3_1 < (a0.size : Int)) = true := decide_eq_true c3
    clear c3
    by_cases c4 : 0 ≤ x3_1
    ·rw [if_pos c4] at H
     have c4b0 : decide (0 ≤ x3_1) = true := decide_eq_true c4
     clear c4
     by_cases c6 : (bt a0 x3_1) = 58
     ·rw [if_pos c6] at H
      have c6b0 : ((bt a0 x3_1) == 58) = true := beq_iff_eq.mpr c6
      have c6b1 : ((bt a0 x3_1) != 58) = false := bne_eq_false_iff_eq.mpr c6
      clear c6
      by_cases c7 : (wrap64 (x3_1 + 2)) > (a0.size : Int)
      ·rw [if_pos c7] at H
       have c7b0 : decide ((a0.size : Int) < (wrap64 (x3_1 + 2))) = true := decide_eq_true c7
       clear c7
       have c8b0 := eq_true (of_decide_eq_true tq12_1 : 0 ≤ x3_1)
       by_cases c9 : x3_1 ≤ (a0.size : Int)
       ·rw [if_pos c9] at H
        have c9b0 := eq_true c9
        have c9b1 : decide (x3_1 ≤ (a0.size : Int)) = true := decide_eq_true c9
        clear c9
        simp only [Option.some.injEq, Prod.mk.injEq] at H
        obtain ⟨rfl, rfl⟩ := H
        have p5 : 0 ≤ (x3_1 : Int) := of_decide_eq_true tq12_1
        have q5 : x3_1 < (a0.size : Int) := of_decide_eq_true tq12_1
        have hx5 := bt_at a0 x3_1
        replace p5 := eq_true p5
        replace q5 := eq_true q5
        have hcz10_0 : wr.cell? ⟨gb270, 0, none⟩ = some (.string x271000_1) := (blk_cell BK270.out 0).trans rfl
        have hcz10_1 : wr.cell? ⟨gb270, 1, none⟩ = some (.string x271001_1) := (blk_cell BK270.out 1).trans rfl
        have hfz10_0 := blk_frozen BK270.out 0
        have hfz10_1 := blk_frozen BK270.out 1
        go_wp2
        refine bodyPost_ret (results_cell_row rfl _ _ gb270 26 #[.string (a0.extract 0 (x3_1 : Int).toNat), .string (⟨#[]⟩ : ByteArray)] (0, 0) _ rfl (tq12_7 BK270.out) Tryd.underlying26 rfl (by kernel_rfl)) rfl ?_
        exact ⟨tq12_3, (tq12_6 GE270.out)⟩
       ·rw [if_neg c9] at H
        exact absurd H (by simp)
      ·rw [if_neg c7] at H
       have c7b0 : decide ((a0.size : Int) < (wrap64 (x3_1 + 2))) = false := decide_eq_false c7
       clear c7
       have c11b0 := eq_true (of_decide_eq_true tq12_1 : 0 ≤ x3_1)
       by_cases c12 : x3_1 ≤ (a0.size : Int)
       ·rw [if_pos c12] at H
        have c12b0 := eq_true c12
        have c12b1 : decide (x3_1 ≤ (a0.size : Int)) = true := decide_eq_true c12
        clear c12
        obtain ⟨ji13, hji13⟩ : ∃ j_ : Int, (wrap64 (x3_1 + 2)) = j_ := ⟨_, rfl⟩
        replace H : (if 0 ≤ (ji13) then (if (ji13) ≤ (a0.size : Int) then (some (a0.extract 0 (x3_1 : Int).toNat, a0.extract ((ji13) : Int).toNat a0.size)) else (none)) else (none)) = some (r1, r2) := by first | (rw [hji13] at H; exact H) | (simp only [hji13] at H ⊢; exact H)
        (try rw [hji13] at c7b0)
        have hji13w : (IntKind.i64.wrap (x3_1 + 2)) = ji13 := (i64_w _).trans hji13
        by_cases c14 : 0 ≤ (ji13)
        ·rw [if_pos c14] at H
         have c14b0 := eq_true c14
         have c14b1 : decide (0 ≤ (ji13)) = true := decide_eq_true c14
         clear c14
         by_cases c15 : (ji13) ≤ (a0.size : Int)
         ·rw [if_pos c15] at H
          have c15b0 := eq_true c15
          have c15b1 : decide ((ji13) ≤ (a0.size : Int)) = true := decide_eq_true c15
          clear c15
          simp only [Option.some.injEq, Prod.mk.injEq] at H
          obtain ⟨rfl, rfl⟩ := H
          have p5 : 0 ≤ (x3_1 : Int) := of_decide_eq_true tq12_1
          have q5 : x3_1 < (a0.size : Int) := of_decide_eq_true tq12_1
          have hx5 := bt_at a0 x3_1
          replace p5 := eq_true p5
          replace q5 := eq_true q5
          try go_wp2
          have n0_ := Aq12 (blk_drew BK270.out)
          have n1_ := Aq12 (below_drew1 HB.out)
          clear BK270
          clear HB
          have BK270 := n0_
          have HB := n1_
          clear n0_ n1_
          refine start_ (n := 9) (S := fun w' => True) (ds := []) #[false, false, false, false, false, false, false, false, false] (by kernel_rfl) rfl rfl trivial (fun hHeld => ?_); refine with_tabW usherref8_field.tab7 usherref8_field.bits7 (fun HT_ HW_ => ?_)
          generalize wr.drew = w16 at BK270 HB hHeld ⊢
          refine pure_ (i := 0) (N := some 23) (v := ?_) (a' := ?_) #[true, false, false, false, false, false, false, false, false] rfl rfl (any_of HT_.out (by kernel_rfl)) (fun _ _ _ h => h) (Or.inl ⟨by rfl, ?_⟩) ?_ ?_
          rotate_left
          ·intro w'
           go_simp
           with_reducible rfl
          rotate_left
          ·simp only [Act.put, List.setIfInBounds_toArray, List.set_cons_zero, List.set_cons_succ, i64_w, i32_w]
           rfl
          refine pure_ (i := 1) (N := some 24) (v := ?_) (a' := ?_) #[true, true, false, false, false, false, false, false, false] rfl rfl (any_of HT_.out (by kernel_rfl)) (fun _ _ _ h => h) (Or.inl ⟨by rfl, ?_⟩) ?_ ?_
          rotate_left
          ·intro w'
           go_simp
           with_reducible rfl
          rotate_left
          ·simp only [Act.put, List.setIfInBounds_toArray, List.set_cons_zero, List.set_cons_succ, i64_w, i32_w]
           rfl
          refine pure_ (i := 2) (N := some 25) (v := ?_) (a' := ?_) #[true, true, true, false, false, false, false, false, false] rfl rfl (any_of HT_.out (by kernel_rfl)) (fun _ _ _ h => h) (Or.inl ⟨by rfl, ?_⟩) ?_ ?_
          rotate_left
          ·intro w'
           go_simp
           with_reducible rfl
          rotate_left
          ·simp only [Act.put, List.setIfInBounds_toArray, List.set_cons_zero, List.set_cons_succ, i64_w, i32_w]
           rfl
          refine pure_ (i := 3) (N := some 26) (v := ?_) (a' := ?_) #[true, true, true, true, false, false, false, false, false] rfl rfl (any_of HT_.out (by kernel_rfl)) (fun _ _ _ h => h) (Or.inl ⟨by rfl, ?_⟩) ?_ ?_
          rotate_left
          ·intro w'
           go_simp
           with_reducible rfl
          rotate_left
          ·simp only [Act.put, List.setIfInBounds_toArray, List.set_cons_zero, List.set_cons_succ, i64_w, i32_w]
           rfl
          refine pure_ (i := 4) (N := some 27) (v := ?_) (a' := ?_) #[true, true, true, true, true, false, false, false, false] rfl rfl (any_of HT_.out (by kernel_rfl)) (fun _ _ _ h => h) (Or.inl ⟨by rfl, ?_⟩) ?_ ?_
          rotate_left
          ·intro w'
           go_simp
           with_reducible rfl
          rotate_left
          ·simp only [Act.put, List.setIfInBounds_toArray, List.set_cons_zero, List.set_cons_succ, i64_w, i32_w]
           rfl
          refine pure_ (i := 5) (N := some 28) (v := ?_) (a' := ?_) #[true, true, true, true, true, true, false, false, false] rfl rfl (any_of HT_.out (by kernel_rfl)) (fun _ _ _ h => h) (Or.inl ⟨by rfl, ?_⟩) ?_ ?_
          rotate_left
          ·intro w'
           go_simp
           with_reducible rfl
          rotate_left
          ·simp only [Act.put, List.setIfInBounds_toArray, List.set_cons_zero, List.set_cons_succ, i64_w, i32_w]
           rfl
          refine pure_ (i := 6) (N := some 29) (v := ?_) (a' := ?_) #[true, true, true, true, true, true, true, false, false] rfl rfl (any_of HT_.out (by kernel_rfl)) (fun _ _ _ h => h) (Or.inl ⟨by rfl, ?_⟩) ?_ ?_
          rotate_left
          ·intro w'
           go_simp
           with_reducible rfl
          rotate_left
          ·simp only [Act.put, List.setIfInBounds_toArray, List.set_cons_zero, List.set_cons_succ, i64_w, i32_w]
           rfl
          refine pure_ (i := 7) (N := some 30) (v := ?_) (a' := ?_) #[true, true, true, true, true, true, true, true, false] rfl rfl (any_of HT_.out (by kernel_rfl)) (fun _ _ _ h => h) (Or.inl ⟨by rfl, ?_⟩) ?_ ?_
          rotate_left
          ·intro w'
           go_simp
           with_reducible rfl
          rotate_left
          ·simp only [Act.put, List.setIfInBounds_toArray, List.set_cons_zero, List.set_cons_succ, i64_w, i32_w]
           rfl
          refine one_ (i := 8) (N := none) #[true, true, true, true, true, true, true, true, true] rfl rfl (one_of HT_.out (by kernel_rfl)) (by decide) (fun K hK => ?_)
          have hs17 : w16.cell? ⟨gb270, 0, none⟩ = some (.string x271000_1) := (blk_cell BK270.out 0).trans rfl
          have hfs17 := blk_frozen BK270.out 0
          have hs18 : w16.cell? ⟨gb270, 1, none⟩ = some (.string x271001_1) := (blk_cell BK270.out 1).trans rfl
          have hfs18 := blk_frozen BK270.out 1
          refine skip_ (w1 := ?_) (by rfl) rfl ?_ ?_
          rotate_left
          ·go_simp
           rfl
          refine hK.out _ _ trivial (fun hHeld => ?_)
          clear hK K
          refine done_ (done_of HT_.out (by kernel_rfl)) ?_
          try go_wp2
          refine bodyPost_ret (results_cell_row rfl _ _ gb270 26 #[.string (a0.extract 0 (x3_1 : Int).toNat), .string (a0.extract ((ji13) : Int).toNat a0.size)] (0, 0) _ rfl (tq12_7 BK270.out) Tryd.underlying26 rfl (by kernel_rfl)) rfl ?_
          exact ⟨by first | rfl | (simp [errW_none, errW_some] <;> rfl) | (simp only [← hji13]; first | rfl | (simp [errW_none, errW_some] <;> rfl)) | (simp [*, errW_none, errW_some] <;> rfl), (tq12_6 GE270.out)⟩
         ·rw [if_neg c15] at H
          exact absurd H (by simp)
        ·rw [if_neg c14] at H
         exact absurd H (by simp)
       ·rw [if_neg c12] at H
        exact absurd H (by simp)
     ·rw [if_neg c6] at H
      have c6b0 : ((bt a0 x3_1) == 58) = false := beq_eq_false_iff_ne.mpr c6
      have c6b1 : ((bt a0 x3_1) != 58) = true := bne_iff_ne.mpr c6
      have H' := Aq12 H
      clear H
      have p5 : 0 ≤ (x3_1 : Int) := of_decide_eq_true tq12_1
      have q5 : x3_1 < (a0.size : Int) := of_decide_eq_true tq12_1
      have hx5 := bt_at a0 x3_1
      replace p5 := eq_true p5
      replace q5 := eq_true q5
      go_wp2
      go_roundg k1
      case measure => have := HK1.out; omega
      case rel => exact ⟨(wrap64 (x3_1 + 1)), (x271000_1), (x271001_1), tq12_0, H', ⟨by have := HK1.out; omega⟩, ⟨(tq12_4 BK270.out)⟩, ⟨(tq12_6 GE270.out)⟩⟩
    ·rw [if_neg c4] at H
     exact absurd H (by simp)
   ·rw [if_neg c3] at H
    have c3b0 : decide (x3_1 < (a0.size : Int)) = false := decide_eq_false c3
    clear c3
    simp only [Option.some.injEq, Prod.mk.injEq] at H
    obtain ⟨rfl, rfl⟩ := H
    have hcz19_0 : wr.cell? ⟨gb270, 0, none⟩ = some (.string x271000_1) := (blk_cell BK270.out 0).trans rfl
    have hcz19_1 : wr.cell? ⟨gb270, 1, none⟩ = some (.string x271001_1) := (blk_cell BK270.out 1).trans rfl
    have hfz19_0 := blk_frozen BK270.out 0
    have hfz19_1 := blk_frozen BK270.out 1
    go_wp2
    refine bodyPost_ret (results_cell_row rfl _ _ gb270 26 #[.string a0, .string (⟨#[]⟩ : ByteArray)] (0, 0) _ rfl (by (with_reducible repeat (first | refine blk_drewN ?_ _ | refine blk_drew ?_ | refine blk_alloc ?_ _)); refine blk_put (cs := #[.string a0, .string x271001_1]) ?_ 1 _ rfl; (with_reducible repeat (first | refine blk_drewN ?_ _ | refine blk_drew ?_ | refine blk_alloc ?_ _)); refine blk_put (cs := #[.string x271000_1, .string x271001_1]) ?_ 0 _ rfl; (with_reducible repeat (first | refine blk_drewN ?_ _ | refine blk_drew ?_ | refine blk_alloc ?_ _)); exact BK270.out) Tryd.underlying26 rfl (by kernel_rfl)) rfl ?_
    exact ⟨tq12_3, (tq12_6 GE270.out)⟩

end Go.Proofs.YtdlfdmbaejhaaaaDoor.Q
