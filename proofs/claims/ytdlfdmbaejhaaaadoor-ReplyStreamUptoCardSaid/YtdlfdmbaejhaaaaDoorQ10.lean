/- The plain Lean functions that calls of the program answer, and proofs that they do. Printed by program out of the translation; Lean checks it. -/
import Derived.Test.YtdlfdmbaejhaaaaDoorQ0
namespace Go.Proofs.YtdlfdmbaejhaaaaDoor.Q
open Go.RowKit Go.Proofs.YtdlfdmbaejhaaaaDoorW.PrintWords Go.Proofs.YtdlfdmbaejhaaaaDoorW.PrintLast Go.Proofs.YtdlfdmbaejhaaaaDoorW.PrintMore
attribute [local go_sem] max2_int min2_int max_two min_two max_three min_three max_four min_four   -- for this text's walks alone
set_option linter.unusedVariables false
set_option linter.unusedSimpArgs false

theorem Aq10 {p : Prop} (h : p) : Aside0 p := ⟨h⟩
theorem tq10_0 {P : Prop} (h : P := by first | rfl | (simp; done) | (simp [*]; done)) : P := h
theorem tq10_1 {P : Prop} (h : P := by first | (with_reducible assumption) | assumption) : P := h
theorem tq10_2 {P : Prop} (h : P := by first | exact H' | (simp only [hji27]; exact H') | (simp only [hji27] at *; exact H')) : P := h
theorem tq10_3 {P : Prop} (h : P := by first | rfl | (simp; done) | (simp only [← hji27] <;> (first | rfl | simp)) | (simp [*]; done)) : P := h
theorem tq10_4 {P Q0 : Prop} (y0 : Q0) (h : Q0 → P := by intro y0_; (with_reducible repeat (first | apply Kd.R_alloc | apply Kd.R_drewN | apply Kd.R_drew)); exact y0_) : P := h y0
theorem tq10_5 {P : Prop} (h : P := by repeat (first | (with_reducible first | exact HB.out | apply below_alloc | apply pw_below_drewN | apply below_drew1) | exact HB.out)) : P := h
theorem tq10_6 {P Q0 : Prop} (y0 : Q0) (h : Q0 → P := by intro y0_; repeat (first | (with_reducible exact y0_) | (with_reducible refine Kd.C_alloc ?_ _) | (with_reducible refine Kd.C_drewN ?_ _) | (with_reducible refine Kd.C_drew ?_) | exact y0_)) : P := h y0
/-! ### usherlaw8_valueOf: function 59 -/
mutual
def usherlaw8_valueOf.l0 : Nat → ByteArray → List Int → Int → Option (ByteArray)
 | 0, _, _, _ => none
 | k + 1, x0, x3, x4 => if x4 < (x0.size : Int) then (if 0 ≤ x4 then (if (bt x0 x4) = 9 then (if x3.length < 140737488355328 then (usherlaw8_valueOf.l0 k x0 (x3 ++ [bt x0 x4]) (wrap64 (x4 + 1))) else (none)) else (if (bt x0 x4) ≥ 32 then (if (bt x0 x4) = 127 then (usherlaw8_valueOf.l0 k x0 x3 (wrap64 (x4 + 1))) else (if x3.length < 140737488355328 then (usherlaw8_valueOf.l0 k x0 (x3 ++ [bt x0 x4]) (wrap64 (x4 + 1))) else (none))) else (usherlaw8_valueOf.l0 k x0 x3 (wrap64 (x4 + 1))))) else (none)) else (usherlaw8_valueOf.l1 k x3 0)
def usherlaw8_valueOf.j2 : Nat → List Int → Int → Option (ByteArray)
 | 0, _, _ => none
 | k + 1, x3, x5 => usherlaw8_valueOf.l2 k x3 x5 (x3.length : Int)
def usherlaw8_valueOf.l2 : Nat → List Int → Int → Int → Option (ByteArray)
 | 0, _, _, _ => none
 | k + 1, x3, x5, x6 => if x6 > x5 then (if 0 ≤ (wrap64 (x6 - 1)) then (if (wrap64 (x6 - 1)) < (x3.length : Int) then (if (rd x3 (wrap64 (x6 - 1))) = 32 then (usherlaw8_valueOf.l2 k x3 x5 (wrap64 (x6 - 1))) else (if (rd x3 (wrap64 (x6 - 1))) = 9 then (usherlaw8_valueOf.l2 k x3 x5 (wrap64 (x6 - 1))) else (if 0 ≤ x5 then (if x5 ≤ x6 then (if x6 ≤ (x3.length : Int) then (some (strOfNums ((x3.take (x6 : Int).toNat).drop (x5 : Int).toNat))) else (none)) else (none)) else (none)))) else (none)) else (none)) else (if 0 ≤ x5 then (if x5 ≤ x6 then (if x6 ≤ (x3.length : Int) then (some (strOfNums ((x3.take (x6 : Int).toNat).drop (x5 : Int).toNat))) else (none)) else (none)) else (none))
def usherlaw8_valueOf.l1 : Nat → List Int → Int → Option (ByteArray)
 | 0, _, _ => none
 | k + 1, x3, x5 => if x5 < (x3.length : Int) then (if 0 ≤ x5 then (if (rd x3 x5) = 32 then (usherlaw8_valueOf.l1 k x3 (wrap64 (x5 + 1))) else (if (rd x3 x5) = 9 then (usherlaw8_valueOf.l1 k x3 (wrap64 (x5 + 1))) else (usherlaw8_valueOf.j2 k x3 x5))) else (none)) else (usherlaw8_valueOf.j2 k x3 x5)
end
def usherlaw8_valueOf.f (k : Nat) (a0 : ByteArray) : Option (ByteArray) := usherlaw8_valueOf.l0 k a0 ([] : List Int) 0
theorem usherlaw8_valueOf.mono_l : ∀ k, (∀ y0 y1 y2, LeO (usherlaw8_valueOf.l0 k y0 y1 y2) (usherlaw8_valueOf.l0 (k + 1) y0 y1 y2)) ∧ (∀ y0 y1, LeO (usherlaw8_valueOf.j2 k y0 y1) (usherlaw8_valueOf.j2 (k + 1) y0 y1)) ∧ (∀ y0 y1 y2, LeO (usherlaw8_valueOf.l2 k y0 y1 y2) (usherlaw8_valueOf.l2 (k + 1) y0 y1 y2)) ∧ (∀ y0 y1, LeO (usherlaw8_valueOf.l1 k y0 y1) (usherlaw8_valueOf.l1 (k + 1) y0 y1))
 | 0 => ⟨fun _ _ _ r h => by simp [usherlaw8_valueOf.l0] at h, fun _ _ r h => by simp [usherlaw8_valueOf.j2] at h, fun _ _ _ r h => by simp [usherlaw8_valueOf.l2] at h, fun _ _ r h => by simp [usherlaw8_valueOf.l1] at h⟩
 | k + 1 => by
  obtain ⟨ih0, ih1, ih2, ih3⟩ := usherlaw8_valueOf.mono_l k
  refine ⟨?_, ?_, ?_, ?_⟩
  ·intro y0 y1 y2
   unfold usherlaw8_valueOf.l0
   repeat' first
   | (with_reducible exact ih0 _ _ _)
   | (with_reducible exact ih1 _ _)
   | (with_reducible exact ih2 _ _ _)
   | (with_reducible exact ih3 _ _)
   | (with_reducible exact LeO.refl _)
   | (with_reducible exact LeO.none _)
   | (with_reducible refine LeO.ite ?_ ?_)
   | (with_reducible refine LeO.bind ?_ (fun _ => ?_))
   | exact ih0 _ _ _
   | exact ih1 _ _
   | exact ih2 _ _ _
   | exact ih3 _ _
   | exact LeO.none _
   | refine LeO.ite ?_ ?_
   | refine LeO.bind ?_ (fun _ => ?_)
  ·intro y0 y1
   unfold usherlaw8_valueOf.j2
   repeat' first
   | (with_reducible exact ih0 _ _ _)
   | (with_reducible exact ih1 _ _)
   | (with_reducible exact ih2 _ _ _)
   | (with_reducible exact ih3 _ _)
   | (with_reducible exact LeO.refl _)
   | (with_reducible exact LeO.none _)
   | (with_reducible refine LeO.ite ?_ ?_)
   | (with_reducible refine LeO.bind ?_ (fun _ => ?_))
   | exact ih0 _ _ _
   | exact ih1 _ _
   | exact ih2 _ _ _
   | exact ih3 _ _
   | exact LeO.none _
   | refine LeO.ite ?_ ?_
   | refine LeO.bind ?_ (fun _ => ?_)
  ·intro y0 y1 y2
   unfold usherlaw8_valueOf.l2
   repeat' first
   | (with_reducible exact ih0 _ _ _)
   | (with_reducible exact ih1 _ _)
   | (with_reducible exact ih2 _ _ _)
   | (with_reducible exact ih3 _ _)
   | (with_reducible exact LeO.refl _)
   | (with_reducible exact LeO.none _)
   | (with_reducible refine LeO.ite ?_ ?_)
   | (with_reducible refine LeO.bind ?_ (fun _ => ?_))
   | exact ih0 _ _ _
   | exact ih1 _ _
   | exact ih2 _ _ _
   | exact ih3 _ _
   | exact LeO.none _
   | refine LeO.ite ?_ ?_
   | refine LeO.bind ?_ (fun _ => ?_)
  ·intro y0 y1
   unfold usherlaw8_valueOf.l1
   repeat' first
   | (with_reducible exact ih0 _ _ _)
   | (with_reducible exact ih1 _ _)
   | (with_reducible exact ih2 _ _ _)
   | (with_reducible exact ih3 _ _)
   | (with_reducible exact LeO.refl _)
   | (with_reducible exact LeO.none _)
   | (with_reducible refine LeO.ite ?_ ?_)
   | (with_reducible refine LeO.bind ?_ (fun _ => ?_))
   | exact ih0 _ _ _
   | exact ih1 _ _
   | exact ih2 _ _ _
   | exact ih3 _ _
   | exact LeO.none _
   | refine LeO.ite ?_ ?_
   | refine LeO.bind ?_ (fun _ => ?_)
theorem usherlaw8_valueOf.mono : ∀ a0 k, LeO (usherlaw8_valueOf.f k a0) (usherlaw8_valueOf.f (k + 1) a0) := by
 intro a0 k
 obtain ⟨ih0, ih1, ih2, ih3⟩ := usherlaw8_valueOf.mono_l k
 unfold usherlaw8_valueOf.f
 repeat' first
   | (with_reducible exact ih0 _ _ _)
   | (with_reducible exact ih1 _ _)
   | (with_reducible exact ih2 _ _ _)
   | (with_reducible exact ih3 _ _)
   | (with_reducible exact LeO.refl _)
   | (with_reducible exact LeO.none _)
   | (with_reducible refine LeO.ite ?_ ?_)
   | (with_reducible refine LeO.bind ?_ (fun _ => ?_))
   | exact ih0 _ _ _
   | exact ih1 _ _
   | exact ih2 _ _ _
   | exact ih3 _ _
   | exact LeO.none _
   | refine LeO.ite ?_ ?_
   | refine LeO.bind ?_ (fun _ => ?_)
set_option maxHeartbeats 8000000 in
set_option maxRecDepth 100000 in
theorem usherlaw8_valueOf.calls (k : Nat) (a0 : ByteArray) (r : ByteArray) (w : World) (h : usherlaw8_valueOf.f k a0 = some r) :
  Calls Tryd.prog 59 #[.string a0] w fun e w' => e = .returned (.string r) ∧ Below w.heap.size w w' := by
 have HB := Aq10 (Below.refl w.heap.size w)
 have H : (usherlaw8_valueOf.l0 k a0 ([] : List Int) 0) = some r := h
 clear h
 have H' := Aq10 H
 clear H
 go_enter Tryd.func59, Tryd.ntmps59
 go_wp2
 go_loopg [3, 4] k (fun kq v3 v4 w' => ∃ (x3_1 : List Int) (x4_1 : Int), v4 = .int .i64 x4_1 ∧ Aside0 (usherlaw8_valueOf.l0 kq a0 x3_1 x4_1 = some r) ∧ Aside0 (kq ≤ k) ∧ Aside0 (Kd.R (Kd.int .u8) 5 w' w.heap.size (fun _ => True) v3 x3_1) ∧ Aside0 (Below w.heap.size w w'))
 case atStart => exact ⟨(([] : List Int)), (0), tq10_0, H', ⟨Nat.le_refl _⟩, ⟨by first | exact Kd.R_nil _ _ _ _ _ | exact Kd.N_nil _ _ _ _ _ | exact Kd.V_nil _ _ _ _ _ | exact Kd.Q_nil _ _ _ _ _ | exact Kd.S_nil _ _ _ _ _⟩, ⟨tq10_5⟩⟩
 case round =>
  clear H'
  obtain ⟨x3_1, x4_1, rfl, HA, HK1, HO_3, HB⟩ := hrel
  cases gk with
  | zero => exact absurd HA.out (by simp [usherlaw8_valueOf.l0])
  | succ k1 =>
   have H := HA.out
   clear HA
   simp only [usherlaw8_valueOf.l0] at H
   by_cases c2 : x4_1 < (a0.size : Int)
   ·rw [if_pos c2] at H
    have c2b0 : decide (x4_1 < (a0.size : Int)) = true := decide_eq_true c2
    clear c2
    by_cases c3 : 0 ≤ x4_1
    ·rw [if_pos c3] at H
     have c3b0 : decide (0 ≤ x4_1) = true := decide_eq_true c3
     clear c3
     by_cases c5 : (bt a0 x4_1) = 9
     ·rw [if_pos c5] at H
      have c5b0 : ((bt a0 x4_1) == 9) = true := beq_iff_eq.mpr c5
      have c5b1 : ((bt a0 x4_1) != 9) = false := bne_eq_false_iff_eq.mpr c5
      clear c5
      by_cases c7 : x3_1.length < 140737488355328
      ·rw [if_pos c7] at H
       have LMc7 := Aq10 c7
       clear c7
       obtain ⟨y247, hy247⟩ : ∃ y_ : List Int, y_ = (x3_1 ++ [bt a0 x4_1]) := ⟨_, rfl⟩
       replace H : (usherlaw8_valueOf.l0 k1 a0 y247 (wrap64 (x4_1 + 1))) = some r := by first | (rw [hy247]; with_reducible exact H) | (have H2_ := (Option.bind_some _ _).symm.trans H; rw [hy247]; with_reducible exact H2_) | (have H2_ := (Option.bind_some _ _).symm.trans H; with_reducible exact H2_) | with_reducible exact H | (rw [hy247]; exact H) | exact H
       have Ny247 := Aq10 hy247
       clear hy247
       have H' := Aq10 H
       clear H
       have p4 : 0 ≤ (x4_1 : Int) := of_decide_eq_true tq10_1
       have q4 : x4_1 < (a0.size : Int) := of_decide_eq_true tq10_1
       have hx4 := bt_at a0 x4_1
       replace p4 := eq_true p4
       replace q4 := eq_true q4
       have p6 : 0 ≤ (x4_1 : Int) := of_decide_eq_true tq10_1
       have q6 : x4_1 < (a0.size : Int) := of_decide_eq_true tq10_1
       have hx6 := bt_at a0 x4_1
       replace p6 := eq_true p6
       replace q6 := eq_true q6
       go_wp2_with (first | ((with_reducible refine gate_builtin (b := .append) (xs := #[.tmp 29, .tmp 33]) rfl ?_); at_builtin; refine Kd.R_append (Kd.int .u8) (w0 := w) w.heap.size rfl (.tmp 29) (.tmp 33) 61 5 (.int .u8 0) 1 rfl Tryd.underlying61 info5 rfl (by decide) (by omega) u3 x3_1 (bt a0 x4_1) [.int .u8 (bt a0 x4_1)] (fun _ => True) (fun _ => False) rfl rfl ?aP (fun _ hk => hk.elim) ?aF ?aO ?aB ?aS ?aL ?_; (case aP => exact rfl); (case aB => exact tq10_5); (case aF => exact (fun _ _ => trivial)); (case aO => exact (tq10_4 HO_3.out)); (case aS => exact (below_size tq10_5)); (case aL => have := LMc7.out; omega); intro v248 w8 ho hb hg hat; rw [← Ny247.out] at ho; have n0_ := Aq10 (hb); have n1_ := Aq10 (ho); clear HB; clear HO_3; have HB := n0_; have HO249 := n1_; clear n0_ n1_; clear ho hb hg hat))
       go_roundg k1
       case measure => have := HK1.out; omega
       case rel => exact ⟨(y247), (wrap64 (x4_1 + 1)), tq10_0, H', ⟨by have := HK1.out; omega⟩, ⟨(tq10_4 HO249.out)⟩, ⟨tq10_5⟩⟩
      ·rw [if_neg c7] at H
       exact absurd H (by simp)
     ·rw [if_neg c5] at H
      have c5b0 : ((bt a0 x4_1) == 9) = false := beq_eq_false_iff_ne.mpr c5
      have c5b1 : ((bt a0 x4_1) != 9) = true := bne_iff_ne.mpr c5
      by_cases c10 : (bt a0 x4_1) ≥ 32
      ·rw [if_pos c10] at H
       have c10b0 : decide (32 ≤ (bt a0 x4_1)) = true := decide_eq_true c10
       clear c10
       by_cases c12 : (bt a0 x4_1) = 127
       ·rw [if_pos c12] at H
        have c12b0 : ((bt a0 x4_1) == 127) = true := beq_iff_eq.mpr c12
        have c12b1 : ((bt a0 x4_1) != 127) = false := bne_eq_false_iff_eq.mpr c12
        clear c12
        have H' := Aq10 H
        clear H
        have p4 : 0 ≤ (x4_1 : Int) := of_decide_eq_true tq10_1
        have q4 : x4_1 < (a0.size : Int) := of_decide_eq_true tq10_1
        have hx4 := bt_at a0 x4_1
        replace p4 := eq_true p4
        replace q4 := eq_true q4
        have p9 : 0 ≤ (x4_1 : Int) := of_decide_eq_true tq10_1
        have q9 : x4_1 < (a0.size : Int) := of_decide_eq_true tq10_1
        have hx9 := bt_at a0 x4_1
        replace p9 := eq_true p9
        replace q9 := eq_true q9
        have p11 : 0 ≤ (x4_1 : Int) := of_decide_eq_true tq10_1
        have q11 : x4_1 < (a0.size : Int) := of_decide_eq_true tq10_1
        have hx11 := bt_at a0 x4_1
        replace p11 := eq_true p11
        replace q11 := eq_true q11
        go_wp2
        go_roundg k1
        case measure => have := HK1.out; omega
        case rel => exact ⟨(x3_1), (wrap64 (x4_1 + 1)), tq10_0, H', ⟨by have := HK1.out; omega⟩, ⟨(tq10_4 HO_3.out)⟩, ⟨tq10_5⟩⟩
       ·rw [if_neg c12] at H
        have c12b0 : ((bt a0 x4_1) == 127) = false := beq_eq_false_iff_ne.mpr c12
        have c12b1 : ((bt a0 x4_1) != 127) = true := bne_iff_ne.mpr c12
        by_cases c14 : x3_1.length < 140737488355328
        ·rw [if_pos c14] at H
         have LMc14 := Aq10 c14
         clear c14
         obtain ⟨y250, hy250⟩ : ∃ y_ : List Int, y_ = (x3_1 ++ [bt a0 x4_1]) := ⟨_, rfl⟩
         replace H : (usherlaw8_valueOf.l0 k1 a0 y250 (wrap64 (x4_1 + 1))) = some r := by first | (rw [hy250]; with_reducible exact H) | (have H2_ := (Option.bind_some _ _).symm.trans H; rw [hy250]; with_reducible exact H2_) | (have H2_ := (Option.bind_some _ _).symm.trans H; with_reducible exact H2_) | with_reducible exact H | (rw [hy250]; exact H) | exact H
         have Ny250 := Aq10 hy250
         clear hy250
         have H' := Aq10 H
         clear H
         have p4 : 0 ≤ (x4_1 : Int) := of_decide_eq_true tq10_1
         have q4 : x4_1 < (a0.size : Int) := of_decide_eq_true tq10_1
         have hx4 := bt_at a0 x4_1
         replace p4 := eq_true p4
         replace q4 := eq_true q4
         have p9 : 0 ≤ (x4_1 : Int) := of_decide_eq_true tq10_1
         have q9 : x4_1 < (a0.size : Int) := of_decide_eq_true tq10_1
         have hx9 := bt_at a0 x4_1
         replace p9 := eq_true p9
         replace q9 := eq_true q9
         have p11 : 0 ≤ (x4_1 : Int) := of_decide_eq_true tq10_1
         have q11 : x4_1 < (a0.size : Int) := of_decide_eq_true tq10_1
         have hx11 := bt_at a0 x4_1
         replace p11 := eq_true p11
         replace q11 := eq_true q11
         have p13 : 0 ≤ (x4_1 : Int) := of_decide_eq_true tq10_1
         have q13 : x4_1 < (a0.size : Int) := of_decide_eq_true tq10_1
         have hx13 := bt_at a0 x4_1
         replace p13 := eq_true p13
         replace q13 := eq_true q13
         go_wp2_with (first | ((with_reducible refine gate_builtin (b := .append) (xs := #[.tmp 29, .tmp 33]) rfl ?_); at_builtin; refine Kd.R_append (Kd.int .u8) (w0 := w) w.heap.size rfl (.tmp 29) (.tmp 33) 61 5 (.int .u8 0) 1 rfl Tryd.underlying61 info5 rfl (by decide) (by omega) u3 x3_1 (bt a0 x4_1) [.int .u8 (bt a0 x4_1)] (fun _ => True) (fun _ => False) rfl rfl ?aP (fun _ hk => hk.elim) ?aF ?aO ?aB ?aS ?aL ?_; (case aP => exact rfl); (case aB => exact tq10_5); (case aF => exact (fun _ _ => trivial)); (case aO => exact (tq10_4 HO_3.out)); (case aS => exact (below_size tq10_5)); (case aL => have := LMc14.out; omega); intro v251 w15 ho hb hg hat; rw [← Ny250.out] at ho; have n0_ := Aq10 (hb); have n1_ := Aq10 (ho); clear HB; clear HO_3; have HB := n0_; have HO252 := n1_; clear n0_ n1_; clear ho hb hg hat))
         go_roundg k1
         case measure => have := HK1.out; omega
         case rel => exact ⟨(y250), (wrap64 (x4_1 + 1)), tq10_0, H', ⟨by have := HK1.out; omega⟩, ⟨(tq10_4 HO252.out)⟩, ⟨tq10_5⟩⟩
        ·rw [if_neg c14] at H
         exact absurd H (by simp)
      ·rw [if_neg c10] at H
       have c10b0 : decide (32 ≤ (bt a0 x4_1)) = false := decide_eq_false c10
       clear c10
       have H' := Aq10 H
       clear H
       have p4 : 0 ≤ (x4_1 : Int) := of_decide_eq_true tq10_1
       have q4 : x4_1 < (a0.size : Int) := of_decide_eq_true tq10_1
       have hx4 := bt_at a0 x4_1
       replace p4 := eq_true p4
       replace q4 := eq_true q4
       have p9 : 0 ≤ (x4_1 : Int) := of_decide_eq_true tq10_1
       have q9 : x4_1 < (a0.size : Int) := of_decide_eq_true tq10_1
       have hx9 := bt_at a0 x4_1
       replace p9 := eq_true p9
       replace q9 := eq_true q9
       go_wp2
       go_roundg k1
       case measure => have := HK1.out; omega
       case rel => exact ⟨(x3_1), (wrap64 (x4_1 + 1)), tq10_0, H', ⟨by have := HK1.out; omega⟩, ⟨(tq10_4 HO_3.out)⟩, ⟨tq10_5⟩⟩
    ·rw [if_neg c3] at H
     exact absurd H (by simp)
   ·rw [if_neg c2] at H
    have c2b0 : decide (x4_1 < (a0.size : Int)) = false := decide_eq_false c2
    clear c2
    have HC16 := Aq10 H
    clear H
    go_upto_block 2 with (fail)
    go_cut [5] (fun v5 wc => ∃ (kq : Nat) (x5_15 : Int), v5 = .int .i64 x5_15 ∧ Aside0 (usherlaw8_valueOf.j2 kq x3_1 x5_15 = some r) ∧ Aside0 (kq ≤ k1) ∧ Aside0 (Kd.R (Kd.int .u8) 5 wc w.heap.size (fun _ => True) u3 x3_1) ∧ Aside0 (Below w.heap.size w wc))
    case first =>
     have H := HC16.out
     clear HC16
     have H' := Aq10 H
     clear H
     go_wp2
     go_loopg [5] k1 (fun kq v5 w' => ∃ (x5_2 : Int), v5 = .int .i64 x5_2 ∧ Aside0 (usherlaw8_valueOf.l1 kq x3_1 x5_2 = some r) ∧ Aside0 (kq ≤ k1) ∧ Aside0 (Kd.R (Kd.int .u8) 5 w' w.heap.size (fun _ => True) u3 x3_1) ∧ Aside0 (Below w.heap.size w w'))
     case atStart => exact ⟨(0), tq10_0, H', ⟨Nat.le_refl _⟩, ⟨(tq10_4 HO_3.out)⟩, ⟨tq10_5⟩⟩
     case round =>
      clear H'
      try clear c1
      try clear p1
      try clear q1
      try clear hx1
      try clear c2
      try clear c2b0
      try clear p2
      try clear c3
      try clear c3b0
      try clear p4
      try clear q4
      try clear hx4
      try clear c5
      try clear c5b0
      try clear c5b1
      try clear p6
      try clear q6
      try clear hx6
      try clear c7
      try clear p9
      try clear q9
      try clear hx9
      try clear c10
      try clear c10b0
      try clear p11
      try clear q11
      try clear hx11
      try clear c12
      try clear c12b0
      try clear c12b1
      try clear p13
      try clear q13
      try clear hx13
      try clear c14
      try clear p11
      try clear p13
      try clear p4
      try clear p6
      try clear p9
      try clear q11
      try clear q13
      try clear q4
      try clear q6
      try clear q9
      obtain ⟨x5_2, rfl, HA, HK2, HO_3, HB⟩ := hrel
      cases gk with
      | zero => exact absurd HA.out (by simp [usherlaw8_valueOf.l1])
      | succ k2 =>
       have H := HA.out
       clear HA
       simp only [usherlaw8_valueOf.l1] at H
       by_cases c17 : x5_2 < (x3_1.length : Int)
       ·rw [if_pos c17] at H
        have c17b0 : decide (x5_2 < (x3_1.length : Int)) = true := decide_eq_true c17
        clear c17
        (first | rw [c17b0] | (simp only [i64_w, i32_w]; rw [c17b0]) | skip)
        by_cases c18 : 0 ≤ x5_2
        ·rw [if_pos c18] at H
         have c18b0 : decide (0 ≤ x5_2) = true := decide_eq_true c18
         clear c18
         by_cases c19 : (rd x3_1 x5_2) = 32
         ·rw [if_pos c19] at H
          have c19b0 : ((rd x3_1 x5_2) == 32) = true := beq_iff_eq.mpr c19
          have c19b1 : ((rd x3_1 x5_2) != 32) = false := bne_eq_false_iff_eq.mpr c19
          clear c19
          have H' := Aq10 H
          clear H
          obtain ⟨Ao20, co20, eo20⟩ := Kd.R_slice HO_3.out
          subst eo20
          have p253 : 0 ≤ (x5_2 : Int) := of_decide_eq_true tq10_1
          have q253 : x5_2 < (x3_1.length : Int) := of_decide_eq_true tq10_1
          obtain ⟨ad253, e253, hx253_0⟩ := Kd.at_int (Kd.R_reads' HO_3.out).2.2 x5_2 p253 q253
          cases e253
          replace p253 := eq_true p253
          replace q253 := eq_true q253
          go_wp2
          go_roundg k2
          case measure => have := HK1.out; have := HK2.out; omega
          case rel => exact ⟨(wrap64 (x5_2 + 1)), tq10_0, H', ⟨by have := HK1.out; have := HK2.out; omega⟩, ⟨(tq10_4 HO_3.out)⟩, ⟨tq10_5⟩⟩
         ·rw [if_neg c19] at H
          have c19b0 : ((rd x3_1 x5_2) == 32) = false := beq_eq_false_iff_ne.mpr c19
          have c19b1 : ((rd x3_1 x5_2) != 32) = true := bne_iff_ne.mpr c19
          by_cases c21 : (rd x3_1 x5_2) = 9
          ·rw [if_pos c21] at H
           have c21b0 : ((rd x3_1 x5_2) == 9) = true := beq_iff_eq.mpr c21
           have c21b1 : ((rd x3_1 x5_2) != 9) = false := bne_eq_false_iff_eq.mpr c21
           clear c21
           have H' := Aq10 H
           clear H
           obtain ⟨Ao22, co22, eo22⟩ := Kd.R_slice HO_3.out
           subst eo22
           have p253 : 0 ≤ (x5_2 : Int) := of_decide_eq_true tq10_1
           have q253 : x5_2 < (x3_1.length : Int) := of_decide_eq_true tq10_1
           obtain ⟨ad253, e253, hx253_0⟩ := Kd.at_int (Kd.R_reads' HO_3.out).2.2 x5_2 p253 q253
           cases e253
           replace p253 := eq_true p253
           replace q253 := eq_true q253
           have p254 : 0 ≤ (x5_2 : Int) := of_decide_eq_true tq10_1
           have q254 : x5_2 < (x3_1.length : Int) := of_decide_eq_true tq10_1
           obtain ⟨ad254, e254, hx254_0⟩ := Kd.at_int (Kd.R_reads' HO_3.out).2.2 x5_2 p254 q254
           obtain rfl : ad253 = ad254 := (by injection e254)
           replace p254 := eq_true p254
           replace q254 := eq_true q254
           go_wp2
           go_roundg k2
           case measure => have := HK1.out; have := HK2.out; omega
           case rel => exact ⟨(wrap64 (x5_2 + 1)), tq10_0, H', ⟨by have := HK1.out; have := HK2.out; omega⟩, ⟨(tq10_4 HO_3.out)⟩, ⟨tq10_5⟩⟩
          ·rw [if_neg c21] at H
           have c21b0 : ((rd x3_1 x5_2) == 9) = false := beq_eq_false_iff_ne.mpr c21
           have c21b1 : ((rd x3_1 x5_2) != 9) = true := bne_iff_ne.mpr c21
           have H' := Aq10 H
           clear H
           obtain ⟨Ao23, co23, eo23⟩ := Kd.R_slice HO_3.out
           subst eo23
           have p253 : 0 ≤ (x5_2 : Int) := of_decide_eq_true tq10_1
           have q253 : x5_2 < (x3_1.length : Int) := of_decide_eq_true tq10_1
           obtain ⟨ad253, e253, hx253_0⟩ := Kd.at_int (Kd.R_reads' HO_3.out).2.2 x5_2 p253 q253
           cases e253
           replace p253 := eq_true p253
           replace q253 := eq_true q253
           have p254 : 0 ≤ (x5_2 : Int) := of_decide_eq_true tq10_1
           have q254 : x5_2 < (x3_1.length : Int) := of_decide_eq_true tq10_1
           obtain ⟨ad254, e254, hx254_0⟩ := Kd.at_int (Kd.R_reads' HO_3.out).2.2 x5_2 p254 q254
           obtain rfl : ad253 = ad254 := (by injection e254)
           replace p254 := eq_true p254
           replace q254 := eq_true q254
           go_wp2
           go_meet
           case rel => exact ⟨_, (x5_2), tq10_0, H', ⟨by have := HK1.out; have := HK2.out; first | omega | exact Nat.le_refl _⟩, ⟨(tq10_4 HO_3.out)⟩, ⟨tq10_5⟩⟩
        ·rw [if_neg c18] at H
         exact absurd H (by simp)
       ·rw [if_neg c17] at H
        have c17b0 : decide (x5_2 < (x3_1.length : Int)) = false := decide_eq_false c17
        clear c17
        (first | rw [c17b0] | (simp only [i64_w, i32_w]; rw [c17b0]) | skip)
        have H' := Aq10 H
        clear H
        obtain ⟨Ao24, co24, eo24⟩ := Kd.R_slice HO_3.out
        subst eo24
        go_wp2
        go_meet
        case rel => exact ⟨_, (x5_2), tq10_0, H', ⟨by have := HK1.out; have := HK2.out; first | omega | exact Nat.le_refl _⟩, ⟨(tq10_4 HO_3.out)⟩, ⟨tq10_5⟩⟩
    case rest =>
     clear HC16
     try clear c1
     try clear p1
     try clear q1
     try clear hx1
     try clear c2
     try clear c2b0
     try clear p2
     try clear q2
     try clear hx2
     try clear c3
     try clear c3b0
     try clear p4
     try clear q4
     try clear hx4
     try clear c5
     try clear c5b0
     try clear c5b1
     try clear p6
     try clear q6
     try clear hx6
     try clear c7
     try clear p9
     try clear q9
     try clear hx9
     try clear c10
     try clear c10b0
     try clear p11
     try clear q11
     try clear hx11
     try clear c12
     try clear c12b0
     try clear c12b1
     try clear p13
     try clear q13
     try clear hx13
     try clear c14
     try clear c17
     try clear c17b0
     try clear c18
     try clear c18b0
     try clear c19
     try clear c19b0
     try clear c19b1
     try clear c21
     try clear c21b0
     try clear c21b1
     try clear hx253_0
     try clear hx254_0
     try clear p1
     try clear p11
     try clear p13
     try clear p2
     try clear p253
     try clear p254
     try clear p4
     try clear p6
     try clear p9
     try clear q1
     try clear q11
     try clear q13
     try clear q253
     try clear q254
     try clear q4
     try clear q6
     try clear q9
     obtain ⟨kq, x5_15, rfl, HA, HJ15, HO_3, HB⟩ := hcut
     cases kq with
     | zero => exact absurd HA.out (by simp [usherlaw8_valueOf.j2])
     | succ kj15 =>
      have H := HA.out
      clear HA
      simp only [usherlaw8_valueOf.j2] at H
      have H' := Aq10 H
      clear H
      obtain ⟨Ao25, co25, eo25⟩ := Kd.R_slice HO_3.out
      subst eo25
      go_wp2
      go_loopg [6] kj15 (fun kq v6 w' => ∃ (x6_3 : Int), v6 = .int .i64 x6_3 ∧ Aside0 (usherlaw8_valueOf.l2 kq x3_1 x5_15 x6_3 = some r) ∧ Aside0 (kq ≤ kj15) ∧ Aside0 (Kd.R (Kd.int .u8) 5 w' w.heap.size (fun _ => True) (.slice Ao25 x3_1.length co25) x3_1) ∧ Aside0 (Below w.heap.size w w'))
      case atStart => exact ⟨((x3_1.length : Int)), tq10_0, H', ⟨Nat.le_refl _⟩, ⟨(tq10_4 HO_3.out)⟩, ⟨tq10_5⟩⟩
      case round =>
       clear H'
       try clear c1
       try clear p1
       try clear q1
       try clear hx1
       try clear c2
       try clear c2b0
       try clear p2
       try clear q2
       try clear hx2
       try clear c3
       try clear c3b0
       try clear p4
       try clear q4
       try clear hx4
       try clear c5
       try clear c5b0
       try clear c5b1
       try clear p6
       try clear q6
       try clear hx6
       try clear c7
       try clear p9
       try clear q9
       try clear hx9
       try clear c10
       try clear c10b0
       try clear p11
       try clear q11
       try clear hx11
       try clear c12
       try clear c12b0
       try clear c12b1
       try clear p13
       try clear q13
       try clear hx13
       try clear c14
       try clear c17
       try clear c17b0
       try clear c18
       try clear c18b0
       try clear c19
       try clear c19b0
       try clear c19b1
       try clear c21
       try clear c21b0
       try clear c21b1
       try clear p25
       try clear q25
       try clear hx25
       try clear hx253_0
       try clear hx254_0
       try clear p1
       try clear p11
       try clear p13
       try clear p2
       try clear p253
       try clear p254
       try clear p4
       try clear p6
       try clear p9
       try clear q1
       try clear q11
       try clear q13
       try clear q2
       try clear q253
       try clear q254
       try clear q4
       try clear q6
       try clear q9
       obtain ⟨x6_3, rfl, HA, HK3, HO_3, HB⟩ := hrel
       cases gk with
       | zero => exact absurd HA.out (by simp [usherlaw8_valueOf.l2])
       | succ k3 =>
        have H := HA.out
        clear HA
        simp only [usherlaw8_valueOf.l2] at H
        by_cases c26 : x6_3 > x5_15
        ·rw [if_pos c26] at H
         have c26b0 : decide (x5_15 < x6_3) = true := decide_eq_true c26
         clear c26
         obtain ⟨ji27, hji27⟩ : ∃ j_ : Int, (wrap64 (x6_3 - 1)) = j_ := ⟨_, rfl⟩
         replace H : (if 0 ≤ (ji27) then (if (ji27) < (x3_1.length : Int) then (if (rd x3_1 (ji27)) = 32 then (usherlaw8_valueOf.l2 k3 x3_1 x5_15 ji27) else (if (rd x3_1 (ji27)) = 9 then (usherlaw8_valueOf.l2 k3 x3_1 x5_15 ji27) else (if 0 ≤ x5_15 then (if x5_15 ≤ x6_3 then (if x6_3 ≤ (x3_1.length : Int) then (some (strOfNums ((x3_1.take (x6_3 : Int).toNat).drop (x5_15 : Int).toNat))) else (none)) else (none)) else (none)))) else (none)) else (none)) = some r := by first | (rw [hji27] at H; exact H) | (simp only [hji27] at H ⊢; exact H)
         have hji27w : (IntKind.i64.wrap (x6_3 - 1)) = ji27 := (i64_w _).trans hji27
         by_cases c28 : 0 ≤ (ji27)
         ·rw [if_pos c28] at H
          have c28b0 : decide (0 ≤ (ji27)) = true := decide_eq_true c28
          clear c28
          by_cases c29 : (ji27) < (x3_1.length : Int)
          ·rw [if_pos c29] at H
           have c29b0 : decide ((ji27) < (x3_1.length : Int)) = true := decide_eq_true c29
           clear c29
           by_cases c30 : (rd x3_1 (ji27)) = 32
           ·rw [if_pos c30] at H
            have c30b0 : ((rd x3_1 (ji27)) == 32) = true := beq_iff_eq.mpr c30
            have c30b1 : ((rd x3_1 (ji27)) != 32) = false := bne_eq_false_iff_eq.mpr c30
            clear c30
            have H' := Aq10 H
            clear H
            have p255 : 0 ≤ ((ji27) : Int) := of_decide_eq_true tq10_1
            have q255 : (ji27) < (x3_1.length : Int) := of_decide_eq_true tq10_1
            obtain ⟨ad255, e255, hx255_0⟩ := Kd.at_int (Kd.R_reads' HO_3.out).2.2 (ji27) p255 q255
            cases e255
            replace p255 := eq_true p255
            replace q255 := eq_true q255
            go_wp2
            go_roundg k3
            case measure => have := HK1.out; have := HJ15.out; have := HK3.out; omega
            case rel => exact ⟨(ji27), tq10_3, tq10_2, ⟨by have := HK1.out; have := HJ15.out; have := HK3.out; omega⟩, ⟨(tq10_4 HO_3.out)⟩, ⟨tq10_5⟩⟩
           ·rw [if_neg c30] at H
            have c30b0 : ((rd x3_1 (ji27)) == 32) = false := beq_eq_false_iff_ne.mpr c30
            have c30b1 : ((rd x3_1 (ji27)) != 32) = true := bne_iff_ne.mpr c30
            by_cases c31 : (rd x3_1 (ji27)) = 9
            ·rw [if_pos c31] at H
             have c31b0 : ((rd x3_1 (ji27)) == 9) = true := beq_iff_eq.mpr c31
             have c31b1 : ((rd x3_1 (ji27)) != 9) = false := bne_eq_false_iff_eq.mpr c31
             clear c31
             have H' := Aq10 H
             clear H
             have p255 : 0 ≤ ((ji27) : Int) := of_decide_eq_true tq10_1
             have q255 : (ji27) < (x3_1.length : Int) := of_decide_eq_true tq10_1
             obtain ⟨ad255, e255, hx255_0⟩ := Kd.at_int (Kd.R_reads' HO_3.out).2.2 (ji27) p255 q255
             cases e255
             replace p255 := eq_true p255
             replace q255 := eq_true q255
             have p256 : 0 ≤ ((ji27) : Int) := of_decide_eq_true tq10_1
             have q256 : (ji27) < (x3_1.length : Int) := of_decide_eq_true tq10_1
             obtain ⟨ad256, e256, hx256_0⟩ := Kd.at_int (Kd.R_reads' HO_3.out).2.2 (ji27) p256 q256
             obtain rfl : ad255 = ad256 := (by injection e256)
             replace p256 := eq_true p256
             replace q256 := eq_true q256
             go_wp2
             go_roundg k3
             case measure => have := HK1.out; have := HJ15.out; have := HK3.out; omega
             case rel => exact ⟨(ji27), tq10_3, tq10_2, ⟨by have := HK1.out; have := HJ15.out; have := HK3.out; omega⟩, ⟨(tq10_4 HO_3.out)⟩, ⟨tq10_5⟩⟩
            ·rw [if_neg c31] at H
             have c31b0 : ((rd x3_1 (ji27)) == 9) = false := beq_eq_false_iff_ne.mpr c31
             have c31b1 : ((rd x3_1 (ji27)) != 9) = true := bne_iff_ne.mpr c31
             by_cases c32 : 0 ≤ x5_15
             ·rw [if_pos c32] at H
              have c32b0 := eq_true c32
              have c32b1 : decide (0 ≤ x5_15) = true := decide_eq_true c32
              clear c32
              by_cases c33 : x5_15 ≤ x6_3
              ·rw [if_pos c33] at H
               have c33b0 := eq_true c33
               have c33b1 : decide (x5_15 ≤ x6_3) = true := decide_eq_true c33
               clear c33
               by_cases c34 : x6_3 ≤ (x3_1.length : Int)
               ·rw [if_pos c34] at H
                have c34b0 := eq_true c34
                have c34b1 : decide (x6_3 ≤ (x3_1.length : Int)) = true := decide_eq_true c34
                clear c34
                obtain ⟨y257, hy257⟩ : ∃ y_ : List Int, y_ = ((x3_1.take (x6_3 : Int).toNat).drop (x5_15 : Int).toNat) := ⟨_, rfl⟩
                replace H : (some (strOfNums y257)) = some r := by first | (rw [hy257]; with_reducible exact H) | (have H2_ := (Option.bind_some _ _).symm.trans H; rw [hy257]; with_reducible exact H2_) | (have H2_ := (Option.bind_some _ _).symm.trans H; with_reducible exact H2_) | with_reducible exact H | (rw [hy257]; exact H) | exact H
                have Ny257 := Aq10 hy257
                clear hy257
                obtain rfl := Option.some.inj H
                have p255 : 0 ≤ ((ji27) : Int) := of_decide_eq_true tq10_1
                have q255 : (ji27) < (x3_1.length : Int) := of_decide_eq_true tq10_1
                obtain ⟨ad255, e255, hx255_0⟩ := Kd.at_int (Kd.R_reads' HO_3.out).2.2 (ji27) p255 q255
                cases e255
                replace p255 := eq_true p255
                replace q255 := eq_true q255
                have p256 : 0 ≤ ((ji27) : Int) := of_decide_eq_true tq10_1
                have q256 : (ji27) < (x3_1.length : Int) := of_decide_eq_true tq10_1
                obtain ⟨ad256, e256, hx256_0⟩ := Kd.at_int (Kd.R_reads' HO_3.out).2.2 (ji27) p256 q256
                obtain rfl : ad255 = ad256 := (by injection e256)
                replace p256 := eq_true p256
                replace q256 := eq_true q256
                have q35 : (x6_3 : Int) ≤ ((x3_1.length : Int) : Int) := of_decide_eq_true tq10_1
                obtain ⟨i035, hi035, _, hsz35, _⟩ := info_parts info5
                have hroom35 : x3_1.length ≤ co25 := (Kd.R_reads' HO_3.out).2.1
                have hC35 : Kd.C (Kd.int .u8) _ (some ad255) x3_1.length x3_1 := (Kd.R_reads' HO_3.out).2.2
                have ql35 : (x5_15 : Int) ≤ (x6_3 : Int) := of_decide_eq_true tq10_1
                have q035 : (0 : Int) ≤ (x5_15 : Int) := of_decide_eq_true tq10_1
                have hcut35 := cut_mid (P := Tryd.prog) 61 5 .i64 .i64 Tryd.underlying61 hi035 1 hsz35 (some ad255) x3_1.length co25 x5_15 x6_3 q035 ql35 q35 hroom35
                have hr35 := Kd.C_mid (lo := (x5_15 : Int).toNat) (hi := (x6_3 : Int).toNat) (c := co25) hC35 (by omega) (by omega) hroom35
                obtain ⟨A35, hA35⟩ : ∃ A1, A1 = (if co25 = (x5_15 : Int).toNat then (some ad255) else ((some ad255) : Option Addr).map (·.add ((x5_15 : Int).toNat * 1))) := ⟨_, rfl⟩
                obtain ⟨c35, hc35⟩ : ∃ c1, c1 = co25 - (x5_15 : Int).toNat := ⟨_, rfl⟩
                have hy35 : y257.length = (x6_3 : Int).toNat - (x5_15 : Int).toNat := (by rw [Ny257.out, List.length_drop, List.length_take] <;> omega)
                rw [show ((x3_1).take (x6_3 : Int).toNat).drop (x5_15 : Int).toNat = y257 from Ny257.out.symm] at hr35
                replace hr35 : Kd.C (Kd.int .u8) _ A35 y257.length y257 := (by rw [hA35]; exact hr35)
                rw [← hy35, ← hA35, ← hc35] at hcut35
                have HR260 := Aq10 hr35
                have HC260 := Aq10 (show y257.length ≤ c35 from by rw [hy35, hc35]; exact Nat.sub_le_sub_right (Nat.le_trans (by omega) hroom35) _)
                clear hr35 hC35 hroom35 hi035 hsz35 hc35
                have KY35 := Aq10 hy35
                have KA35 := Aq10 hA35
                clear hy35 hA35
                have KL35 := Aq10 (show (x6_3 : Int).toNat ≤ x3_1.length from by omega)
                have KM35 := Aq10 (show (x5_15 : Int).toNat ≤ (x6_3 : Int).toNat from by omega)
                replace q35 := eq_true q35
                have hcv36 := Kd.C_string (P := Tryd.prog) (A := A35) (c := c35) Tryd.underlying61 Tryd.underlying5 Tryd.underlying9 (tq10_6 HR260.out)
                go_wp2
                go_ret
                exact ⟨by first | rfl | (simp [errW_none, errW_some] <;> rfl) | (simp only [← hji27]; first | rfl | (simp [errW_none, errW_some] <;> rfl)) | (simp [*, errW_none, errW_some] <;> rfl), tq10_5⟩
               ·rw [if_neg c34] at H
                exact absurd H (by simp)
              ·rw [if_neg c33] at H
               exact absurd H (by simp)
             ·rw [if_neg c32] at H
              exact absurd H (by simp)
          ·rw [if_neg c29] at H
           exact absurd H (by simp)
         ·rw [if_neg c28] at H
          exact absurd H (by simp)
        ·rw [if_neg c26] at H
         have c26b0 : decide (x5_15 < x6_3) = false := decide_eq_false c26
         clear c26
         by_cases c37 : 0 ≤ x5_15
         ·rw [if_pos c37] at H
          have c37b0 := eq_true c37
          have c37b1 : decide (0 ≤ x5_15) = true := decide_eq_true c37
          clear c37
          by_cases c38 : x5_15 ≤ x6_3
          ·rw [if_pos c38] at H
           have c38b0 := eq_true c38
           have c38b1 : decide (x5_15 ≤ x6_3) = true := decide_eq_true c38
           clear c38
           by_cases c39 : x6_3 ≤ (x3_1.length : Int)
           ·rw [if_pos c39] at H
            have c39b0 := eq_true c39
            have c39b1 : decide (x6_3 ≤ (x3_1.length : Int)) = true := decide_eq_true c39
            clear c39
            obtain ⟨y261, hy261⟩ : ∃ y_ : List Int, y_ = ((x3_1.take (x6_3 : Int).toNat).drop (x5_15 : Int).toNat) := ⟨_, rfl⟩
            replace H : (some (strOfNums y261)) = some r := by first | (rw [hy261]; with_reducible exact H) | (have H2_ := (Option.bind_some _ _).symm.trans H; rw [hy261]; with_reducible exact H2_) | (have H2_ := (Option.bind_some _ _).symm.trans H; with_reducible exact H2_) | with_reducible exact H | (rw [hy261]; exact H) | exact H
            have Ny261 := Aq10 hy261
            clear hy261
            obtain rfl := Option.some.inj H
            have q40 : (x6_3 : Int) ≤ ((x3_1.length : Int) : Int) := of_decide_eq_true tq10_1
            obtain ⟨i040, hi040, _, hsz40, _⟩ := info_parts info5
            have hroom40 : x3_1.length ≤ co25 := (Kd.R_reads' HO_3.out).2.1
            have hC40 : Kd.C (Kd.int .u8) _ Ao25 x3_1.length x3_1 := (Kd.R_reads' HO_3.out).2.2
            have ql40 : (x5_15 : Int) ≤ (x6_3 : Int) := of_decide_eq_true tq10_1
            have q040 : (0 : Int) ≤ (x5_15 : Int) := of_decide_eq_true tq10_1
            have hcut40 := cut_mid (P := Tryd.prog) 61 5 .i64 .i64 Tryd.underlying61 hi040 1 hsz40 Ao25 x3_1.length co25 x5_15 x6_3 q040 ql40 q40 hroom40
            have hr40 := Kd.C_mid (lo := (x5_15 : Int).toNat) (hi := (x6_3 : Int).toNat) (c := co25) hC40 (by omega) (by omega) hroom40
            obtain ⟨A40, hA40⟩ : ∃ A1, A1 = (if co25 = (x5_15 : Int).toNat then Ao25 else (Ao25 : Option Addr).map (·.add ((x5_15 : Int).toNat * 1))) := ⟨_, rfl⟩
            obtain ⟨c40, hc40⟩ : ∃ c1, c1 = co25 - (x5_15 : Int).toNat := ⟨_, rfl⟩
            have hy40 : y261.length = (x6_3 : Int).toNat - (x5_15 : Int).toNat := (by rw [Ny261.out, List.length_drop, List.length_take] <;> omega)
            rw [show ((x3_1).take (x6_3 : Int).toNat).drop (x5_15 : Int).toNat = y261 from Ny261.out.symm] at hr40
            replace hr40 : Kd.C (Kd.int .u8) _ A40 y261.length y261 := (by rw [hA40]; exact hr40)
            rw [← hy40, ← hA40, ← hc40] at hcut40
            have HR264 := Aq10 hr40
            have HC264 := Aq10 (show y261.length ≤ c40 from by rw [hy40, hc40]; exact Nat.sub_le_sub_right (Nat.le_trans (by omega) hroom40) _)
            clear hr40 hC40 hroom40 hi040 hsz40 hc40
            have KY40 := Aq10 hy40
            have KA40 := Aq10 hA40
            clear hy40 hA40
            have KL40 := Aq10 (show (x6_3 : Int).toNat ≤ x3_1.length from by omega)
            have KM40 := Aq10 (show (x5_15 : Int).toNat ≤ (x6_3 : Int).toNat from by omega)
            replace q40 := eq_true q40
            have hcv41 := Kd.C_string (P := Tryd.prog) (A := A40) (c := c40) Tryd.underlying61 Tryd.underlying5 Tryd.underlying9 (tq10_6 HR264.out)
            go_wp2
            go_ret
            exact ⟨by first | rfl | (simp [errW_none, errW_some] <;> rfl) | (simp [*, errW_none, errW_some] <;> rfl), tq10_5⟩
           ·rw [if_neg c39] at H
            exact absurd H (by simp)
          ·rw [if_neg c38] at H
           exact absurd H (by simp)
         ·rw [if_neg c37] at H
          exact absurd H (by simp)

end Go.Proofs.YtdlfdmbaejhaaaaDoor.Q
