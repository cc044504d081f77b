/- The plain Lean functions that calls of the program answer, and proofs that they do. Printed by program out of the translation; Lean checks it. -/
import Derived.Test.YtdlfdmbaejhaaaaDoorQ0
import Derived.Test.YtdlfdmbaejhaaaaDoorQ8
namespace Go.Proofs.YtdlfdmbaejhaaaaDoor.Q
open Go.RowKit Go.Proofs.YtdlfdmbaejhaaaaDoorW.PrintWords Go.Proofs.YtdlfdmbaejhaaaaDoorW.PrintLast Go.Proofs.YtdlfdmbaejhaaaaDoorW.PrintMore
attribute [local go_sem] max2_int min2_int max_two min_two max_three min_three max_four min_four   -- for this text's walks alone
set_option linter.unusedVariables false
set_option linter.unusedSimpArgs false

theorem Aq9 {p : Prop} (h : p) : Aside0 p := ⟨h⟩
theorem tq9_0 {P Q0 : Prop} (y0 : Q0) (h : Q0 → P := by intro y0_; have := y0_; omega) : P := h y0
theorem tq9_1 {P : Prop} (h : P := by first | rfl | (simp; done) | (simp [*]; done)) : P := h
theorem tq9_2 {P : Prop} (h : P := by first | (with_reducible assumption) | assumption) : P := h
theorem tq9_3 {P : Prop} (h : P := by first | rfl | (simp [errW_none, errW_some] <;> rfl) | (simp [*, errW_none, errW_some] <;> rfl)) : P := h
theorem tq9_4 {P Q0 : Prop} (y0 : Q0) (h : Q0 → P := by intro y0_; (with_reducible repeat (first | apply Kd.R_alloc | apply Kd.R_drewN | apply Kd.R_drew)); exact y0_) : P := h y0
theorem tq9_5 {P : Prop} (h : P := by repeat (first | (with_reducible first | exact HB.out | apply below_alloc | apply pw_below_drewN | apply below_drew1) | exact HB.out)) : P := h
theorem tq9_6 {P : Prop} (h : P := by (try simp only [List.map_toArray, List.map_cons, List.map_nil]); first | done | rfl | (simp only [List.length_drop, List.length_take]; rfl)) : P := h
/-! ### usherlaw8_nameOf: function 58 -/
def usherlaw8_nameOf.l0 : Nat → ByteArray → List Int → Int → Option (ByteArray)
 | 0, _, _, _ => none
 | k + 1, x0, x3, x4 => if x4 < (x0.size : Int) then (if 0 ≤ x4 then (if (bt x0 x4) ≥ 97 then (if (bt x0 x4) ≤ 122 then (if x3.length < 140737488355328 then (usherlaw8_nameOf.l0 k x0 (x3 ++ [bt x0 x4]) (wrap64 (x4 + 1))) else (none)) else (if (bt x0 x4) ≥ 65 then (if (bt x0 x4) ≤ 90 then (if x3.length < 140737488355328 then (usherlaw8_nameOf.l0 k x0 (x3 ++ [bt x0 x4]) (wrap64 (x4 + 1))) else (none)) else (if (bt x0 x4) ≥ 48 then (if (bt x0 x4) ≤ 57 then (if x3.length < 140737488355328 then (usherlaw8_nameOf.l0 k x0 (x3 ++ [bt x0 x4]) (wrap64 (x4 + 1))) else (none)) else (if (bt x0 x4) = 45 then (if x3.length < 140737488355328 then (usherlaw8_nameOf.l0 k x0 (x3 ++ [bt x0 x4]) (wrap64 (x4 + 1))) else (none)) else (usherlaw8_nameOf.l0 k x0 x3 (wrap64 (x4 + 1))))) else (if (bt x0 x4) = 45 then (if x3.length < 140737488355328 then (usherlaw8_nameOf.l0 k x0 (x3 ++ [bt x0 x4]) (wrap64 (x4 + 1))) else (none)) else (usherlaw8_nameOf.l0 k x0 x3 (wrap64 (x4 + 1)))))) else (if (bt x0 x4) ≥ 48 then (if (bt x0 x4) ≤ 57 then (if x3.length < 140737488355328 then (usherlaw8_nameOf.l0 k x0 (x3 ++ [bt x0 x4]) (wrap64 (x4 + 1))) else (none)) else (if (bt x0 x4) = 45 then (if x3.length < 140737488355328 then (usherlaw8_nameOf.l0 k x0 (x3 ++ [bt x0 x4]) (wrap64 (x4 + 1))) else (none)) else (usherlaw8_nameOf.l0 k x0 x3 (wrap64 (x4 + 1))))) else (if (bt x0 x4) = 45 then (if x3.length < 140737488355328 then (usherlaw8_nameOf.l0 k x0 (x3 ++ [bt x0 x4]) (wrap64 (x4 + 1))) else (none)) else (usherlaw8_nameOf.l0 k x0 x3 (wrap64 (x4 + 1))))))) else (if (bt x0 x4) ≥ 65 then (if (bt x0 x4) ≤ 90 then (if x3.length < 140737488355328 then (usherlaw8_nameOf.l0 k x0 (x3 ++ [bt x0 x4]) (wrap64 (x4 + 1))) else (none)) else (if (bt x0 x4) ≥ 48 then (if (bt x0 x4) ≤ 57 then (if x3.length < 140737488355328 then (usherlaw8_nameOf.l0 k x0 (x3 ++ [bt x0 x4]) (wrap64 (x4 + 1))) else (none)) else (if (bt x0 x4) = 45 then (if x3.length < 140737488355328 then (usherlaw8_nameOf.l0 k x0 (x3 ++ [bt x0 x4]) (wrap64 (x4 + 1))) else (none)) else (usherlaw8_nameOf.l0 k x0 x3 (wrap64 (x4 + 1))))) else (if (bt x0 x4) = 45 then (if x3.length < 140737488355328 then (usherlaw8_nameOf.l0 k x0 (x3 ++ [bt x0 x4]) (wrap64 (x4 + 1))) else (none)) else (usherlaw8_nameOf.l0 k x0 x3 (wrap64 (x4 + 1)))))) else (if (bt x0 x4) ≥ 48 then (if (bt x0 x4) ≤ 57 then (if x3.length < 140737488355328 then (usherlaw8_nameOf.l0 k x0 (x3 ++ [bt x0 x4]) (wrap64 (x4 + 1))) else (none)) else (if (bt x0 x4) = 45 then (if x3.length < 140737488355328 then (usherlaw8_nameOf.l0 k x0 (x3 ++ [bt x0 x4]) (wrap64 (x4 + 1))) else (none)) else (usherlaw8_nameOf.l0 k x0 x3 (wrap64 (x4 + 1))))) else (if (bt x0 x4) = 45 then (if x3.length < 140737488355328 then (usherlaw8_nameOf.l0 k x0 (x3 ++ [bt x0 x4]) (wrap64 (x4 + 1))) else (none)) else (usherlaw8_nameOf.l0 k x0 x3 (wrap64 (x4 + 1))))))) else (none)) else ((usherlaw8_own.f k (strOfNums x3)).bind fun t246 => (if (strOfNums x3).toList = ([] : List UInt8) then (if 1 + (strOfNums x3).size ≤ 9223372036854775807 then (some ((⟨#[120]⟩ : ByteArray) ++ (strOfNums x3))) else (none)) else (if t246 = true then (if 1 + (strOfNums x3).size ≤ 9223372036854775807 then (some ((⟨#[120]⟩ : ByteArray) ++ (strOfNums x3))) else (none)) else (some (strOfNums x3)))))
def usherlaw8_nameOf.f (k : Nat) (a0 : ByteArray) : Option (ByteArray) := usherlaw8_nameOf.l0 k a0 ([] : List Int) 0
theorem usherlaw8_nameOf.mono_l : ∀ k, (∀ y0 y1 y2, LeO (usherlaw8_nameOf.l0 k y0 y1 y2) (usherlaw8_nameOf.l0 (k + 1) y0 y1 y2))
 | 0 => fun _ _ _ r h => by simp [usherlaw8_nameOf.l0] at h
 | k + 1 => by
  have ih0 := usherlaw8_nameOf.mono_l k
  ·intro y0 y1 y2
   unfold usherlaw8_nameOf.l0
   repeat' first
   | (with_reducible exact ih0 _ _ _)
   | (with_reducible exact usherlaw8_own.mono _ _)
   | (with_reducible exact LeO.refl _)
   | (with_reducible exact LeO.none _)
   | (with_reducible refine LeO.ite ?_ ?_)
   | (with_reducible refine LeO.bind ?_ (fun _ => ?_))
   | exact ih0 _ _ _
   | exact usherlaw8_own.mono _ _
   | exact LeO.none _
   | refine LeO.ite ?_ ?_
   | refine LeO.bind ?_ (fun _ => ?_)
theorem usherlaw8_nameOf.mono : ∀ a0 k, LeO (usherlaw8_nameOf.f k a0) (usherlaw8_nameOf.f (k + 1) a0) := by
 intro a0 k
 have ih0 := usherlaw8_nameOf.mono_l k
 unfold usherlaw8_nameOf.f
 repeat' first
   | (with_reducible exact ih0 _ _ _)
   | (with_reducible exact usherlaw8_own.mono _ _)
   | (with_reducible exact LeO.refl _)
   | (with_reducible exact LeO.none _)
   | (with_reducible refine LeO.ite ?_ ?_)
   | (with_reducible refine LeO.bind ?_ (fun _ => ?_))
   | exact ih0 _ _ _
   | exact usherlaw8_own.mono _ _
   | exact LeO.none _
   | refine LeO.ite ?_ ?_
   | refine LeO.bind ?_ (fun _ => ?_)
set_option maxHeartbeats 8000000 in
set_option maxRecDepth 100000 in
theorem usherlaw8_nameOf.calls (k : Nat) (a0 : ByteArray) (r : ByteArray) (w : World) (h : usherlaw8_nameOf.f k a0 = some r) :
  Calls Tryd.prog 58 #[.string a0] w fun e w' => e = .returned (.string r) ∧ Below w.heap.size w w' := by
 have HB := Aq9 (Below.refl w.heap.size w)
 have H : (usherlaw8_nameOf.l0 k a0 ([] : List Int) 0) = some r := h
 clear h
 have H' := Aq9 H
 clear H
 go_enter Tryd.func58, Tryd.ntmps58
 go_wp2
 go_loopg [3, 4] k (fun kq v3 v4 w' => ∃ (x3_1 : List Int) (x4_1 : Int), v4 = .int .i64 x4_1 ∧ Aside0 (usherlaw8_nameOf.l0 kq a0 x3_1 x4_1 = some r) ∧ Aside0 (kq ≤ k) ∧ Aside0 (Kd.R (Kd.int .u8) 5 w' w.heap.size (fun _ => True) v3 x3_1) ∧ Aside0 (Below w.heap.size w w'))
 case atStart => exact ⟨(([] : List Int)), (0), tq9_1, H', ⟨Nat.le_refl _⟩, ⟨by first | exact Kd.R_nil _ _ _ _ _ | exact Kd.N_nil _ _ _ _ _ | exact Kd.V_nil _ _ _ _ _ | exact Kd.Q_nil _ _ _ _ _ | exact Kd.S_nil _ _ _ _ _⟩, ⟨tq9_5⟩⟩
 case round =>
  clear H'
  obtain ⟨x3_1, x4_1, rfl, HA, HK1, HO_3, HB⟩ := hrel
  cases gk with
  | zero => exact absurd HA.out (by simp [usherlaw8_nameOf.l0])
  | succ k1 =>
   have H := HA.out
   clear HA
   simp only [usherlaw8_nameOf.l0] at H
   by_cases c2 : x4_1 < (a0.size : Int)
   ·rw [if_pos c2] at H
    have c2b0 : decide (x4_1 < (a0.size : Int)) = true := decide_eq_true c2
    clear c2
    by_cases c3 : 0 ≤ x4_1
    ·rw [if_pos c3] at H
     have c3b0 : decide (0 ≤ x4_1) = true := decide_eq_true c3
     clear c3
     by_cases c5 : (bt a0 x4_1) ≥ 97
     ·rw [if_pos c5] at H
      have c5b0 : decide (97 ≤ (bt a0 x4_1)) = true := decide_eq_true c5
      clear c5
      by_cases c6 : (bt a0 x4_1) ≤ 122
      ·rw [if_pos c6] at H
       have c6b0 : decide ((bt a0 x4_1) ≤ 122) = true := decide_eq_true c6
       clear c6
       by_cases c7 : x3_1.length < 140737488355328
       ·rw [if_pos c7] at H
        have LMc7 := Aq9 c7
        clear c7
        obtain ⟨y201, hy201⟩ : ∃ y_ : List Int, y_ = (x3_1 ++ [bt a0 x4_1]) := ⟨_, rfl⟩
        replace H : (usherlaw8_nameOf.l0 k1 a0 y201 (wrap64 (x4_1 + 1))) = some r := by first | (rw [hy201]; with_reducible exact H) | (have H2_ := (Option.bind_some _ _).symm.trans H; rw [hy201]; with_reducible exact H2_) | (have H2_ := (Option.bind_some _ _).symm.trans H; with_reducible exact H2_) | with_reducible exact H | (rw [hy201]; exact H) | exact H
        have Ny201 := Aq9 hy201
        clear hy201
        have H' := Aq9 H
        clear H
        have p4 : 0 ≤ (x4_1 : Int) := of_decide_eq_true tq9_2
        have q4 : x4_1 < (a0.size : Int) := of_decide_eq_true tq9_2
        have hx4 := bt_at a0 x4_1
        replace p4 := eq_true p4
        replace q4 := eq_true q4
        go_wp2_with (first | ((with_reducible refine gate_builtin (b := .append) (xs := #[.tmp 43, .tmp 45]) rfl ?_); at_builtin; refine Kd.R_append (Kd.int .u8) (w0 := w) w.heap.size rfl (.tmp 43) (.tmp 45) 61 5 (.int .u8 0) 1 rfl Tryd.underlying61 info5 rfl (by decide) (by omega) u3 x3_1 (bt a0 x4_1) [.int .u8 (bt a0 x4_1)] (fun _ => True) (fun _ => False) rfl rfl ?aP (fun _ hk => hk.elim) ?aF ?aO ?aB ?aS ?aL ?_; (case aP => exact rfl); (case aB => exact tq9_5); (case aF => exact (fun _ _ => trivial)); (case aO => exact (tq9_4 HO_3.out)); (case aS => exact (below_size tq9_5)); (case aL => have := LMc7.out; omega); intro v202 w8 ho hb hg hat; rw [← Ny201.out] at ho; have n0_ := Aq9 (hb); have n1_ := Aq9 (ho); clear HB; clear HO_3; have HB := n0_; have HO203 := n1_; clear n0_ n1_; clear ho hb hg hat))
        go_roundg k1
        case measure => have := HK1.out; omega
        case rel => exact ⟨(y201), (wrap64 (x4_1 + 1)), tq9_1, H', ⟨(tq9_0 HK1.out)⟩, ⟨(tq9_4 HO203.out)⟩, ⟨tq9_5⟩⟩
       ·rw [if_neg c7] at H
        exact absurd H (by simp)
      ·rw [if_neg c6] at H
       have c6b0 : decide ((bt a0 x4_1) ≤ 122) = false := decide_eq_false c6
       clear c6
       by_cases c9 : (bt a0 x4_1) ≥ 65
       ·rw [if_pos c9] at H
        have c9b0 : decide (65 ≤ (bt a0 x4_1)) = true := decide_eq_true c9
        clear c9
        by_cases c10 : (bt a0 x4_1) ≤ 90
        ·rw [if_pos c10] at H
         have c10b0 : decide ((bt a0 x4_1) ≤ 90) = true := decide_eq_true c10
         clear c10
         by_cases c11 : x3_1.length < 140737488355328
         ·rw [if_pos c11] at H
          have LMc11 := Aq9 c11
          clear c11
          obtain ⟨y204, hy204⟩ : ∃ y_ : List Int, y_ = (x3_1 ++ [bt a0 x4_1]) := ⟨_, rfl⟩
          replace H : (usherlaw8_nameOf.l0 k1 a0 y204 (wrap64 (x4_1 + 1))) = some r := by first | (rw [hy204]; with_reducible exact H) | (have H2_ := (Option.bind_some _ _).symm.trans H; rw [hy204]; with_reducible exact H2_) | (have H2_ := (Option.bind_some _ _).symm.trans H; with_reducible exact H2_) | with_reducible exact H | (rw [hy204]; exact H) | exact H
          have Ny204 := Aq9 hy204
          clear hy204
          have H' := Aq9 H
          clear H
          have p4 : 0 ≤ (x4_1 : Int) := of_decide_eq_true tq9_2
          have q4 : x4_1 < (a0.size : Int) := of_decide_eq_true tq9_2
          have hx4 := bt_at a0 x4_1
          replace p4 := eq_true p4
          replace q4 := eq_true q4
          go_wp2_with (first | ((with_reducible refine gate_builtin (b := .append) (xs := #[.tmp 43, .tmp 45]) rfl ?_); at_builtin; refine Kd.R_append (Kd.int .u8) (w0 := w) w.heap.size rfl (.tmp 43) (.tmp 45) 61 5 (.int .u8 0) 1 rfl Tryd.underlying61 info5 rfl (by decide) (by omega) u3 x3_1 (bt a0 x4_1) [.int .u8 (bt a0 x4_1)] (fun _ => True) (fun _ => False) rfl rfl ?aP (fun _ hk => hk.elim) ?aF ?aO ?aB ?aS ?aL ?_; (case aP => exact rfl); (case aB => exact tq9_5); (case aF => exact (fun _ _ => trivial)); (case aO => exact (tq9_4 HO_3.out)); (case aS => exact (below_size tq9_5)); (case aL => have := LMc11.out; omega); intro v205 w12 ho hb hg hat; rw [← Ny204.out] at ho; have n0_ := Aq9 (hb); have n1_ := Aq9 (ho); clear HB; clear HO_3; have HB := n0_; have HO206 := n1_; clear n0_ n1_; clear ho hb hg hat))
          go_roundg k1
          case measure => have := HK1.out; omega
          case rel => exact ⟨(y204), (wrap64 (x4_1 + 1)), tq9_1, H', ⟨(tq9_0 HK1.out)⟩, ⟨(tq9_4 HO206.out)⟩, ⟨tq9_5⟩⟩
         ·rw [if_neg c11] at H
          exact absurd H (by simp)
        ·rw [if_neg c10] at H
         have c10b0 : decide ((bt a0 x4_1) ≤ 90) = false := decide_eq_false c10
         clear c10
         by_cases c13 : (bt a0 x4_1) ≥ 48
         ·rw [if_pos c13] at H
          have c13b0 : decide (48 ≤ (bt a0 x4_1)) = true := decide_eq_true c13
          clear c13
          by_cases c14 : (bt a0 x4_1) ≤ 57
          ·rw [if_pos c14] at H
           have c14b0 : decide ((bt a0 x4_1) ≤ 57) = true := decide_eq_true c14
           clear c14
           by_cases c15 : x3_1.length < 140737488355328
           ·rw [if_pos c15] at H
            have LMc15 := Aq9 c15
            clear c15
            obtain ⟨y207, hy207⟩ : ∃ y_ : List Int, y_ = (x3_1 ++ [bt a0 x4_1]) := ⟨_, rfl⟩
            replace H : (usherlaw8_nameOf.l0 k1 a0 y207 (wrap64 (x4_1 + 1))) = some r := by first | (rw [hy207]; with_reducible exact H) | (have H2_ := (Option.bind_some _ _).symm.trans H; rw [hy207]; with_reducible exact H2_) | (have H2_ := (Option.bind_some _ _).symm.trans H; with_reducible exact H2_) | with_reducible exact H | (rw [hy207]; exact H) | exact H
            have Ny207 := Aq9 hy207
            clear hy207
            have H' := Aq9 H
            clear H
            have p4 : 0 ≤ (x4_1 : Int) := of_decide_eq_true tq9_2
            have q4 : x4_1 < (a0.size : Int) := of_decide_eq_true tq9_2
            have hx4 := bt_at a0 x4_1
            replace p4 := eq_true p4
            replace q4 := eq_true q4
            go_wp2_with (first | ((with_reducible refine gate_builtin (b := .append) (xs := #[.tmp 43, .tmp 45]) rfl ?_); at_builtin; refine Kd.R_append (Kd.int .u8) (w0 := w) w.heap.size rfl (.tmp 43) (.tmp 45) 61 5 (.int .u8 0) 1 rfl Tryd.underlying61 info5 rfl (by decide) (by omega) u3 x3_1 (bt a0 x4_1) [.int .u8 (bt a0 x4_1)] (fun _ => True) (fun _ => False) rfl rfl ?aP (fun _ hk => hk.elim) ?aF ?aO ?aB ?aS ?aL ?_; (case aP => exact rfl); (case aB => exact tq9_5); (case aF => exact (fun _ _ => trivial)); (case aO => exact (tq9_4 HO_3.out)); (case aS => exact (below_size tq9_5)); (case aL => have := LMc15.out; omega); intro v208 w16 ho hb hg hat; rw [← Ny207.out] at ho; have n0_ := Aq9 (hb); have n1_ := Aq9 (ho); clear HB; clear HO_3; have HB := n0_; have HO209 := n1_; clear n0_ n1_; clear ho hb hg hat))
            go_roundg k1
            case measure => have := HK1.out; omega
            case rel => exact ⟨(y207), (wrap64 (x4_1 + 1)), tq9_1, H', ⟨(tq9_0 HK1.out)⟩, ⟨(tq9_4 HO209.out)⟩, ⟨tq9_5⟩⟩
           ·rw [if_neg c15] at H
            exact absurd H (by simp)
          ·rw [if_neg c14] at H
           have c14b0 : decide ((bt a0 x4_1) ≤ 57) = false := decide_eq_false c14
           clear c14
           by_cases c17 : (bt a0 x4_1) = 45
           ·rw [if_pos c17] at H
            have c17b0 : ((bt a0 x4_1) == 45) = true := beq_iff_eq.mpr c17
            have c17b1 : ((bt a0 x4_1) != 45) = false := bne_eq_false_iff_eq.mpr c17
            clear c17
            by_cases c18 : x3_1.length < 140737488355328
            ·rw [if_pos c18] at H
             have LMc18 := Aq9 c18
             clear c18
             obtain ⟨y210, hy210⟩ : ∃ y_ : List Int, y_ = (x3_1 ++ [bt a0 x4_1]) := ⟨_, rfl⟩
             replace H : (usherlaw8_nameOf.l0 k1 a0 y210 (wrap64 (x4_1 + 1))) = some r := by first | (rw [hy210]; with_reducible exact H) | (have H2_ := (Option.bind_some _ _).symm.trans H; rw [hy210]; with_reducible exact H2_) | (have H2_ := (Option.bind_some _ _).symm.trans H; with_reducible exact H2_) | with_reducible exact H | (rw [hy210]; exact H) | exact H
             have Ny210 := Aq9 hy210
             clear hy210
             have H' := Aq9 H
             clear H
             have p4 : 0 ≤ (x4_1 : Int) := of_decide_eq_true tq9_2
             have q4 : x4_1 < (a0.size : Int) := of_decide_eq_true tq9_2
             have hx4 := bt_at a0 x4_1
             replace p4 := eq_true p4
             replace q4 := eq_true q4
             go_wp2_with (first | ((with_reducible refine gate_builtin (b := .append) (xs := #[.tmp 43, .tmp 45]) rfl ?_); at_builtin; refine Kd.R_append (Kd.int .u8) (w0 := w) w.heap.size rfl (.tmp 43) (.tmp 45) 61 5 (.int .u8 0) 1 rfl Tryd.underlying61 info5 rfl (by decide) (by omega) u3 x3_1 (bt a0 x4_1) [.int .u8 (bt a0 x4_1)] (fun _ => True) (fun _ => False) rfl rfl ?aP (fun _ hk => hk.elim) ?aF ?aO ?aB ?aS ?aL ?_; (case aP => exact rfl); (case aB => exact tq9_5); (case aF => exact (fun _ _ => trivial)); (case aO => exact (tq9_4 HO_3.out)); (case aS => exact (below_size tq9_5)); (case aL => have := LMc18.out; omega); intro v211 w19 ho hb hg hat; rw [← Ny210.out] at ho; have n0_ := Aq9 (hb); have n1_ := Aq9 (ho); clear HB; clear HO_3; have HB := n0_; have HO212 := n1_; clear n0_ n1_; clear ho hb hg hat))
             go_roundg k1
             case measure => have := HK1.out; omega
             case rel => exact ⟨(y210), (wrap64 (x4_1 + 1)), tq9_1, H', ⟨(tq9_0 HK1.out)⟩, ⟨(tq9_4 HO212.out)⟩, ⟨tq9_5⟩⟩
            ·rw [if_neg c18] at H
             exact absurd H (by simp)
           ·rw [if_neg c17] at H
            have c17b0 : ((bt a0 x4_1) == 45) = false := beq_eq_false_iff_ne.mpr c17
            have c17b1 : ((bt a0 x4_1) != 45) = true := bne_iff_ne.mpr c17
            have H' := Aq9 H
            clear H
            have p4 : 0 ≤ (x4_1 : Int) := of_decide_eq_true tq9_2
            have q4 : x4_1 < (a0.size : Int) := of_decide_eq_true tq9_2
            have hx4 := bt_at a0 x4_1
            replace p4 := eq_true p4
            replace q4 := eq_true q4
            go_wp2
            go_roundg k1
            case measure => have := HK1.out; omega
            case rel => exact ⟨(x3_1), (wrap64 (x4_1 + 1)), tq9_1, H', ⟨(tq9_0 HK1.out)⟩, ⟨(tq9_4 HO_3.out)⟩, ⟨tq9_5⟩⟩
         ·rw [if_neg c13] at H
          have c13b0 : decide (48 ≤ (bt a0 x4_1)) = false := decide_eq_false c13
          clear c13
          by_cases c20 : (bt a0 x4_1) = 45
          ·rw [if_pos c20] at H
           have c20b0 : ((bt a0 x4_1) == 45) = true := beq_iff_eq.mpr c20
           have c20b1 : ((bt a0 x4_1) != 45) = false := bne_eq_false_iff_eq.mpr c20
           clear c20
           by_cases c21 : x3_1.length < 140737488355328
           ·rw [if_pos c21] at H
            have LMc21 := Aq9 c21
            clear c21
            obtain ⟨y213, hy213⟩ : ∃ y_ : List Int, y_ = (x3_1 ++ [bt a0 x4_1]) := ⟨_, rfl⟩
            replace H : (usherlaw8_nameOf.l0 k1 a0 y213 (wrap64 (x4_1 + 1))) = some r := by first | (rw [hy213]; with_reducible exact H) | (have H2_ := (Option.bind_some _ _).symm.trans H; rw [hy213]; with_reducible exact H2_) | (have H2_ := (Option.bind_some _ _).symm.trans H; with_reducible exact H2_) | with_reducible exact H | (rw [hy213]; exact H) | exact H
            have Ny213 := Aq9 hy213
            clear hy213
            have H' := Aq9 H
            clear H
            have p4 : 0 ≤ (x4_1 : Int) := of_decide_eq_true tq9_2
            have q4 : x4_1 < (a0.size : Int) := of_decide_eq_true tq9_2
            have hx4 := bt_at a0 x4_1
            replace p4 := eq_true p4
            replace q4 := eq_true q4
            go_wp2_with (first | ((with_reducible refine gate_builtin (b := .append) (xs := #[.tmp 43, .tmp 45]) rfl ?_); at_builtin; refine Kd.R_append (Kd.int .u8) (w0 := w) w.heap.size rfl (.tmp 43) (.tmp 45) 61 5 (.int .u8 0) 1 rfl Tryd.underlying61 info5 rfl (by decide) (by omega) u3 x3_1 (bt a0 x4_1) [.int .u8 (bt a0 x4_1)] (fun _ => True) (fun _ => False) rfl rfl ?aP (fun _ hk => hk.elim) ?aF ?aO ?aB ?aS ?aL ?_; (case aP => exact rfl); (case aB => exact tq9_5); (case aF => exact (fun _ _ => trivial)); (case aO => exact (tq9_4 HO_3.out)); (case aS => exact (below_size tq9_5)); (case aL => have := LMc21.out; omega); intro v214 w22 ho hb hg hat; rw [← Ny213.out] at ho; have n0_ := Aq9 (hb); have n1_ := Aq9 (ho); clear HB; clear HO_3; have HB := n0_; have HO215 := n1_; clear n0_ n1_; clear ho hb hg hat))
            go_roundg k1
            case measure => have := HK1.out; omega
            case rel => exact ⟨(y213), (wrap64 (x4_1 + 1)), tq9_1, H', ⟨(tq9_0 HK1.out)⟩, ⟨(tq9_4 HO215.out)⟩, ⟨tq9_5⟩⟩
           ·rw [if_neg c21] at H
            exact absurd H (by simp)
          ·rw [if_neg c20] at H
           have c20b0 : ((bt a0 x4_1) == 45) = false := beq_eq_false_iff_ne.mpr c20
           have c20b1 : ((bt a0 x4_1) != 45) = true := bne_iff_ne.mpr c20
           have H' := Aq9 H
           clear H
           have p4 : 0 ≤ (x4_1 : Int) := of_decide_eq_true tq9_2
           have q4 : x4_1 < (a0.size : Int) := of_decide_eq_true tq9_2
           have hx4 := bt_at a0 x4_1
           replace p4 := eq_true p4
           replace q4 := eq_true q4
           go_wp2
           go_roundg k1
           case measure => have := HK1.out; omega
           case rel => exact ⟨(x3_1), (wrap64 (x4_1 + 1)), tq9_1, H', ⟨(tq9_0 HK1.out)⟩, ⟨(tq9_4 HO_3.out)⟩, ⟨tq9_5⟩⟩
       ·rw [if_neg c9] at H
        have c9b0 : decide (65 ≤ (bt a0 x4_1)) = false := decide_eq_false c9
        clear c9
        by_cases c23 : (bt a0 x4_1) ≥ 48
        ·rw [if_pos c23] at H
         have c23b0 : decide (48 ≤ (bt a0 x4_1)) = true := decide_eq_true c23
         clear c23
         by_cases c24 : (bt a0 x4_1) ≤ 57
         ·rw [if_pos c24] at H
          have c24b0 : decide ((bt a0 x4_1) ≤ 57) = true := decide_eq_true c24
          clear c24
          by_cases c25 : x3_1.length < 140737488355328
          ·rw [if_pos c25] at H
           have LMc25 := Aq9 c25
           clear c25
           obtain ⟨y216, hy216⟩ : ∃ y_ : List Int, y_ = (x3_1 ++ [bt a0 x4_1]) := ⟨_, rfl⟩
           replace H : (usherlaw8_nameOf.l0 k1 a0 y216 (wrap64 (x4_1 + 1))) = some r := by first | (rw [hy216]; with_reducible exact H) | (have H2_ := (Option.bind_some _ _).symm.trans H; rw [hy216]; with_reducible exact H2_) | (have H2_ := (Option.bind_some _ _).symm.trans H; with_reducible exact H2_) | with_reducible exact H | (rw [hy216]; exact H) | exact H
           have Ny216 := Aq9 hy216
           clear hy216
           have H' := Aq9 H
           clear H
           have p4 : 0 ≤ (x4_1 : Int) := of_decide_eq_true tq9_2
           have q4 : x4_1 < (a0.size : Int) := of_decide_eq_true tq9_2
           have hx4 := bt_at a0 x4_1
           replace p4 := eq_true p4
           replace q4 := eq_true q4
           go_wp2_with (first | ((with_reducible refine gate_builtin (b := .append) (xs := #[.tmp 43, .tmp 45]) rfl ?_); at_builtin; refine Kd.R_append (Kd.int .u8) (w0 := w) w.heap.size rfl (.tmp 43) (.tmp 45) 61 5 (.int .u8 0) 1 rfl Tryd.underlying61 info5 rfl (by decide) (by omega) u3 x3_1 (bt a0 x4_1) [.int .u8 (bt a0 x4_1)] (fun _ => True) (fun _ => False) rfl rfl ?aP (fun _ hk => hk.elim) ?aF ?aO ?aB ?aS ?aL ?_; (case aP => exact rfl); (case aB => exact tq9_5); (case aF => exact (fun _ _ => trivial)); (case aO => exact (tq9_4 HO_3.out)); (case aS => exact (below_size tq9_5)); (case aL => have := LMc25.out; omega); intro v217 w26 ho hb hg hat; rw [← Ny216.out] at ho; have n0_ := Aq9 (hb); have n1_ := Aq9 (ho); clear HB; clear HO_3; have HB := n0_; have HO218 := n1_; clear n0_ n1_; clear ho hb hg hat))
           go_roundg k1
           case measure => have := HK1.out; omega
           case rel => exact ⟨(y216), (wrap64 (x4_1 + 1)), tq9_1, H', ⟨(tq9_0 HK1.out)⟩, ⟨(tq9_4 HO218.out)⟩, ⟨tq9_5⟩⟩
          ·rw [if_neg c25] at H
           exact absurd H (by simp)
         ·rw [if_neg c24] at H
          have c24b0 : decide ((bt a0 x4_1) ≤ 57) = false := decide_eq_false c24
          clear c24
          by_cases c27 : (bt a0 x4_1) = 45
          ·rw [if_pos c27] at H
           have c27b0 : ((bt a0 x4_1) == 45) = true := beq_iff_eq.mpr c27
           have c27b1 : ((bt a0 x4_1) != 45) = false := bne_eq_false_iff_eq.mpr c27
           clear c27
           by_cases c28 : x3_1.length < 140737488355328
           ·rw [if_pos c28] at H
            have LMc28 := Aq9 c28
            clear c28
            obtain ⟨y219, hy219⟩ : ∃ y_ : List Int, y_ = (x3_1 ++ [bt a0 x4_1]) := ⟨_, rfl⟩
            replace H : (usherlaw8_nameOf.l0 k1 a0 y219 (wrap64 (x4_1 + 1))) = some r := by first | (rw [hy219]; with_reducible exact H) | (have H2_ := (Option.bind_some _ _).symm.trans H; rw [hy219]; with_reducible exact H2_) | (have H2_ := (Option.bind_some _ _).symm.trans H; with_reducible exact H2_) | with_reducible exact H | (rw [hy219]; exact H) | exact H
            have Ny219 := Aq9 hy219
            clear hy219
            have H' := Aq9 H
            clear H
            have p4 : 0 ≤ (x4_1 : Int) := of_decide_eq_true tq9_2
            have q4 : x4_1 < (a0.size : Int) := of_decide_eq_true tq9_2
            have hx4 := bt_at a0 x4_1
            replace p4 := eq_true p4
            replace q4 := eq_true q4
            go_wp2_with (first | ((with_reducible refine gate_builtin (b := .append) (xs := #[.tmp 43, .tmp 45]) rfl ?_); at_builtin; refine Kd.R_append (Kd.int .u8) (w0 := w) w.heap.size rfl (.tmp 43) (.tmp 45) 61 5 (.int .u8 0) 1 rfl Tryd.underlying61 info5 rfl (by decide) (by omega) u3 x3_1 (bt a0 x4_1) [.int .u8 (bt a0 x4_1)] (fun _ => True) (fun _ => False) rfl rfl ?aP (fun _ hk => hk.elim) ?aF ?aO ?aB ?aS ?aL ?_; (case aP => exact rfl); (case aB => exact tq9_5); (case aF => exact (fun _ _ => trivial)); (case aO => exact (tq9_4 HO_3.out)); (case aS => exact (below_size tq9_5)); (case aL => have := LMc28.out; omega); intro v220 w29 ho hb hg hat; rw [← Ny219.out] at ho; have n0_ := Aq9 (hb); have n1_ := Aq9 (ho); clear HB; clear HO_3; have HB := n0_; have HO221 := n1_; clear n0_ n1_; clear ho hb hg hat))
            go_roundg k1
            case measure => have := HK1.out; omega
            case rel => exact ⟨(y219), (wrap64 (x4_1 + 1)), tq9_1, H', ⟨(tq9_0 HK1.out)⟩, ⟨(tq9_4 HO221.out)⟩, ⟨tq9_5⟩⟩
           ·rw [if_neg c28] at H
            exact absurd H (by simp)
          ·rw [if_neg c27] at H
           have c27b0 : ((bt a0 x4_1) == 45) = false := beq_eq_false_iff_ne.mpr c27
           have c27b1 : ((bt a0 x4_1) != 45) = true := bne_iff_ne.mpr c27
           have H' := Aq9 H
           clear H
           have p4 : 0 ≤ (x4_1 : Int) := of_decide_eq_true tq9_2
           have q4 : x4_1 < (a0.size : Int) := of_decide_eq_true tq9_2
           have hx4 := bt_at a0 x4_1
           replace p4 := eq_true p4
           replace q4 := eq_true q4
           go_wp2
           go_roundg k1
           case measure => have := HK1.out; omega
           case rel => exact ⟨(x3_1), (wrap64 (x4_1 + 1)), tq9_1, H', ⟨(tq9_0 HK1.out)⟩, ⟨(tq9_4 HO_3.out)⟩, ⟨tq9_5⟩⟩
        ·rw [if_neg c23] at H
         have c23b0 : decide (48 ≤ (bt a0 x4_1)) = false := decide_eq_false c23
         clear c23
         by_cases c30 : (bt a0 x4_1) = 45
         ·rw [if_pos c30] at H
          have c30b0 : ((bt a0 x4_1) == 45) = true := beq_iff_eq.mpr c30
          have c30b1 : ((bt a0 x4_1) != 45) = false := bne_eq_false_iff_eq.mpr c30
          clear c30
          by_cases c31 : x3_1.length < 140737488355328
          ·rw [if_pos c31] at H
           have LMc31 := Aq9 c31
           clear c31
           obtain ⟨y222, hy222⟩ : ∃ y_ : List Int, y_ = (x3_1 ++ [bt a0 x4_1]) := ⟨_, rfl⟩
           replace H : (usherlaw8_nameOf.l0 k1 a0 y222 (wrap64 (x4_1 + 1))) = some r := by first | (rw [hy222]; with_reducible exact H) | (have H2_ := (Option.bind_some _ _).symm.trans H; rw [hy222]; with_reducible exact H2_) | (have H2_ := (Option.bind_some _ _).symm.trans H; with_reducible exact H2_) | with_reducible exact H | (rw [hy222]; exact H) | exact H
           have Ny222 := Aq9 hy222
           clear hy222
           have H' := Aq9 H
           clear H
           have p4 : 0 ≤ (x4_1 : Int) := of_decide_eq_true tq9_2
           have q4 : x4_1 < (a0.size : Int) := of_decide_eq_true tq9_2
           have hx4 := bt_at a0 x4_1
           replace p4 := eq_true p4
           replace q4 := eq_true q4
           go_wp2_with (first | ((with_reducible refine gate_builtin (b := .append) (xs := #[.tmp 43, .tmp 45]) rfl ?_); at_builtin; refine Kd.R_append (Kd.int .u8) (w0 := w) w.heap.size rfl (.tmp 43) (.tmp 45) 61 5 (.int .u8 0) 1 rfl Tryd.underlying61 info5 rfl (by decide) (by omega) u3 x3_1 (bt a0 x4_1) [.int .u8 (bt a0 x4_1)] (fun _ => True) (fun _ => False) rfl rfl ?aP (fun _ hk => hk.elim) ?aF ?aO ?aB ?aS ?aL ?_; (case aP => exact rfl); (case aB => exact tq9_5); (case aF => exact (fun _ _ => trivial)); (case aO => exact (tq9_4 HO_3.out)); (case aS => exact (below_size tq9_5)); (case aL => have := LMc31.out; omega); intro v223 w32 ho hb hg hat; rw [← Ny222.out] at ho; have n0_ := Aq9 (hb); have n1_ := Aq9 (ho); clear HB; clear HO_3; have HB := n0_; have HO224 := n1_; clear n0_ n1_; clear ho hb hg hat))
           go_roundg k1
           case measure => have := HK1.out; omega
           case rel => exact ⟨(y222), (wrap64 (x4_1 + 1)), tq9_1, H', ⟨(tq9_0 HK1.out)⟩, ⟨(tq9_4 HO224.out)⟩, ⟨tq9_5⟩⟩
          ·rw [if_neg c31] at H
           exact absurd H (by simp)
         ·rw [if_neg c30] at H
          have c30b0 : ((bt a0 x4_1) == 45) = false := beq_eq_false_iff_ne.mpr c30
          have c30b1 : ((bt a0 x4_1) != 45) = true := bne_iff_ne.mpr c30
          have H' := Aq9 H
          clear H
          have p4 : 0 ≤ (x4_1 : Int) := of_decide_eq_true tq9_2
          have q4 : x4_1 < (a0.size : Int) := of_decide_eq_true tq9_2
          have hx4 := bt_at a0 x4_1
          replace p4 := eq_true p4
          replace q4 := eq_true q4
          go_wp2
          go_roundg k1
          case measure => have := HK1.out; omega
          case rel => exact ⟨(x3_1), (wrap64 (x4_1 + 1)), tq9_1, H', ⟨(tq9_0 HK1.out)⟩, ⟨(tq9_4 HO_3.out)⟩, ⟨tq9_5⟩⟩
     ·rw [if_neg c5] at H
      have c5b0 : decide (97 ≤ (bt a0 x4_1)) = false := decide_eq_false c5
      clear c5
      by_cases c33 : (bt a0 x4_1) ≥ 65
      ·rw [if_pos c33] at H
       have c33b0 : decide (65 ≤ (bt a0 x4_1)) = true := decide_eq_true c33
       clear c33
       by_cases c34 : (bt a0 x4_1) ≤ 90
       ·rw [if_pos c34] at H
        have c34b0 : decide ((bt a0 x4_1) ≤ 90) = true := decide_eq_true c34
        clear c34
        by_cases c35 : x3_1.length < 140737488355328
        ·rw [if_pos c35] at H
         have LMc35 := Aq9 c35
         clear c35
         obtain ⟨y225, hy225⟩ : ∃ y_ : List Int, y_ = (x3_1 ++ [bt a0 x4_1]) := ⟨_, rfl⟩
         replace H : (usherlaw8_nameOf.l0 k1 a0 y225 (wrap64 (x4_1 + 1))) = some r := by first | (rw [hy225]; with_reducible exact H) | (have H2_ := (Option.bind_some _ _).symm.trans H; rw [hy225]; with_reducible exact H2_) | (have H2_ := (Option.bind_some _ _).symm.trans H; with_reducible exact H2_) | with_reducible exact H | (rw [hy225]; exact H) | exact H
         have Ny225 := Aq9 hy225
         clear hy225
         have H' := Aq9 H
         clear H
         have p4 : 0 ≤ (x4_1 : Int) := of_decide_eq_true tq9_2
         have q4 : x4_1 < (a0.size : Int) := of_decide_eq_true tq9_2
         have hx4 := bt_at a0 x4_1
         replace p4 := eq_true p4
         replace q4 := eq_true q4
         go_wp2_with (first | ((with_reducible refine gate_builtin (b := .append) (xs := #[.tmp 43, .tmp 45]) rfl ?_); at_builtin; refine Kd.R_append (Kd.int .u8) (w0 := w) w.heap.size rfl (.tmp 43) (.tmp 45) 61 5 (.int .u8 0) 1 rfl Tryd.underlying61 info5 rfl (by decide) (by omega) u3 x3_1 (bt a0 x4_1) [.int .u8 (bt a0 x4_1)] (fun _ => True) (fun _ => False) rfl rfl ?aP (fun _ hk => hk.elim) ?aF ?aO ?aB ?aS ?aL ?_; (case aP => exact rfl); (case aB => exact tq9_5); (case aF => exact (fun _ _ => trivial)); (case aO => exact (tq9_4 HO_3.out)); (case aS => exact (below_size tq9_5)); (case aL => have := LMc35.out; omega); intro v226 w36 ho hb hg hat; rw [← Ny225.out] at ho; have n0_ := Aq9 (hb); have n1_ := Aq9 (ho); clear HB; clear HO_3; have HB := n0_; have HO227 := n1_; clear n0_ n1_; clear ho hb hg hat))
         go_roundg k1
         case measure => have := HK1.out; omega
         case rel => exact ⟨(y225), (wrap64 (x4_1 + 1)), tq9_1, H', ⟨(tq9_0 HK1.out)⟩, ⟨(tq9_4 HO227.out)⟩, ⟨tq9_5⟩⟩
        ·rw [if_neg c35] at H
         exact absurd H (by simp)
       ·rw [if_neg c34] at H
        have c34b0 : decide ((bt a0 x4_1) ≤ 90) = false := decide_eq_false c34
        clear c34
        by_cases c37 : (bt a0 x4_1) ≥ 48
        ·rw [if_pos c37] at H
         have c37b0 : decide (48 ≤ (bt a0 x4_1)) = true := decide_eq_true c37
         clear c37
         by_cases c38 : (bt a0 x4_1) ≤ 57
         ·rw [if_pos c38] at H
          have c38b0 : decide ((bt a0 x4_1) ≤ 57) = true := decide_eq_true c38
          clear c38
          by_cases c39 : x3_1.length < 140737488355328
          ·rw [if_pos c39] at H
           have LMc39 := Aq9 c39
           clear c39
           obtain ⟨y228, hy228⟩ : ∃ y_ : List Int, y_ = (x3_1 ++ [bt a0 x4_1]) := ⟨_, rfl⟩
           replace H : (usherlaw8_nameOf.l0 k1 a0 y228 (wrap64 (x4_1 + 1))) = some r := by first | (rw [hy228]; with_reducible exact H) | (have H2_ := (Option.bind_some _ _).symm.trans H; rw [hy228]; with_reducible exact H2_) | (have H2_ := (Option.bind_some _ _).symm.trans H; with_reducible exact H2_) | with_reducible exact H | (rw [hy228]; exact H) | exact H
           have Ny228 := Aq9 hy228
           clear hy228
           have H' := Aq9 H
           clear H
           have p4 : 0 ≤ (x4_1 : Int) := of_decide_eq_true tq9_2
           have q4 : x4_1 < (a0.size : Int) := of_decide_eq_true tq9_2
           have hx4 := bt_at a0 x4_1
           replace p4 := eq_true p4
           replace q4 := eq_true q4
           go_wp2_with (first | ((with_reducible refine gate_builtin (b := .append) (xs := #[.tmp 43, .tmp 45]) rfl ?_); at_builtin; refine Kd.R_append (Kd.int .u8) (w0 := w) w.heap.size rfl (.tmp 43) (.tmp 45) 61 5 (.int .u8 0) 1 rfl Tryd.underlying61 info5 rfl (by decide) (by omega) u3 x3_1 (bt a0 x4_1) [.int .u8 (bt a0 x4_1)] (fun _ => True) (fun _ => False) rfl rfl ?aP (fun _ hk => hk.elim) ?aF ?aO ?aB ?aS ?aL ?_; (case aP => exact rfl); (case aB => exact tq9_5); (case aF => exact (fun _ _ => trivial)); (case aO => exact (tq9_4 HO_3.out)); (case aS => exact (below_size tq9_5)); (case aL => have := LMc39.out; omega); intro v229 w40 ho hb hg hat; rw [← Ny228.out] at ho; have n0_ := Aq9 (hb); have n1_ := Aq9 (ho); clear HB; clear HO_3; have HB := n0_; have HO230 := n1_; clear n0_ n1_; clear ho hb hg hat))
           go_roundg k1
           case measure => have := HK1.out; omega
           case rel => exact ⟨(y228), (wrap64 (x4_1 + 1)), tq9_1, H', ⟨(tq9_0 HK1.out)⟩, ⟨(tq9_4 HO230.out)⟩, ⟨tq9_5⟩⟩
          ·rw [if_neg c39] at H
           exact absurd H (by simp)
         ·rw [if_neg c38] at H
          have c38b0 : decide ((bt a0 x4_1) ≤ 57) = false := decide_eq_false c38
          clear c38
          by_cases c41 : (bt a0 x4_1) = 45
          ·rw [if_pos c41] at H
           have c41b0 : ((bt a0 x4_1) == 45) = true := beq_iff_eq.mpr c41
           have c41b1 : ((bt a0 x4_1) != 45) = false := bne_eq_false_iff_eq.mpr c41
           clear c41
           by_cases c42 : x3_1.length < 140737488355328
           ·rw [if_pos c42] at H
            have LMc42 := Aq9 c42
            clear c42
            obtain ⟨y231, hy231⟩ : ∃ y_ : List Int, y_ = (x3_1 ++ [bt a0 x4_1]) := ⟨_, rfl⟩
            replace H : (usherlaw8_nameOf.l0 k1 a0 y231 (wrap64 (x4_1 + 1))) = some r := by first | (rw [hy231]; with_reducible exact H) | (have H2_ := (Option.bind_some _ _).symm.trans H; rw [hy231]; with_reducible exact H2_) | (have H2_ := (Option.bind_some _ _).symm.trans H; with_reducible exact H2_) | with_reducible exact H | (rw [hy231]; exact H) | exact H
            have Ny231 := Aq9 hy231
            clear hy231
            have H' := Aq9 H
            clear H
            have p4 : 0 ≤ (x4_1 : Int) := of_decide_eq_true tq9_2
            have q4 : x4_1 < (a0.size : Int) := of_decide_eq_true tq9_2
            have hx4 := bt_at a0 x4_1
            replace p4 := eq_true p4
            replace q4 := eq_true q4
            go_wp2_with (first | ((with_reducible refine gate_builtin (b := .append) (xs := #[.tmp 43, .tmp 45]) rfl ?_); at_builtin; refine Kd.R_append (Kd.int .u8) (w0 := w) w.heap.size rfl (.tmp 43) (.tmp 45) 61 5 (.int .u8 0) 1 rfl Tryd.underlying61 info5 rfl (by decide) (by omega) u3 x3_1 (bt a0 x4_1) [.int .u8 (bt a0 x4_1)] (fun _ => True) (fun _ => False) rfl rfl ?aP (fun _ hk => hk.elim) ?aF ?aO ?aB ?aS ?aL ?_; (case aP => exact rfl); (case aB => exact tq9_5); (case aF => exact (fun _ _ => trivial)); (case aO => exact (tq9_4 HO_3.out)); (case aS => exact (below_size tq9_5)); (case aL => have := LMc42.out; omega); intro v232 w43 ho hb hg hat; rw [← Ny231.out] at ho; have n0_ := Aq9 (hb); have n1_ := Aq9 (ho); clear HB; clear HO_3; have HB := n0_; have HO233 := n1_; clear n0_ n1_; clear ho hb hg hat))
            go_roundg k1
            case measure => have := HK1.out; omega
            case rel => exact ⟨(y231), (wrap64 (x4_1 + 1)), tq9_1, H', ⟨(tq9_0 HK1.out)⟩, ⟨(tq9_4 HO233.out)⟩, ⟨tq9_5⟩⟩
           ·rw [if_neg c42] at H
            exact absurd H (by simp)
          ·rw [if_neg c41] at H
           have c41b0 : ((bt a0 x4_1) == 45) = false := beq_eq_false_iff_ne.mpr c41
           have c41b1 : ((bt a0 x4_1) != 45) = true := bne_iff_ne.mpr c41
           have H' := Aq9 H
           clear H
           have p4 : 0 ≤ (x4_1 : Int) := of_decide_eq_true tq9_2
           have q4 : x4_1 < (a0.size : Int) := of_decide_eq_true tq9_2
           have hx4 := bt_at a0 x4_1
           replace p4 := eq_true p4
           replace q4 := eq_true q4
           go_wp2
           go_roundg k1
           case measure => have := HK1.out; omega
           case rel => exact ⟨(x3_1), (wrap64 (x4_1 + 1)), tq9_1, H', ⟨(tq9_0 HK1.out)⟩, ⟨(tq9_4 HO_3.out)⟩, ⟨tq9_5⟩⟩
        ·rw [if_neg c37] at H
         have c37b0 : decide (48 ≤ (bt a0 x4_1)) = false := decide_eq_false c37
         clear c37
         by_cases c44 : (bt a0 x4_1) = 45
         ·rw [if_pos c44] at H
          have c44b0 : ((bt a0 x4_1) == 45) = true := beq_iff_eq.mpr c44
          have c44b1 : ((bt a0 x4_1) != 45) = false := bne_eq_false_iff_eq.mpr c44
          clear c44
          by_cases c45 : x3_1.length < 140737488355328
          ·rw [if_pos c45] at H
           have LMc45 := Aq9 c45
           clear c45
           obtain ⟨y234, hy234⟩ : ∃ y_ : List Int, y_ = (x3_1 ++ [bt a0 x4_1]) := ⟨_, rfl⟩
           replace H : (usherlaw8_nameOf.l0 k1 a0 y234 (wrap64 (x4_1 + 1))) = some r := by first | (rw [hy234]; with_reducible exact H) | (have H2_ := (Option.bind_some _ _).symm.trans H; rw [hy234]; with_reducible exact H2_) | (have H2_ := (Option.bind_some _ _).symm.trans H; with_reducible exact H2_) | with_reducible exact H | (rw [hy234]; exact H) | exact H
           have Ny234 := Aq9 hy234
           clear hy234
           have H' := Aq9 H
           clear H
           have p4 : 0 ≤ (x4_1 : Int) := of_decide_eq_true tq9_2
           have q4 : x4_1 < (a0.size : Int) := of_decide_eq_true tq9_2
           have hx4 := bt_at a0 x4_1
           replace p4 := eq_true p4
           replace q4 := eq_true q4
           go_wp2_with (first | ((with_reducible refine gate_builtin (b := .append) (xs := #[.tmp 43, .tmp 45]) rfl ?_); at_builtin; refine Kd.R_append (Kd.int .u8) (w0 := w) w.heap.size rfl (.tmp 43) (.tmp 45) 61 5 (.int .u8 0) 1 rfl Tryd.underlying61 info5 rfl (by decide) (by omega) u3 x3_1 (bt a0 x4_1) [.int .u8 (bt a0 x4_1)] (fun _ => True) (fun _ => False) rfl rfl ?aP (fun _ hk => hk.elim) ?aF ?aO ?aB ?aS ?aL ?_; (case aP => exact rfl); (case aB => exact tq9_5); (case aF => exact (fun _ _ => trivial)); (case aO => exact (tq9_4 HO_3.out)); (case aS => exact (below_size tq9_5)); (case aL => have := LMc45.out; omega); intro v235 w46 ho hb hg hat; rw [← Ny234.out] at ho; have n0_ := Aq9 (hb); have n1_ := Aq9 (ho); clear HB; clear HO_3; have HB := n0_; have HO236 := n1_; clear n0_ n1_; clear ho hb hg hat))
           go_roundg k1
           case measure => have := HK1.out; omega
           case rel => exact ⟨(y234), (wrap64 (x4_1 + 1)), tq9_1, H', ⟨(tq9_0 HK1.out)⟩, ⟨(tq9_4 HO236.out)⟩, ⟨tq9_5⟩⟩
          ·rw [if_neg c45] at H
           exact absurd H (by simp)
         ·rw [if_neg c44] at H
          have c44b0 : ((bt a0 x4_1) == 45) = false := beq_eq_false_iff_ne.mpr c44
          have c44b1 : ((bt a0 x4_1) != 45) = true := bne_iff_ne.mpr c44
          have H' := Aq9 H
          clear H
          have p4 : 0 ≤ (x4_1 : Int) := of_decide_eq_true tq9_2
          have q4 : x4_1 < (a0.size : Int) := of_decide_eq_true tq9_2
          have hx4 := bt_at a0 x4_1
          replace p4 := eq_true p4
          replace q4 := eq_true q4
          go_wp2
          go_roundg k1
          case measure => have := HK1.out; omega
          case rel => exact ⟨(x3_1), (wrap64 (x4_1 + 1)), tq9_1, H', ⟨(tq9_0 HK1.out)⟩, ⟨(tq9_4 HO_3.out)⟩, ⟨tq9_5⟩⟩
      ·rw [if_neg c33] at H
       have c33b0 : decide (65 ≤ (bt a0 x4_1)) = false := decide_eq_false c33
       clear c33
       by_cases c47 : (bt a0 x4_1) ≥ 48
       ·rw [if_pos c47] at H
        have c47b0 : decide (48 ≤ (bt a0 x4_1)) = true := decide_eq_true c47
        clear c47
        by_cases c48 : (bt a0 x4_1) ≤ 57
        ·rw [if_pos c48] at H
         have c48b0 : decide ((bt a0 x4_1) ≤ 57) = true := decide_eq_true c48
         clear c48
         by_cases c49 : x3_1.length < 140737488355328
         ·rw [if_pos c49] at H
          have LMc49 := Aq9 c49
          clear c49
          obtain ⟨y237, hy237⟩ : ∃ y_ : List Int, y_ = (x3_1 ++ [bt a0 x4_1]) := ⟨_, rfl⟩
          replace H : (usherlaw8_nameOf.l0 k1 a0 y237 (wrap64 (x4_1 + 1))) = some r := by first | (rw [hy237]; with_reducible exact H) | (have H2_ := (Option.bind_some _ _).symm.trans H; rw [hy237]; with_reducible exact H2_) | (have H2_ := (Option.bind_some _ _).symm.trans H; with_reducible exact H2_) | with_reducible exact H | (rw [hy237]; exact H) | exact H
          have Ny237 := Aq9 hy237
          clear hy237
          have H' := Aq9 H
          clear H
          have p4 : 0 ≤ (x4_1 : Int) := of_decide_eq_true tq9_2
          have q4 : x4_1 < (a0.size : Int) := of_decide_eq_true tq9_2
          have hx4 := bt_at a0 x4_1
          replace p4 := eq_true p4
          replace q4 := eq_true q4
          go_wp2_with (first | ((with_reducible refine gate_builtin (b := .append) (xs := #[.tmp 43, .tmp 45]) rfl ?_); at_builtin; refine Kd.R_append (Kd.int .u8) (w0 := w) w.heap.size rfl (.tmp 43) (.tmp 45) 61 5 (.int .u8 0) 1 rfl Tryd.underlying61 info5 rfl (by decide) (by omega) u3 x3_1 (bt a0 x4_1) [.int .u8 (bt a0 x4_1)] (fun _ => True) (fun _ => False) rfl rfl ?aP (fun _ hk => hk.elim) ?aF ?aO ?aB ?aS ?aL ?_; (case aP => exact rfl); (case aB => exact tq9_5); (case aF => exact (fun _ _ => trivial)); (case aO => exact (tq9_4 HO_3.out)); (case aS => exact (below_size tq9_5)); (case aL => have := LMc49.out; omega); intro v238 w50 ho hb hg hat; rw [← Ny237.out] at ho; have n0_ := Aq9 (hb); have n1_ := Aq9 (ho); clear HB; clear HO_3; have HB := n0_; have HO239 := n1_; clear n0_ n1_; clear ho hb hg hat))
          go_roundg k1
          case measure => have := HK1.out; omega
          case rel => exact ⟨(y237), (wrap64 (x4_1 + 1)), tq9_1, H', ⟨(tq9_0 HK1.out)⟩, ⟨(tq9_4 HO239.out)⟩, ⟨tq9_5⟩⟩
         ·rw [if_neg c49] at H
          exact absurd H (by simp)
        ·rw [if_neg c48] at H
         have c48b0 : decide ((bt a0 x4_1) ≤ 57) = false := decide_eq_false c48
         clear c48
         by_cases c51 : (bt a0 x4_1) = 45
         ·rw [if_pos c51] at H
          have c51b0 : ((bt a0 x4_1) == 45) = true := beq_iff_eq.mpr c51
          have c51b1 : ((bt a0 x4_1) != 45) = false := bne_eq_false_iff_eq.mpr c51
          clear c51
          by_cases c52 : x3_1.length < 140737488355328
          ·rw [if_pos c52] at H
           have LMc52 := Aq9 c52
           clear c52
           obtain ⟨y240, hy240⟩ : ∃ y_ : List Int, y_ = (x3_1 ++ [bt a0 x4_1]) := ⟨_, rfl⟩
           replace H : (usherlaw8_nameOf.l0 k1 a0 y240 (wrap64 (x4_1 + 1))) = some r := by first | (rw [hy240]; with_reducible exact H) | (have H2_ := (Option.bind_some _ _).symm.trans H; rw [hy240]; with_reducible exact H2_) | (have H2_ := (Option.bind_some _ _).symm.trans H; with_reducible exact H2_) | with_reducible exact H | (rw [hy240]; exact H) | exact H
           have Ny240 := Aq9 hy240
           clear hy240
           have H' := Aq9 H
           clear H
           have p4 : 0 ≤ (x4_1 : Int) := of_decide_eq_true tq9_2
           have q4 : x4_1 < (a0.size : Int) := of_decide_eq_true tq9_2
           have hx4 := bt_at a0 x4_1
           replace p4 := eq_true p4
           replace q4 := eq_true q4
           go_wp2_with (first | ((with_reducible refine gate_builtin (b := .append) (xs := #[.tmp 43, .tmp 45]) rfl ?_); at_builtin; refine Kd.R_append (Kd.int .u8) (w0 := w) w.heap.size rfl (.tmp 43) (.tmp 45) 61 5 (.int .u8 0) 1 rfl Tryd.underlying61 info5 rfl (by decide) (by omega) u3 x3_1 (bt a0 x4_1) [.int .u8 (bt a0 x4_1)] (fun _ => True) (fun _ => False) rfl rfl ?aP (fun _ hk => hk.elim) ?aF ?aO ?aB ?aS ?aL ?_; (case aP => exact rfl); (case aB => exact tq9_5); (case aF => exact (fun _ _ => trivial)); (case aO => exact (tq9_4 HO_3.out)); (case aS => exact (below_size tq9_5)); (case aL => have := LMc52.out; omega); intro v241 w53 ho hb hg hat; rw [← Ny240.out] at ho; have n0_ := Aq9 (hb); have n1_ := Aq9 (ho); clear HB; clear HO_3; have HB := n0_; have HO242 := n1_; clear n0_ n1_; clear ho hb hg hat))
           go_roundg k1
           case measure => have := HK1.out; omega
           case rel => exact ⟨(y240), (wrap64 (x4_1 + 1)), tq9_1, H', ⟨(tq9_0 HK1.out)⟩, ⟨(tq9_4 HO242.out)⟩, ⟨tq9_5⟩⟩
          ·rw [if_neg c52] at H
           exact absurd H (by simp)
         ·rw [if_neg c51] at H
          have c51b0 : ((bt a0 x4_1) == 45) = false := beq_eq_false_iff_ne.mpr c51
          have c51b1 : ((bt a0 x4_1) != 45) = true := bne_iff_ne.mpr c51
          have H' := Aq9 H
          clear H
          have p4 : 0 ≤ (x4_1 : Int) := of_decide_eq_true tq9_2
          have q4 : x4_1 < (a0.size : Int) := of_decide_eq_true tq9_2
          have hx4 := bt_at a0 x4_1
          replace p4 := eq_true p4
          replace q4 := eq_true q4
          go_wp2
          go_roundg k1
          case measure => have := HK1.out; omega
          case rel => exact ⟨(x3_1), (wrap64 (x4_1 + 1)), tq9_1, H', ⟨(tq9_0 HK1.out)⟩, ⟨(tq9_4 HO_3.out)⟩, ⟨tq9_5⟩⟩
       ·rw [if_neg c47] at H
        have c47b0 : decide (48 ≤ (bt a0 x4_1)) = false := decide_eq_false c47
        clear c47
        by_cases c54 : (bt a0 x4_1) = 45
        ·rw [if_pos c54] at H
         have c54b0 : ((bt a0 x4_1) == 45) = true := beq_iff_eq.mpr c54
         have c54b1 : ((bt a0 x4_1) != 45) = false := bne_eq_false_iff_eq.mpr c54
         clear c54
         by_cases c55 : x3_1.length < 140737488355328
         ·rw [if_pos c55] at H
          have LMc55 := Aq9 c55
          clear c55
          obtain ⟨y243, hy243⟩ : ∃ y_ : List Int, y_ = (x3_1 ++ [bt a0 x4_1]) := ⟨_, rfl⟩
          replace H : (usherlaw8_nameOf.l0 k1 a0 y243 (wrap64 (x4_1 + 1))) = some r := by first | (rw [hy243]; with_reducible exact H) | (have H2_ := (Option.bind_some _ _).symm.trans H; rw [hy243]; with_reducible exact H2_) | (have H2_ := (Option.bind_some _ _).symm.trans H; with_reducible exact H2_) | with_reducible exact H | (rw [hy243]; exact H) | exact H
          have Ny243 := Aq9 hy243
          clear hy243
          have H' := Aq9 H
          clear H
          have p4 : 0 ≤ (x4_1 : Int) := of_decide_eq_true tq9_2
          have q4 : x4_1 < (a0.size : Int) := of_decide_eq_true tq9_2
          have hx4 := bt_at a0 x4_1
          replace p4 := eq_true p4
          replace q4 := eq_true q4
          go_wp2_with (first | ((with_reducible refine gate_builtin (b := .append) (xs := #[.tmp 43, .tmp 45]) rfl ?_); at_builtin; refine Kd.R_append (Kd.int .u8) (w0 := w) w.heap.size rfl (.tmp 43) (.tmp 45) 61 5 (.int .u8 0) 1 rfl Tryd.underlying61 info5 rfl (by decide) (by omega) u3 x3_1 (bt a0 x4_1) [.int .u8 (bt a0 x4_1)] (fun _ => True) (fun _ => False) rfl rfl ?aP (fun _ hk => hk.elim) ?aF ?aO ?aB ?aS ?aL ?_; (case aP => exact rfl); (case aB => exact tq9_5); (case aF => exact (fun _ _ => trivial)); (case aO => exact (tq9_4 HO_3.out)); (case aS => exact (below_size tq9_5)); (case aL => have := LMc55.out; omega); intro v244 w56 ho hb hg hat; rw [← Ny243.out] at ho; have n0_ := Aq9 (hb); have n1_ := Aq9 (ho); clear HB; clear HO_3; have HB := n0_; have HO245 := n1_; clear n0_ n1_; clear ho hb hg hat))
          go_roundg k1
          case measure => have := HK1.out; omega
          case rel => exact ⟨(y243), (wrap64 (x4_1 + 1)), tq9_1, H', ⟨(tq9_0 HK1.out)⟩, ⟨(tq9_4 HO245.out)⟩, ⟨tq9_5⟩⟩
         ·rw [if_neg c55] at H
          exact absurd H (by simp)
        ·rw [if_neg c54] at H
         have c54b0 : ((bt a0 x4_1) == 45) = false := beq_eq_false_iff_ne.mpr c54
         have c54b1 : ((bt a0 x4_1) != 45) = true := bne_iff_ne.mpr c54
         have H' := Aq9 H
         clear H
         have p4 : 0 ≤ (x4_1 : Int) := of_decide_eq_true tq9_2
         have q4 : x4_1 < (a0.size : Int) := of_decide_eq_true tq9_2
         have hx4 := bt_at a0 x4_1
         replace p4 := eq_true p4
         replace q4 := eq_true q4
         go_wp2
         go_roundg k1
         case measure => have := HK1.out; omega
         case rel => exact ⟨(x3_1), (wrap64 (x4_1 + 1)), tq9_1, H', ⟨(tq9_0 HK1.out)⟩, ⟨(tq9_4 HO_3.out)⟩, ⟨tq9_5⟩⟩
    ·rw [if_neg c3] at H
     exact absurd H (by simp)
   ·rw [if_neg c2] at H
    have c2b0 : decide (x4_1 < (a0.size : Int)) = false := decide_eq_false c2
    clear c2
    replace H := Option.bind_eq_some_iff.mp H
    obtain ⟨t246, A570, H⟩ := H
    replace H : (if (strOfNums x3_1).toList = ([] : List UInt8) then (if 1 + (strOfNums x3_1).size ≤ 9223372036854775807 then (some ((⟨#[120]⟩ : ByteArray) ++ (strOfNums x3_1))) else (none)) else (if t246 = true then (if 1 + (strOfNums x3_1).size ≤ 9223372036854775807 then (some ((⟨#[120]⟩ : ByteArray) ++ (strOfNums x3_1))) else (none)) else (some (strOfNums x3_1)))) = some r := H
    have A57 := Aq9 A570
    clear A570
    by_cases c58 : (strOfNums x3_1).toList = ([] : List UInt8)
    ·rw [if_pos c58] at H
     have c58b0 : ((strOfNums x3_1).toList == ([] : List UInt8)) = true := beq_iff_eq.mpr c58
     have c58b1 : ((strOfNums x3_1).toList != ([] : List UInt8)) = false := bne_eq_false_iff_eq.mpr c58
     clear c58
     by_cases c59 : 1 + (strOfNums x3_1).size ≤ 9223372036854775807
     ·rw [if_pos c59] at H
      have c59b0 := eq_true c59
      have c59b1 : decide (1 + (strOfNums x3_1).size ≤ 9223372036854775807) = true := decide_eq_true c59
      try have c59b2 : (9223372036854775807 < 1 + (strOfNums x3_1).size) = False := eq_false (Nat.not_lt.2 c59)
      obtain rfl := Option.some.inj H
      have hcv60 := own_string (P := Tryd.prog) Tryd.underlying61 Tryd.underlying5 Tryd.underlying9 (Kd.own_of_R HO_3.out)
      go_wp2_with (first | ((with_reducible refine gate_callee (f := 45) rfl ?_); refine goesL_ (some 50) rfl rfl Tryd.func45 (by kernel_rfl) rfl #[.string (strOfNums x3_1)] rfl tq9_6 ?_; (with_reducible refine (usherlaw8_own.calls k1 (strOfNums x3_1) t246 _ A57.out).mono ?_); rintro e w61 ⟨rfl, hb⟩; refine ⟨_, rfl, ?_⟩; replace HO_3 := Aq9 (Kd.R_below (tq9_4 HO_3.out) hb); replace HB := Aq9 (below_step tq9_5 hb); (try clear hb); (try clear hb2); (try clear hk); (try clear hi)))
      go_ret
      exact ⟨tq9_3, tq9_5⟩
     ·rw [if_neg c59] at H
      exact absurd H (by simp)
    ·rw [if_neg c58] at H
     have c58b0 : ((strOfNums x3_1).toList == ([] : List UInt8)) = false := beq_eq_false_iff_ne.mpr c58
     have c58b1 : ((strOfNums x3_1).toList != ([] : List UInt8)) = true := bne_iff_ne.mpr c58
     by_cases c62 : t246 = true
     ·subst c62
      have H1 : (if 1 + (strOfNums x3_1).size ≤ 9223372036854775807 then (some ((⟨#[120]⟩ : ByteArray) ++ (strOfNums x3_1))) else (none)) = some r := by rw [if_pos rfl] at H; exact H
      clear H
      have H := H1
      clear H1
      by_cases c63 : 1 + (strOfNums x3_1).size ≤ 9223372036854775807
      ·rw [if_pos c63] at H
       have c63b0 := eq_true c63
       have c63b1 : decide (1 + (strOfNums x3_1).size ≤ 9223372036854775807) = true := decide_eq_true c63
       try have c63b2 : (9223372036854775807 < 1 + (strOfNums x3_1).size) = False := eq_false (Nat.not_lt.2 c63)
       obtain rfl := Option.some.inj H
       have hcv64 := own_string (P := Tryd.prog) Tryd.underlying61 Tryd.underlying5 Tryd.underlying9 (Kd.own_of_R HO_3.out)
       go_wp2_with (first | ((with_reducible refine gate_callee (f := 45) rfl ?_); refine goesL_ (some 50) rfl rfl Tryd.func45 (by kernel_rfl) rfl #[.string (strOfNums x3_1)] rfl tq9_6 ?_; (with_reducible refine (usherlaw8_own.calls k1 (strOfNums x3_1) true _ A57.out).mono ?_); rintro e w65 ⟨rfl, hb⟩; refine ⟨_, rfl, ?_⟩; replace HO_3 := Aq9 (Kd.R_below (tq9_4 HO_3.out) hb); replace HB := Aq9 (below_step tq9_5 hb); (try clear hb); (try clear hb2); (try clear hk); (try clear hi)))
       go_ret
       exact ⟨tq9_3, tq9_5⟩
      ·rw [if_neg c63] at H
       exact absurd H (by simp)
     ·replace c62 := Bool.eq_false_iff.mpr c62
      subst c62
      have H1 : (some (strOfNums x3_1)) = some r := by rw [if_neg (show ¬ (false = true) by decide)] at H; exact H
      clear H
      have H := H1
      clear H1
      obtain rfl := Option.some.inj H
      have hcv66 := own_string (P := Tryd.prog) Tryd.underlying61 Tryd.underlying5 Tryd.underlying9 (Kd.own_of_R HO_3.out)
      go_wp2_with (first | ((with_reducible refine gate_callee (f := 45) rfl ?_); refine goesL_ (some 50) rfl rfl Tryd.func45 (by kernel_rfl) rfl #[.string (strOfNums x3_1)] rfl tq9_6 ?_; (with_reducible refine (usherlaw8_own.calls k1 (strOfNums x3_1) false _ A57.out).mono ?_); rintro e w67 ⟨rfl, hb⟩; refine ⟨_, rfl, ?_⟩; replace HO_3 := Aq9 (Kd.R_below (tq9_4 HO_3.out) hb); replace HB := Aq9 (below_step tq9_5 hb); (try clear hb); (try clear hb2); (try clear hk); (try clear hi)))
      go_ret
      exact ⟨tq9_3, tq9_5⟩

end Go.Proofs.YtdlfdmbaejhaaaaDoor.Q
