/- The plain Lean functions that calls of the program answer, and proofs that they do. Printed by program out of the translation; Lean checks it. -/
import Derived.Test.YtbkhgmmlacdhoaaDoorQ0
import Derived.Test.YtbkhgmmlacdhoaaDoorQ5
import Derived.Test.YtbkhgmmlacdhoaaDoorQ6
import Derived.Test.YtbkhgmmlacdhoaaDoorQ7
import Derived.Test.YtbkhgmmlacdhoaaDoorCkText
import Derived.Test.YtbkhgmmlacdhoaaDoorKept6
import Derived.Test.YtbkhgmmlacdhoaaDoorNum
namespace Go.Proofs.YtbkhgmmlacdhoaaDoor.Q
open Go.RowKit Go.Proofs.YtbkhgmmlacdhoaaDoorW.PrintWords Go.Proofs.YtbkhgmmlacdhoaaDoorW.PrintLast Go.Proofs.YtbkhgmmlacdhoaaDoorW.PrintMore
attribute [local go_sem] max2_int min2_int max_two min_two max_three min_three max_four min_four   -- for this text's walks alone
set_option linter.unusedVariables false
set_option linter.unusedSimpArgs false

/-! ### usherlaw6_FieldCookieTexts: function 5 -/
def usherlaw6_FieldCookieTexts.j0 : Nat → List (S71) → List (S71) → Bool → Option (Bool)
  | 0, _, _, _ => none
  | k + 1, x0, x3, x38 => if x38 = true then (some false) else (if 0 ≤ (x0.length : Int) then (if (x0.length : Int) ≤ (x3.length : Int) then ((usherlaw6_turn.f k (x3.take ((x0.length : Int) : Int).toNat)).bind fun t184 => ((field_CookieText.f k t184).bind fun bt187 => ((usherlaw6_copied.f k x0).bind fun t189 => ((usherlaw6_turn.f k t189).bind fun t192 => ((usherref6_CookieText.f k t192).bind fun bt195 => (if bt187.1.toList = bt195.1.toList then ((usherkit_Num.f bt187.2).bind fun t197 => (some (t197 == bt195.2))) else (some false))))))) else (none)) else (none))
def usherlaw6_FieldCookieTexts.f (k : Nat) (l0 : List (S71)) : Option (Bool) := (usherlaw6_spare.f k l0).bind fun t165 => (if 0 ≤ (l0.length : Int) then (if (l0.length : Int) ≤ (t165.length : Int) then ((field_CookieText.f k (t165.take ((l0.length : Int) : Int).toNat)).bind fun bt172 => ((usherlaw6_copied.f k l0).bind fun t174 => ((usherref6_CookieText.f k t174).bind fun bt177 => (if bt172.1.toList = bt177.1.toList then ((usherkit_Num.f bt172.2).bind fun t179 => (if t179 = bt177.2 then ((usherlaw6_kept.f k t165 l0).bind fun t180 => (usherlaw6_FieldCookieTexts.j0 k l0 t165 (!t180))) else (usherlaw6_FieldCookieTexts.j0 k l0 t165 true))) else (usherlaw6_FieldCookieTexts.j0 k l0 t165 true))))) else (none)) else (none))
theorem usherlaw6_FieldCookieTexts.mono_l : ∀ k, (∀ y0 y1 y2, LeO (usherlaw6_FieldCookieTexts.j0 k y0 y1 y2) (usherlaw6_FieldCookieTexts.j0 (k + 1) y0 y1 y2))
  | 0 => fun _ _ _ r h => by simp [usherlaw6_FieldCookieTexts.j0] at h
  | k + 1 => by
    have ih0 := usherlaw6_FieldCookieTexts.mono_l k
    · intro y0 y1 y2
      unfold usherlaw6_FieldCookieTexts.j0
      repeat' first
      | (with_reducible exact ih0 _ _ _)
      | (with_reducible exact field_CookieText.mono _ _)
      | (with_reducible exact usherlaw6_copied.mono _ _)
      | (with_reducible exact usherlaw6_kept.mono _ _ _)
      | (with_reducible exact usherlaw6_spare.mono _ _)
      | (with_reducible exact usherlaw6_turn.mono _ _)
      | (with_reducible exact usherref6_CookieText.mono _ _)
      | (with_reducible exact LeO.refl _)
      | (with_reducible exact LeO.none _)
      | (with_reducible refine LeO.ite ?_ ?_)
      | (with_reducible refine LeO.bind ?_ (fun _ => ?_))
      | exact ih0 _ _ _
      | exact field_CookieText.mono _ _
      | exact usherlaw6_copied.mono _ _
      | exact usherlaw6_kept.mono _ _ _
      | exact usherlaw6_spare.mono _ _
      | exact usherlaw6_turn.mono _ _
      | exact usherref6_CookieText.mono _ _
      | exact LeO.none _
      | refine LeO.ite ?_ ?_
      | refine LeO.bind ?_ (fun _ => ?_)
theorem usherlaw6_FieldCookieTexts.mono : ∀ a0 k, LeO (usherlaw6_FieldCookieTexts.f k a0) (usherlaw6_FieldCookieTexts.f (k + 1) a0) := by
  intro a0 k
  have ih0 := usherlaw6_FieldCookieTexts.mono_l k
  unfold usherlaw6_FieldCookieTexts.f
  repeat' first
      | (with_reducible exact ih0 _ _ _)
      | (with_reducible exact field_CookieText.mono _ _)
      | (with_reducible exact usherlaw6_copied.mono _ _)
      | (with_reducible exact usherlaw6_kept.mono _ _ _)
      | (with_reducible exact usherlaw6_spare.mono _ _)
      | (with_reducible exact usherlaw6_turn.mono _ _)
      | (with_reducible exact usherref6_CookieText.mono _ _)
      | (with_reducible exact LeO.refl _)
      | (with_reducible exact LeO.none _)
      | (with_reducible refine LeO.ite ?_ ?_)
      | (with_reducible refine LeO.bind ?_ (fun _ => ?_))
      | exact ih0 _ _ _
      | exact field_CookieText.mono _ _
      | exact usherlaw6_copied.mono _ _
      | exact usherlaw6_kept.mono _ _ _
      | exact usherlaw6_spare.mono _ _
      | exact usherlaw6_turn.mono _ _
      | exact usherref6_CookieText.mono _ _
      | exact LeO.none _
      | refine LeO.ite ?_ ?_
      | refine LeO.bind ?_ (fun _ => ?_)
set_option maxHeartbeats 8000000 in
set_option maxRecDepth 100000 in
theorem usherlaw6_FieldCookieTexts.calls [Sent] (k : Nat) (A0 : Option Addr) (c0 : Nat) (l0 : List (S71)) (r : Bool) (w : World) (hr0 : Kd.C k71 w A0 l0.length l0) (hc0 : l0.length ≤ c0) (h : usherlaw6_FieldCookieTexts.f k l0 = some r) (hG : Glob [0, 2, 3, 4, 5, 6, 7, 8, 9, 10, 11, 12, 13, 14, 999] w) :
    Calls Tryd.prog 5 #[.slice A0 l0.length c0] w fun e w' => e = .returned (.bool r) ∧ Below w.heap.size w w' := by
  have HG := Aside0.mk hG
  clear hG
  have HR0 := Aside0.mk hr0
  have HC0 := Aside0.mk hc0
  clear hr0 hc0
  have HB := Aside0.mk (Below.refl w.heap.size w)
  have H : ((usherlaw6_spare.f k l0).bind fun t165 => (if 0 ≤ (l0.length : Int) then (if (l0.length : Int) ≤ (t165.length : Int) then ((field_CookieText.f k (t165.take ((l0.length : Int) : Int).toNat)).bind fun bt172 => ((usherlaw6_copied.f k l0).bind fun t174 => ((usherref6_CookieText.f k t174).bind fun bt177 => (if bt172.1.toList = bt177.1.toList then ((usherkit_Num.f bt172.2).bind fun t179 => (if t179 = bt177.2 then ((usherlaw6_kept.f k t165 l0).bind fun t180 => (usherlaw6_FieldCookieTexts.j0 k l0 t165 (!t180))) else (usherlaw6_FieldCookieTexts.j0 k l0 t165 true))) else (usherlaw6_FieldCookieTexts.j0 k l0 t165 true))))) else (none)) else (none))) = some r := h
  clear h
  replace H := Option.bind_eq_some_iff.mp H
  obtain ⟨t165, A20, H⟩ := H
  replace H : (if 0 ≤ (l0.length : Int) then (if (l0.length : Int) ≤ (t165.length : Int) then ((field_CookieText.f k (t165.take ((l0.length : Int) : Int).toNat)).bind fun bt172 => ((usherlaw6_copied.f k l0).bind fun t174 => ((usherref6_CookieText.f k t174).bind fun bt177 => (if bt172.1.toList = bt177.1.toList then ((usherkit_Num.f bt172.2).bind fun t179 => (if t179 = bt177.2 then ((usherlaw6_kept.f k t165 l0).bind fun t180 => (usherlaw6_FieldCookieTexts.j0 k l0 t165 (!t180))) else (usherlaw6_FieldCookieTexts.j0 k l0 t165 true))) else (usherlaw6_FieldCookieTexts.j0 k l0 t165 true))))) else (none)) else (none)) = some r := H
  have A2 := Aside0.mk A20
  clear A20
  by_cases c3 : 0 ≤ (l0.length : Int)
  · rw [if_pos c3] at H
    have c3b0 := eq_true c3
    have c3b1 : decide (0 ≤ (l0.length : Int)) = true := decide_eq_true c3
    clear c3
    by_cases c4 : (l0.length : Int) ≤ (t165.length : Int)
    · rw [if_pos c4] at H
      have c4b0 := eq_true c4
      have c4b1 : decide ((l0.length : Int) ≤ (t165.length : Int)) = true := decide_eq_true c4
      clear c4
      obtain ⟨y168, hy168⟩ : ∃ y_ : List (S71), y_ = (t165.take ((l0.length : Int) : Int).toNat) := ⟨_, rfl⟩
      replace H : ((field_CookieText.f k y168).bind fun bt172 => ((usherlaw6_copied.f k l0).bind fun t174 => ((usherref6_CookieText.f k t174).bind fun bt177 => (if bt172.1.toList = bt177.1.toList then ((usherkit_Num.f bt172.2).bind fun t179 => (if t179 = bt177.2 then ((usherlaw6_kept.f k t165 l0).bind fun t180 => (usherlaw6_FieldCookieTexts.j0 k l0 t165 (!t180))) else (usherlaw6_FieldCookieTexts.j0 k l0 t165 true))) else (usherlaw6_FieldCookieTexts.j0 k l0 t165 true))))) = some r := by first | (rw [hy168]; with_reducible exact H) | (have H2_ := (Option.bind_some _ _).symm.trans H; rw [hy168]; with_reducible exact H2_) | (have H2_ := (Option.bind_some _ _).symm.trans H; with_reducible exact H2_) | with_reducible exact H | (rw [hy168]; exact H) | exact H
      have Ny168 := Aside0.mk hy168
      clear hy168
      replace H := Option.bind_eq_some_iff.mp H
      obtain ⟨⟨t172, t173⟩, A50, H⟩ := H
      replace H : ((usherlaw6_copied.f k l0).bind fun t174 => ((usherref6_CookieText.f k t174).bind fun bt177 => (if t172.toList = bt177.1.toList then ((usherkit_Num.f t173).bind fun t179 => (if t179 = bt177.2 then ((usherlaw6_kept.f k t165 l0).bind fun t180 => (usherlaw6_FieldCookieTexts.j0 k l0 t165 (!t180))) else (usherlaw6_FieldCookieTexts.j0 k l0 t165 true))) else (usherlaw6_FieldCookieTexts.j0 k l0 t165 true)))) = some r := H
      have A5 := Aside0.mk A50
      clear A50
      replace H := Option.bind_eq_some_iff.mp H
      obtain ⟨t174, A60, H⟩ := H
      replace H : ((usherref6_CookieText.f k t174).bind fun bt177 => (if t172.toList = bt177.1.toList then ((usherkit_Num.f t173).bind fun t179 => (if t179 = bt177.2 then ((usherlaw6_kept.f k t165 l0).bind fun t180 => (usherlaw6_FieldCookieTexts.j0 k l0 t165 (!t180))) else (usherlaw6_FieldCookieTexts.j0 k l0 t165 true))) else (usherlaw6_FieldCookieTexts.j0 k l0 t165 true))) = some r := H
      have A6 := Aside0.mk A60
      clear A60
      replace H := Option.bind_eq_some_iff.mp H
      obtain ⟨⟨t177, t178⟩, A70, H⟩ := H
      replace H : (if t172.toList = t177.toList then ((usherkit_Num.f t173).bind fun t179 => (if t179 = t178 then ((usherlaw6_kept.f k t165 l0).bind fun t180 => (usherlaw6_FieldCookieTexts.j0 k l0 t165 (!t180))) else (usherlaw6_FieldCookieTexts.j0 k l0 t165 true))) else (usherlaw6_FieldCookieTexts.j0 k l0 t165 true)) = some r := H
      have A7 := Aside0.mk A70
      clear A70
      have HC8 := Aside0.mk H
      clear H
      go_enter Tryd.func5, Tryd.ntmps5
      go_upto_region 4 with (first | ((with_reducible refine gate_callee (f := 21) rfl ?_); refine goesL_ (some 9) rfl rfl Tryd.func21 (by kernel_rfl) rfl #[.slice A0 l0.length c0] rfl (by (try simp only [List.map_toArray, List.map_cons, List.map_nil]); first | done | rfl | (simp only [List.length_drop, List.length_take]; rfl)) ?_; (with_reducible refine (usherlaw6_spare.calls k _ _ l0 t165 _ ?side1 ?side2 A2.out).mono ?_); (case side1 => repeat (first | exact HR0.out | (with_reducible refine Kd.C_alloc ?_ _) | (with_reducible refine Kd.C_drewN ?_ _) | (with_reducible refine Kd.C_drew ?_))); (case side2 => exact HC0.out); rintro e w9 ⟨v166, rfl, ho0, hb⟩; refine ⟨_, rfl, ?_⟩; have n0_ := Aside0.mk (Kd.R_lower ho0 (below_size (by repeat (first | (with_reducible first | exact HB.out | apply below_alloc | apply pw_below_drewN | apply below_drew1) | exact HB.out)))); have n1_ := Aside0.mk (below_step (by repeat (first | (with_reducible first | exact HB.out | apply below_alloc | apply pw_below_drewN | apply below_drew1) | exact HB.out)) hb); clear HB; have HO167 := n0_; have HB := n1_; clear n0_ n1_; (try clear hb); (try clear hb2); (try clear hk); (try clear hi); (try clear ho0); obtain ⟨Ao11, co11, eo11⟩ := Kd.R_slice HO167.out; subst eo11; have q10 : ((l0.length : Int) : Int) ≤ ((t165.length : Int) : Int) := of_decide_eq_true (by first | (with_reducible assumption) | assumption); obtain ⟨i010, hi010, _, hsz10, _⟩ := info_parts info71; have hroom10 : t165.length ≤ co11 := (Kd.R_reads' HO167.out).2.1; have hC10 : Kd.C k71 _ Ao11 t165.length t165 := (Kd.R_reads' HO167.out).2.2; have hcut10 := cut_to (P := Tryd.prog) 26 71 .i64 Tryd.underlying26 hi010 Ao11 t165.length co11 (l0.length : Int) (of_decide_eq_true (by first | (with_reducible assumption) | assumption)) q10 hroom10; have hr10 := Kd.C_take (m := ((l0.length : Int) : Int).toNat) hC10 (by omega); have hy10 : y168.length = ((l0.length : Int) : Int).toNat := (by rw [Ny168.out, List.length_take]; omega); rw [← Ny168.out] at hr10; rw [← hy10] at hcut10; have HR171 := Aside0.mk hr10; have HC171 := Aside0.mk (show y168.length ≤ co11 from by omega); clear hr10 hC10 hroom10 hi010 hsz10; have KY10 := Aside0.mk hy10; clear hy10; have KL10 := Aside0.mk (show ((l0.length : Int) : Int).toNat ≤ t165.length from by omega); replace q10 := eq_true q10) | ((with_reducible refine gate_callee (f := 22) rfl ?_); refine goesL_ (some 15) rfl rfl Tryd.func22 (by kernel_rfl) rfl #[.slice Ao11 y168.length co11] rfl (by (try simp only [List.map_toArray, List.map_cons, List.map_nil]); first | done | rfl | (simp only [List.length_drop, List.length_take]; rfl)) ?_; (with_reducible refine (field_CookieText.calls k _ _ y168 t172 t173 _ ?side1 ?side2 A5.out ?side3).mono ?_); (case side1 => repeat (first | exact (by repeat (first | (with_reducible exact HR171.out) | (with_reducible refine Kd.C_alloc ?_ _) | (with_reducible refine Kd.C_drewN ?_ _) | (with_reducible refine Kd.C_drew ?_) | exact HR171.out)) | (with_reducible refine Kd.C_alloc ?_ _) | (with_reducible refine Kd.C_drewN ?_ _) | (with_reducible refine Kd.C_drew ?_))); (case side2 => exact HC171.out); (case side3 => exact HG.out.step (by repeat (first | (with_reducible first | exact HB.out | apply below_alloc | apply pw_below_drewN | apply below_drew1) | exact HB.out)) rfl); rintro e w12 ⟨rfl, hb⟩; refine ⟨_, rfl, ?_⟩; have n0_ := Aside0.mk (Kd.R_below (by (with_reducible repeat (first | apply Kd.R_alloc | apply Kd.R_drewN | apply Kd.R_drew)); exact HO167.out) hb); have n1_ := Aside0.mk (Kd.C_below (by repeat (first | (with_reducible exact HR171.out) | (with_reducible refine Kd.C_alloc ?_ _) | (with_reducible refine Kd.C_drewN ?_ _) | (with_reducible refine Kd.C_drew ?_) | exact HR171.out)) hb); have n2_ := Aside0.mk (below_step (by repeat (first | (with_reducible first | exact HB.out | apply below_alloc | apply pw_below_drewN | apply below_drew1) | exact HB.out)) hb); clear HO167; clear HR171; clear HB; have HO167 := n0_; have HR171 := n1_; have HB := n2_; clear n0_ n1_ n2_; (try clear hb); (try clear hb2); (try clear hk); (try clear hi); (try simp only [errW_none, errW_some])) | ((with_reducible refine gate_callee (f := 24) rfl ?_); refine goesL_ (some 20) rfl rfl Tryd.func24 (by kernel_rfl) rfl #[.slice A0 l0.length c0] rfl (by (try simp only [List.map_toArray, List.map_cons, List.map_nil]); first | done | rfl | (simp only [List.length_drop, List.length_take]; rfl)) ?_; (with_reducible refine (usherlaw6_copied.calls k _ _ l0 t174 _ ?side1 ?side2 A6.out).mono ?_); (case side1 => repeat (first | exact (Kd.C_below HR0.out HB.out) | (with_reducible refine Kd.C_alloc ?_ _) | (with_reducible refine Kd.C_drewN ?_ _) | (with_reducible refine Kd.C_drew ?_))); (case side2 => exact HC0.out); rintro e w13 ⟨v175, rfl, ho0, hb⟩; refine ⟨_, rfl, ?_⟩; have n0_ := Aside0.mk (Kd.R_elder' (by (with_reducible repeat (first | apply Kd.R_alloc | apply Kd.R_drewN | apply Kd.R_drew)); exact HO167.out) (Kd.R_base ho0) hb); have n1_ := Aside0.mk (Kd.R_lower (Kd.R_new' ho0 (Kd.R_lt (by (with_reducible repeat (first | apply Kd.R_alloc | apply Kd.R_drewN | apply Kd.R_drew)); exact HO167.out))) (below_size (by repeat (first | (with_reducible first | exact HB.out | apply below_alloc | apply pw_below_drewN | apply below_drew1) | exact HB.out)))); have n2_ := Aside0.mk (Kd.C_below (by repeat (first | (with_reducible exact HR171.out) | (with_reducible refine Kd.C_alloc ?_ _) | (with_reducible refine Kd.C_drewN ?_ _) | (with_reducible refine Kd.C_drew ?_) | exact HR171.out)) hb); have n3_ := Aside0.mk (below_step (by repeat (first | (with_reducible first | exact HB.out | apply below_alloc | apply pw_below_drewN | apply below_drew1) | exact HB.out)) hb); clear HO167; clear HR171; clear HB; have HO167 := n0_; have HO176 := n1_; have HR171 := n2_; have HB := n3_; clear n0_ n1_ n2_ n3_; (try clear hb); (try clear hb2); (try clear hk); (try clear hi); (try clear ho0); obtain ⟨Ao14, co14, eo14⟩ := Kd.R_slice HO176.out; subst eo14) | ((with_reducible refine gate_callee (f := 23) rfl ?_); refine goesL_ (some 21) rfl rfl Tryd.func23 (by kernel_rfl) rfl #[.slice Ao14 t174.length co14] rfl (by (try simp only [List.map_toArray, List.map_cons, List.map_nil]); first | done | rfl | (simp only [List.length_drop, List.length_take]; rfl)) ?_; (with_reducible refine (usherref6_CookieText.calls k _ _ t174 t177 t178 _ ?side1 ?side2 A7.out).mono ?_); (case side1 => repeat (first | exact (Kd.R_reads' HO176.out).2.2 | (with_reducible refine Kd.C_alloc ?_ _) | (with_reducible refine Kd.C_drewN ?_ _) | (with_reducible refine Kd.C_drew ?_))); (case side2 => exact (Kd.R_reads' HO176.out).2.1); rintro e w' ⟨rfl, ⟨nd, rfl⟩⟩; refine ⟨_, rfl, ?_⟩))
      (try simp only [Act.put, List.setIfInBounds_toArray, List.set_cons_zero, List.set_cons_succ])
      go_cut [38] (fun v38 wc => ∃ (kq : Nat) (x38_7 : Bool), v38 = .bool x38_7 ∧ Aside0 (usherlaw6_FieldCookieTexts.j0 kq l0 t165 x38_7 = some r) ∧ Aside0 (kq ≤ k) ∧ Aside0 (Kd.R k71 71 wc w.heap.size (fun _ => True) (.slice Ao11 t165.length co11) t165) ∧ Aside0 (Kd.C k71 wc Ao11 y168.length y168) ∧ Aside0 (Below w.heap.size w wc))
      case first =>
        have H := HC8.out
        clear HC8
        by_cases c15 : t172.toList = t177.toList
        · rw [if_pos c15] at H
          have c15b0 : (t172.toList == t177.toList) = true := beq_iff_eq.mpr c15
          have c15b1 : (t172.toList != t177.toList) = false := bne_eq_false_iff_eq.mpr c15
          clear c15
          (first | rw [c15b0] | (simp only [i64_w, i32_w]; rw [c15b0]) | skip)
          replace H := Option.bind_eq_some_iff.mp H
          obtain ⟨t179, A160, H⟩ := H
          replace H : (if t179 = t178 then ((usherlaw6_kept.f k t165 l0).bind fun t180 => (usherlaw6_FieldCookieTexts.j0 k l0 t165 (!t180))) else (usherlaw6_FieldCookieTexts.j0 k l0 t165 true)) = some r := H
          have A16 := Aside0.mk A160
          clear A160
          by_cases c17 : t179 = t178
          · rw [if_pos c17] at H
            have c17b0 : (t179 == t178) = true := beq_iff_eq.mpr c17
            have c17b1 : (t179 != t178) = false := bne_eq_false_iff_eq.mpr c17
            clear c17
            replace H := Option.bind_eq_some_iff.mp H
            obtain ⟨t180, A180, H⟩ := H
            replace H : (usherlaw6_FieldCookieTexts.j0 k l0 t165 (!t180)) = some r := H
            have A18 := Aside0.mk A180
            clear A180
            have H' := Aside0.mk H
            clear H
            have CA16 := fun W (hG_ : Glob [0, 2, 3, 4, 5, 6, 7, 9, 10, 11, 12, 13, 14, 999] W) => usherkit_Num.calls t173 t179 W A16.out (hG_.sub rfl)
            try simp only [errW_none, errW_some] at CA16
            go_wp2_with (first | (go_at_call 25; (with_reducible refine (CA16 _ ?side1).mono ?_); (case side1 => exact HG.out.step (by repeat (first | (with_reducible first | exact HB.out | apply below_alloc | apply pw_below_drewN | apply below_drew1) | exact HB.out)) rfl); rintro e w' ⟨rfl, ⟨nd, rfl⟩⟩) | (go_at_call 26; (with_reducible refine (usherlaw6_kept.calls k _ _ t165 _ _ l0 t180 _ ?side1 ?side2 ?side3 ?side4 A18.out).mono ?_); (case side1 => repeat (first | exact (Kd.R_reads' HO167.out).2.2 | (with_reducible refine Kd.C_alloc ?_ _) | (with_reducible refine Kd.C_drewN ?_ _) | (with_reducible refine Kd.C_drew ?_))); (case side2 => exact (Kd.R_reads' HO167.out).2.1); (case side3 => repeat (first | exact (Kd.C_below HR0.out (by repeat (first | (with_reducible first | exact HB.out | apply below_alloc | apply pw_below_drewN | apply below_drew1) | exact HB.out))) | (with_reducible refine Kd.C_alloc ?_ _) | (with_reducible refine Kd.C_drewN ?_ _) | (with_reducible refine Kd.C_drew ?_))); (case side4 => exact HC0.out); rintro e w19 ⟨rfl, hb⟩; have n0_ := Aside0.mk (Kd.R_below (by (with_reducible repeat (first | apply Kd.R_alloc | apply Kd.R_drewN | apply Kd.R_drew)); exact HO167.out) hb); have n1_ := Aside0.mk (Kd.R_below (by (with_reducible repeat (first | apply Kd.R_alloc | apply Kd.R_drewN | apply Kd.R_drew)); exact HO176.out) hb); have n2_ := Aside0.mk (Kd.C_below (by repeat (first | (with_reducible exact HR171.out) | (with_reducible refine Kd.C_alloc ?_ _) | (with_reducible refine Kd.C_drewN ?_ _) | (with_reducible refine Kd.C_drew ?_) | exact HR171.out)) hb); have n3_ := Aside0.mk (below_step (by repeat (first | (with_reducible first | exact HB.out | apply below_alloc | apply pw_below_drewN | apply below_drew1) | exact HB.out)) hb); clear HO167; clear HO176; clear HR171; clear HB; have HO167 := n0_; have HO176 := n1_; have HR171 := n2_; have HB := n3_; clear n0_ n1_ n2_ n3_; (try clear hb); (try clear hb2); (try clear hk); (try clear hi)))
            go_meet
            case rel => exact ⟨_, (!t180), (by first | rfl | (simp; done) | (simp [*]; done)), H', ⟨by first | omega | exact Nat.le_refl _⟩, ⟨by (with_reducible repeat (first | apply Kd.R_alloc | apply Kd.R_drewN | apply Kd.R_drew)); exact Kd.R_mono HO167.out (fun _ hk => trivial)⟩, ⟨by repeat (first | (with_reducible exact HR171.out) | (with_reducible refine Kd.C_alloc ?_ _) | (with_reducible refine Kd.C_drewN ?_ _) | (with_reducible refine Kd.C_drew ?_) | exact HR171.out)⟩, ⟨by repeat (first | (with_reducible first | exact HB.out | apply below_alloc | apply pw_below_drewN | apply below_drew1) | exact HB.out)⟩⟩
          · rw [if_neg c17] at H
            have c17b0 : (t179 == t178) = false := beq_eq_false_iff_ne.mpr c17
            have c17b1 : (t179 != t178) = true := bne_iff_ne.mpr c17
            have H' := Aside0.mk H
            clear H
            have CA16 := fun W (hG_ : Glob [0, 2, 3, 4, 5, 6, 7, 9, 10, 11, 12, 13, 14, 999] W) => usherkit_Num.calls t173 t179 W A16.out (hG_.sub rfl)
            try simp only [errW_none, errW_some] at CA16
            go_wp2_with (first | (go_at_call 25; (with_reducible refine (CA16 _ ?side1).mono ?_); (case side1 => exact HG.out.step (by repeat (first | (with_reducible first | exact HB.out | apply below_alloc | apply pw_below_drewN | apply below_drew1) | exact HB.out)) rfl); rintro e w' ⟨rfl, ⟨nd, rfl⟩⟩))
            go_meet
            case rel => exact ⟨_, (true), (by first | rfl | (simp; done) | (simp [*]; done)), H', ⟨by first | omega | exact Nat.le_refl _⟩, ⟨by (with_reducible repeat (first | apply Kd.R_alloc | apply Kd.R_drewN | apply Kd.R_drew)); exact Kd.R_mono HO167.out (fun _ hk => trivial)⟩, ⟨by repeat (first | (with_reducible exact HR171.out) | (with_reducible refine Kd.C_alloc ?_ _) | (with_reducible refine Kd.C_drewN ?_ _) | (with_reducible refine Kd.C_drew ?_) | exact HR171.out)⟩, ⟨by repeat (first | (with_reducible first | exact HB.out | apply below_alloc | apply pw_below_drewN | apply below_drew1) | exact HB.out)⟩⟩
        · rw [if_neg c15] at H
          have c15b0 : (t172.toList == t177.toList) = false := beq_eq_false_iff_ne.mpr c15
          have c15b1 : (t172.toList != t177.toList) = true := bne_iff_ne.mpr c15
          (first | rw [c15b0] | (simp only [i64_w, i32_w]; rw [c15b0]) | skip)
          have H' := Aside0.mk H
          clear H
          go_wp2
          go_meet
          case rel => exact ⟨_, (true), (by first | rfl | (simp; done) | (simp [*]; done)), H', ⟨by first | omega | exact Nat.le_refl _⟩, ⟨by (with_reducible repeat (first | apply Kd.R_alloc | apply Kd.R_drewN | apply Kd.R_drew)); exact Kd.R_mono HO167.out (fun _ hk => trivial)⟩, ⟨by repeat (first | (with_reducible exact HR171.out) | (with_reducible refine Kd.C_alloc ?_ _) | (with_reducible refine Kd.C_drewN ?_ _) | (with_reducible refine Kd.C_drew ?_) | exact HR171.out)⟩, ⟨by repeat (first | (with_reducible first | exact HB.out | apply below_alloc | apply pw_below_drewN | apply below_drew1) | exact HB.out)⟩⟩
      case rest =>
        clear HC8
        try clear c1
        try clear q1
        try clear c2
        try clear p2
        try clear c3
        try clear c3b0
        try clear c3b1
        try clear c4
        try clear c4b0
        try clear c4b1
        try clear c5
        try clear q10
        try clear c15
        try clear c15b0
        try clear c15b1
        try clear c17
        try clear c17b0
        try clear c17b1
        try clear q10
        obtain ⟨kq, x38_7, rfl, HA, HJ7, HO_3, HR171, HB⟩ := hcut
        cases kq with
        | zero => exact absurd HA.out (by simp [usherlaw6_FieldCookieTexts.j0])
        | succ kj7 =>
          have H := HA.out
          clear HA
          simp only [usherlaw6_FieldCookieTexts.j0] at H
          by_cases c20 : x38_7 = true
          · subst c20
            have H1 : (some false) = some r := by rw [if_pos rfl] at H; exact H
            clear H
            have H := H1
            clear H1
            obtain rfl := Option.some.inj H
            go_wp2
            go_ret
            exact ⟨by first | rfl | (simp [errW_none, errW_some] <;> rfl) | (simp [*, errW_none, errW_some] <;> rfl), by repeat (first | (with_reducible first | exact HB.out | apply below_alloc | apply pw_below_drewN | apply below_drew1) | exact HB.out)⟩
          · replace c20 := Bool.eq_false_iff.mpr c20
            subst c20
            have H1 : (if 0 ≤ (l0.length : Int) then (if (l0.length : Int) ≤ (t165.length : Int) then ((usherlaw6_turn.f kj7 (t165.take ((l0.length : Int) : Int).toNat)).bind fun t184 => ((field_CookieText.f kj7 t184).bind fun bt187 => ((usherlaw6_copied.f kj7 l0).bind fun t189 => ((usherlaw6_turn.f kj7 t189).bind fun t192 => ((usherref6_CookieText.f kj7 t192).bind fun bt195 => (if bt187.1.toList = bt195.1.toList then ((usherkit_Num.f bt187.2).bind fun t197 => (some (t197 == bt195.2))) else (some false))))))) else (none)) else (none)) = some r := by rw [if_neg (show ¬ (false = true) by decide)] at H; exact H
            clear H
            have H := H1
            clear H1
            by_cases c21 : 0 ≤ (l0.length : Int)
            · rw [if_pos c21] at H
              have c21b0 := eq_true c21
              have c21b1 : decide (0 ≤ (l0.length : Int)) = true := decide_eq_true c21
              clear c21
              by_cases c22 : (l0.length : Int) ≤ (t165.length : Int)
              · rw [if_pos c22] at H
                have c22b0 := eq_true c22
                have c22b1 : decide ((l0.length : Int) ≤ (t165.length : Int)) = true := decide_eq_true c22
                clear c22
                obtain ⟨y181, hy181⟩ : ∃ y_ : List (S71), y_ = (t165.take ((l0.length : Int) : Int).toNat) := ⟨_, rfl⟩
                replace H : ((usherlaw6_turn.f kj7 y181).bind fun t184 => ((field_CookieText.f kj7 t184).bind fun bt187 => ((usherlaw6_copied.f kj7 l0).bind fun t189 => ((usherlaw6_turn.f kj7 t189).bind fun t192 => ((usherref6_CookieText.f kj7 t192).bind fun bt195 => (if bt187.1.toList = bt195.1.toList then ((usherkit_Num.f bt187.2).bind fun t197 => (some (t197 == bt195.2))) else (some false))))))) = some r := by first | (rw [hy181]; with_reducible exact H) | (have H2_ := (Option.bind_some _ _).symm.trans H; rw [hy181]; with_reducible exact H2_) | (have H2_ := (Option.bind_some _ _).symm.trans H; with_reducible exact H2_) | with_reducible exact H | (rw [hy181]; exact H) | exact H
                have Ny181 := Aside0.mk hy181
                clear hy181
                replace H := Option.bind_eq_some_iff.mp H
                obtain ⟨t184, A230, H⟩ := H
                replace H : ((field_CookieText.f kj7 t184).bind fun bt187 => ((usherlaw6_copied.f kj7 l0).bind fun t189 => ((usherlaw6_turn.f kj7 t189).bind fun t192 => ((usherref6_CookieText.f kj7 t192).bind fun bt195 => (if bt187.1.toList = bt195.1.toList then ((usherkit_Num.f bt187.2).bind fun t197 => (some (t197 == bt195.2))) else (some false)))))) = some r := H
                have A23 := Aside0.mk A230
                clear A230
                replace H := Option.bind_eq_some_iff.mp H
                obtain ⟨⟨t187, t188⟩, A240, H⟩ := H
                replace H : ((usherlaw6_copied.f kj7 l0).bind fun t189 => ((usherlaw6_turn.f kj7 t189).bind fun t192 => ((usherref6_CookieText.f kj7 t192).bind fun bt195 => (if t187.toList = bt195.1.toList then ((usherkit_Num.f t188).bind fun t197 => (some (t197 == bt195.2))) else (some false))))) = some r := H
                have A24 := Aside0.mk A240
                clear A240
                replace H := Option.bind_eq_some_iff.mp H
                obtain ⟨t189, A250, H⟩ := H
                replace H : ((usherlaw6_turn.f kj7 t189).bind fun t192 => ((usherref6_CookieText.f kj7 t192).bind fun bt195 => (if t187.toList = bt195.1.toList then ((usherkit_Num.f t188).bind fun t197 => (some (t197 == bt195.2))) else (some false)))) = some r := H
                have A25 := Aside0.mk A250
                clear A250
                replace H := Option.bind_eq_some_iff.mp H
                obtain ⟨t192, A260, H⟩ := H
                replace H : ((usherref6_CookieText.f kj7 t192).bind fun bt195 => (if t187.toList = bt195.1.toList then ((usherkit_Num.f t188).bind fun t197 => (some (t197 == bt195.2))) else (some false))) = some r := H
                have A26 := Aside0.mk A260
                clear A260
                replace H := Option.bind_eq_some_iff.mp H
                obtain ⟨⟨t195, t196⟩, A270, H⟩ := H
                replace H : (if t187.toList = t195.toList then ((usherkit_Num.f t188).bind fun t197 => (some (t197 == t196))) else (some false)) = some r := H
                have A27 := Aside0.mk A270
                clear A270
                by_cases c28 : t187.toList = t195.toList
                · rw [if_pos c28] at H
                  have c28b0 : (t187.toList == t195.toList) = true := beq_iff_eq.mpr c28
                  have c28b1 : (t187.toList != t195.toList) = false := bne_eq_false_iff_eq.mpr c28
                  clear c28
                  replace H := Option.bind_eq_some_iff.mp H
                  obtain ⟨t197, A290, H⟩ := H
                  replace H : (some (t197 == t196)) = some r := H
                  have A29 := Aside0.mk A290
                  clear A290
                  obtain rfl := Option.some.inj H
                  have q30 : ((l0.length : Int) : Int) ≤ ((t165.length : Int) : Int) := of_decide_eq_true (by first | (with_reducible assumption) | assumption)
                  obtain ⟨i030, hi030, _, hsz30, _⟩ := info_parts info71
                  (try clear hcut10)
                  have hcut30 := cut_to (P := Tryd.prog) 26 71 .i64 Tryd.underlying26 hi030 Ao11 t165.length co11 (l0.length : Int) (of_decide_eq_true (by first | (with_reducible assumption) | assumption)) q30 (Kd.R_reads' HO_3.out).2.1
                  have hr30 := Kd.R_take (m := ((l0.length : Int) : Int).toNat) HO_3.out (by omega)
                  have hy30 : y181.length = ((l0.length : Int) : Int).toNat := (by rw [Ny181.out, List.length_take]; omega)
                  rw [← Ny181.out] at hr30
                  rw [← hy30] at hr30 hcut30
                  clear hy30 hi030 hsz30 HO_3
                  have HO183 := Aside0.mk hr30
                  clear hr30
                  replace q30 := eq_true q30
                  go_wp2_with (first | ((with_reducible refine gate_callee (f := 27) rfl ?_); refine goesL_ (some 44) rfl rfl Tryd.func27 (by kernel_rfl) rfl #[.slice Ao11 y181.length co11] rfl (by (try simp only [List.map_toArray, List.map_cons, List.map_nil]); first | done | rfl | (simp only [List.length_drop, List.length_take]; rfl)) ?_; (with_reducible refine (usherlaw6_turn.calls kj7 (fun k_ => some k_ = (.slice Ao11 y181.length co11 : Value).ownBlock) (.slice Ao11 y181.length co11) y181 t184 w _ ?side1 ?side2 A23.out).mono ?_); (case side1 => repeat (first | (with_reducible first | exact HB.out | apply below_alloc | apply pw_below_drewN | apply below_drew1) | exact HB.out)); (case side2 => exact Kd.R_tight rfl HO183.out); rintro e w31 ⟨v185, rfl, ho0, hb, hkp⟩; refine ⟨_, rfl, ?_⟩; have n0_ := Aside0.mk (Kd.R_mono (ok' := fun k_ => True) ho0 (fun k_ hk_ => trivial)); have n1_ := Aside0.mk (hb); clear HB; clear HO183; have HO186 := n0_; have HB := n1_; clear n0_ n1_; (try clear hb); (try clear hkp); (try clear ho0); obtain ⟨Ao32, co32, eo32⟩ := Kd.R_slice HO186.out; subst eo32) | ((with_reducible refine gate_callee (f := 22) rfl ?_); refine goesL_ (some 45) rfl rfl Tryd.func22 (by kernel_rfl) rfl #[.slice Ao32 t184.length co32] rfl (by (try simp only [List.map_toArray, List.map_cons, List.map_nil]); first | done | rfl | (simp only [List.length_drop, List.length_take]; rfl)) ?_; (with_reducible refine (field_CookieText.calls kj7 _ _ t184 t187 t188 _ ?side1 ?side2 A24.out ?side3).mono ?_); (case side1 => repeat (first | exact (Kd.R_reads' HO186.out).2.2 | (with_reducible refine Kd.C_alloc ?_ _) | (with_reducible refine Kd.C_drewN ?_ _) | (with_reducible refine Kd.C_drew ?_))); (case side2 => exact (Kd.R_reads' HO186.out).2.1); (case side3 => exact HG.out.step (by repeat (first | (with_reducible first | exact HB.out | apply below_alloc | apply pw_below_drewN | apply below_drew1) | exact HB.out)) rfl); rintro e w33 ⟨rfl, hb⟩; refine ⟨_, rfl, ?_⟩; have n0_ := Aside0.mk (Kd.R_below (by (with_reducible repeat (first | apply Kd.R_alloc | apply Kd.R_drewN | apply Kd.R_drew)); exact HO186.out) hb); have n1_ := Aside0.mk (below_step (by repeat (first | (with_reducible first | exact HB.out | apply below_alloc | apply pw_below_drewN | apply below_drew1) | exact HB.out)) hb); clear HO186; clear HB; have HO186 := n0_; have HB := n1_; clear n0_ n1_; (try clear hb); (try clear hb2); (try clear hk); (try clear hi); (try simp only [errW_none, errW_some])) | ((with_reducible refine gate_callee (f := 24) rfl ?_); refine goesL_ (some 50) rfl rfl Tryd.func24 (by kernel_rfl) rfl #[.slice A0 l0.length c0] rfl (by (try simp only [List.map_toArray, List.map_cons, List.map_nil]); first | done | rfl | (simp only [List.length_drop, List.length_take]; rfl)) ?_; (with_reducible refine (usherlaw6_copied.calls kj7 _ _ l0 t189 _ ?side1 ?side2 A25.out).mono ?_); (case side1 => repeat (first | exact (Kd.C_below HR0.out HB.out) | (with_reducible refine Kd.C_alloc ?_ _) | (with_reducible refine Kd.C_drewN ?_ _) | (with_reducible refine Kd.C_drew ?_))); (case side2 => exact HC0.out); rintro e w34 ⟨v190, rfl, ho0, hb⟩; refine ⟨_, rfl, ?_⟩; have n0_ := Aside0.mk (Kd.R_elder' (by (with_reducible repeat (first | apply Kd.R_alloc | apply Kd.R_drewN | apply Kd.R_drew)); exact HO186.out) (Kd.R_base ho0) hb); have n1_ := Aside0.mk (Kd.R_lower (Kd.R_new' ho0 (Kd.R_lt (by (with_reducible repeat (first | apply Kd.R_alloc | apply Kd.R_drewN | apply Kd.R_drew)); exact HO186.out))) (below_size (by repeat (first | (with_reducible first | exact HB.out | apply below_alloc | apply pw_below_drewN | apply below_drew1) | exact HB.out)))); have n2_ := Aside0.mk (below_step (by repeat (first | (with_reducible first | exact HB.out | apply below_alloc | apply pw_below_drewN | apply below_drew1) | exact HB.out)) hb); clear HO186; clear HB; have HO186 := n0_; have HO191 := n1_; have HB := n2_; clear n0_ n1_ n2_; (try clear hb); (try clear hb2); (try clear hk); (try clear hi); (try clear ho0); obtain ⟨Ao35, co35, eo35⟩ := Kd.R_slice HO191.out; subst eo35) | ((with_reducible refine gate_callee (f := 27) rfl ?_); refine goesL_ (some 51) rfl rfl Tryd.func27 (by kernel_rfl) rfl #[.slice Ao35 t189.length co35] rfl (by (try simp only [List.map_toArray, List.map_cons, List.map_nil]); first | done | rfl | (simp only [List.length_drop, List.length_take]; rfl)) ?_; (with_reducible refine (usherlaw6_turn.calls kj7 (fun k_ => some k_ = (.slice Ao35 t189.length co35 : Value).ownBlock) (.slice Ao35 t189.length co35) t189 t192 w _ ?side1 ?side2 A26.out).mono ?_); (case side1 => repeat (first | (with_reducible first | exact HB.out | apply below_alloc | apply pw_below_drewN | apply below_drew1) | exact HB.out)); (case side2 => exact Kd.R_tight rfl HO191.out); rintro e w36 ⟨v193, rfl, ho0, hb, hkp⟩; refine ⟨_, rfl, ?_⟩; have n0_ := Aside0.mk (Kd.R_mono (ok' := fun k_ => some k_ ≠ (v193 : Value).ownBlock) (Kd.R_keptB (HO186.out) hkp (fun k_ hk_ hs_ => (hk_.2) hs_)) (fun k_ hk_ => fun e_ => Or.elim (ho0.1 k_ e_.symm) (fun hs_ => hk_.2.1 hs_) (fun hn_ => Nat.not_le.2 hk_.2.2 hn_))); have n1_ := Aside0.mk (Kd.R_mono (ok' := fun k_ => some k_ ≠ (.slice Ao32 t184.length co32 : Value).ownBlock) ho0 (fun k_ hk_ => Or.elim hk_ (fun hs_ => fun e_ => (((HO186.out).1 k_ e_.symm).2) hs_) (fun hn_ => (Kd.fresh' (Kd.R_lt (by (with_reducible repeat (first | apply Kd.R_alloc | apply Kd.R_drewN | apply Kd.R_drew)); exact HO186.out)) k_ hn_)))); have n2_ := Aside0.mk (hb); clear HO186; clear HB; clear HO191; have HO186 := n0_; have HO194 := n1_; have HB := n2_; clear n0_ n1_ n2_; (try clear hb); (try clear hkp); (try clear ho0); obtain ⟨Ao37, co37, eo37⟩ := Kd.R_slice HO194.out; subst eo37) | ((with_reducible refine gate_callee (f := 23) rfl ?_); refine goesL_ (some 52) rfl rfl Tryd.func23 (by kernel_rfl) rfl #[.slice Ao37 t192.length co37] rfl (by (try simp only [List.map_toArray, List.map_cons, List.map_nil]); first | done | rfl | (simp only [List.length_drop, List.length_take]; rfl)) ?_; (with_reducible refine (usherref6_CookieText.calls kj7 _ _ t192 t195 t196 _ ?side1 ?side2 A27.out).mono ?_); (case side1 => repeat (first | exact (Kd.R_reads' HO194.out).2.2 | (with_reducible refine Kd.C_alloc ?_ _) | (with_reducible refine Kd.C_drewN ?_ _) | (with_reducible refine Kd.C_drew ?_))); (case side2 => exact (Kd.R_reads' HO194.out).2.1); rintro e w' ⟨rfl, ⟨nd, rfl⟩⟩; refine ⟨_, rfl, ?_⟩; have CA29 := fun W (hG_ : Glob [0, 2, 3, 4, 5, 6, 7, 9, 10, 11, 12, 13, 14, 999] W) => usherkit_Num.calls t188 t197 W A29.out (hG_.sub rfl); try simp only [errW_none, errW_some] at CA29) | (go_at_call 25; (with_reducible refine (CA29 _ ?side1).mono ?_); (case side1 => exact HG.out.step (by repeat (first | (with_reducible first | exact HB.out | apply below_alloc | apply pw_below_drewN | apply below_drew1) | exact HB.out)) rfl); rintro e w' ⟨rfl, ⟨nd, rfl⟩⟩))
                  go_ret
                  exact ⟨by first | rfl | (simp [errW_none, errW_some] <;> rfl) | (simp [*, errW_none, errW_some] <;> rfl), by repeat (first | (with_reducible first | exact HB.out | apply below_alloc | apply pw_below_drewN | apply below_drew1) | exact HB.out)⟩
                · rw [if_neg c28] at H
                  have c28b0 : (t187.toList == t195.toList) = false := beq_eq_false_iff_ne.mpr c28
                  have c28b1 : (t187.toList != t195.toList) = true := bne_iff_ne.mpr c28
                  obtain rfl := Option.some.inj H
                  have q38 : ((l0.length : Int) : Int) ≤ ((t165.length : Int) : Int) := of_decide_eq_true (by first | (with_reducible assumption) | assumption)
                  obtain ⟨i038, hi038, _, hsz38, _⟩ := info_parts info71
                  (try clear hcut10)
                  (try clear hcut30)
                  have hcut38 := cut_to (P := Tryd.prog) 26 71 .i64 Tryd.underlying26 hi038 Ao11 t165.length co11 (l0.length : Int) (of_decide_eq_true (by first | (with_reducible assumption) | assumption)) q38 (Kd.R_reads' HO_3.out).2.1
                  have hr38 := Kd.R_take (m := ((l0.length : Int) : Int).toNat) HO_3.out (by omega)
                  have hy38 : y181.length = ((l0.length : Int) : Int).toNat := (by rw [Ny181.out, List.length_take]; omega)
                  rw [← Ny181.out] at hr38
                  rw [← hy38] at hr38 hcut38
                  clear hy38 hi038 hsz38 HO_3
                  have HO183 := Aside0.mk hr38
                  clear hr38
                  replace q38 := eq_true q38
                  go_wp2_with (first | ((with_reducible refine gate_callee (f := 27) rfl ?_); refine goesL_ (some 44) rfl rfl Tryd.func27 (by kernel_rfl) rfl #[.slice Ao11 y181.length co11] rfl (by (try simp only [List.map_toArray, List.map_cons, List.map_nil]); first | done | rfl | (simp only [List.length_drop, List.length_take]; rfl)) ?_; (with_reducible refine (usherlaw6_turn.calls kj7 (fun k_ => some k_ = (.slice Ao11 y181.length co11 : Value).ownBlock) (.slice Ao11 y181.length co11) y181 t184 w _ ?side1 ?side2 A23.out).mono ?_); (case side1 => repeat (first | (with_reducible first | exact HB.out | apply below_alloc | apply pw_below_drewN | apply below_drew1) | exact HB.out)); (case side2 => exact Kd.R_tight rfl HO183.out); rintro e w39 ⟨v185, rfl, ho0, hb, hkp⟩; refine ⟨_, rfl, ?_⟩; have n0_ := Aside0.mk (Kd.R_mono (ok' := fun k_ => True) ho0 (fun k_ hk_ => trivial)); have n1_ := Aside0.mk (hb); clear HB; clear HO183; have HO186 := n0_; have HB := n1_; clear n0_ n1_; (try clear hb); (try clear hkp); (try clear ho0); obtain ⟨Ao40, co40, eo40⟩ := Kd.R_slice HO186.out; subst eo40) | ((with_reducible refine gate_callee (f := 22) rfl ?_); refine goesL_ (some 45) rfl rfl Tryd.func22 (by kernel_rfl) rfl #[.slice Ao40 t184.length co40] rfl (by (try simp only [List.map_toArray, List.map_cons, List.map_nil]); first | done | rfl | (simp only [List.length_drop, List.length_take]; rfl)) ?_; (with_reducible refine (field_CookieText.calls kj7 _ _ t184 t187 t188 _ ?side1 ?side2 A24.out ?side3).mono ?_); (case side1 => repeat (first | exact (Kd.R_reads' HO186.out).2.2 | (with_reducible refine Kd.C_alloc ?_ _) | (with_reducible refine Kd.C_drewN ?_ _) | (with_reducible refine Kd.C_drew ?_))); (case side2 => exact (Kd.R_reads' HO186.out).2.1); (case side3 => exact HG.out.step (by repeat (first | (with_reducible first | exact HB.out | apply below_alloc | apply pw_below_drewN | apply below_drew1) | exact HB.out)) rfl); rintro e w41 ⟨rfl, hb⟩; refine ⟨_, rfl, ?_⟩; have n0_ := Aside0.mk (Kd.R_below (by (with_reducible repeat (first | apply Kd.R_alloc | apply Kd.R_drewN | apply Kd.R_drew)); exact HO186.out) hb); have n1_ := Aside0.mk (below_step (by repeat (first | (with_reducible first | exact HB.out | apply below_alloc | apply pw_below_drewN | apply below_drew1) | exact HB.out)) hb); clear HO186; clear HB; have HO186 := n0_; have HB := n1_; clear n0_ n1_; (try clear hb); (try clear hb2); (try clear hk); (try clear hi); (try simp only [errW_none, errW_some])) | ((with_reducible refine gate_callee (f := 24) rfl ?_); refine goesL_ (some 50) rfl rfl Tryd.func24 (by kernel_rfl) rfl #[.slice A0 l0.length c0] rfl (by (try simp only [List.map_toArray, List.map_cons, List.map_nil]); first | done | rfl | (simp only [List.length_drop, List.length_take]; rfl)) ?_; (with_reducible refine (usherlaw6_copied.calls kj7 _ _ l0 t189 _ ?side1 ?side2 A25.out).mono ?_); (case side1 => repeat (first | exact (Kd.C_below HR0.out HB.out) | (with_reducible refine Kd.C_alloc ?_ _) | (with_reducible refine Kd.C_drewN ?_ _) | (with_reducible refine Kd.C_drew ?_))); (case side2 => exact HC0.out); rintro e w42 ⟨v190, rfl, ho0, hb⟩; refine ⟨_, rfl, ?_⟩; have n0_ := Aside0.mk (Kd.R_elder' (by (with_reducible repeat (first | apply Kd.R_alloc | apply Kd.R_drewN | apply Kd.R_drew)); exact HO186.out) (Kd.R_base ho0) hb); have n1_ := Aside0.mk (Kd.R_lower (Kd.R_new' ho0 (Kd.R_lt (by (with_reducible repeat (first | apply Kd.R_alloc | apply Kd.R_drewN | apply Kd.R_drew)); exact HO186.out))) (below_size (by repeat (first | (with_reducible first | exact HB.out | apply below_alloc | apply pw_below_drewN | apply below_drew1) | exact HB.out)))); have n2_ := Aside0.mk (below_step (by repeat (first | (with_reducible first | exact HB.out | apply below_alloc | apply pw_below_drewN | apply below_drew1) | exact HB.out)) hb); clear HO186; clear HB; have HO186 := n0_; have HO191 := n1_; have HB := n2_; clear n0_ n1_ n2_; (try clear hb); (try clear hb2); (try clear hk); (try clear hi); (try clear ho0); obtain ⟨Ao43, co43, eo43⟩ := Kd.R_slice HO191.out; subst eo43) | ((with_reducible refine gate_callee (f := 27) rfl ?_); refine goesL_ (some 51) rfl rfl Tryd.func27 (by kernel_rfl) rfl #[.slice Ao43 t189.length co43] rfl (by (try simp only [List.map_toArray, List.map_cons, List.map_nil]); first | done | rfl | (simp only [List.length_drop, List.length_take]; rfl)) ?_; (with_reducible refine (usherlaw6_turn.calls kj7 (fun k_ => some k_ = (.slice Ao43 t189.length co43 : Value).ownBlock) (.slice Ao43 t189.length co43) t189 t192 w _ ?side1 ?side2 A26.out).mono ?_); (case side1 => repeat (first | (with_reducible first | exact HB.out | apply below_alloc | apply pw_below_drewN | apply below_drew1) | exact HB.out)); (case side2 => exact Kd.R_tight rfl HO191.out); rintro e w44 ⟨v193, rfl, ho0, hb, hkp⟩; refine ⟨_, rfl, ?_⟩; have n0_ := Aside0.mk (Kd.R_mono (ok' := fun k_ => some k_ ≠ (v193 : Value).ownBlock) (Kd.R_keptB (HO186.out) hkp (fun k_ hk_ hs_ => (hk_.2) hs_)) (fun k_ hk_ => fun e_ => Or.elim (ho0.1 k_ e_.symm) (fun hs_ => hk_.2.1 hs_) (fun hn_ => Nat.not_le.2 hk_.2.2 hn_))); have n1_ := Aside0.mk (Kd.R_mono (ok' := fun k_ => some k_ ≠ (.slice Ao40 t184.length co40 : Value).ownBlock) ho0 (fun k_ hk_ => Or.elim hk_ (fun hs_ => fun e_ => (((HO186.out).1 k_ e_.symm).2) hs_) (fun hn_ => (Kd.fresh' (Kd.R_lt (by (with_reducible repeat (first | apply Kd.R_alloc | apply Kd.R_drewN | apply Kd.R_drew)); exact HO186.out)) k_ hn_)))); have n2_ := Aside0.mk (hb); clear HO186; clear HB; clear HO191; have HO186 := n0_; have HO194 := n1_; have HB := n2_; clear n0_ n1_ n2_; (try clear hb); (try clear hkp); (try clear ho0); obtain ⟨Ao45, co45, eo45⟩ := Kd.R_slice HO194.out; subst eo45) | ((with_reducible refine gate_callee (f := 23) rfl ?_); refine goesL_ (some 52) rfl rfl Tryd.func23 (by kernel_rfl) rfl #[.slice Ao45 t192.length co45] rfl (by (try simp only [List.map_toArray, List.map_cons, List.map_nil]); first | done | rfl | (simp only [List.length_drop, List.length_take]; rfl)) ?_; (with_reducible refine (usherref6_CookieText.calls kj7 _ _ t192 t195 t196 _ ?side1 ?side2 A27.out).mono ?_); (case side1 => repeat (first | exact (Kd.R_reads' HO194.out).2.2 | (with_reducible refine Kd.C_alloc ?_ _) | (with_reducible refine Kd.C_drewN ?_ _) | (with_reducible refine Kd.C_drew ?_))); (case side2 => exact (Kd.R_reads' HO194.out).2.1); rintro e w' ⟨rfl, ⟨nd, rfl⟩⟩; refine ⟨_, rfl, ?_⟩))
                  go_ret
                  exact ⟨by first | rfl | (simp [errW_none, errW_some] <;> rfl) | (simp [*, errW_none, errW_some] <;> rfl), by repeat (first | (with_reducible first | exact HB.out | apply below_alloc | apply pw_below_drewN | apply below_drew1) | exact HB.out)⟩
              · rw [if_neg c22] at H
                exact absurd H (by simp)
            · rw [if_neg c21] at H
              exact absurd H (by simp)
    · rw [if_neg c4] at H
      exact absurd H (by simp)
  · rw [if_neg c3] at H
    exact absurd H (by simp)

-- NOT PRINTED: function 90 (strings_Builder_WriteByte)

-- NOT PRINTED: function 88 (radix_write)

-- NOT PRINTED: function 58 (radix_Std)

-- NOT PRINTED: function 89 (pct_isUnreserved)

-- NOT PRINTED: function 59 (pct_Escape)

-- NOT PRINTED: function 28 (field_BasicOf)

end Go.Proofs.YtbkhgmmlacdhoaaDoor.Q
