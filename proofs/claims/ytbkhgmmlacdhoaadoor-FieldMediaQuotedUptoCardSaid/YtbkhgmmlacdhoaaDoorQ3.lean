/- The plain Lean functions that calls of the program answer, and proofs that they do. Printed by program out of the translation; Lean checks it. -/
import Derived.Test.YtbkhgmmlacdhoaaDoorQ0
import Derived.Test.YtbkhgmmlacdhoaaDoorQ1
import Derived.Test.YtbkhgmmlacdhoaaDoorQ2
import Derived.Test.YtbkhgmmlacdhoaaDoorMediaF
namespace Go.Proofs.YtbkhgmmlacdhoaaDoor.Q
open Go.RowKit Go.Proofs.YtbkhgmmlacdhoaaDoorW.PrintWords Go.Proofs.YtbkhgmmlacdhoaaDoorW.PrintLast Go.Proofs.YtbkhgmmlacdhoaaDoorW.PrintMore
attribute [local go_sem] max2_int min2_int max_two min_two max_three min_three max_four min_four   -- for this text's walks alone
set_option linter.unusedVariables false
set_option linter.unusedSimpArgs false

/-! ### usherlaw6_FieldMediaQuoted: function 8 -/
mutual
def usherlaw6_FieldMediaQuoted.j0 : Nat → ByteArray → ByteArray → ByteArray → ByteArray → ByteArray → Option (Bool)
  | 0, _, _, _, _, _ => none
  | k + 1, x3, x136000, x136001, x136002, x136003 => if x136000.size + 1 ≤ 9223372036854775807 then (if (x136000 ++ (⟨#[47]⟩ : ByteArray)).size + x136001.size ≤ 9223372036854775807 then ((usherlaw6_quoted.f k x136003).bind fun bt137 => (if bt137.2 = true then (usherlaw6_FieldMediaQuoted.j1 k x3 ((x136000 ++ (⟨#[47]⟩ : ByteArray)) ++ x136001) bt137.1 x136000 x136001 x136002 x136003) else (usherlaw6_FieldMediaQuoted.j1 k x3 ((x136000 ++ (⟨#[47]⟩ : ByteArray)) ++ x136001) (⟨#[34, 34]⟩ : ByteArray) x136000 x136001 x136002 x136003))) else (none)) else (none)
def usherlaw6_FieldMediaQuoted.j1 : Nat → ByteArray → ByteArray → ByteArray → ByteArray → ByteArray → ByteArray → ByteArray → Option (Bool)
  | 0, _, _, _, _, _, _, _ => none
  | k + 1, x3, x4, x5, x136000, x136001, x136002, x136003 => if x4.size + 5 ≤ 9223372036854775807 then (if (x4 ++ (⟨#[32, 9, 59, 9, 32]⟩ : ByteArray)).size + x3.size ≤ 9223372036854775807 then (if ((x4 ++ (⟨#[32, 9, 59, 9, 32]⟩ : ByteArray)) ++ x3).size + 1 ≤ 9223372036854775807 then (if (((x4 ++ (⟨#[32, 9, 59, 9, 32]⟩ : ByteArray)) ++ x3) ++ (⟨#[61]⟩ : ByteArray)).size + x5.size ≤ 9223372036854775807 then (if ((((x4 ++ (⟨#[32, 9, 59, 9, 32]⟩ : ByteArray)) ++ x3) ++ (⟨#[61]⟩ : ByteArray)) ++ x5).size + 1 ≤ 9223372036854775807 then ((field_Media.f (((((x4 ++ (⟨#[32, 9, 59, 9, 32]⟩ : ByteArray)) ++ x3) ++ (⟨#[61]⟩ : ByteArray)) ++ x5) ++ (⟨#[59]⟩ : ByteArray))).bind fun bt139 => ((field_Token.f k x136000).bind fun t141 => (if t141 = true then ((field_Token.f k x136001).bind fun t142 => (usherlaw6_FieldMediaQuoted.j2 k x3 x4 x5 bt139.1 bt139.2 (!t142) x136000 x136001 x136002 x136003)) else (usherlaw6_FieldMediaQuoted.j2 k x3 x4 x5 bt139.1 bt139.2 true x136000 x136001 x136002 x136003)))) else (none)) else (none)) else (none)) else (none)) else (none)
def usherlaw6_FieldMediaQuoted.j2 : Nat → ByteArray → ByteArray → ByteArray → ByteArray → Option Int → Bool → ByteArray → ByteArray → ByteArray → ByteArray → Option (Bool)
  | 0, _, _, _, _, _, _, _, _, _, _ => none
  | k + 1, x3, x4, x5, x7, x8, x55, x136000, x136001, x136002, x136003 => if x55 = true then ((usherlaw6_broken.f k x136000 x136001).bind fun t143 => (if t143 = true then (if x8.isNone = true then (some false) else (if (x8.getD 0) = 2 then (some (x7.toList == ([] : List UInt8))) else (some false))) else (some true))) else (if x8.isNone = true then ((usherlaw6_lower.f k x4).bind fun t147 => (usherlaw6_FieldMediaQuoted.j3 k x3 x4 x5 x7 (x7.toList != t147.toList))) else (usherlaw6_FieldMediaQuoted.j3 k x3 x4 x5 x7 true))
def usherlaw6_FieldMediaQuoted.j3 : Nat → ByteArray → ByteArray → ByteArray → ByteArray → Bool → Option (Bool)
  | 0, _, _, _, _, _ => none
  | k + 1, x3, x4, x5, x7, x78 => if x78 = true then (some false) else ((field_Media.f x7).bind fun bt148 => (if x4.size + 1 ≤ 9223372036854775807 then (if (x4 ++ (⟨#[59]⟩ : ByteArray)).size + x3.size ≤ 9223372036854775807 then (if ((x4 ++ (⟨#[59]⟩ : ByteArray)) ++ x3).size + 2 ≤ 9223372036854775807 then ((usherlaw6_lower.f k x3).bind fun t150 => (if (((x4 ++ (⟨#[59]⟩ : ByteArray)) ++ x3) ++ (⟨#[61, 34]⟩ : ByteArray)).size + t150.size ≤ 9223372036854775807 then ((field_Media.f ((((x4 ++ (⟨#[59]⟩ : ByteArray)) ++ x3) ++ (⟨#[61, 34]⟩ : ByteArray)) ++ t150)).bind fun bt151 => (if ((x4 ++ (⟨#[59]⟩ : ByteArray)) ++ x3).size + 1 ≤ 9223372036854775807 then (if (((x4 ++ (⟨#[59]⟩ : ByteArray)) ++ x3) ++ (⟨#[61]⟩ : ByteArray)).size + x5.size ≤ 9223372036854775807 then (if ((((x4 ++ (⟨#[59]⟩ : ByteArray)) ++ x3) ++ (⟨#[61]⟩ : ByteArray)) ++ x5).size + 1 ≤ 9223372036854775807 then ((field_Media.f (((((x4 ++ (⟨#[59]⟩ : ByteArray)) ++ x3) ++ (⟨#[61]⟩ : ByteArray)) ++ x5) ++ (⟨#[32]⟩ : ByteArray))).bind fun bt153 => (if bt148.2.isNone = true then (if bt148.1.toList = x7.toList then (if bt151.2.isNone = true then (some false) else (if (bt151.2.getD 0) = 2 then (if bt153.2.isNone = true then (some false) else (if (bt153.2.getD 0) = 2 then (some true) else (some false))) else (some false))) else (some false)) else (some false))) else (none)) else (none)) else (none))) else (none))) else (none)) else (none)) else (none)))
end
def usherlaw6_FieldMediaQuoted.f (k : Nat) (a0_0 : ByteArray) (a0_1 : ByteArray) (a0_2 : ByteArray) (a0_3 : ByteArray) : Option (Bool) := (field_Token.f k a0_2).bind fun t136 => (if t136 = true then (usherlaw6_FieldMediaQuoted.j0 k a0_2 a0_0 a0_1 a0_2 a0_3) else (usherlaw6_FieldMediaQuoted.j0 k (⟨#[97]⟩ : ByteArray) a0_0 a0_1 a0_2 a0_3))
theorem usherlaw6_FieldMediaQuoted.mono_l : ∀ k, (∀ y0 y1 y2 y3 y4, LeO (usherlaw6_FieldMediaQuoted.j0 k y0 y1 y2 y3 y4) (usherlaw6_FieldMediaQuoted.j0 (k + 1) y0 y1 y2 y3 y4)) ∧ (∀ y0 y1 y2 y3 y4 y5 y6, LeO (usherlaw6_FieldMediaQuoted.j1 k y0 y1 y2 y3 y4 y5 y6) (usherlaw6_FieldMediaQuoted.j1 (k + 1) y0 y1 y2 y3 y4 y5 y6)) ∧ (∀ y0 y1 y2 y3 y4 y5 y6 y7 y8 y9, LeO (usherlaw6_FieldMediaQuoted.j2 k y0 y1 y2 y3 y4 y5 y6 y7 y8 y9) (usherlaw6_FieldMediaQuoted.j2 (k + 1) y0 y1 y2 y3 y4 y5 y6 y7 y8 y9)) ∧ (∀ y0 y1 y2 y3 y4, LeO (usherlaw6_FieldMediaQuoted.j3 k y0 y1 y2 y3 y4) (usherlaw6_FieldMediaQuoted.j3 (k + 1) y0 y1 y2 y3 y4))
  | 0 => ⟨fun _ _ _ _ _ r h => by simp [usherlaw6_FieldMediaQuoted.j0] at h, fun _ _ _ _ _ _ _ r h => by simp [usherlaw6_FieldMediaQuoted.j1] at h, fun _ _ _ _ _ _ _ _ _ _ r h => by simp [usherlaw6_FieldMediaQuoted.j2] at h, fun _ _ _ _ _ r h => by simp [usherlaw6_FieldMediaQuoted.j3] at h⟩
  | k + 1 => by
    obtain ⟨ih0, ih1, ih2, ih3⟩ := usherlaw6_FieldMediaQuoted.mono_l k
    refine ⟨?_, ?_, ?_, ?_⟩
    · intro y0 y1 y2 y3 y4
      unfold usherlaw6_FieldMediaQuoted.j0
      repeat' first
      | (with_reducible exact ih0 _ _ _ _ _)
      | (with_reducible exact ih1 _ _ _ _ _ _ _)
      | (with_reducible exact ih2 _ _ _ _ _ _ _ _ _ _)
      | (with_reducible exact ih3 _ _ _ _ _)
      | (with_reducible exact field_Token.mono _ _)
      | (with_reducible exact usherlaw6_broken.mono _ _ _)
      | (with_reducible exact usherlaw6_lower.mono _ _)
      | (with_reducible exact usherlaw6_quoted.mono _ _)
      | (with_reducible exact LeO.refl _)
      | (with_reducible exact LeO.none _)
      | (with_reducible refine LeO.ite ?_ ?_)
      | (with_reducible refine LeO.bind ?_ (fun _ => ?_))
      | exact ih0 _ _ _ _ _
      | exact ih1 _ _ _ _ _ _ _
      | exact ih2 _ _ _ _ _ _ _ _ _ _
      | exact ih3 _ _ _ _ _
      | exact field_Token.mono _ _
      | exact usherlaw6_broken.mono _ _ _
      | exact usherlaw6_lower.mono _ _
      | exact usherlaw6_quoted.mono _ _
      | exact LeO.none _
      | refine LeO.ite ?_ ?_
      | refine LeO.bind ?_ (fun _ => ?_)
    · intro y0 y1 y2 y3 y4 y5 y6
      unfold usherlaw6_FieldMediaQuoted.j1
      repeat' first
      | (with_reducible exact ih0 _ _ _ _ _)
      | (with_reducible exact ih1 _ _ _ _ _ _ _)
      | (with_reducible exact ih2 _ _ _ _ _ _ _ _ _ _)
      | (with_reducible exact ih3 _ _ _ _ _)
      | (with_reducible exact field_Token.mono _ _)
      | (with_reducible exact usherlaw6_broken.mono _ _ _)
      | (with_reducible exact usherlaw6_lower.mono _ _)
      | (with_reducible exact usherlaw6_quoted.mono _ _)
      | (with_reducible exact LeO.refl _)
      | (with_reducible exact LeO.none _)
      | (with_reducible refine LeO.ite ?_ ?_)
      | (with_reducible refine LeO.bind ?_ (fun _ => ?_))
      | exact ih0 _ _ _ _ _
      | exact ih1 _ _ _ _ _ _ _
      | exact ih2 _ _ _ _ _ _ _ _ _ _
      | exact ih3 _ _ _ _ _
      | exact field_Token.mono _ _
      | exact usherlaw6_broken.mono _ _ _
      | exact usherlaw6_lower.mono _ _
      | exact usherlaw6_quoted.mono _ _
      | exact LeO.none _
      | refine LeO.ite ?_ ?_
      | refine LeO.bind ?_ (fun _ => ?_)
    · intro y0 y1 y2 y3 y4 y5 y6 y7 y8 y9
      unfold usherlaw6_FieldMediaQuoted.j2
      repeat' first
      | (with_reducible exact ih0 _ _ _ _ _)
      | (with_reducible exact ih1 _ _ _ _ _ _ _)
      | (with_reducible exact ih2 _ _ _ _ _ _ _ _ _ _)
      | (with_reducible exact ih3 _ _ _ _ _)
      | (with_reducible exact field_Token.mono _ _)
      | (with_reducible exact usherlaw6_broken.mono _ _ _)
      | (with_reducible exact usherlaw6_lower.mono _ _)
      | (with_reducible exact usherlaw6_quoted.mono _ _)
      | (with_reducible exact LeO.refl _)
      | (with_reducible exact LeO.none _)
      | (with_reducible refine LeO.ite ?_ ?_)
      | (with_reducible refine LeO.bind ?_ (fun _ => ?_))
      | exact ih0 _ _ _ _ _
      | exact ih1 _ _ _ _ _ _ _
      | exact ih2 _ _ _ _ _ _ _ _ _ _
      | exact ih3 _ _ _ _ _
      | exact field_Token.mono _ _
      | exact usherlaw6_broken.mono _ _ _
      | exact usherlaw6_lower.mono _ _
      | exact usherlaw6_quoted.mono _ _
      | exact LeO.none _
      | refine LeO.ite ?_ ?_
      | refine LeO.bind ?_ (fun _ => ?_)
    · intro y0 y1 y2 y3 y4
      unfold usherlaw6_FieldMediaQuoted.j3
      repeat' first
      | (with_reducible exact ih0 _ _ _ _ _)
      | (with_reducible exact ih1 _ _ _ _ _ _ _)
      | (with_reducible exact ih2 _ _ _ _ _ _ _ _ _ _)
      | (with_reducible exact ih3 _ _ _ _ _)
      | (with_reducible exact field_Token.mono _ _)
      | (with_reducible exact usherlaw6_broken.mono _ _ _)
      | (with_reducible exact usherlaw6_lower.mono _ _)
      | (with_reducible exact usherlaw6_quoted.mono _ _)
      | (with_reducible exact LeO.refl _)
      | (with_reducible exact LeO.none _)
      | (with_reducible refine LeO.ite ?_ ?_)
      | (with_reducible refine LeO.bind ?_ (fun _ => ?_))
      | exact ih0 _ _ _ _ _
      | exact ih1 _ _ _ _ _ _ _
      | exact ih2 _ _ _ _ _ _ _ _ _ _
      | exact ih3 _ _ _ _ _
      | exact field_Token.mono _ _
      | exact usherlaw6_broken.mono _ _ _
      | exact usherlaw6_lower.mono _ _
      | exact usherlaw6_quoted.mono _ _
      | exact LeO.none _
      | refine LeO.ite ?_ ?_
      | refine LeO.bind ?_ (fun _ => ?_)
theorem usherlaw6_FieldMediaQuoted.mono : ∀ a0 a1 a2 a3 k, LeO (usherlaw6_FieldMediaQuoted.f k a0 a1 a2 a3) (usherlaw6_FieldMediaQuoted.f (k + 1) a0 a1 a2 a3) := by
  intro a0 a1 a2 a3 k
  obtain ⟨ih0, ih1, ih2, ih3⟩ := usherlaw6_FieldMediaQuoted.mono_l k
  unfold usherlaw6_FieldMediaQuoted.f
  repeat' first
      | (with_reducible exact ih0 _ _ _ _ _)
      | (with_reducible exact ih1 _ _ _ _ _ _ _)
      | (with_reducible exact ih2 _ _ _ _ _ _ _ _ _ _)
      | (with_reducible exact ih3 _ _ _ _ _)
      | (with_reducible exact field_Token.mono _ _)
      | (with_reducible exact usherlaw6_broken.mono _ _ _)
      | (with_reducible exact usherlaw6_lower.mono _ _)
      | (with_reducible exact usherlaw6_quoted.mono _ _)
      | (with_reducible exact LeO.refl _)
      | (with_reducible exact LeO.none _)
      | (with_reducible refine LeO.ite ?_ ?_)
      | (with_reducible refine LeO.bind ?_ (fun _ => ?_))
      | exact ih0 _ _ _ _ _
      | exact ih1 _ _ _ _ _ _ _
      | exact ih2 _ _ _ _ _ _ _ _ _ _
      | exact ih3 _ _ _ _ _
      | exact field_Token.mono _ _
      | exact usherlaw6_broken.mono _ _ _
      | exact usherlaw6_lower.mono _ _
      | exact usherlaw6_quoted.mono _ _
      | exact LeO.none _
      | refine LeO.ite ?_ ?_
      | refine LeO.bind ?_ (fun _ => ?_)
set_option maxHeartbeats 8000000 in
set_option maxRecDepth 100000 in
theorem usherlaw6_FieldMediaQuoted.calls [Sent] (k : Nat) (a0_0 : ByteArray) (a0_1 : ByteArray) (a0_2 : ByteArray) (a0_3 : ByteArray) (r : Bool) (w : World) (h : usherlaw6_FieldMediaQuoted.f k a0_0 a0_1 a0_2 a0_3 = some r) (hG : Glob [0, 8, 999] w) :
    Calls Tryd.prog 8 #[.agg #[.string a0_0, .string a0_1, .string a0_2, .string a0_3]] w fun e w' => e = .returned (.bool r) ∧ Below w.heap.size w w' := by
  have HG := Aside0.mk hG
  clear hG
  have hu44 := Tryd.underlying44
  have hu29 := Tryd.underlying29
  have hu155 := Tryd.underlying155
  have HB := Aside0.mk (Below.refl w.heap.size w)
  have H : ((field_Token.f k a0_2).bind fun t136 => (if t136 = true then (usherlaw6_FieldMediaQuoted.j0 k a0_2 a0_0 a0_1 a0_2 a0_3) else (usherlaw6_FieldMediaQuoted.j0 k (⟨#[97]⟩ : ByteArray) a0_0 a0_1 a0_2 a0_3))) = some r := h
  clear h
  replace H := Option.bind_eq_some_iff.mp H
  obtain ⟨t136, A20, H⟩ := H
  replace H : (if t136 = true then (usherlaw6_FieldMediaQuoted.j0 k a0_2 a0_0 a0_1 a0_2 a0_3) else (usherlaw6_FieldMediaQuoted.j0 k (⟨#[97]⟩ : ByteArray) a0_0 a0_1 a0_2 a0_3)) = some r := H
  have A2 := Aside0.mk A20
  clear A20
  have HC3 := Aside0.mk H
  clear H
  go_enter Tryd.func8, Tryd.ntmps8
  go_upto_if 17 with (first | ((with_reducible refine gate_dst (N := 1) rfl ?_); refine box_event ?hg (N := 1) ?hd (cs := #[.string a0_0, .string a0_1, .string a0_2, .string a0_3]) (t := 44) ?hr ?_; (case hd => rfl); (case hg => rfl); (case hr => first | (go_simp; done) | (go_simp; rfl)); intro gb135 hg w4 hbox hb; have n0_ := Aside0.mk (below_step (by repeat (first | (with_reducible first | exact HB.out | apply below_alloc | apply pw_below_drewN | apply below_drew1) | exact HB.out)) hb); have n1_ := Aside0.mk (hbox); have n2_ := Aside0.mk ((by rw [hg]; exact (below_size (by repeat (first | (with_reducible first | exact HB.out | apply below_alloc | apply pw_below_drewN | apply below_drew1) | exact HB.out))) : w.heap.size ≤ gb135)); have n3_ := Aside0.mk ((by rw [hg]; exact (below_size (by repeat (first | (with_reducible first | exact HB.out | apply below_alloc | apply pw_below_drewN | apply below_drew1) | exact HB.out))) : w.heap.size ≤ gb135)); clear HB; have HB := n0_; have BK135 := n1_; have GW135 := n2_; have GE135 := n3_; clear n0_ n1_ n2_ n3_; clear hb hbox hg; have hcz5_0 : w4.cell? ⟨gb135, 0, none⟩ = some (.string a0_0) := (blk_cell BK135.out 0).trans rfl; have hcz5_1 : w4.cell? ⟨gb135, 1, none⟩ = some (.string a0_1) := (blk_cell BK135.out 1).trans rfl; have hcz5_2 : w4.cell? ⟨gb135, 2, none⟩ = some (.string a0_2) := (blk_cell BK135.out 2).trans rfl; have hcz5_3 : w4.cell? ⟨gb135, 3, none⟩ = some (.string a0_3) := (blk_cell BK135.out 3).trans rfl; have hfz5_0 := blk_frozen BK135.out 0; have hfz5_1 := blk_frozen BK135.out 1; have hfz5_2 := blk_frozen BK135.out 2; have hfz5_3 := blk_frozen BK135.out 3) | ((with_reducible refine gate_callee (f := 15) rfl ?_); refine goesL_ (some 17) rfl rfl Tryd.func15 (by kernel_rfl) rfl #[.string a0_2] rfl (by (try simp only [List.map_toArray, List.map_cons, List.map_nil]); first | done | rfl | (simp only [List.length_drop, List.length_take]; rfl)) ?_; (with_reducible refine (field_Token.calls k a0_2 t136 _ A2.out ?side1).mono ?_); (case side1 => exact HG.out.step (by repeat (first | (with_reducible first | exact HB.out | apply below_alloc | apply pw_below_drewN | apply below_drew1 | refine below_set ?_ GE135.out) | exact HB.out)) rfl); rintro e w' ⟨rfl, ⟨nd, rfl⟩⟩; refine ⟨_, rfl, ?_⟩))
  (try simp only [Act.put, List.setIfInBounds_toArray, List.set_cons_zero, List.set_cons_succ])
  go_cut [3] (fun v3 wc => ∃ (kq : Nat) (x3_2 : ByteArray), v3 = .string x3_2 ∧ Aside0 (usherlaw6_FieldMediaQuoted.j0 kq x3_2 a0_0 a0_1 a0_2 a0_3 = some r) ∧ Aside0 (kq ≤ k) ∧ Aside0 (wc.heap[gb135]? = some (.cells #[.string a0_0, .string a0_1, .string a0_2, .string a0_3] 44 (0, 0))) ∧ Aside0 (Below w.heap.size w wc))
  case first =>
    have H := HC3.out
    clear HC3
    by_cases c6 : t136 = true
    · subst c6
      have H1 : (usherlaw6_FieldMediaQuoted.j0 k a0_2 a0_0 a0_1 a0_2 a0_3) = some r := by rw [if_pos rfl] at H; exact H
      clear H
      have H := H1
      clear H1
      have H' := Aside0.mk H
      clear H
      have hcz7_0 : w4.cell? ⟨gb135, 0, none⟩ = some (.string a0_0) := (blk_cell BK135.out 0).trans rfl
      have hcz7_1 : w4.cell? ⟨gb135, 1, none⟩ = some (.string a0_1) := (blk_cell BK135.out 1).trans rfl
      have hcz7_2 : w4.cell? ⟨gb135, 2, none⟩ = some (.string a0_2) := (blk_cell BK135.out 2).trans rfl
      have hcz7_3 : w4.cell? ⟨gb135, 3, none⟩ = some (.string a0_3) := (blk_cell BK135.out 3).trans rfl
      have hfz7_0 := blk_frozen BK135.out 0
      have hfz7_1 := blk_frozen BK135.out 1
      have hfz7_2 := blk_frozen BK135.out 2
      have hfz7_3 := blk_frozen BK135.out 3
      go_wp2
      go_meet
      case rel => exact ⟨_, (a0_2), (by first | rfl | (simp; done) | (simp [*]; done)), H', ⟨by first | omega | exact Nat.le_refl _⟩, ⟨by (with_reducible repeat (first | refine blk_drewN ?_ _ | refine blk_drew ?_ | refine blk_alloc ?_ _)); exact BK135.out⟩, ⟨by repeat (first | (with_reducible first | exact HB.out | apply below_alloc | apply pw_below_drewN | apply below_drew1 | refine below_set ?_ GE135.out) | exact HB.out)⟩⟩
    · replace c6 := Bool.eq_false_iff.mpr c6
      subst c6
      have H1 : (usherlaw6_FieldMediaQuoted.j0 k (⟨#[97]⟩ : ByteArray) a0_0 a0_1 a0_2 a0_3) = some r := by rw [if_neg (show ¬ (false = true) by decide)] at H; exact H
      clear H
      have H := H1
      clear H1
      have H' := Aside0.mk H
      clear H
      go_wp2
      go_meet
      case rel => exact ⟨_, ((⟨#[97]⟩ : ByteArray)), (by first | rfl | (simp; done) | (simp [*]; done)), H', ⟨by first | omega | exact Nat.le_refl _⟩, ⟨by (with_reducible repeat (first | refine blk_drewN ?_ _ | refine blk_drew ?_ | refine blk_alloc ?_ _)); exact BK135.out⟩, ⟨by repeat (first | (with_reducible first | exact HB.out | apply below_alloc | apply pw_below_drewN | apply below_drew1 | refine below_set ?_ GE135.out) | exact HB.out)⟩⟩
  case rest =>
    clear HC3
    try clear c1
    try clear p2
    try clear c6
    try clear hcz5_0
    try clear hcz5_1
    try clear hcz5_2
    try clear hcz5_3
    try clear hcz7_0
    try clear hcz7_1
    try clear hcz7_2
    try clear hcz7_3
    try clear hfz5_0
    try clear hfz5_1
    try clear hfz5_2
    try clear hfz5_3
    try clear hfz7_0
    try clear hfz7_1
    try clear hfz7_2
    try clear hfz7_3
    obtain ⟨kq, x3_2, rfl, HA, HJ2, BK135, HB⟩ := hcut
    cases kq with
    | zero => exact absurd HA.out (by simp [usherlaw6_FieldMediaQuoted.j0])
    | succ kj2 =>
      have H := HA.out
      clear HA
      simp only [usherlaw6_FieldMediaQuoted.j0] at H
      by_cases c8 : a0_0.size + 1 ≤ 9223372036854775807
      · rw [if_pos c8] at H
        have c8b0 := eq_true c8
        have c8b1 : decide (a0_0.size + 1 ≤ 9223372036854775807) = true := decide_eq_true c8
        try have c8b2 : (9223372036854775807 < a0_0.size + 1) = False := eq_false (Nat.not_lt.2 c8)
        by_cases c9 : (a0_0 ++ (⟨#[47]⟩ : ByteArray)).size + a0_1.size ≤ 9223372036854775807
        · rw [if_pos c9] at H
          have c9b0 := eq_true c9
          have c9b1 : decide ((a0_0 ++ (⟨#[47]⟩ : ByteArray)).size + a0_1.size ≤ 9223372036854775807) = true := decide_eq_true c9
          try have c9b2 : (9223372036854775807 < (a0_0 ++ (⟨#[47]⟩ : ByteArray)).size + a0_1.size) = False := eq_false (Nat.not_lt.2 c9)
          (try (have c9b3 := c9b0; simp only [ByteArray.size_append', ByteArray.size_mk', List.size_toArray, List.length_cons, List.length_nil, Nat.reduceAdd] at c9b3))
          (try (have c9b4 := c9b1; simp only [ByteArray.size_append', ByteArray.size_mk', List.size_toArray, List.length_cons, List.length_nil, Nat.reduceAdd] at c9b4))
          (try (have c9b5 := c9b2; simp only [ByteArray.size_append', ByteArray.size_mk', List.size_toArray, List.length_cons, List.length_nil, Nat.reduceAdd] at c9b5))
          replace H := Option.bind_eq_some_iff.mp H
          obtain ⟨⟨t137, t138⟩, A100, H⟩ := H
          replace H : (if t138 = true then (usherlaw6_FieldMediaQuoted.j1 kj2 x3_2 ((a0_0 ++ (⟨#[47]⟩ : ByteArray)) ++ a0_1) t137 a0_0 a0_1 a0_2 a0_3) else (usherlaw6_FieldMediaQuoted.j1 kj2 x3_2 ((a0_0 ++ (⟨#[47]⟩ : ByteArray)) ++ a0_1) (⟨#[34, 34]⟩ : ByteArray) a0_0 a0_1 a0_2 a0_3)) = some r := H
          have A10 := Aside0.mk A100
          clear A100
          have HC11 := Aside0.mk H
          clear H
          have hcz12_0 : wc.cell? ⟨gb135, 0, none⟩ = some (.string a0_0) := (blk_cell BK135.out 0).trans rfl
          have hcz12_1 : wc.cell? ⟨gb135, 1, none⟩ = some (.string a0_1) := (blk_cell BK135.out 1).trans rfl
          have hcz12_2 : wc.cell? ⟨gb135, 2, none⟩ = some (.string a0_2) := (blk_cell BK135.out 2).trans rfl
          have hcz12_3 : wc.cell? ⟨gb135, 3, none⟩ = some (.string a0_3) := (blk_cell BK135.out 3).trans rfl
          have hfz12_0 := blk_frozen BK135.out 0
          have hfz12_1 := blk_frozen BK135.out 1
          have hfz12_2 := blk_frozen BK135.out 2
          have hfz12_3 := blk_frozen BK135.out 3
          go_upto_if 33 with (first | ((with_reducible refine gate_callee (f := 32) rfl ?_); refine goesL_ (some 29) rfl rfl Tryd.func32 (by kernel_rfl) rfl #[.string a0_3] rfl (by (try simp only [List.map_toArray, List.map_cons, List.map_nil]); first | done | rfl | (simp only [List.length_drop, List.length_take]; rfl)) ?_; (with_reducible refine (usherlaw6_quoted.calls kj2 a0_3 t137 t138 _ A10.out).mono ?_); rintro e w13 ⟨rfl, hb⟩; refine ⟨_, rfl, ?_⟩; have n0_ := Aside0.mk (blk_below (g := gb135) (o := .cells #[.string a0_0, .string a0_1, .string a0_2, .string a0_3] 44 (0, 0)) (by (with_reducible repeat (first | refine blk_drewN ?_ _ | refine blk_drew ?_ | refine blk_alloc ?_ _)); exact BK135.out) hb); have n1_ := Aside0.mk (below_step (by repeat (first | (with_reducible first | exact HB.out | apply below_alloc | apply pw_below_drewN | apply below_drew1 | refine below_set ?_ GE135.out) | exact HB.out)) hb); clear BK135; clear HB; have BK135 := n0_; have HB := n1_; clear n0_ n1_; (try clear hb); (try clear hb2); (try clear hk); (try clear hi)))
          (try simp only [Act.put, List.setIfInBounds_toArray, List.set_cons_zero, List.set_cons_succ])
          go_cut [5] (fun v5 wc => ∃ (kq : Nat) (x5_10 : ByteArray), v5 = .string x5_10 ∧ Aside0 (usherlaw6_FieldMediaQuoted.j1 kq x3_2 ((a0_0 ++ (⟨#[47]⟩ : ByteArray)) ++ a0_1) x5_10 a0_0 a0_1 a0_2 a0_3 = some r) ∧ Aside0 (kq ≤ kj2) ∧ Aside0 (wc.heap[gb135]? = some (.cells #[.string a0_0, .string a0_1, .string a0_2, .string a0_3] 44 (0, 0))) ∧ Aside0 (Below w.heap.size w wc))
          case first =>
            have H := HC11.out
            clear HC11
            by_cases c14 : t138 = true
            · subst c14
              have H1 : (usherlaw6_FieldMediaQuoted.j1 kj2 x3_2 ((a0_0 ++ (⟨#[47]⟩ : ByteArray)) ++ a0_1) t137 a0_0 a0_1 a0_2 a0_3) = some r := by rw [if_pos rfl] at H; exact H
              clear H
              have H := H1
              clear H1
              have H' := Aside0.mk H
              clear H
              go_wp2
              go_meet
              case rel => exact ⟨_, (t137), (by first | rfl | (simp; done) | (simp [*]; done)), H', ⟨by have := HJ2.out; first | omega | exact Nat.le_refl _⟩, ⟨by (with_reducible repeat (first | refine blk_drewN ?_ _ | refine blk_drew ?_ | refine blk_alloc ?_ _)); exact BK135.out⟩, ⟨by repeat (first | (with_reducible first | exact HB.out | apply below_alloc | apply pw_below_drewN | apply below_drew1 | refine below_set ?_ GE135.out) | exact HB.out)⟩⟩
            · replace c14 := Bool.eq_false_iff.mpr c14
              subst c14
              have H1 : (usherlaw6_FieldMediaQuoted.j1 kj2 x3_2 ((a0_0 ++ (⟨#[47]⟩ : ByteArray)) ++ a0_1) (⟨#[34, 34]⟩ : ByteArray) a0_0 a0_1 a0_2 a0_3) = some r := by rw [if_neg (show ¬ (false = true) by decide)] at H; exact H
              clear H
              have H := H1
              clear H1
              have H' := Aside0.mk H
              clear H
              go_wp2
              go_meet
              case rel => exact ⟨_, ((⟨#[34, 34]⟩ : ByteArray)), (by first | rfl | (simp; done) | (simp [*]; done)), H', ⟨by have := HJ2.out; first | omega | exact Nat.le_refl _⟩, ⟨by (with_reducible repeat (first | refine blk_drewN ?_ _ | refine blk_drew ?_ | refine blk_alloc ?_ _)); exact BK135.out⟩, ⟨by repeat (first | (with_reducible first | exact HB.out | apply below_alloc | apply pw_below_drewN | apply below_drew1 | refine below_set ?_ GE135.out) | exact HB.out)⟩⟩
          case rest =>
            clear HC11
            try clear c1
            try clear p2
            try clear c3
            try clear c6
            try clear c8
            try clear c8b0
            try clear c8b1
            try clear c8b2
            try clear c9
            try clear c9b0
            try clear c9b1
            try clear c9b2
            try clear c14
            try clear hcz12_0
            try clear hcz12_1
            try clear hcz12_2
            try clear hcz12_3
            try clear hcz5_0
            try clear hcz5_1
            try clear hcz5_2
            try clear hcz5_3
            try clear hcz7_0
            try clear hcz7_1
            try clear hcz7_2
            try clear hcz7_3
            try clear hfz12_0
            try clear hfz12_1
            try clear hfz12_2
            try clear hfz12_3
            try clear hfz5_0
            try clear hfz5_1
            try clear hfz5_2
            try clear hfz5_3
            try clear hfz7_0
            try clear hfz7_1
            try clear hfz7_2
            try clear hfz7_3
            try clear p2
            obtain ⟨kq, x5_10, rfl, HA, HJ10, BK135, HB⟩ := hcut
            cases kq with
            | zero => exact absurd HA.out (by simp [usherlaw6_FieldMediaQuoted.j1])
            | succ kj10 =>
              have H := HA.out
              clear HA
              simp only [usherlaw6_FieldMediaQuoted.j1] at H
              by_cases c15 : ((a0_0 ++ (⟨#[47]⟩ : ByteArray)) ++ a0_1).size + 5 ≤ 9223372036854775807
              · rw [if_pos c15] at H
                have c15b0 := eq_true c15
                have c15b1 : decide (((a0_0 ++ (⟨#[47]⟩ : ByteArray)) ++ a0_1).size + 5 ≤ 9223372036854775807) = true := decide_eq_true c15
                try have c15b2 : (9223372036854775807 < ((a0_0 ++ (⟨#[47]⟩ : ByteArray)) ++ a0_1).size + 5) = False := eq_false (Nat.not_lt.2 c15)
                (try (have c15b3 := c15b0; simp only [ByteArray.size_append', ByteArray.size_mk', List.size_toArray, List.length_cons, List.length_nil, Nat.reduceAdd] at c15b3))
                (try (have c15b4 := c15b1; simp only [ByteArray.size_append', ByteArray.size_mk', List.size_toArray, List.length_cons, List.length_nil, Nat.reduceAdd] at c15b4))
                (try (have c15b5 := c15b2; simp only [ByteArray.size_append', ByteArray.size_mk', List.size_toArray, List.length_cons, List.length_nil, Nat.reduceAdd] at c15b5))
                by_cases c16 : (((a0_0 ++ (⟨#[47]⟩ : ByteArray)) ++ a0_1) ++ (⟨#[32, 9, 59, 9, 32]⟩ : ByteArray)).size + x3_2.size ≤ 9223372036854775807
                · rw [if_pos c16] at H
                  have c16b0 := eq_true c16
                  have c16b1 : decide ((((a0_0 ++ (⟨#[47]⟩ : ByteArray)) ++ a0_1) ++ (⟨#[32, 9, 59, 9, 32]⟩ : ByteArray)).size + x3_2.size ≤ 9223372036854775807) = true := decide_eq_true c16
                  try have c16b2 : (9223372036854775807 < (((a0_0 ++ (⟨#[47]⟩ : ByteArray)) ++ a0_1) ++ (⟨#[32, 9, 59, 9, 32]⟩ : ByteArray)).size + x3_2.size) = False := eq_false (Nat.not_lt.2 c16)
                  (try (have c16b3 := c16b0; simp only [ByteArray.size_append', ByteArray.size_mk', List.size_toArray, List.length_cons, List.length_nil, Nat.reduceAdd] at c16b3))
                  (try (have c16b4 := c16b1; simp only [ByteArray.size_append', ByteArray.size_mk', List.size_toArray, List.length_cons, List.length_nil, Nat.reduceAdd] at c16b4))
                  (try (have c16b5 := c16b2; simp only [ByteArray.size_append', ByteArray.size_mk', List.size_toArray, List.length_cons, List.length_nil, Nat.reduceAdd] at c16b5))
                  by_cases c17 : ((((a0_0 ++ (⟨#[47]⟩ : ByteArray)) ++ a0_1) ++ (⟨#[32, 9, 59, 9, 32]⟩ : ByteArray)) ++ x3_2).size + 1 ≤ 9223372036854775807
                  · rw [if_pos c17] at H
                    have c17b0 := eq_true c17
                    have c17b1 : decide (((((a0_0 ++ (⟨#[47]⟩ : ByteArray)) ++ a0_1) ++ (⟨#[32, 9, 59, 9, 32]⟩ : ByteArray)) ++ x3_2).size + 1 ≤ 9223372036854775807) = true := decide_eq_true c17
                    try have c17b2 : (9223372036854775807 < ((((a0_0 ++ (⟨#[47]⟩ : ByteArray)) ++ a0_1) ++ (⟨#[32, 9, 59, 9, 32]⟩ : ByteArray)) ++ x3_2).size + 1) = False := eq_false (Nat.not_lt.2 c17)
                    (try (have c17b3 := c17b0; simp only [ByteArray.size_append', ByteArray.size_mk', List.size_toArray, List.length_cons, List.length_nil, Nat.reduceAdd] at c17b3))
                    (try (have c17b4 := c17b1; simp only [ByteArray.size_append', ByteArray.size_mk', List.size_toArray, List.length_cons, List.length_nil, Nat.reduceAdd] at c17b4))
                    (try (have c17b5 := c17b2; simp only [ByteArray.size_append', ByteArray.size_mk', List.size_toArray, List.length_cons, List.length_nil, Nat.reduceAdd] at c17b5))
                    by_cases c18 : (((((a0_0 ++ (⟨#[47]⟩ : ByteArray)) ++ a0_1) ++ (⟨#[32, 9, 59, 9, 32]⟩ : ByteArray)) ++ x3_2) ++ (⟨#[61]⟩ : ByteArray)).size + x5_10.size ≤ 9223372036854775807
                    · rw [if_pos c18] at H
                      have c18b0 := eq_true c18
                      have c18b1 : decide ((((((a0_0 ++ (⟨#[47]⟩ : ByteArray)) ++ a0_1) ++ (⟨#[32, 9, 59, 9, 32]⟩ : ByteArray)) ++ x3_2) ++ (⟨#[61]⟩ : ByteArray)).size + x5_10.size ≤ 9223372036854775807) = true := decide_eq_true c18
                      try have c18b2 : (9223372036854775807 < (((((a0_0 ++ (⟨#[47]⟩ : ByteArray)) ++ a0_1) ++ (⟨#[32, 9, 59, 9, 32]⟩ : ByteArray)) ++ x3_2) ++ (⟨#[61]⟩ : ByteArray)).size + x5_10.size) = False := eq_false (Nat.not_lt.2 c18)
                      (try (have c18b3 := c18b0; simp only [ByteArray.size_append', ByteArray.size_mk', List.size_toArray, List.length_cons, List.length_nil, Nat.reduceAdd] at c18b3))
                      (try (have c18b4 := c18b1; simp only [ByteArray.size_append', ByteArray.size_mk', List.size_toArray, List.length_cons, List.length_nil, Nat.reduceAdd] at c18b4))
                      (try (have c18b5 := c18b2; simp only [ByteArray.size_append', ByteArray.size_mk', List.size_toArray, List.length_cons, List.length_nil, Nat.reduceAdd] at c18b5))
                      by_cases c19 : ((((((a0_0 ++ (⟨#[47]⟩ : ByteArray)) ++ a0_1) ++ (⟨#[32, 9, 59, 9, 32]⟩ : ByteArray)) ++ x3_2) ++ (⟨#[61]⟩ : ByteArray)) ++ x5_10).size + 1 ≤ 9223372036854775807
                      · rw [if_pos c19] at H
                        have c19b0 := eq_true c19
                        have c19b1 : decide (((((((a0_0 ++ (⟨#[47]⟩ : ByteArray)) ++ a0_1) ++ (⟨#[32, 9, 59, 9, 32]⟩ : ByteArray)) ++ x3_2) ++ (⟨#[61]⟩ : ByteArray)) ++ x5_10).size + 1 ≤ 9223372036854775807) = true := decide_eq_true c19
                        try have c19b2 : (9223372036854775807 < ((((((a0_0 ++ (⟨#[47]⟩ : ByteArray)) ++ a0_1) ++ (⟨#[32, 9, 59, 9, 32]⟩ : ByteArray)) ++ x3_2) ++ (⟨#[61]⟩ : ByteArray)) ++ x5_10).size + 1) = False := eq_false (Nat.not_lt.2 c19)
                        (try (have c19b3 := c19b0; simp only [ByteArray.size_append', ByteArray.size_mk', List.size_toArray, List.length_cons, List.length_nil, Nat.reduceAdd] at c19b3))
                        (try (have c19b4 := c19b1; simp only [ByteArray.size_append', ByteArray.size_mk', List.size_toArray, List.length_cons, List.length_nil, Nat.reduceAdd] at c19b4))
                        (try (have c19b5 := c19b2; simp only [ByteArray.size_append', ByteArray.size_mk', List.size_toArray, List.length_cons, List.length_nil, Nat.reduceAdd] at c19b5))
                        replace H := Option.bind_eq_some_iff.mp H
                        obtain ⟨⟨t139, t140⟩, A200, H⟩ := H
                        replace H : ((field_Token.f kj10 a0_0).bind fun t141 => (if t141 = true then ((field_Token.f kj10 a0_1).bind fun t142 => (usherlaw6_FieldMediaQuoted.j2 kj10 x3_2 ((a0_0 ++ (⟨#[47]⟩ : ByteArray)) ++ a0_1) x5_10 t139 t140 (!t142) a0_0 a0_1 a0_2 a0_3)) else (usherlaw6_FieldMediaQuoted.j2 kj10 x3_2 ((a0_0 ++ (⟨#[47]⟩ : ByteArray)) ++ a0_1) x5_10 t139 t140 true a0_0 a0_1 a0_2 a0_3))) = some r := H
                        have A20 := Aside0.mk A200
                        clear A200
                        have HC21 := Aside0.mk H
                        clear H
                        go_upto_region 9 with (first | ((with_reducible refine gate_callee (f := 30) rfl ?_); refine goesL_ (some 43) rfl rfl Tryd.func30 (by kernel_rfl) rfl #[.string (((((((a0_0 ++ (⟨#[47]⟩ : ByteArray)) ++ a0_1) ++ (⟨#[32, 9, 59, 9, 32]⟩ : ByteArray)) ++ x3_2) ++ (⟨#[61]⟩ : ByteArray)) ++ x5_10) ++ (⟨#[59]⟩ : ByteArray))] rfl (by (try simp only [List.map_toArray, List.map_cons, List.map_nil]); first | done | rfl | (simp only [List.length_drop, List.length_take]; rfl)) ?_; (with_reducible refine (field_Media.calls (((((((a0_0 ++ (⟨#[47]⟩ : ByteArray)) ++ a0_1) ++ (⟨#[32, 9, 59, 9, 32]⟩ : ByteArray)) ++ x3_2) ++ (⟨#[61]⟩ : ByteArray)) ++ x5_10) ++ (⟨#[59]⟩ : ByteArray)) t139 t140 _ A20.out ?side1).mono ?_); (case side1 => exact HG.out.step (by repeat (first | (with_reducible first | exact HB.out | apply below_alloc | apply pw_below_drewN | apply below_drew1 | refine below_set ?_ GE135.out) | exact HB.out)) rfl); rintro e w22 ⟨rfl, hb⟩; refine ⟨_, rfl, ?_⟩; have n0_ := Aside0.mk (blk_below (g := gb135) (o := .cells #[.string a0_0, .string a0_1, .string a0_2, .string a0_3] 44 (0, 0)) (by (with_reducible repeat (first | refine blk_drewN ?_ _ | refine blk_drew ?_ | refine blk_alloc ?_ _)); exact BK135.out) hb); have n1_ := Aside0.mk (below_step (by repeat (first | (with_reducible first | exact HB.out | apply below_alloc | apply pw_below_drewN | apply below_drew1 | refine below_set ?_ GE135.out) | exact HB.out)) hb); clear BK135; clear HB; have BK135 := n0_; have HB := n1_; clear n0_ n1_; (try clear hb); (try clear hb2); (try clear hk); (try clear hi); (try simp only [errW_none, errW_some])))
                        (try simp only [Act.put, List.setIfInBounds_toArray, List.set_cons_zero, List.set_cons_succ])
                        go_cut [55] (fun v55 wc => ∃ (kq : Nat) (x55_20 : Bool), v55 = .bool x55_20 ∧ Aside0 (usherlaw6_FieldMediaQuoted.j2 kq x3_2 ((a0_0 ++ (⟨#[47]⟩ : ByteArray)) ++ a0_1) x5_10 t139 t140 x55_20 a0_0 a0_1 a0_2 a0_3 = some r) ∧ Aside0 (kq ≤ kj10) ∧ Aside0 (wc.heap[gb135]? = some (.cells #[.string a0_0, .string a0_1, .string a0_2, .string a0_3] 44 (0, 0))) ∧ Aside0 (Below w.heap.size w wc))
                        case first =>
                          have H := HC21.out
                          clear HC21
                          replace H := Option.bind_eq_some_iff.mp H
                          obtain ⟨t141, A230, H⟩ := H
                          replace H : (if t141 = true then ((field_Token.f kj10 a0_1).bind fun t142 => (usherlaw6_FieldMediaQuoted.j2 kj10 x3_2 ((a0_0 ++ (⟨#[47]⟩ : ByteArray)) ++ a0_1) x5_10 t139 t140 (!t142) a0_0 a0_1 a0_2 a0_3)) else (usherlaw6_FieldMediaQuoted.j2 kj10 x3_2 ((a0_0 ++ (⟨#[47]⟩ : ByteArray)) ++ a0_1) x5_10 t139 t140 true a0_0 a0_1 a0_2 a0_3)) = some r := H
                          have A23 := Aside0.mk A230
                          clear A230
                          by_cases c24 : t141 = true
                          · subst c24
                            have H1 : ((field_Token.f kj10 a0_1).bind fun t142 => (usherlaw6_FieldMediaQuoted.j2 kj10 x3_2 ((a0_0 ++ (⟨#[47]⟩ : ByteArray)) ++ a0_1) x5_10 t139 t140 (!t142) a0_0 a0_1 a0_2 a0_3)) = some r := by rw [if_pos rfl] at H; exact H
                            clear H
                            have H := H1
                            clear H1
                            replace H := Option.bind_eq_some_iff.mp H
                            obtain ⟨t142, A250, H⟩ := H
                            replace H : (usherlaw6_FieldMediaQuoted.j2 kj10 x3_2 ((a0_0 ++ (⟨#[47]⟩ : ByteArray)) ++ a0_1) x5_10 t139 t140 (!t142) a0_0 a0_1 a0_2 a0_3) = some r := H
                            have A25 := Aside0.mk A250
                            clear A250
                            have H' := Aside0.mk H
                            clear H
                            have hcz26_0 : w22.cell? ⟨gb135, 0, none⟩ = some (.string a0_0) := (blk_cell BK135.out 0).trans rfl
                            have hcz26_1 : w22.cell? ⟨gb135, 1, none⟩ = some (.string a0_1) := (blk_cell BK135.out 1).trans rfl
                            have hcz26_2 : w22.cell? ⟨gb135, 2, none⟩ = some (.string a0_2) := (blk_cell BK135.out 2).trans rfl
                            have hcz26_3 : w22.cell? ⟨gb135, 3, none⟩ = some (.string a0_3) := (blk_cell BK135.out 3).trans rfl
                            have hfz26_0 := blk_frozen BK135.out 0
                            have hfz26_1 := blk_frozen BK135.out 1
                            have hfz26_2 := blk_frozen BK135.out 2
                            have hfz26_3 := blk_frozen BK135.out 3
                            go_wp2_with (first | ((with_reducible refine gate_callee (f := 15) rfl ?_); refine goesL_ (some 48) rfl rfl Tryd.func15 (by kernel_rfl) rfl #[.string a0_0] rfl (by (try simp only [List.map_toArray, List.map_cons, List.map_nil]); first | done | rfl | (simp only [List.length_drop, List.length_take]; rfl)) ?_; (with_reducible refine (field_Token.calls kj10 a0_0 true _ A23.out ?side1).mono ?_); (case side1 => exact HG.out.step (by repeat (first | (with_reducible first | exact HB.out | apply below_alloc | apply pw_below_drewN | apply below_drew1 | refine below_set ?_ GE135.out) | exact HB.out)) rfl); rintro e w' ⟨rfl, ⟨nd, rfl⟩⟩; refine ⟨_, rfl, ?_⟩) | (go_at_call 15; (with_reducible refine (field_Token.calls kj10 a0_1 t142 _ A25.out ?side1).mono ?_); (case side1 => exact HG.out.step (by repeat (first | (with_reducible first | exact HB.out | apply below_alloc | apply pw_below_drewN | apply below_drew1 | refine below_set ?_ GE135.out) | exact HB.out)) rfl); rintro e w' ⟨rfl, ⟨nd, rfl⟩⟩))
                            go_meet
                            case rel => exact ⟨_, (!t142), (by first | rfl | (simp; done) | (simp [*]; done)), H', ⟨by have := HJ2.out; have := HJ10.out; first | omega | exact Nat.le_refl _⟩, ⟨by (with_reducible repeat (first | refine blk_drewN ?_ _ | refine blk_drew ?_ | refine blk_alloc ?_ _)); exact BK135.out⟩, ⟨by repeat (first | (with_reducible first | exact HB.out | apply below_alloc | apply pw_below_drewN | apply below_drew1 | refine below_set ?_ GE135.out) | exact HB.out)⟩⟩
                          · replace c24 := Bool.eq_false_iff.mpr c24
                            subst c24
                            have H1 : (usherlaw6_FieldMediaQuoted.j2 kj10 x3_2 ((a0_0 ++ (⟨#[47]⟩ : ByteArray)) ++ a0_1) x5_10 t139 t140 true a0_0 a0_1 a0_2 a0_3) = some r := by rw [if_neg (show ¬ (false = true) by decide)] at H; exact H
                            clear H
                            have H := H1
                            clear H1
                            have H' := Aside0.mk H
                            clear H
                            have hcz27_0 : w22.cell? ⟨gb135, 0, none⟩ = some (.string a0_0) := (blk_cell BK135.out 0).trans rfl
                            have hcz27_1 : w22.cell? ⟨gb135, 1, none⟩ = some (.string a0_1) := (blk_cell BK135.out 1).trans rfl
                            have hcz27_2 : w22.cell? ⟨gb135, 2, none⟩ = some (.string a0_2) := (blk_cell BK135.out 2).trans rfl
                            have hcz27_3 : w22.cell? ⟨gb135, 3, none⟩ = some (.string a0_3) := (blk_cell BK135.out 3).trans rfl
                            have hfz27_0 := blk_frozen BK135.out 0
                            have hfz27_1 := blk_frozen BK135.out 1
                            have hfz27_2 := blk_frozen BK135.out 2
                            have hfz27_3 := blk_frozen BK135.out 3
                            go_wp2_with (first | ((with_reducible refine gate_callee (f := 15) rfl ?_); refine goesL_ (some 48) rfl rfl Tryd.func15 (by kernel_rfl) rfl #[.string a0_0] rfl (by (try simp only [List.map_toArray, List.map_cons, List.map_nil]); first | done | rfl | (simp only [List.length_drop, List.length_take]; rfl)) ?_; (with_reducible refine (field_Token.calls kj10 a0_0 false _ A23.out ?side1).mono ?_); (case side1 => exact HG.out.step (by repeat (first | (with_reducible first | exact HB.out | apply below_alloc | apply pw_below_drewN | apply below_drew1 | refine below_set ?_ GE135.out) | exact HB.out)) rfl); rintro e w' ⟨rfl, ⟨nd, rfl⟩⟩; refine ⟨_, rfl, ?_⟩))
                            go_meet
                            case rel => exact ⟨_, (true), (by first | rfl | (simp; done) | (simp [*]; done)), H', ⟨by have := HJ2.out; have := HJ10.out; first | omega | exact Nat.le_refl _⟩, ⟨by (with_reducible repeat (first | refine blk_drewN ?_ _ | refine blk_drew ?_ | refine blk_alloc ?_ _)); exact BK135.out⟩, ⟨by repeat (first | (with_reducible first | exact HB.out | apply below_alloc | apply pw_below_drewN | apply below_drew1 | refine below_set ?_ GE135.out) | exact HB.out)⟩⟩
                        case rest =>
                          clear HC21
                          try clear c1
                          try clear c2
                          try clear p2
                          try clear c3
                          try clear c6
                          try clear c8
                          try clear c8b0
                          try clear c8b1
                          try clear c8b2
                          try clear c9
                          try clear c9b0
                          try clear c9b1
                          try clear c9b2
                          try clear c14
                          try clear c15
                          try clear c15b0
                          try clear c15b1
                          try clear c15b2
                          try clear c16
                          try clear c16b0
                          try clear c16b1
                          try clear c16b2
                          try clear c17
                          try clear c17b0
                          try clear c17b1
                          try clear c17b2
                          try clear c18
                          try clear c18b0
                          try clear c18b1
                          try clear c18b2
                          try clear c19
                          try clear c19b0
                          try clear c19b1
                          try clear c19b2
                          try clear c24
                          try clear hcz12_0
                          try clear hcz12_1
                          try clear hcz12_2
                          try clear hcz12_3
                          try clear hcz26_0
                          try clear hcz26_1
                          try clear hcz26_2
                          try clear hcz26_3
                          try clear hcz27_0
                          try clear hcz27_1
                          try clear hcz27_2
                          try clear hcz27_3
                          try clear hcz5_0
                          try clear hcz5_1
                          try clear hcz5_2
                          try clear hcz5_3
                          try clear hcz7_0
                          try clear hcz7_1
                          try clear hcz7_2
                          try clear hcz7_3
                          try clear hfz12_0
                          try clear hfz12_1
                          try clear hfz12_2
                          try clear hfz12_3
                          try clear hfz26_0
                          try clear hfz26_1
                          try clear hfz26_2
                          try clear hfz26_3
                          try clear hfz27_0
                          try clear hfz27_1
                          try clear hfz27_2
                          try clear hfz27_3
                          try clear hfz5_0
                          try clear hfz5_1
                          try clear hfz5_2
                          try clear hfz5_3
                          try clear hfz7_0
                          try clear hfz7_1
                          try clear hfz7_2
                          try clear hfz7_3
                          try clear p2
                          obtain ⟨kq, x55_20, rfl, HA, HJ20, BK135, HB⟩ := hcut
                          cases kq with
                          | zero => exact absurd HA.out (by simp [usherlaw6_FieldMediaQuoted.j2])
                          | succ kj20 =>
                            have H := HA.out
                            clear HA
                            simp only [usherlaw6_FieldMediaQuoted.j2] at H
                            by_cases c28 : x55_20 = true
                            · subst c28
                              have H1 : ((usherlaw6_broken.f kj20 a0_0 a0_1).bind fun t143 => (if t143 = true then (if t140.isNone = true then (some false) else (if (t140.getD 0) = 2 then (some (t139.toList == ([] : List UInt8))) else (some false))) else (some true))) = some r := by rw [if_pos rfl] at H; exact H
                              clear H
                              have H := H1
                              clear H1
                              replace H := Option.bind_eq_some_iff.mp H
                              obtain ⟨t143, A290, H⟩ := H
                              replace H : (if t143 = true then (if t140.isNone = true then (some false) else (if (t140.getD 0) = 2 then (some (t139.toList == ([] : List UInt8))) else (some false))) else (some true)) = some r := H
                              have A29 := Aside0.mk A290
                              clear A290
                              by_cases c30 : t143 = true
                              · subst c30
                                have H1 : (if t140.isNone = true then (some false) else (if (t140.getD 0) = 2 then (some (t139.toList == ([] : List UInt8))) else (some false))) = some r := by rw [if_pos rfl] at H; exact H
                                clear H
                                have H := H1
                                clear H1
                                rcases t140 with _ | q145
                                · have H1 : (some false) = some r := by rw [if_pos (show (none : Option Int).isNone = true by rfl)] at H; exact H
                                  clear H
                                  have H := H1
                                  clear H1
                                  try simp only [errW_none, errW_some]
                                  obtain rfl := Option.some.inj H
                                  have hcz31_0 : wc.cell? ⟨gb135, 0, none⟩ = some (.string a0_0) := (blk_cell BK135.out 0).trans rfl
                                  have hcz31_1 : wc.cell? ⟨gb135, 1, none⟩ = some (.string a0_1) := (blk_cell BK135.out 1).trans rfl
                                  have hcz31_2 : wc.cell? ⟨gb135, 2, none⟩ = some (.string a0_2) := (blk_cell BK135.out 2).trans rfl
                                  have hcz31_3 : wc.cell? ⟨gb135, 3, none⟩ = some (.string a0_3) := (blk_cell BK135.out 3).trans rfl
                                  have hfz31_0 := blk_frozen BK135.out 0
                                  have hfz31_1 := blk_frozen BK135.out 1
                                  have hfz31_2 := blk_frozen BK135.out 2
                                  have hfz31_3 := blk_frozen BK135.out 3
                                  go_wp2_with (first | ((with_reducible refine gate_callee (f := 33) rfl ?_); refine goesL_ (some 60) rfl rfl Tryd.func33 (by kernel_rfl) rfl #[.string a0_0, .string a0_1] rfl (by (try simp only [List.map_toArray, List.map_cons, List.map_nil]); first | done | rfl | (simp only [List.length_drop, List.length_take]; rfl)) ?_; (with_reducible refine (usherlaw6_broken.calls kj20 a0_0 a0_1 true _ A29.out ?side1).mono ?_); (case side1 => exact HG.out.step (by repeat (first | (with_reducible first | exact HB.out | apply below_alloc | apply pw_below_drewN | apply below_drew1 | refine below_set ?_ GE135.out) | exact HB.out)) rfl); rintro e w' ⟨rfl, ⟨nd, rfl⟩⟩; refine ⟨_, rfl, ?_⟩; have hgeq144 := Glob.err2 (HG.out.step HB.out (T := [0, 8, 999]) rfl) (by rfl); have hgq32 := fun W_ => run_nil_err W_ 2))
                                  go_ret
                                  exact ⟨by first | rfl | (simp [errW_none, errW_some] <;> rfl) | (simp [*, errW_none, errW_some] <;> rfl), by repeat (first | (with_reducible first | exact HB.out | apply below_alloc | apply pw_below_drewN | apply below_drew1 | refine below_set ?_ GE135.out) | exact HB.out)⟩
                                · have H1 : (if q145 = 2 then (some (t139.toList == ([] : List UInt8))) else (some false)) = some r := by rw [if_neg (show ¬ (some q145).isNone = true by simp)] at H; exact H
                                  clear H
                                  have H := H1
                                  clear H1
                                  try simp only [errW_none, errW_some]
                                  by_cases c33 : q145 = 2
                                  · rw [if_pos c33] at H
                                    have c33b0 : (q145 == 2) = true := beq_iff_eq.mpr c33
                                    have c33b1 : (q145 != 2) = false := bne_eq_false_iff_eq.mpr c33
                                    clear c33
                                    obtain rfl := Option.some.inj H
                                    have hcz34_0 : wc.cell? ⟨gb135, 0, none⟩ = some (.string a0_0) := (blk_cell BK135.out 0).trans rfl
                                    have hcz34_1 : wc.cell? ⟨gb135, 1, none⟩ = some (.string a0_1) := (blk_cell BK135.out 1).trans rfl
                                    have hcz34_2 : wc.cell? ⟨gb135, 2, none⟩ = some (.string a0_2) := (blk_cell BK135.out 2).trans rfl
                                    have hcz34_3 : wc.cell? ⟨gb135, 3, none⟩ = some (.string a0_3) := (blk_cell BK135.out 3).trans rfl
                                    have hfz34_0 := blk_frozen BK135.out 0
                                    have hfz34_1 := blk_frozen BK135.out 1
                                    have hfz34_2 := blk_frozen BK135.out 2
                                    have hfz34_3 := blk_frozen BK135.out 3
                                    go_wp2_with (first | ((with_reducible refine gate_callee (f := 33) rfl ?_); refine goesL_ (some 60) rfl rfl Tryd.func33 (by kernel_rfl) rfl #[.string a0_0, .string a0_1] rfl (by (try simp only [List.map_toArray, List.map_cons, List.map_nil]); first | done | rfl | (simp only [List.length_drop, List.length_take]; rfl)) ?_; (with_reducible refine (usherlaw6_broken.calls kj20 a0_0 a0_1 true _ A29.out ?side1).mono ?_); (case side1 => exact HG.out.step (by repeat (first | (with_reducible first | exact HB.out | apply below_alloc | apply pw_below_drewN | apply below_drew1 | refine below_set ?_ GE135.out) | exact HB.out)) rfl); rintro e w' ⟨rfl, ⟨nd, rfl⟩⟩; refine ⟨_, rfl, ?_⟩; have hgeq144 := Glob.err2 (HG.out.step HB.out (T := [0, 8, 999]) rfl) (by rfl); have hgq35 := run_eq_err (Glob.sent (HG.out.step HB.out (T := [0, 8, 999]) rfl) (by rfl)) q145 2; have hgr35 := fun nq_ => run_eq_err ((Glob.sent (HG.out.step HB.out (T := [0, 8, 999]) rfl) (by rfl)).drewN nq_) q145 2))
                                    go_ret
                                    exact ⟨by first | rfl | (simp [errW_none, errW_some] <;> rfl) | (simp [*, errW_none, errW_some] <;> rfl), by repeat (first | (with_reducible first | exact HB.out | apply below_alloc | apply pw_below_drewN | apply below_drew1 | refine below_set ?_ GE135.out) | exact HB.out)⟩
                                  · rw [if_neg c33] at H
                                    have c33b0 : (q145 == 2) = false := beq_eq_false_iff_ne.mpr c33
                                    have c33b1 : (q145 != 2) = true := bne_iff_ne.mpr c33
                                    obtain rfl := Option.some.inj H
                                    have hcz36_0 : wc.cell? ⟨gb135, 0, none⟩ = some (.string a0_0) := (blk_cell BK135.out 0).trans rfl
                                    have hcz36_1 : wc.cell? ⟨gb135, 1, none⟩ = some (.string a0_1) := (blk_cell BK135.out 1).trans rfl
                                    have hcz36_2 : wc.cell? ⟨gb135, 2, none⟩ = some (.string a0_2) := (blk_cell BK135.out 2).trans rfl
                                    have hcz36_3 : wc.cell? ⟨gb135, 3, none⟩ = some (.string a0_3) := (blk_cell BK135.out 3).trans rfl
                                    have hfz36_0 := blk_frozen BK135.out 0
                                    have hfz36_1 := blk_frozen BK135.out 1
                                    have hfz36_2 := blk_frozen BK135.out 2
                                    have hfz36_3 := blk_frozen BK135.out 3
                                    go_wp2_with (first | ((with_reducible refine gate_callee (f := 33) rfl ?_); refine goesL_ (some 60) rfl rfl Tryd.func33 (by kernel_rfl) rfl #[.string a0_0, .string a0_1] rfl (by (try simp only [List.map_toArray, List.map_cons, List.map_nil]); first | done | rfl | (simp only [List.length_drop, List.length_take]; rfl)) ?_; (with_reducible refine (usherlaw6_broken.calls kj20 a0_0 a0_1 true _ A29.out ?side1).mono ?_); (case side1 => exact HG.out.step (by repeat (first | (with_reducible first | exact HB.out | apply below_alloc | apply pw_below_drewN | apply below_drew1 | refine below_set ?_ GE135.out) | exact HB.out)) rfl); rintro e w' ⟨rfl, ⟨nd, rfl⟩⟩; refine ⟨_, rfl, ?_⟩; have hgeq144 := Glob.err2 (HG.out.step HB.out (T := [0, 8, 999]) rfl) (by rfl); have hgq37 := run_eq_err (Glob.sent (HG.out.step HB.out (T := [0, 8, 999]) rfl) (by rfl)) q145 2; have hgr37 := fun nq_ => run_eq_err ((Glob.sent (HG.out.step HB.out (T := [0, 8, 999]) rfl) (by rfl)).drewN nq_) q145 2))
                                    go_ret
                                    exact ⟨by first | rfl | (simp [errW_none, errW_some] <;> rfl) | (simp [*, errW_none, errW_some] <;> rfl), by repeat (first | (with_reducible first | exact HB.out | apply below_alloc | apply pw_below_drewN | apply below_drew1 | refine below_set ?_ GE135.out) | exact HB.out)⟩
                              · replace c30 := Bool.eq_false_iff.mpr c30
                                subst c30
                                have H1 : (some true) = some r := by rw [if_neg (show ¬ (false = true) by decide)] at H; exact H
                                clear H
                                have H := H1
                                clear H1
                                obtain rfl := Option.some.inj H
                                have hcz38_0 : wc.cell? ⟨gb135, 0, none⟩ = some (.string a0_0) := (blk_cell BK135.out 0).trans rfl
                                have hcz38_1 : wc.cell? ⟨gb135, 1, none⟩ = some (.string a0_1) := (blk_cell BK135.out 1).trans rfl
                                have hcz38_2 : wc.cell? ⟨gb135, 2, none⟩ = some (.string a0_2) := (blk_cell BK135.out 2).trans rfl
                                have hcz38_3 : wc.cell? ⟨gb135, 3, none⟩ = some (.string a0_3) := (blk_cell BK135.out 3).trans rfl
                                have hfz38_0 := blk_frozen BK135.out 0
                                have hfz38_1 := blk_frozen BK135.out 1
                                have hfz38_2 := blk_frozen BK135.out 2
                                have hfz38_3 := blk_frozen BK135.out 3
                                go_wp2_with (first | ((with_reducible refine gate_callee (f := 33) rfl ?_); refine goesL_ (some 60) rfl rfl Tryd.func33 (by kernel_rfl) rfl #[.string a0_0, .string a0_1] rfl (by (try simp only [List.map_toArray, List.map_cons, List.map_nil]); first | done | rfl | (simp only [List.length_drop, List.length_take]; rfl)) ?_; (with_reducible refine (usherlaw6_broken.calls kj20 a0_0 a0_1 false _ A29.out ?side1).mono ?_); (case side1 => exact HG.out.step (by repeat (first | (with_reducible first | exact HB.out | apply below_alloc | apply pw_below_drewN | apply below_drew1 | refine below_set ?_ GE135.out) | exact HB.out)) rfl); rintro e w' ⟨rfl, ⟨nd, rfl⟩⟩; refine ⟨_, rfl, ?_⟩))
                                go_ret
                                exact ⟨by first | rfl | (simp [errW_none, errW_some] <;> rfl) | (simp [*, errW_none, errW_some] <;> rfl), by repeat (first | (with_reducible first | exact HB.out | apply below_alloc | apply pw_below_drewN | apply below_drew1 | refine below_set ?_ GE135.out) | exact HB.out)⟩
                            · replace c28 := Bool.eq_false_iff.mpr c28
                              subst c28
                              have H1 : (if t140.isNone = true then ((usherlaw6_lower.f kj20 ((a0_0 ++ (⟨#[47]⟩ : ByteArray)) ++ a0_1)).bind fun t147 => (usherlaw6_FieldMediaQuoted.j3 kj20 x3_2 ((a0_0 ++ (⟨#[47]⟩ : ByteArray)) ++ a0_1) x5_10 t139 (t139.toList != t147.toList))) else (usherlaw6_FieldMediaQuoted.j3 kj20 x3_2 ((a0_0 ++ (⟨#[47]⟩ : ByteArray)) ++ a0_1) x5_10 t139 true)) = some r := by rw [if_neg (show ¬ (false = true) by decide)] at H; exact H
                              clear H
                              have H := H1
                              clear H1
                              have HC39 := Aside0.mk H
                              clear H
                              go_upto_region 11 with (fail)
                              go_cut [78] (fun v78 wc => ∃ (kq : Nat) (x78_38 : Bool), v78 = .bool x78_38 ∧ Aside0 (usherlaw6_FieldMediaQuoted.j3 kq x3_2 ((a0_0 ++ (⟨#[47]⟩ : ByteArray)) ++ a0_1) x5_10 t139 x78_38 = some r) ∧ Aside0 (kq ≤ kj20) ∧ Aside0 (wc.heap[gb135]? = some (.cells #[.string a0_0, .string a0_1, .string a0_2, .string a0_3] 44 (0, 0))) ∧ Aside0 (Below w.heap.size w wc))
                              case first =>
                                have H := HC39.out
                                clear HC39
                                rcases t140 with _ | q146
                                · have H1 : ((usherlaw6_lower.f kj20 ((a0_0 ++ (⟨#[47]⟩ : ByteArray)) ++ a0_1)).bind fun t147 => (usherlaw6_FieldMediaQuoted.j3 kj20 x3_2 ((a0_0 ++ (⟨#[47]⟩ : ByteArray)) ++ a0_1) x5_10 t139 (t139.toList != t147.toList))) = some r := by rw [if_pos (show (none : Option Int).isNone = true by rfl)] at H; exact H
                                  clear H
                                  have H := H1
                                  clear H1
                                  try simp only [errW_none, errW_some]
                                  replace H := Option.bind_eq_some_iff.mp H
                                  obtain ⟨t147, A400, H⟩ := H
                                  replace H : (usherlaw6_FieldMediaQuoted.j3 kj20 x3_2 ((a0_0 ++ (⟨#[47]⟩ : ByteArray)) ++ a0_1) x5_10 t139 (t139.toList != t147.toList)) = some r := H
                                  have A40 := Aside0.mk A400
                                  clear A400
                                  have H' := Aside0.mk H
                                  clear H
                                  go_wp2_with (first | (go_at_call 34; (with_reducible refine (usherlaw6_lower.calls kj20 ((a0_0 ++ (⟨#[47]⟩ : ByteArray)) ++ a0_1) t147 _ A40.out).mono ?_); rintro e w41 ⟨rfl, hb⟩; have n0_ := Aside0.mk (blk_below (g := gb135) (o := .cells #[.string a0_0, .string a0_1, .string a0_2, .string a0_3] 44 (0, 0)) (by (with_reducible repeat (first | refine blk_drewN ?_ _ | refine blk_drew ?_ | refine blk_alloc ?_ _)); exact BK135.out) hb); have n1_ := Aside0.mk (below_step (by repeat (first | (with_reducible first | exact HB.out | apply below_alloc | apply pw_below_drewN | apply below_drew1 | refine below_set ?_ GE135.out) | exact HB.out)) hb); clear BK135; clear HB; have BK135 := n0_; have HB := n1_; clear n0_ n1_; (try clear hb); (try clear hb2); (try clear hk); (try clear hi)))
                                  go_meet
                                  case rel => exact ⟨_, ((t139.toList != t147.toList)), (by first | rfl | (simp; done) | (simp [*]; done)), H', ⟨by have := HJ2.out; have := HJ10.out; have := HJ20.out; first | omega | exact Nat.le_refl _⟩, ⟨by (with_reducible repeat (first | refine blk_drewN ?_ _ | refine blk_drew ?_ | refine blk_alloc ?_ _)); exact BK135.out⟩, ⟨by repeat (first | (with_reducible first | exact HB.out | apply below_alloc | apply pw_below_drewN | apply below_drew1 | refine below_set ?_ GE135.out) | exact HB.out)⟩⟩
                                · have H1 : (usherlaw6_FieldMediaQuoted.j3 kj20 x3_2 ((a0_0 ++ (⟨#[47]⟩ : ByteArray)) ++ a0_1) x5_10 t139 true) = some r := by rw [if_neg (show ¬ (some q146).isNone = true by simp)] at H; exact H
                                  clear H
                                  have H := H1
                                  clear H1
                                  try simp only [errW_none, errW_some]
                                  have H' := Aside0.mk H
                                  clear H
                                  go_wp2
                                  go_meet
                                  case rel => exact ⟨_, (true), (by first | rfl | (simp; done) | (simp [*]; done)), H', ⟨by have := HJ2.out; have := HJ10.out; have := HJ20.out; first | omega | exact Nat.le_refl _⟩, ⟨by (with_reducible repeat (first | refine blk_drewN ?_ _ | refine blk_drew ?_ | refine blk_alloc ?_ _)); exact BK135.out⟩, ⟨by repeat (first | (with_reducible first | exact HB.out | apply below_alloc | apply pw_below_drewN | apply below_drew1 | refine below_set ?_ GE135.out) | exact HB.out)⟩⟩
                              case rest =>
                                clear HC39
                                try clear c1
                                try clear q1
                                try clear c2
                                try clear p2
                                try clear c3
                                try clear q3
                                try clear c6
                                try clear c8
                                try clear c8b0
                                try clear c8b1
                                try clear c8b2
                                try clear c9
                                try clear c9b0
                                try clear c9b1
                                try clear c9b2
                                try clear c14
                                try clear q14
                                try clear c15
                                try clear c15b0
                                try clear c15b1
                                try clear c15b2
                                try clear c16
                                try clear c16b0
                                try clear c16b1
                                try clear c16b2
                                try clear c17
                                try clear c17b0
                                try clear c17b1
                                try clear c17b2
                                try clear c18
                                try clear c18b0
                                try clear c18b1
                                try clear c18b2
                                try clear c19
                                try clear c19b0
                                try clear c19b1
                                try clear c19b2
                                try clear c24
                                try clear c28
                                try clear c30
                                try clear c32
                                try clear q32
                                try clear c33
                                try clear c33b0
                                try clear c33b1
                                try clear q35
                                try clear q37
                                try clear hcz12_0
                                try clear hcz12_1
                                try clear hcz12_2
                                try clear hcz12_3
                                try clear hcz26_0
                                try clear hcz26_1
                                try clear hcz26_2
                                try clear hcz26_3
                                try clear hcz27_0
                                try clear hcz27_1
                                try clear hcz27_2
                                try clear hcz27_3
                                try clear hcz31_0
                                try clear hcz31_1
                                try clear hcz31_2
                                try clear hcz31_3
                                try clear hcz34_0
                                try clear hcz34_1
                                try clear hcz34_2
                                try clear hcz34_3
                                try clear hcz36_0
                                try clear hcz36_1
                                try clear hcz36_2
                                try clear hcz36_3
                                try clear hcz38_0
                                try clear hcz38_1
                                try clear hcz38_2
                                try clear hcz38_3
                                try clear hcz5_0
                                try clear hcz5_1
                                try clear hcz5_2
                                try clear hcz5_3
                                try clear hcz7_0
                                try clear hcz7_1
                                try clear hcz7_2
                                try clear hcz7_3
                                try clear hfz12_0
                                try clear hfz12_1
                                try clear hfz12_2
                                try clear hfz12_3
                                try clear hfz26_0
                                try clear hfz26_1
                                try clear hfz26_2
                                try clear hfz26_3
                                try clear hfz27_0
                                try clear hfz27_1
                                try clear hfz27_2
                                try clear hfz27_3
                                try clear hfz31_0
                                try clear hfz31_1
                                try clear hfz31_2
                                try clear hfz31_3
                                try clear hfz34_0
                                try clear hfz34_1
                                try clear hfz34_2
                                try clear hfz34_3
                                try clear hfz36_0
                                try clear hfz36_1
                                try clear hfz36_2
                                try clear hfz36_3
                                try clear hfz38_0
                                try clear hfz38_1
                                try clear hfz38_2
                                try clear hfz38_3
                                try clear hfz5_0
                                try clear hfz5_1
                                try clear hfz5_2
                                try clear hfz5_3
                                try clear hfz7_0
                                try clear hfz7_1
                                try clear hfz7_2
                                try clear hfz7_3
                                try clear p2
                                try clear q145
                                try clear q146
                                obtain ⟨kq, x78_38, rfl, HA, HJ38, BK135, HB⟩ := hcut
                                cases kq with
                                | zero => exact absurd HA.out (by simp [usherlaw6_FieldMediaQuoted.j3])
                                | succ kj38 =>
                                  have H := HA.out
                                  clear HA
                                  simp only [usherlaw6_FieldMediaQuoted.j3] at H
                                  by_cases c42 : x78_38 = true
                                  · subst c42
                                    have H1 : (some false) = some r := by rw [if_pos rfl] at H; exact H
                                    clear H
                                    have H := H1
                                    clear H1
                                    obtain rfl := Option.some.inj H
                                    go_wp2
                                    go_ret
                                    exact ⟨by first | rfl | (simp [errW_none, errW_some] <;> rfl) | (simp [*, errW_none, errW_some] <;> rfl), by repeat (first | (with_reducible first | exact HB.out | apply below_alloc | apply pw_below_drewN | apply below_drew1 | refine below_set ?_ GE135.out) | exact HB.out)⟩
                                  · replace c42 := Bool.eq_false_iff.mpr c42
                                    subst c42
                                    have H1 : ((field_Media.f t139).bind fun bt148 => (if ((a0_0 ++ (⟨#[47]⟩ : ByteArray)) ++ a0_1).size + 1 ≤ 9223372036854775807 then (if (((a0_0 ++ (⟨#[47]⟩ : ByteArray)) ++ a0_1) ++ (⟨#[59]⟩ : ByteArray)).size + x3_2.size ≤ 9223372036854775807 then (if ((((a0_0 ++ (⟨#[47]⟩ : ByteArray)) ++ a0_1) ++ (⟨#[59]⟩ : ByteArray)) ++ x3_2).size + 2 ≤ 9223372036854775807 then ((usherlaw6_lower.f kj38 x3_2).bind fun t150 => (if (((((a0_0 ++ (⟨#[47]⟩ : ByteArray)) ++ a0_1) ++ (⟨#[59]⟩ : ByteArray)) ++ x3_2) ++ (⟨#[61, 34]⟩ : ByteArray)).size + t150.size ≤ 9223372036854775807 then ((field_Media.f ((((((a0_0 ++ (⟨#[47]⟩ : ByteArray)) ++ a0_1) ++ (⟨#[59]⟩ : ByteArray)) ++ x3_2) ++ (⟨#[61, 34]⟩ : ByteArray)) ++ t150)).bind fun bt151 => (if ((((a0_0 ++ (⟨#[47]⟩ : ByteArray)) ++ a0_1) ++ (⟨#[59]⟩ : ByteArray)) ++ x3_2).size + 1 ≤ 9223372036854775807 then (if (((((a0_0 ++ (⟨#[47]⟩ : ByteArray)) ++ a0_1) ++ (⟨#[59]⟩ : ByteArray)) ++ x3_2) ++ (⟨#[61]⟩ : ByteArray)).size + x5_10.size ≤ 9223372036854775807 then (if ((((((a0_0 ++ (⟨#[47]⟩ : ByteArray)) ++ a0_1) ++ (⟨#[59]⟩ : ByteArray)) ++ x3_2) ++ (⟨#[61]⟩ : ByteArray)) ++ x5_10).size + 1 ≤ 9223372036854775807 then ((field_Media.f (((((((a0_0 ++ (⟨#[47]⟩ : ByteArray)) ++ a0_1) ++ (⟨#[59]⟩ : ByteArray)) ++ x3_2) ++ (⟨#[61]⟩ : ByteArray)) ++ x5_10) ++ (⟨#[32]⟩ : ByteArray))).bind fun bt153 => (if bt148.2.isNone = true then (if bt148.1.toList = t139.toList then (if bt151.2.isNone = true then (some false) else (if (bt151.2.getD 0) = 2 then (if bt153.2.isNone = true then (some false) else (if (bt153.2.getD 0) = 2 then (some true) else (some false))) else (some false))) else (some false)) else (some false))) else (none)) else (none)) else (none))) else (none))) else (none)) else (none)) else (none))) = some r := by rw [if_neg (show ¬ (false = true) by decide)] at H; exact H
                                    clear H
                                    have H := H1
                                    clear H1
                                    replace H := Option.bind_eq_some_iff.mp H
                                    obtain ⟨⟨t148, t149⟩, A430, H⟩ := H
                                    replace H : (if ((a0_0 ++ (⟨#[47]⟩ : ByteArray)) ++ a0_1).size + 1 ≤ 9223372036854775807 then (if (((a0_0 ++ (⟨#[47]⟩ : ByteArray)) ++ a0_1) ++ (⟨#[59]⟩ : ByteArray)).size + x3_2.size ≤ 9223372036854775807 then (if ((((a0_0 ++ (⟨#[47]⟩ : ByteArray)) ++ a0_1) ++ (⟨#[59]⟩ : ByteArray)) ++ x3_2).size + 2 ≤ 9223372036854775807 then ((usherlaw6_lower.f kj38 x3_2).bind fun t150 => (if (((((a0_0 ++ (⟨#[47]⟩ : ByteArray)) ++ a0_1) ++ (⟨#[59]⟩ : ByteArray)) ++ x3_2) ++ (⟨#[61, 34]⟩ : ByteArray)).size + t150.size ≤ 9223372036854775807 then ((field_Media.f ((((((a0_0 ++ (⟨#[47]⟩ : ByteArray)) ++ a0_1) ++ (⟨#[59]⟩ : ByteArray)) ++ x3_2) ++ (⟨#[61, 34]⟩ : ByteArray)) ++ t150)).bind fun bt151 => (if ((((a0_0 ++ (⟨#[47]⟩ : ByteArray)) ++ a0_1) ++ (⟨#[59]⟩ : ByteArray)) ++ x3_2).size + 1 ≤ 9223372036854775807 then (if (((((a0_0 ++ (⟨#[47]⟩ : ByteArray)) ++ a0_1) ++ (⟨#[59]⟩ : ByteArray)) ++ x3_2) ++ (⟨#[61]⟩ : ByteArray)).size + x5_10.size ≤ 9223372036854775807 then (if ((((((a0_0 ++ (⟨#[47]⟩ : ByteArray)) ++ a0_1) ++ (⟨#[59]⟩ : ByteArray)) ++ x3_2) ++ (⟨#[61]⟩ : ByteArray)) ++ x5_10).size + 1 ≤ 9223372036854775807 then ((field_Media.f (((((((a0_0 ++ (⟨#[47]⟩ : ByteArray)) ++ a0_1) ++ (⟨#[59]⟩ : ByteArray)) ++ x3_2) ++ (⟨#[61]⟩ : ByteArray)) ++ x5_10) ++ (⟨#[32]⟩ : ByteArray))).bind fun bt153 => (if t149.isNone = true then (if t148.toList = t139.toList then (if bt151.2.isNone = true then (some false) else (if (bt151.2.getD 0) = 2 then (if bt153.2.isNone = true then (some false) else (if (bt153.2.getD 0) = 2 then (some true) else (some false))) else (some false))) else (some false)) else (some false))) else (none)) else (none)) else (none))) else (none))) else (none)) else (none)) else (none)) = some r := H
                                    have A43 := Aside0.mk A430
                                    clear A430
                                    by_cases c44 : ((a0_0 ++ (⟨#[47]⟩ : ByteArray)) ++ a0_1).size + 1 ≤ 9223372036854775807
                                    · rw [if_pos c44] at H
                                      have c44b0 := eq_true c44
                                      have c44b1 : decide (((a0_0 ++ (⟨#[47]⟩ : ByteArray)) ++ a0_1).size + 1 ≤ 9223372036854775807) = true := decide_eq_true c44
                                      try have c44b2 : (9223372036854775807 < ((a0_0 ++ (⟨#[47]⟩ : ByteArray)) ++ a0_1).size + 1) = False := eq_false (Nat.not_lt.2 c44)
                                      (try (have c44b3 := c44b0; simp only [ByteArray.size_append', ByteArray.size_mk', List.size_toArray, List.length_cons, List.length_nil, Nat.reduceAdd] at c44b3))
                                      (try (have c44b4 := c44b1; simp only [ByteArray.size_append', ByteArray.size_mk', List.size_toArray, List.length_cons, List.length_nil, Nat.reduceAdd] at c44b4))
                                      (try (have c44b5 := c44b2; simp only [ByteArray.size_append', ByteArray.size_mk', List.size_toArray, List.length_cons, List.length_nil, Nat.reduceAdd] at c44b5))
                                      by_cases c45 : (((a0_0 ++ (⟨#[47]⟩ : ByteArray)) ++ a0_1) ++ (⟨#[59]⟩ : ByteArray)).size + x3_2.size ≤ 9223372036854775807
                                      · rw [if_pos c45] at H
                                        have c45b0 := eq_true c45
                                        have c45b1 : decide ((((a0_0 ++ (⟨#[47]⟩ : ByteArray)) ++ a0_1) ++ (⟨#[59]⟩ : ByteArray)).size + x3_2.size ≤ 9223372036854775807) = true := decide_eq_true c45
                                        try have c45b2 : (9223372036854775807 < (((a0_0 ++ (⟨#[47]⟩ : ByteArray)) ++ a0_1) ++ (⟨#[59]⟩ : ByteArray)).size + x3_2.size) = False := eq_false (Nat.not_lt.2 c45)
                                        (try (have c45b3 := c45b0; simp only [ByteArray.size_append', ByteArray.size_mk', List.size_toArray, List.length_cons, List.length_nil, Nat.reduceAdd] at c45b3))
                                        (try (have c45b4 := c45b1; simp only [ByteArray.size_append', ByteArray.size_mk', List.size_toArray, List.length_cons, List.length_nil, Nat.reduceAdd] at c45b4))
                                        (try (have c45b5 := c45b2; simp only [ByteArray.size_append', ByteArray.size_mk', List.size_toArray, List.length_cons, List.length_nil, Nat.reduceAdd] at c45b5))
                                        by_cases c46 : ((((a0_0 ++ (⟨#[47]⟩ : ByteArray)) ++ a0_1) ++ (⟨#[59]⟩ : ByteArray)) ++ x3_2).size + 2 ≤ 9223372036854775807
                                        · rw [if_pos c46] at H
                                          have c46b0 := eq_true c46
                                          have c46b1 : decide (((((a0_0 ++ (⟨#[47]⟩ : ByteArray)) ++ a0_1) ++ (⟨#[59]⟩ : ByteArray)) ++ x3_2).size + 2 ≤ 9223372036854775807) = true := decide_eq_true c46
                                          try have c46b2 : (9223372036854775807 < ((((a0_0 ++ (⟨#[47]⟩ : ByteArray)) ++ a0_1) ++ (⟨#[59]⟩ : ByteArray)) ++ x3_2).size + 2) = False := eq_false (Nat.not_lt.2 c46)
                                          (try (have c46b3 := c46b0; simp only [ByteArray.size_append', ByteArray.size_mk', List.size_toArray, List.length_cons, List.length_nil, Nat.reduceAdd] at c46b3))
                                          (try (have c46b4 := c46b1; simp only [ByteArray.size_append', ByteArray.size_mk', List.size_toArray, List.length_cons, List.length_nil, Nat.reduceAdd] at c46b4))
                                          (try (have c46b5 := c46b2; simp only [ByteArray.size_append', ByteArray.size_mk', List.size_toArray, List.length_cons, List.length_nil, Nat.reduceAdd] at c46b5))
                                          replace H := Option.bind_eq_some_iff.mp H
                                          obtain ⟨t150, A470, H⟩ := H
                                          replace H : (if (((((a0_0 ++ (⟨#[47]⟩ : ByteArray)) ++ a0_1) ++ (⟨#[59]⟩ : ByteArray)) ++ x3_2) ++ (⟨#[61, 34]⟩ : ByteArray)).size + t150.size ≤ 9223372036854775807 then ((field_Media.f ((((((a0_0 ++ (⟨#[47]⟩ : ByteArray)) ++ a0_1) ++ (⟨#[59]⟩ : ByteArray)) ++ x3_2) ++ (⟨#[61, 34]⟩ : ByteArray)) ++ t150)).bind fun bt151 => (if ((((a0_0 ++ (⟨#[47]⟩ : ByteArray)) ++ a0_1) ++ (⟨#[59]⟩ : ByteArray)) ++ x3_2).size + 1 ≤ 9223372036854775807 then (if (((((a0_0 ++ (⟨#[47]⟩ : ByteArray)) ++ a0_1) ++ (⟨#[59]⟩ : ByteArray)) ++ x3_2) ++ (⟨#[61]⟩ : ByteArray)).size + x5_10.size ≤ 9223372036854775807 then (if ((((((a0_0 ++ (⟨#[47]⟩ : ByteArray)) ++ a0_1) ++ (⟨#[59]⟩ : ByteArray)) ++ x3_2) ++ (⟨#[61]⟩ : ByteArray)) ++ x5_10).size + 1 ≤ 9223372036854775807 then ((field_Media.f (((((((a0_0 ++ (⟨#[47]⟩ : ByteArray)) ++ a0_1) ++ (⟨#[59]⟩ : ByteArray)) ++ x3_2) ++ (⟨#[61]⟩ : ByteArray)) ++ x5_10) ++ (⟨#[32]⟩ : ByteArray))).bind fun bt153 => (if t149.isNone = true then (if t148.toList = t139.toList then (if bt151.2.isNone = true then (some false) else (if (bt151.2.getD 0) = 2 then (if bt153.2.isNone = true then (some false) else (if (bt153.2.getD 0) = 2 then (some true) else (some false))) else (some false))) else (some false)) else (some false))) else (none)) else (none)) else (none))) else (none)) = some r := H
                                          have A47 := Aside0.mk A470
                                          clear A470
                                          by_cases c48 : (((((a0_0 ++ (⟨#[47]⟩ : ByteArray)) ++ a0_1) ++ (⟨#[59]⟩ : ByteArray)) ++ x3_2) ++ (⟨#[61, 34]⟩ : ByteArray)).size + t150.size ≤ 9223372036854775807
                                          · rw [if_pos c48] at H
                                            have c48b0 := eq_true c48
                                            have c48b1 : decide ((((((a0_0 ++ (⟨#[47]⟩ : ByteArray)) ++ a0_1) ++ (⟨#[59]⟩ : ByteArray)) ++ x3_2) ++ (⟨#[61, 34]⟩ : ByteArray)).size + t150.size ≤ 9223372036854775807) = true := decide_eq_true c48
                                            try have c48b2 : (9223372036854775807 < (((((a0_0 ++ (⟨#[47]⟩ : ByteArray)) ++ a0_1) ++ (⟨#[59]⟩ : ByteArray)) ++ x3_2) ++ (⟨#[61, 34]⟩ : ByteArray)).size + t150.size) = False := eq_false (Nat.not_lt.2 c48)
                                            (try (have c48b3 := c48b0; simp only [ByteArray.size_append', ByteArray.size_mk', List.size_toArray, List.length_cons, List.length_nil, Nat.reduceAdd] at c48b3))
                                            (try (have c48b4 := c48b1; simp only [ByteArray.size_append', ByteArray.size_mk', List.size_toArray, List.length_cons, List.length_nil, Nat.reduceAdd] at c48b4))
                                            (try (have c48b5 := c48b2; simp only [ByteArray.size_append', ByteArray.size_mk', List.size_toArray, List.length_cons, List.length_nil, Nat.reduceAdd] at c48b5))
                                            replace H := Option.bind_eq_some_iff.mp H
                                            obtain ⟨⟨t151, t152⟩, A490, H⟩ := H
                                            replace H : (if ((((a0_0 ++ (⟨#[47]⟩ : ByteArray)) ++ a0_1) ++ (⟨#[59]⟩ : ByteArray)) ++ x3_2).size + 1 ≤ 9223372036854775807 then (if (((((a0_0 ++ (⟨#[47]⟩ : ByteArray)) ++ a0_1) ++ (⟨#[59]⟩ : ByteArray)) ++ x3_2) ++ (⟨#[61]⟩ : ByteArray)).size + x5_10.size ≤ 9223372036854775807 then (if ((((((a0_0 ++ (⟨#[47]⟩ : ByteArray)) ++ a0_1) ++ (⟨#[59]⟩ : ByteArray)) ++ x3_2) ++ (⟨#[61]⟩ : ByteArray)) ++ x5_10).size + 1 ≤ 9223372036854775807 then ((field_Media.f (((((((a0_0 ++ (⟨#[47]⟩ : ByteArray)) ++ a0_1) ++ (⟨#[59]⟩ : ByteArray)) ++ x3_2) ++ (⟨#[61]⟩ : ByteArray)) ++ x5_10) ++ (⟨#[32]⟩ : ByteArray))).bind fun bt153 => (if t149.isNone = true then (if t148.toList = t139.toList then (if t152.isNone = true then (some false) else (if (t152.getD 0) = 2 then (if bt153.2.isNone = true then (some false) else (if (bt153.2.getD 0) = 2 then (some true) else (some false))) else (some false))) else (some false)) else (some false))) else (none)) else (none)) else (none)) = some r := H
                                            have A49 := Aside0.mk A490
                                            clear A490
                                            by_cases c50 : ((((a0_0 ++ (⟨#[47]⟩ : ByteArray)) ++ a0_1) ++ (⟨#[59]⟩ : ByteArray)) ++ x3_2).size + 1 ≤ 9223372036854775807
                                            · rw [if_pos c50] at H
                                              have c50b0 := eq_true c50
                                              have c50b1 : decide (((((a0_0 ++ (⟨#[47]⟩ : ByteArray)) ++ a0_1) ++ (⟨#[59]⟩ : ByteArray)) ++ x3_2).size + 1 ≤ 9223372036854775807) = true := decide_eq_true c50
                                              try have c50b2 : (9223372036854775807 < ((((a0_0 ++ (⟨#[47]⟩ : ByteArray)) ++ a0_1) ++ (⟨#[59]⟩ : ByteArray)) ++ x3_2).size + 1) = False := eq_false (Nat.not_lt.2 c50)
                                              (try (have c50b3 := c50b0; simp only [ByteArray.size_append', ByteArray.size_mk', List.size_toArray, List.length_cons, List.length_nil, Nat.reduceAdd] at c50b3))
                                              (try (have c50b4 := c50b1; simp only [ByteArray.size_append', ByteArray.size_mk', List.size_toArray, List.length_cons, List.length_nil, Nat.reduceAdd] at c50b4))
                                              (try (have c50b5 := c50b2; simp only [ByteArray.size_append', ByteArray.size_mk', List.size_toArray, List.length_cons, List.length_nil, Nat.reduceAdd] at c50b5))
                                              by_cases c51 : (((((a0_0 ++ (⟨#[47]⟩ : ByteArray)) ++ a0_1) ++ (⟨#[59]⟩ : ByteArray)) ++ x3_2) ++ (⟨#[61]⟩ : ByteArray)).size + x5_10.size ≤ 9223372036854775807
                                              · rw [if_pos c51] at H
                                                have c51b0 := eq_true c51
                                                have c51b1 : decide ((((((a0_0 ++ (⟨#[47]⟩ : ByteArray)) ++ a0_1) ++ (⟨#[59]⟩ : ByteArray)) ++ x3_2) ++ (⟨#[61]⟩ : ByteArray)).size + x5_10.size ≤ 9223372036854775807) = true := decide_eq_true c51
                                                try have c51b2 : (9223372036854775807 < (((((a0_0 ++ (⟨#[47]⟩ : ByteArray)) ++ a0_1) ++ (⟨#[59]⟩ : ByteArray)) ++ x3_2) ++ (⟨#[61]⟩ : ByteArray)).size + x5_10.size) = False := eq_false (Nat.not_lt.2 c51)
                                                (try (have c51b3 := c51b0; simp only [ByteArray.size_append', ByteArray.size_mk', List.size_toArray, List.length_cons, List.length_nil, Nat.reduceAdd] at c51b3))
                                                (try (have c51b4 := c51b1; simp only [ByteArray.size_append', ByteArray.size_mk', List.size_toArray, List.length_cons, List.length_nil, Nat.reduceAdd] at c51b4))
                                                (try (have c51b5 := c51b2; simp only [ByteArray.size_append', ByteArray.size_mk', List.size_toArray, List.length_cons, List.length_nil, Nat.reduceAdd] at c51b5))
                                                by_cases c52 : ((((((a0_0 ++ (⟨#[47]⟩ : ByteArray)) ++ a0_1) ++ (⟨#[59]⟩ : ByteArray)) ++ x3_2) ++ (⟨#[61]⟩ : ByteArray)) ++ x5_10).size + 1 ≤ 9223372036854775807
                                                · rw [if_pos c52] at H
                                                  have c52b0 := eq_true c52
                                                  have c52b1 : decide (((((((a0_0 ++ (⟨#[47]⟩ : ByteArray)) ++ a0_1) ++ (⟨#[59]⟩ : ByteArray)) ++ x3_2) ++ (⟨#[61]⟩ : ByteArray)) ++ x5_10).size + 1 ≤ 9223372036854775807) = true := decide_eq_true c52
                                                  try have c52b2 : (9223372036854775807 < ((((((a0_0 ++ (⟨#[47]⟩ : ByteArray)) ++ a0_1) ++ (⟨#[59]⟩ : ByteArray)) ++ x3_2) ++ (⟨#[61]⟩ : ByteArray)) ++ x5_10).size + 1) = False := eq_false (Nat.not_lt.2 c52)
                                                  (try (have c52b3 := c52b0; simp only [ByteArray.size_append', ByteArray.size_mk', List.size_toArray, List.length_cons, List.length_nil, Nat.reduceAdd] at c52b3))
                                                  (try (have c52b4 := c52b1; simp only [ByteArray.size_append', ByteArray.size_mk', List.size_toArray, List.length_cons, List.length_nil, Nat.reduceAdd] at c52b4))
                                                  (try (have c52b5 := c52b2; simp only [ByteArray.size_append', ByteArray.size_mk', List.size_toArray, List.length_cons, List.length_nil, Nat.reduceAdd] at c52b5))
                                                  replace H := Option.bind_eq_some_iff.mp H
                                                  obtain ⟨⟨t153, t154⟩, A530, H⟩ := H
                                                  replace H : (if t149.isNone = true then (if t148.toList = t139.toList then (if t152.isNone = true then (some false) else (if (t152.getD 0) = 2 then (if t154.isNone = true then (some false) else (if (t154.getD 0) = 2 then (some true) else (some false))) else (some false))) else (some false)) else (some false)) = some r := H
                                                  have A53 := Aside0.mk A530
                                                  clear A530
                                                  rcases t149 with _ | q155
                                                  · have H1 : (if t148.toList = t139.toList then (if t152.isNone = true then (some false) else (if (t152.getD 0) = 2 then (if t154.isNone = true then (some false) else (if (t154.getD 0) = 2 then (some true) else (some false))) else (some false))) else (some false)) = some r := by rw [if_pos (show (none : Option Int).isNone = true by rfl)] at H; exact H
                                                    clear H
                                                    have H := H1
                                                    clear H1
                                                    try simp only [errW_none, errW_some]
                                                    by_cases c54 : t148.toList = t139.toList
                                                    · rw [if_pos c54] at H
                                                      have c54b0 : (t148.toList == t139.toList) = true := beq_iff_eq.mpr c54
                                                      have c54b1 : (t148.toList != t139.toList) = false := bne_eq_false_iff_eq.mpr c54
                                                      clear c54
                                                      rcases t152 with _ | q157
                                                      · have H1 : (some false) = some r := by rw [if_pos (show (none : Option Int).isNone = true by rfl)] at H; exact H
                                                        clear H
                                                        have H := H1
                                                        clear H1
                                                        try simp only [errW_none, errW_some]
                                                        obtain rfl := Option.some.inj H
                                                        go_wp2_with (first | ((with_reducible refine gate_callee (f := 30) rfl ?_); refine goesL_ (some 81) rfl rfl Tryd.func30 (by kernel_rfl) rfl #[.string t139] rfl (by (try simp only [List.map_toArray, List.map_cons, List.map_nil]); first | done | rfl | (simp only [List.length_drop, List.length_take]; rfl)) ?_; (with_reducible refine (field_Media.calls t139 t148 none _ A43.out ?side1).mono ?_); (case side1 => exact HG.out.step (by repeat (first | (with_reducible first | exact HB.out | apply below_alloc | apply pw_below_drewN | apply below_drew1 | refine below_set ?_ GE135.out) | exact HB.out)) rfl); rintro e w55 ⟨rfl, hb⟩; refine ⟨_, rfl, ?_⟩; have n0_ := Aside0.mk (blk_below (g := gb135) (o := .cells #[.string a0_0, .string a0_1, .string a0_2, .string a0_3] 44 (0, 0)) (by (with_reducible repeat (first | refine blk_drewN ?_ _ | refine blk_drew ?_ | refine blk_alloc ?_ _)); exact BK135.out) hb); have n1_ := Aside0.mk (below_step (by repeat (first | (with_reducible first | exact HB.out | apply below_alloc | apply pw_below_drewN | apply below_drew1 | refine below_set ?_ GE135.out) | exact HB.out)) hb); clear BK135; clear HB; have BK135 := n0_; have HB := n1_; clear n0_ n1_; (try clear hb); (try clear hb2); (try clear hk); (try clear hi); (try simp only [errW_none, errW_some])) | ((with_reducible refine gate_callee (f := 34) rfl ?_); refine goesL_ (some 91) rfl rfl Tryd.func34 (by kernel_rfl) rfl #[.string x3_2] rfl (by (try simp only [List.map_toArray, List.map_cons, List.map_nil]); first | done | rfl | (simp only [List.length_drop, List.length_take]; rfl)) ?_; (with_reducible refine (usherlaw6_lower.calls kj38 x3_2 t150 _ A47.out).mono ?_); rintro e w56 ⟨rfl, hb⟩; refine ⟨_, rfl, ?_⟩; have n0_ := Aside0.mk (blk_below (g := gb135) (o := .cells #[.string a0_0, .string a0_1, .string a0_2, .string a0_3] 44 (0, 0)) (by (with_reducible repeat (first | refine blk_drewN ?_ _ | refine blk_drew ?_ | refine blk_alloc ?_ _)); exact BK135.out) hb); have n1_ := Aside0.mk (below_step (by repeat (first | (with_reducible first | exact HB.out | apply below_alloc | apply pw_below_drewN | apply below_drew1 | refine below_set ?_ GE135.out) | exact HB.out)) hb); clear BK135; clear HB; have BK135 := n0_; have HB := n1_; clear n0_ n1_; (try clear hb); (try clear hb2); (try clear hk); (try clear hi)) | ((with_reducible refine gate_callee (f := 30) rfl ?_); refine goesL_ (some 93) rfl rfl Tryd.func30 (by kernel_rfl) rfl #[.string ((((((a0_0 ++ (⟨#[47]⟩ : ByteArray)) ++ a0_1) ++ (⟨#[59]⟩ : ByteArray)) ++ x3_2) ++ (⟨#[61, 34]⟩ : ByteArray)) ++ t150)] rfl (by (try simp only [List.map_toArray, List.map_cons, List.map_nil]); first | done | rfl | (simp only [List.length_drop, List.length_take]; rfl)) ?_; (with_reducible refine (field_Media.calls ((((((a0_0 ++ (⟨#[47]⟩ : ByteArray)) ++ a0_1) ++ (⟨#[59]⟩ : ByteArray)) ++ x3_2) ++ (⟨#[61, 34]⟩ : ByteArray)) ++ t150) t151 none _ A49.out ?side1).mono ?_); (case side1 => exact HG.out.step (by repeat (first | (with_reducible first | exact HB.out | apply below_alloc | apply pw_below_drewN | apply below_drew1 | refine below_set ?_ GE135.out) | exact HB.out)) rfl); rintro e w57 ⟨rfl, hb⟩; refine ⟨_, rfl, ?_⟩; have n0_ := Aside0.mk (blk_below (g := gb135) (o := .cells #[.string a0_0, .string a0_1, .string a0_2, .string a0_3] 44 (0, 0)) (by (with_reducible repeat (first | refine blk_drewN ?_ _ | refine blk_drew ?_ | refine blk_alloc ?_ _)); exact BK135.out) hb); have n1_ := Aside0.mk (below_step (by repeat (first | (with_reducible first | exact HB.out | apply below_alloc | apply pw_below_drewN | apply below_drew1 | refine below_set ?_ GE135.out) | exact HB.out)) hb); clear BK135; clear HB; have BK135 := n0_; have HB := n1_; clear n0_ n1_; (try clear hb); (try clear hb2); (try clear hk); (try clear hi); (try simp only [errW_none, errW_some])) | ((with_reducible refine gate_callee (f := 30) rfl ?_); refine goesL_ (some 105) rfl rfl Tryd.func30 (by kernel_rfl) rfl #[.string (((((((a0_0 ++ (⟨#[47]⟩ : ByteArray)) ++ a0_1) ++ (⟨#[59]⟩ : ByteArray)) ++ x3_2) ++ (⟨#[61]⟩ : ByteArray)) ++ x5_10) ++ (⟨#[32]⟩ : ByteArray))] rfl (by (try simp only [List.map_toArray, List.map_cons, List.map_nil]); first | done | rfl | (simp only [List.length_drop, List.length_take]; rfl)) ?_; (with_reducible refine (field_Media.calls (((((((a0_0 ++ (⟨#[47]⟩ : ByteArray)) ++ a0_1) ++ (⟨#[59]⟩ : ByteArray)) ++ x3_2) ++ (⟨#[61]⟩ : ByteArray)) ++ x5_10) ++ (⟨#[32]⟩ : ByteArray)) t153 t154 _ A53.out ?side1).mono ?_); (case side1 => exact HG.out.step (by repeat (first | (with_reducible first | exact HB.out | apply below_alloc | apply pw_below_drewN | apply below_drew1 | refine below_set ?_ GE135.out) | exact HB.out)) rfl); rintro e w58 ⟨rfl, hb⟩; refine ⟨_, rfl, ?_⟩; have n0_ := Aside0.mk (blk_below (g := gb135) (o := .cells #[.string a0_0, .string a0_1, .string a0_2, .string a0_3] 44 (0, 0)) (by (with_reducible repeat (first | refine blk_drewN ?_ _ | refine blk_drew ?_ | refine blk_alloc ?_ _)); exact BK135.out) hb); have n1_ := Aside0.mk (below_step (by repeat (first | (with_reducible first | exact HB.out | apply below_alloc | apply pw_below_drewN | apply below_drew1 | refine below_set ?_ GE135.out) | exact HB.out)) hb); clear BK135; clear HB; have BK135 := n0_; have HB := n1_; clear n0_ n1_; (try clear hb); (try clear hb2); (try clear hk); (try clear hi); (try simp only [errW_none, errW_some]); have hgeq156 := Glob.err2 (HG.out.step HB.out (T := [0, 8, 999]) rfl) (by rfl); have hgq59 := fun W_ => run_nil_err W_ 2))
                                                        go_ret
                                                        exact ⟨by first | rfl | (simp [errW_none, errW_some] <;> rfl) | (simp [*, errW_none, errW_some] <;> rfl), by repeat (first | (with_reducible first | exact HB.out | apply below_alloc | apply pw_below_drewN | apply below_drew1 | refine below_set ?_ GE135.out) | exact HB.out)⟩
                                                      · have H1 : (if q157 = 2 then (if t154.isNone = true then (some false) else (if (t154.getD 0) = 2 then (some true) else (some false))) else (some false)) = some r := by rw [if_neg (show ¬ (some q157).isNone = true by simp)] at H; exact H
                                                        clear H
                                                        have H := H1
                                                        clear H1
                                                        try simp only [errW_none, errW_some]
                                                        by_cases c60 : q157 = 2
                                                        · rw [if_pos c60] at H
                                                          have c60b0 : (q157 == 2) = true := beq_iff_eq.mpr c60
                                                          have c60b1 : (q157 != 2) = false := bne_eq_false_iff_eq.mpr c60
                                                          clear c60
                                                          rcases t154 with _ | q159
                                                          · have H1 : (some false) = some r := by rw [if_pos (show (none : Option Int).isNone = true by rfl)] at H; exact H
                                                            clear H
                                                            have H := H1
                                                            clear H1
                                                            try simp only [errW_none, errW_some]
                                                            obtain rfl := Option.some.inj H
                                                            go_wp2_with (first | ((with_reducible refine gate_callee (f := 30) rfl ?_); refine goesL_ (some 81) rfl rfl Tryd.func30 (by kernel_rfl) rfl #[.string t139] rfl (by (try simp only [List.map_toArray, List.map_cons, List.map_nil]); first | done | rfl | (simp only [List.length_drop, List.length_take]; rfl)) ?_; (with_reducible refine (field_Media.calls t139 t148 none _ A43.out ?side1).mono ?_); (case side1 => exact HG.out.step (by repeat (first | (with_reducible first | exact HB.out | apply below_alloc | apply pw_below_drewN | apply below_drew1 | refine below_set ?_ GE135.out) | exact HB.out)) rfl); rintro e w61 ⟨rfl, hb⟩; refine ⟨_, rfl, ?_⟩; have n0_ := Aside0.mk (blk_below (g := gb135) (o := .cells #[.string a0_0, .string a0_1, .string a0_2, .string a0_3] 44 (0, 0)) (by (with_reducible repeat (first | refine blk_drewN ?_ _ | refine blk_drew ?_ | refine blk_alloc ?_ _)); exact BK135.out) hb); have n1_ := Aside0.mk (below_step (by repeat (first | (with_reducible first | exact HB.out | apply below_alloc | apply pw_below_drewN | apply below_drew1 | refine below_set ?_ GE135.out) | exact HB.out)) hb); clear BK135; clear HB; have BK135 := n0_; have HB := n1_; clear n0_ n1_; (try clear hb); (try clear hb2); (try clear hk); (try clear hi); (try simp only [errW_none, errW_some])) | ((with_reducible refine gate_callee (f := 34) rfl ?_); refine goesL_ (some 91) rfl rfl Tryd.func34 (by kernel_rfl) rfl #[.string x3_2] rfl (by (try simp only [List.map_toArray, List.map_cons, List.map_nil]); first | done | rfl | (simp only [List.length_drop, List.length_take]; rfl)) ?_; (with_reducible refine (usherlaw6_lower.calls kj38 x3_2 t150 _ A47.out).mono ?_); rintro e w62 ⟨rfl, hb⟩; refine ⟨_, rfl, ?_⟩; have n0_ := Aside0.mk (blk_below (g := gb135) (o := .cells #[.string a0_0, .string a0_1, .string a0_2, .string a0_3] 44 (0, 0)) (by (with_reducible repeat (first | refine blk_drewN ?_ _ | refine blk_drew ?_ | refine blk_alloc ?_ _)); exact BK135.out) hb); have n1_ := Aside0.mk (below_step (by repeat (first | (with_reducible first | exact HB.out | apply below_alloc | apply pw_below_drewN | apply below_drew1 | refine below_set ?_ GE135.out) | exact HB.out)) hb); clear BK135; clear HB; have BK135 := n0_; have HB := n1_; clear n0_ n1_; (try clear hb); (try clear hb2); (try clear hk); (try clear hi)) | ((with_reducible refine gate_callee (f := 30) rfl ?_); refine goesL_ (some 93) rfl rfl Tryd.func30 (by kernel_rfl) rfl #[.string ((((((a0_0 ++ (⟨#[47]⟩ : ByteArray)) ++ a0_1) ++ (⟨#[59]⟩ : ByteArray)) ++ x3_2) ++ (⟨#[61, 34]⟩ : ByteArray)) ++ t150)] rfl (by (try simp only [List.map_toArray, List.map_cons, List.map_nil]); first | done | rfl | (simp only [List.length_drop, List.length_take]; rfl)) ?_; (with_reducible refine (field_Media.calls ((((((a0_0 ++ (⟨#[47]⟩ : ByteArray)) ++ a0_1) ++ (⟨#[59]⟩ : ByteArray)) ++ x3_2) ++ (⟨#[61, 34]⟩ : ByteArray)) ++ t150) t151 (some q157) _ A49.out ?side1).mono ?_); (case side1 => exact HG.out.step (by repeat (first | (with_reducible first | exact HB.out | apply below_alloc | apply pw_below_drewN | apply below_drew1 | refine below_set ?_ GE135.out) | exact HB.out)) rfl); rintro e w63 ⟨rfl, hb⟩; refine ⟨_, rfl, ?_⟩; have n0_ := Aside0.mk (blk_below (g := gb135) (o := .cells #[.string a0_0, .string a0_1, .string a0_2, .string a0_3] 44 (0, 0)) (by (with_reducible repeat (first | refine blk_drewN ?_ _ | refine blk_drew ?_ | refine blk_alloc ?_ _)); exact BK135.out) hb); have n1_ := Aside0.mk (below_step (by repeat (first | (with_reducible first | exact HB.out | apply below_alloc | apply pw_below_drewN | apply below_drew1 | refine below_set ?_ GE135.out) | exact HB.out)) hb); clear BK135; clear HB; have BK135 := n0_; have HB := n1_; clear n0_ n1_; (try clear hb); (try clear hb2); (try clear hk); (try clear hi); (try simp only [errW_none, errW_some])) | ((with_reducible refine gate_callee (f := 30) rfl ?_); refine goesL_ (some 105) rfl rfl Tryd.func30 (by kernel_rfl) rfl #[.string (((((((a0_0 ++ (⟨#[47]⟩ : ByteArray)) ++ a0_1) ++ (⟨#[59]⟩ : ByteArray)) ++ x3_2) ++ (⟨#[61]⟩ : ByteArray)) ++ x5_10) ++ (⟨#[32]⟩ : ByteArray))] rfl (by (try simp only [List.map_toArray, List.map_cons, List.map_nil]); first | done | rfl | (simp only [List.length_drop, List.length_take]; rfl)) ?_; (with_reducible refine (field_Media.calls (((((((a0_0 ++ (⟨#[47]⟩ : ByteArray)) ++ a0_1) ++ (⟨#[59]⟩ : ByteArray)) ++ x3_2) ++ (⟨#[61]⟩ : ByteArray)) ++ x5_10) ++ (⟨#[32]⟩ : ByteArray)) t153 none _ A53.out ?side1).mono ?_); (case side1 => exact HG.out.step (by repeat (first | (with_reducible first | exact HB.out | apply below_alloc | apply pw_below_drewN | apply below_drew1 | refine below_set ?_ GE135.out) | exact HB.out)) rfl); rintro e w64 ⟨rfl, hb⟩; refine ⟨_, rfl, ?_⟩; have n0_ := Aside0.mk (blk_below (g := gb135) (o := .cells #[.string a0_0, .string a0_1, .string a0_2, .string a0_3] 44 (0, 0)) (by (with_reducible repeat (first | refine blk_drewN ?_ _ | refine blk_drew ?_ | refine blk_alloc ?_ _)); exact BK135.out) hb); have n1_ := Aside0.mk (below_step (by repeat (first | (with_reducible first | exact HB.out | apply below_alloc | apply pw_below_drewN | apply below_drew1 | refine below_set ?_ GE135.out) | exact HB.out)) hb); clear BK135; clear HB; have BK135 := n0_; have HB := n1_; clear n0_ n1_; (try clear hb); (try clear hb2); (try clear hk); (try clear hi); (try simp only [errW_none, errW_some]); have hgeq156 := Glob.err2 (HG.out.step HB.out (T := [0, 8, 999]) rfl) (by rfl); have hgq65 := run_eq_err (Glob.sent (HG.out.step HB.out (T := [0, 8, 999]) rfl) (by rfl)) q157 2; have hgr65 := fun nq_ => run_eq_err ((Glob.sent (HG.out.step HB.out (T := [0, 8, 999]) rfl) (by rfl)).drewN nq_) q157 2; have hgeq158 := Glob.err2 (HG.out.step HB.out (T := [0, 8, 999]) rfl) (by rfl); have hgq66 := fun W_ => run_nil_err W_ 2))
                                                            go_ret
                                                            exact ⟨by first | rfl | (simp [errW_none, errW_some] <;> rfl) | (simp [*, errW_none, errW_some] <;> rfl), by repeat (first | (with_reducible first | exact HB.out | apply below_alloc | apply pw_below_drewN | apply below_drew1 | refine below_set ?_ GE135.out) | exact HB.out)⟩
                                                          · have H1 : (if q159 = 2 then (some true) else (some false)) = some r := by rw [if_neg (show ¬ (some q159).isNone = true by simp)] at H; exact H
                                                            clear H
                                                            have H := H1
                                                            clear H1
                                                            try simp only [errW_none, errW_some]
                                                            by_cases c67 : q159 = 2
                                                            · rw [if_pos c67] at H
                                                              have c67b0 : (q159 == 2) = true := beq_iff_eq.mpr c67
                                                              have c67b1 : (q159 != 2) = false := bne_eq_false_iff_eq.mpr c67
                                                              clear c67
                                                              obtain rfl := Option.some.inj H
                                                              go_wp2_with (first | ((with_reducible refine gate_callee (f := 30) rfl ?_); refine goesL_ (some 81) rfl rfl Tryd.func30 (by kernel_rfl) rfl #[.string t139] rfl (by (try simp only [List.map_toArray, List.map_cons, List.map_nil]); first | done | rfl | (simp only [List.length_drop, List.length_take]; rfl)) ?_; (with_reducible refine (field_Media.calls t139 t148 none _ A43.out ?side1).mono ?_); (case side1 => exact HG.out.step (by repeat (first | (with_reducible first | exact HB.out | apply below_alloc | apply pw_below_drewN | apply below_drew1 | refine below_set ?_ GE135.out) | exact HB.out)) rfl); rintro e w68 ⟨rfl, hb⟩; refine ⟨_, rfl, ?_⟩; have n0_ := Aside0.mk (blk_below (g := gb135) (o := .cells #[.string a0_0, .string a0_1, .string a0_2, .string a0_3] 44 (0, 0)) (by (with_reducible repeat (first | refine blk_drewN ?_ _ | refine blk_drew ?_ | refine blk_alloc ?_ _)); exact BK135.out) hb); have n1_ := Aside0.mk (below_step (by repeat (first | (with_reducible first | exact HB.out | apply below_alloc | apply pw_below_drewN | apply below_drew1 | refine below_set ?_ GE135.out) | exact HB.out)) hb); clear BK135; clear HB; have BK135 := n0_; have HB := n1_; clear n0_ n1_; (try clear hb); (try clear hb2); (try clear hk); (try clear hi); (try simp only [errW_none, errW_some])) | ((with_reducible refine gate_callee (f := 34) rfl ?_); refine goesL_ (some 91) rfl rfl Tryd.func34 (by kernel_rfl) rfl #[.string x3_2] rfl (by (try simp only [List.map_toArray, List.map_cons, List.map_nil]); first | done | rfl | (simp only [List.length_drop, List.length_take]; rfl)) ?_; (with_reducible refine (usherlaw6_lower.calls kj38 x3_2 t150 _ A47.out).mono ?_); rintro e w69 ⟨rfl, hb⟩; refine ⟨_, rfl, ?_⟩; have n0_ := Aside0.mk (blk_below (g := gb135) (o := .cells #[.string a0_0, .string a0_1, .string a0_2, .string a0_3] 44 (0, 0)) (by (with_reducible repeat (first | refine blk_drewN ?_ _ | refine blk_drew ?_ | refine blk_alloc ?_ _)); exact BK135.out) hb); have n1_ := Aside0.mk (below_step (by repeat (first | (with_reducible first | exact HB.out | apply below_alloc | apply pw_below_drewN | apply below_drew1 | refine below_set ?_ GE135.out) | exact HB.out)) hb); clear BK135; clear HB; have BK135 := n0_; have HB := n1_; clear n0_ n1_; (try clear hb); (try clear hb2); (try clear hk); (try clear hi)) | ((with_reducible refine gate_callee (f := 30) rfl ?_); refine goesL_ (some 93) rfl rfl Tryd.func30 (by kernel_rfl) rfl #[.string ((((((a0_0 ++ (⟨#[47]⟩ : ByteArray)) ++ a0_1) ++ (⟨#[59]⟩ : ByteArray)) ++ x3_2) ++ (⟨#[61, 34]⟩ : ByteArray)) ++ t150)] rfl (by (try simp only [List.map_toArray, List.map_cons, List.map_nil]); first | done | rfl | (simp only [List.length_drop, List.length_take]; rfl)) ?_; (with_reducible refine (field_Media.calls ((((((a0_0 ++ (⟨#[47]⟩ : ByteArray)) ++ a0_1) ++ (⟨#[59]⟩ : ByteArray)) ++ x3_2) ++ (⟨#[61, 34]⟩ : ByteArray)) ++ t150) t151 (some q157) _ A49.out ?side1).mono ?_); (case side1 => exact HG.out.step (by repeat (first | (with_reducible first | exact HB.out | apply below_alloc | apply pw_below_drewN | apply below_drew1 | refine below_set ?_ GE135.out) | exact HB.out)) rfl); rintro e w70 ⟨rfl, hb⟩; refine ⟨_, rfl, ?_⟩; have n0_ := Aside0.mk (blk_below (g := gb135) (o := .cells #[.string a0_0, .string a0_1, .string a0_2, .string a0_3] 44 (0, 0)) (by (with_reducible repeat (first | refine blk_drewN ?_ _ | refine blk_drew ?_ | refine blk_alloc ?_ _)); exact BK135.out) hb); have n1_ := Aside0.mk (below_step (by repeat (first | (with_reducible first | exact HB.out | apply below_alloc | apply pw_below_drewN | apply below_drew1 | refine below_set ?_ GE135.out) | exact HB.out)) hb); clear BK135; clear HB; have BK135 := n0_; have HB := n1_; clear n0_ n1_; (try clear hb); (try clear hb2); (try clear hk); (try clear hi); (try simp only [errW_none, errW_some])) | ((with_reducible refine gate_callee (f := 30) rfl ?_); refine goesL_ (some 105) rfl rfl Tryd.func30 (by kernel_rfl) rfl #[.string (((((((a0_0 ++ (⟨#[47]⟩ : ByteArray)) ++ a0_1) ++ (⟨#[59]⟩ : ByteArray)) ++ x3_2) ++ (⟨#[61]⟩ : ByteArray)) ++ x5_10) ++ (⟨#[32]⟩ : ByteArray))] rfl (by (try simp only [List.map_toArray, List.map_cons, List.map_nil]); first | done | rfl | (simp only [List.length_drop, List.length_take]; rfl)) ?_; (with_reducible refine (field_Media.calls (((((((a0_0 ++ (⟨#[47]⟩ : ByteArray)) ++ a0_1) ++ (⟨#[59]⟩ : ByteArray)) ++ x3_2) ++ (⟨#[61]⟩ : ByteArray)) ++ x5_10) ++ (⟨#[32]⟩ : ByteArray)) t153 (some q159) _ A53.out ?side1).mono ?_); (case side1 => exact HG.out.step (by repeat (first | (with_reducible first | exact HB.out | apply below_alloc | apply pw_below_drewN | apply below_drew1 | refine below_set ?_ GE135.out) | exact HB.out)) rfl); rintro e w71 ⟨rfl, hb⟩; refine ⟨_, rfl, ?_⟩; have n0_ := Aside0.mk (blk_below (g := gb135) (o := .cells #[.string a0_0, .string a0_1, .string a0_2, .string a0_3] 44 (0, 0)) (by (with_reducible repeat (first | refine blk_drewN ?_ _ | refine blk_drew ?_ | refine blk_alloc ?_ _)); exact BK135.out) hb); have n1_ := Aside0.mk (below_step (by repeat (first | (with_reducible first | exact HB.out | apply below_alloc | apply pw_below_drewN | apply below_drew1 | refine below_set ?_ GE135.out) | exact HB.out)) hb); clear BK135; clear HB; have BK135 := n0_; have HB := n1_; clear n0_ n1_; (try clear hb); (try clear hb2); (try clear hk); (try clear hi); (try simp only [errW_none, errW_some]); have hgeq156 := Glob.err2 (HG.out.step HB.out (T := [0, 8, 999]) rfl) (by rfl); have hgq72 := run_eq_err (Glob.sent (HG.out.step HB.out (T := [0, 8, 999]) rfl) (by rfl)) q157 2; have hgr72 := fun nq_ => run_eq_err ((Glob.sent (HG.out.step HB.out (T := [0, 8, 999]) rfl) (by rfl)).drewN nq_) q157 2; have hgeq158 := Glob.err2 (HG.out.step HB.out (T := [0, 8, 999]) rfl) (by rfl); have hgq73 := run_eq_err (Glob.sent (HG.out.step HB.out (T := [0, 8, 999]) rfl) (by rfl)) q159 2; have hgr73 := fun nq_ => run_eq_err ((Glob.sent (HG.out.step HB.out (T := [0, 8, 999]) rfl) (by rfl)).drewN nq_) q159 2))
                                                              go_ret
                                                              exact ⟨by first | rfl | (simp [errW_none, errW_some] <;> rfl) | (simp [*, errW_none, errW_some] <;> rfl), by repeat (first | (with_reducible first | exact HB.out | apply below_alloc | apply pw_below_drewN | apply below_drew1 | refine below_set ?_ GE135.out) | exact HB.out)⟩
                                                            · rw [if_neg c67] at H
                                                              have c67b0 : (q159 == 2) = false := beq_eq_false_iff_ne.mpr c67
                                                              have c67b1 : (q159 != 2) = true := bne_iff_ne.mpr c67
                                                              obtain rfl := Option.some.inj H
                                                              go_wp2_with (first | ((with_reducible refine gate_callee (f := 30) rfl ?_); refine goesL_ (some 81) rfl rfl Tryd.func30 (by kernel_rfl) rfl #[.string t139] rfl (by (try simp only [List.map_toArray, List.map_cons, List.map_nil]); first | done | rfl | (simp only [List.length_drop, List.length_take]; rfl)) ?_; (with_reducible refine (field_Media.calls t139 t148 none _ A43.out ?side1).mono ?_); (case side1 => exact HG.out.step (by repeat (first | (with_reducible first | exact HB.out | apply below_alloc | apply pw_below_drewN | apply below_drew1 | refine below_set ?_ GE135.out) | exact HB.out)) rfl); rintro e w74 ⟨rfl, hb⟩; refine ⟨_, rfl, ?_⟩; have n0_ := Aside0.mk (blk_below (g := gb135) (o := .cells #[.string a0_0, .string a0_1, .string a0_2, .string a0_3] 44 (0, 0)) (by (with_reducible repeat (first | refine blk_drewN ?_ _ | refine blk_drew ?_ | refine blk_alloc ?_ _)); exact BK135.out) hb); have n1_ := Aside0.mk (below_step (by repeat (first | (with_reducible first | exact HB.out | apply below_alloc | apply pw_below_drewN | apply below_drew1 | refine below_set ?_ GE135.out) | exact HB.out)) hb); clear BK135; clear HB; have BK135 := n0_; have HB := n1_; clear n0_ n1_; (try clear hb); (try clear hb2); (try clear hk); (try clear hi); (try simp only [errW_none, errW_some])) | ((with_reducible refine gate_callee (f := 34) rfl ?_); refine goesL_ (some 91) rfl rfl Tryd.func34 (by kernel_rfl) rfl #[.string x3_2] rfl (by (try simp only [List.map_toArray, List.map_cons, List.map_nil]); first | done | rfl | (simp only [List.length_drop, List.length_take]; rfl)) ?_; (with_reducible refine (usherlaw6_lower.calls kj38 x3_2 t150 _ A47.out).mono ?_); rintro e w75 ⟨rfl, hb⟩; refine ⟨_, rfl, ?_⟩; have n0_ := Aside0.mk (blk_below (g := gb135) (o := .cells #[.string a0_0, .string a0_1, .string a0_2, .string a0_3] 44 (0, 0)) (by (with_reducible repeat (first | refine blk_drewN ?_ _ | refine blk_drew ?_ | refine blk_alloc ?_ _)); exact BK135.out) hb); have n1_ := Aside0.mk (below_step (by repeat (first | (with_reducible first | exact HB.out | apply below_alloc | apply pw_below_drewN | apply below_drew1 | refine below_set ?_ GE135.out) | exact HB.out)) hb); clear BK135; clear HB; have BK135 := n0_; have HB := n1_; clear n0_ n1_; (try clear hb); (try clear hb2); (try clear hk); (try clear hi)) | ((with_reducible refine gate_callee (f := 30) rfl ?_); refine goesL_ (some 93) rfl rfl Tryd.func30 (by kernel_rfl) rfl #[.string ((((((a0_0 ++ (⟨#[47]⟩ : ByteArray)) ++ a0_1) ++ (⟨#[59]⟩ : ByteArray)) ++ x3_2) ++ (⟨#[61, 34]⟩ : ByteArray)) ++ t150)] rfl (by (try simp only [List.map_toArray, List.map_cons, List.map_nil]); first | done | rfl | (simp only [List.length_drop, List.length_take]; rfl)) ?_; (with_reducible refine (field_Media.calls ((((((a0_0 ++ (⟨#[47]⟩ : ByteArray)) ++ a0_1) ++ (⟨#[59]⟩ : ByteArray)) ++ x3_2) ++ (⟨#[61, 34]⟩ : ByteArray)) ++ t150) t151 (some q157) _ A49.out ?side1).mono ?_); (case side1 => exact HG.out.step (by repeat (first | (with_reducible first | exact HB.out | apply below_alloc | apply pw_below_drewN | apply below_drew1 | refine below_set ?_ GE135.out) | exact HB.out)) rfl); rintro e w76 ⟨rfl, hb⟩; refine ⟨_, rfl, ?_⟩; have n0_ := Aside0.mk (blk_below (g := gb135) (o := .cells #[.string a0_0, .string a0_1, .string a0_2, .string a0_3] 44 (0, 0)) (by (with_reducible repeat (first | refine blk_drewN ?_ _ | refine blk_drew ?_ | refine blk_alloc ?_ _)); exact BK135.out) hb); have n1_ := Aside0.mk (below_step (by repeat (first | (with_reducible first | exact HB.out | apply below_alloc | apply pw_below_drewN | apply below_drew1 | refine below_set ?_ GE135.out) | exact HB.out)) hb); clear BK135; clear HB; have BK135 := n0_; have HB := n1_; clear n0_ n1_; (try clear hb); (try clear hb2); (try clear hk); (try clear hi); (try simp only [errW_none, errW_some])) | ((with_reducible refine gate_callee (f := 30) rfl ?_); refine goesL_ (some 105) rfl rfl Tryd.func30 (by kernel_rfl) rfl #[.string (((((((a0_0 ++ (⟨#[47]⟩ : ByteArray)) ++ a0_1) ++ (⟨#[59]⟩ : ByteArray)) ++ x3_2) ++ (⟨#[61]⟩ : ByteArray)) ++ x5_10) ++ (⟨#[32]⟩ : ByteArray))] rfl (by (try simp only [List.map_toArray, List.map_cons, List.map_nil]); first | done | rfl | (simp only [List.length_drop, List.length_take]; rfl)) ?_; (with_reducible refine (field_Media.calls (((((((a0_0 ++ (⟨#[47]⟩ : ByteArray)) ++ a0_1) ++ (⟨#[59]⟩ : ByteArray)) ++ x3_2) ++ (⟨#[61]⟩ : ByteArray)) ++ x5_10) ++ (⟨#[32]⟩ : ByteArray)) t153 (some q159) _ A53.out ?side1).mono ?_); (case side1 => exact HG.out.step (by repeat (first | (with_reducible first | exact HB.out | apply below_alloc | apply pw_below_drewN | apply below_drew1 | refine below_set ?_ GE135.out) | exact HB.out)) rfl); rintro e w77 ⟨rfl, hb⟩; refine ⟨_, rfl, ?_⟩; have n0_ := Aside0.mk (blk_below (g := gb135) (o := .cells #[.string a0_0, .string a0_1, .string a0_2, .string a0_3] 44 (0, 0)) (by (with_reducible repeat (first | refine blk_drewN ?_ _ | refine blk_drew ?_ | refine blk_alloc ?_ _)); exact BK135.out) hb); have n1_ := Aside0.mk (below_step (by repeat (first | (with_reducible first | exact HB.out | apply below_alloc | apply pw_below_drewN | apply below_drew1 | refine below_set ?_ GE135.out) | exact HB.out)) hb); clear BK135; clear HB; have BK135 := n0_; have HB := n1_; clear n0_ n1_; (try clear hb); (try clear hb2); (try clear hk); (try clear hi); (try simp only [errW_none, errW_some]); have hgeq156 := Glob.err2 (HG.out.step HB.out (T := [0, 8, 999]) rfl) (by rfl); have hgq78 := run_eq_err (Glob.sent (HG.out.step HB.out (T := [0, 8, 999]) rfl) (by rfl)) q157 2; have hgr78 := fun nq_ => run_eq_err ((Glob.sent (HG.out.step HB.out (T := [0, 8, 999]) rfl) (by rfl)).drewN nq_) q157 2; have hgeq158 := Glob.err2 (HG.out.step HB.out (T := [0, 8, 999]) rfl) (by rfl); have hgq79 := run_eq_err (Glob.sent (HG.out.step HB.out (T := [0, 8, 999]) rfl) (by rfl)) q159 2; have hgr79 := fun nq_ => run_eq_err ((Glob.sent (HG.out.step HB.out (T := [0, 8, 999]) rfl) (by rfl)).drewN nq_) q159 2))
                                                              go_ret
                                                              exact ⟨by first | rfl | (simp [errW_none, errW_some] <;> rfl) | (simp [*, errW_none, errW_some] <;> rfl), by repeat (first | (with_reducible first | exact HB.out | apply below_alloc | apply pw_below_drewN | apply below_drew1 | refine below_set ?_ GE135.out) | exact HB.out)⟩
                                                        · rw [if_neg c60] at H
                                                          have c60b0 : (q157 == 2) = false := beq_eq_false_iff_ne.mpr c60
                                                          have c60b1 : (q157 != 2) = true := bne_iff_ne.mpr c60
                                                          obtain rfl := Option.some.inj H
                                                          go_wp2_with (first | ((with_reducible refine gate_callee (f := 30) rfl ?_); refine goesL_ (some 81) rfl rfl Tryd.func30 (by kernel_rfl) rfl #[.string t139] rfl (by (try simp only [List.map_toArray, List.map_cons, List.map_nil]); first | done | rfl | (simp only [List.length_drop, List.length_take]; rfl)) ?_; (with_reducible refine (field_Media.calls t139 t148 none _ A43.out ?side1).mono ?_); (case side1 => exact HG.out.step (by repeat (first | (with_reducible first | exact HB.out | apply below_alloc | apply pw_below_drewN | apply below_drew1 | refine below_set ?_ GE135.out) | exact HB.out)) rfl); rintro e w80 ⟨rfl, hb⟩; refine ⟨_, rfl, ?_⟩; have n0_ := Aside0.mk (blk_below (g := gb135) (o := .cells #[.string a0_0, .string a0_1, .string a0_2, .string a0_3] 44 (0, 0)) (by (with_reducible repeat (first | refine blk_drewN ?_ _ | refine blk_drew ?_ | refine blk_alloc ?_ _)); exact BK135.out) hb); have n1_ := Aside0.mk (below_step (by repeat (first | (with_reducible first | exact HB.out | apply below_alloc | apply pw_below_drewN | apply below_drew1 | refine below_set ?_ GE135.out) | exact HB.out)) hb); clear BK135; clear HB; have BK135 := n0_; have HB := n1_; clear n0_ n1_; (try clear hb); (try clear hb2); (try clear hk); (try clear hi); (try simp only [errW_none, errW_some])) | ((with_reducible refine gate_callee (f := 34) rfl ?_); refine goesL_ (some 91) rfl rfl Tryd.func34 (by kernel_rfl) rfl #[.string x3_2] rfl (by (try simp only [List.map_toArray, List.map_cons, List.map_nil]); first | done | rfl | (simp only [List.length_drop, List.length_take]; rfl)) ?_; (with_reducible refine (usherlaw6_lower.calls kj38 x3_2 t150 _ A47.out).mono ?_); rintro e w81 ⟨rfl, hb⟩; refine ⟨_, rfl, ?_⟩; have n0_ := Aside0.mk (blk_below (g := gb135) (o := .cells #[.string a0_0, .string a0_1, .string a0_2, .string a0_3] 44 (0, 0)) (by (with_reducible repeat (first | refine blk_drewN ?_ _ | refine blk_drew ?_ | refine blk_alloc ?_ _)); exact BK135.out) hb); have n1_ := Aside0.mk (below_step (by repeat (first | (with_reducible first | exact HB.out | apply below_alloc | apply pw_below_drewN | apply below_drew1 | refine below_set ?_ GE135.out) | exact HB.out)) hb); clear BK135; clear HB; have BK135 := n0_; have HB := n1_; clear n0_ n1_; (try clear hb); (try clear hb2); (try clear hk); (try clear hi)) | ((with_reducible refine gate_callee (f := 30) rfl ?_); refine goesL_ (some 93) rfl rfl Tryd.func30 (by kernel_rfl) rfl #[.string ((((((a0_0 ++ (⟨#[47]⟩ : ByteArray)) ++ a0_1) ++ (⟨#[59]⟩ : ByteArray)) ++ x3_2) ++ (⟨#[61, 34]⟩ : ByteArray)) ++ t150)] rfl (by (try simp only [List.map_toArray, List.map_cons, List.map_nil]); first | done | rfl | (simp only [List.length_drop, List.length_take]; rfl)) ?_; (with_reducible refine (field_Media.calls ((((((a0_0 ++ (⟨#[47]⟩ : ByteArray)) ++ a0_1) ++ (⟨#[59]⟩ : ByteArray)) ++ x3_2) ++ (⟨#[61, 34]⟩ : ByteArray)) ++ t150) t151 (some q157) _ A49.out ?side1).mono ?_); (case side1 => exact HG.out.step (by repeat (first | (with_reducible first | exact HB.out | apply below_alloc | apply pw_below_drewN | apply below_drew1 | refine below_set ?_ GE135.out) | exact HB.out)) rfl); rintro e w82 ⟨rfl, hb⟩; refine ⟨_, rfl, ?_⟩; have n0_ := Aside0.mk (blk_below (g := gb135) (o := .cells #[.string a0_0, .string a0_1, .string a0_2, .string a0_3] 44 (0, 0)) (by (with_reducible repeat (first | refine blk_drewN ?_ _ | refine blk_drew ?_ | refine blk_alloc ?_ _)); exact BK135.out) hb); have n1_ := Aside0.mk (below_step (by repeat (first | (with_reducible first | exact HB.out | apply below_alloc | apply pw_below_drewN | apply below_drew1 | refine below_set ?_ GE135.out) | exact HB.out)) hb); clear BK135; clear HB; have BK135 := n0_; have HB := n1_; clear n0_ n1_; (try clear hb); (try clear hb2); (try clear hk); (try clear hi); (try simp only [errW_none, errW_some])) | ((with_reducible refine gate_callee (f := 30) rfl ?_); refine goesL_ (some 105) rfl rfl Tryd.func30 (by kernel_rfl) rfl #[.string (((((((a0_0 ++ (⟨#[47]⟩ : ByteArray)) ++ a0_1) ++ (⟨#[59]⟩ : ByteArray)) ++ x3_2) ++ (⟨#[61]⟩ : ByteArray)) ++ x5_10) ++ (⟨#[32]⟩ : ByteArray))] rfl (by (try simp only [List.map_toArray, List.map_cons, List.map_nil]); first | done | rfl | (simp only [List.length_drop, List.length_take]; rfl)) ?_; (with_reducible refine (field_Media.calls (((((((a0_0 ++ (⟨#[47]⟩ : ByteArray)) ++ a0_1) ++ (⟨#[59]⟩ : ByteArray)) ++ x3_2) ++ (⟨#[61]⟩ : ByteArray)) ++ x5_10) ++ (⟨#[32]⟩ : ByteArray)) t153 t154 _ A53.out ?side1).mono ?_); (case side1 => exact HG.out.step (by repeat (first | (with_reducible first | exact HB.out | apply below_alloc | apply pw_below_drewN | apply below_drew1 | refine below_set ?_ GE135.out) | exact HB.out)) rfl); rintro e w83 ⟨rfl, hb⟩; refine ⟨_, rfl, ?_⟩; have n0_ := Aside0.mk (blk_below (g := gb135) (o := .cells #[.string a0_0, .string a0_1, .string a0_2, .string a0_3] 44 (0, 0)) (by (with_reducible repeat (first | refine blk_drewN ?_ _ | refine blk_drew ?_ | refine blk_alloc ?_ _)); exact BK135.out) hb); have n1_ := Aside0.mk (below_step (by repeat (first | (with_reducible first | exact HB.out | apply below_alloc | apply pw_below_drewN | apply below_drew1 | refine below_set ?_ GE135.out) | exact HB.out)) hb); clear BK135; clear HB; have BK135 := n0_; have HB := n1_; clear n0_ n1_; (try clear hb); (try clear hb2); (try clear hk); (try clear hi); (try simp only [errW_none, errW_some]); have hgeq156 := Glob.err2 (HG.out.step HB.out (T := [0, 8, 999]) rfl) (by rfl); have hgq84 := run_eq_err (Glob.sent (HG.out.step HB.out (T := [0, 8, 999]) rfl) (by rfl)) q157 2; have hgr84 := fun nq_ => run_eq_err ((Glob.sent (HG.out.step HB.out (T := [0, 8, 999]) rfl) (by rfl)).drewN nq_) q157 2))
                                                          go_ret
                                                          exact ⟨by first | rfl | (simp [errW_none, errW_some] <;> rfl) | (simp [*, errW_none, errW_some] <;> rfl), by repeat (first | (with_reducible first | exact HB.out | apply below_alloc | apply pw_below_drewN | apply below_drew1 | refine below_set ?_ GE135.out) | exact HB.out)⟩
                                                    · rw [if_neg c54] at H
                                                      have c54b0 : (t148.toList == t139.toList) = false := beq_eq_false_iff_ne.mpr c54
                                                      have c54b1 : (t148.toList != t139.toList) = true := bne_iff_ne.mpr c54
                                                      obtain rfl := Option.some.inj H
                                                      go_wp2_with (first | ((with_reducible refine gate_callee (f := 30) rfl ?_); refine goesL_ (some 81) rfl rfl Tryd.func30 (by kernel_rfl) rfl #[.string t139] rfl (by (try simp only [List.map_toArray, List.map_cons, List.map_nil]); first | done | rfl | (simp only [List.length_drop, List.length_take]; rfl)) ?_; (with_reducible refine (field_Media.calls t139 t148 none _ A43.out ?side1).mono ?_); (case side1 => exact HG.out.step (by repeat (first | (with_reducible first | exact HB.out | apply below_alloc | apply pw_below_drewN | apply below_drew1 | refine below_set ?_ GE135.out) | exact HB.out)) rfl); rintro e w85 ⟨rfl, hb⟩; refine ⟨_, rfl, ?_⟩; have n0_ := Aside0.mk (blk_below (g := gb135) (o := .cells #[.string a0_0, .string a0_1, .string a0_2, .string a0_3] 44 (0, 0)) (by (with_reducible repeat (first | refine blk_drewN ?_ _ | refine blk_drew ?_ | refine blk_alloc ?_ _)); exact BK135.out) hb); have n1_ := Aside0.mk (below_step (by repeat (first | (with_reducible first | exact HB.out | apply below_alloc | apply pw_below_drewN | apply below_drew1 | refine below_set ?_ GE135.out) | exact HB.out)) hb); clear BK135; clear HB; have BK135 := n0_; have HB := n1_; clear n0_ n1_; (try clear hb); (try clear hb2); (try clear hk); (try clear hi); (try simp only [errW_none, errW_some])) | ((with_reducible refine gate_callee (f := 34) rfl ?_); refine goesL_ (some 91) rfl rfl Tryd.func34 (by kernel_rfl) rfl #[.string x3_2] rfl (by (try simp only [List.map_toArray, List.map_cons, List.map_nil]); first | done | rfl | (simp only [List.length_drop, List.length_take]; rfl)) ?_; (with_reducible refine (usherlaw6_lower.calls kj38 x3_2 t150 _ A47.out).mono ?_); rintro e w86 ⟨rfl, hb⟩; refine ⟨_, rfl, ?_⟩; have n0_ := Aside0.mk (blk_below (g := gb135) (o := .cells #[.string a0_0, .string a0_1, .string a0_2, .string a0_3] 44 (0, 0)) (by (with_reducible repeat (first | refine blk_drewN ?_ _ | refine blk_drew ?_ | refine blk_alloc ?_ _)); exact BK135.out) hb); have n1_ := Aside0.mk (below_step (by repeat (first | (with_reducible first | exact HB.out | apply below_alloc | apply pw_below_drewN | apply below_drew1 | refine below_set ?_ GE135.out) | exact HB.out)) hb); clear BK135; clear HB; have BK135 := n0_; have HB := n1_; clear n0_ n1_; (try clear hb); (try clear hb2); (try clear hk); (try clear hi)) | ((with_reducible refine gate_callee (f := 30) rfl ?_); refine goesL_ (some 93) rfl rfl Tryd.func30 (by kernel_rfl) rfl #[.string ((((((a0_0 ++ (⟨#[47]⟩ : ByteArray)) ++ a0_1) ++ (⟨#[59]⟩ : ByteArray)) ++ x3_2) ++ (⟨#[61, 34]⟩ : ByteArray)) ++ t150)] rfl (by (try simp only [List.map_toArray, List.map_cons, List.map_nil]); first | done | rfl | (simp only [List.length_drop, List.length_take]; rfl)) ?_; (with_reducible refine (field_Media.calls ((((((a0_0 ++ (⟨#[47]⟩ : ByteArray)) ++ a0_1) ++ (⟨#[59]⟩ : ByteArray)) ++ x3_2) ++ (⟨#[61, 34]⟩ : ByteArray)) ++ t150) t151 t152 _ A49.out ?side1).mono ?_); (case side1 => exact HG.out.step (by repeat (first | (with_reducible first | exact HB.out | apply below_alloc | apply pw_below_drewN | apply below_drew1 | refine below_set ?_ GE135.out) | exact HB.out)) rfl); rintro e w87 ⟨rfl, hb⟩; refine ⟨_, rfl, ?_⟩; have n0_ := Aside0.mk (blk_below (g := gb135) (o := .cells #[.string a0_0, .string a0_1, .string a0_2, .string a0_3] 44 (0, 0)) (by (with_reducible repeat (first | refine blk_drewN ?_ _ | refine blk_drew ?_ | refine blk_alloc ?_ _)); exact BK135.out) hb); have n1_ := Aside0.mk (below_step (by repeat (first | (with_reducible first | exact HB.out | apply below_alloc | apply pw_below_drewN | apply below_drew1 | refine below_set ?_ GE135.out) | exact HB.out)) hb); clear BK135; clear HB; have BK135 := n0_; have HB := n1_; clear n0_ n1_; (try clear hb); (try clear hb2); (try clear hk); (try clear hi); (try simp only [errW_none, errW_some])) | ((with_reducible refine gate_callee (f := 30) rfl ?_); refine goesL_ (some 105) rfl rfl Tryd.func30 (by kernel_rfl) rfl #[.string (((((((a0_0 ++ (⟨#[47]⟩ : ByteArray)) ++ a0_1) ++ (⟨#[59]⟩ : ByteArray)) ++ x3_2) ++ (⟨#[61]⟩ : ByteArray)) ++ x5_10) ++ (⟨#[32]⟩ : ByteArray))] rfl (by (try simp only [List.map_toArray, List.map_cons, List.map_nil]); first | done | rfl | (simp only [List.length_drop, List.length_take]; rfl)) ?_; (with_reducible refine (field_Media.calls (((((((a0_0 ++ (⟨#[47]⟩ : ByteArray)) ++ a0_1) ++ (⟨#[59]⟩ : ByteArray)) ++ x3_2) ++ (⟨#[61]⟩ : ByteArray)) ++ x5_10) ++ (⟨#[32]⟩ : ByteArray)) t153 t154 _ A53.out ?side1).mono ?_); (case side1 => exact HG.out.step (by repeat (first | (with_reducible first | exact HB.out | apply below_alloc | apply pw_below_drewN | apply below_drew1 | refine below_set ?_ GE135.out) | exact HB.out)) rfl); rintro e w88 ⟨rfl, hb⟩; refine ⟨_, rfl, ?_⟩; have n0_ := Aside0.mk (blk_below (g := gb135) (o := .cells #[.string a0_0, .string a0_1, .string a0_2, .string a0_3] 44 (0, 0)) (by (with_reducible repeat (first | refine blk_drewN ?_ _ | refine blk_drew ?_ | refine blk_alloc ?_ _)); exact BK135.out) hb); have n1_ := Aside0.mk (below_step (by repeat (first | (with_reducible first | exact HB.out | apply below_alloc | apply pw_below_drewN | apply below_drew1 | refine below_set ?_ GE135.out) | exact HB.out)) hb); clear BK135; clear HB; have BK135 := n0_; have HB := n1_; clear n0_ n1_; (try clear hb); (try clear hb2); (try clear hk); (try clear hi); (try simp only [errW_none, errW_some])))
                                                      go_ret
                                                      exact ⟨by first | rfl | (simp [errW_none, errW_some] <;> rfl) | (simp [*, errW_none, errW_some] <;> rfl), by repeat (first | (with_reducible first | exact HB.out | apply below_alloc | apply pw_below_drewN | apply below_drew1 | refine below_set ?_ GE135.out) | exact HB.out)⟩
                                                  · have H1 : (some false) = some r := by rw [if_neg (show ¬ (some q155).isNone = true by simp)] at H; exact H
                                                    clear H
                                                    have H := H1
                                                    clear H1
                                                    try simp only [errW_none, errW_some]
                                                    obtain rfl := Option.some.inj H
                                                    go_wp2_with (first | ((with_reducible refine gate_callee (f := 30) rfl ?_); refine goesL_ (some 81) rfl rfl Tryd.func30 (by kernel_rfl) rfl #[.string t139] rfl (by (try simp only [List.map_toArray, List.map_cons, List.map_nil]); first | done | rfl | (simp only [List.length_drop, List.length_take]; rfl)) ?_; (with_reducible refine (field_Media.calls t139 t148 (some q155) _ A43.out ?side1).mono ?_); (case side1 => exact HG.out.step (by repeat (first | (with_reducible first | exact HB.out | apply below_alloc | apply pw_below_drewN | apply below_drew1 | refine below_set ?_ GE135.out) | exact HB.out)) rfl); rintro e w89 ⟨rfl, hb⟩; refine ⟨_, rfl, ?_⟩; have n0_ := Aside0.mk (blk_below (g := gb135) (o := .cells #[.string a0_0, .string a0_1, .string a0_2, .string a0_3] 44 (0, 0)) (by (with_reducible repeat (first | refine blk_drewN ?_ _ | refine blk_drew ?_ | refine blk_alloc ?_ _)); exact BK135.out) hb); have n1_ := Aside0.mk (below_step (by repeat (first | (with_reducible first | exact HB.out | apply below_alloc | apply pw_below_drewN | apply below_drew1 | refine below_set ?_ GE135.out) | exact HB.out)) hb); clear BK135; clear HB; have BK135 := n0_; have HB := n1_; clear n0_ n1_; (try clear hb); (try clear hb2); (try clear hk); (try clear hi); (try simp only [errW_none, errW_some])) | ((with_reducible refine gate_callee (f := 34) rfl ?_); refine goesL_ (some 91) rfl rfl Tryd.func34 (by kernel_rfl) rfl #[.string x3_2] rfl (by (try simp only [List.map_toArray, List.map_cons, List.map_nil]); first | done | rfl | (simp only [List.length_drop, List.length_take]; rfl)) ?_; (with_reducible refine (usherlaw6_lower.calls kj38 x3_2 t150 _ A47.out).mono ?_); rintro e w90 ⟨rfl, hb⟩; refine ⟨_, rfl, ?_⟩; have n0_ := Aside0.mk (blk_below (g := gb135) (o := .cells #[.string a0_0, .string a0_1, .string a0_2, .string a0_3] 44 (0, 0)) (by (with_reducible repeat (first | refine blk_drewN ?_ _ | refine blk_drew ?_ | refine blk_alloc ?_ _)); exact BK135.out) hb); have n1_ := Aside0.mk (below_step (by repeat (first | (with_reducible first | exact HB.out | apply below_alloc | apply pw_below_drewN | apply below_drew1 | refine below_set ?_ GE135.out) | exact HB.out)) hb); clear BK135; clear HB; have BK135 := n0_; have HB := n1_; clear n0_ n1_; (try clear hb); (try clear hb2); (try clear hk); (try clear hi)) | ((with_reducible refine gate_callee (f := 30) rfl ?_); refine goesL_ (some 93) rfl rfl Tryd.func30 (by kernel_rfl) rfl #[.string ((((((a0_0 ++ (⟨#[47]⟩ : ByteArray)) ++ a0_1) ++ (⟨#[59]⟩ : ByteArray)) ++ x3_2) ++ (⟨#[61, 34]⟩ : ByteArray)) ++ t150)] rfl (by (try simp only [List.map_toArray, List.map_cons, List.map_nil]); first | done | rfl | (simp only [List.length_drop, List.length_take]; rfl)) ?_; (with_reducible refine (field_Media.calls ((((((a0_0 ++ (⟨#[47]⟩ : ByteArray)) ++ a0_1) ++ (⟨#[59]⟩ : ByteArray)) ++ x3_2) ++ (⟨#[61, 34]⟩ : ByteArray)) ++ t150) t151 t152 _ A49.out ?side1).mono ?_); (case side1 => exact HG.out.step (by repeat (first | (with_reducible first | exact HB.out | apply below_alloc | apply pw_below_drewN | apply below_drew1 | refine below_set ?_ GE135.out) | exact HB.out)) rfl); rintro e w91 ⟨rfl, hb⟩; refine ⟨_, rfl, ?_⟩; have n0_ := Aside0.mk (blk_below (g := gb135) (o := .cells #[.string a0_0, .string a0_1, .string a0_2, .string a0_3] 44 (0, 0)) (by (with_reducible repeat (first | refine blk_drewN ?_ _ | refine blk_drew ?_ | refine blk_alloc ?_ _)); exact BK135.out) hb); have n1_ := Aside0.mk (below_step (by repeat (first | (with_reducible first | exact HB.out | apply below_alloc | apply pw_below_drewN | apply below_drew1 | refine below_set ?_ GE135.out) | exact HB.out)) hb); clear BK135; clear HB; have BK135 := n0_; have HB := n1_; clear n0_ n1_; (try clear hb); (try clear hb2); (try clear hk); (try clear hi); (try simp only [errW_none, errW_some])) | ((with_reducible refine gate_callee (f := 30) rfl ?_); refine goesL_ (some 105) rfl rfl Tryd.func30 (by kernel_rfl) rfl #[.string (((((((a0_0 ++ (⟨#[47]⟩ : ByteArray)) ++ a0_1) ++ (⟨#[59]⟩ : ByteArray)) ++ x3_2) ++ (⟨#[61]⟩ : ByteArray)) ++ x5_10) ++ (⟨#[32]⟩ : ByteArray))] rfl (by (try simp only [List.map_toArray, List.map_cons, List.map_nil]); first | done | rfl | (simp only [List.length_drop, List.length_take]; rfl)) ?_; (with_reducible refine (field_Media.calls (((((((a0_0 ++ (⟨#[47]⟩ : ByteArray)) ++ a0_1) ++ (⟨#[59]⟩ : ByteArray)) ++ x3_2) ++ (⟨#[61]⟩ : ByteArray)) ++ x5_10) ++ (⟨#[32]⟩ : ByteArray)) t153 t154 _ A53.out ?side1).mono ?_); (case side1 => exact HG.out.step (by repeat (first | (with_reducible first | exact HB.out | apply below_alloc | apply pw_below_drewN | apply below_drew1 | refine below_set ?_ GE135.out) | exact HB.out)) rfl); rintro e w92 ⟨rfl, hb⟩; refine ⟨_, rfl, ?_⟩; have n0_ := Aside0.mk (blk_below (g := gb135) (o := .cells #[.string a0_0, .string a0_1, .string a0_2, .string a0_3] 44 (0, 0)) (by (with_reducible repeat (first | refine blk_drewN ?_ _ | refine blk_drew ?_ | refine blk_alloc ?_ _)); exact BK135.out) hb); have n1_ := Aside0.mk (below_step (by repeat (first | (with_reducible first | exact HB.out | apply below_alloc | apply pw_below_drewN | apply below_drew1 | refine below_set ?_ GE135.out) | exact HB.out)) hb); clear BK135; clear HB; have BK135 := n0_; have HB := n1_; clear n0_ n1_; (try clear hb); (try clear hb2); (try clear hk); (try clear hi); (try simp only [errW_none, errW_some])))
                                                    go_ret
                                                    exact ⟨by first | rfl | (simp [errW_none, errW_some] <;> rfl) | (simp [*, errW_none, errW_some] <;> rfl), by repeat (first | (with_reducible first | exact HB.out | apply below_alloc | apply pw_below_drewN | apply below_drew1 | refine below_set ?_ GE135.out) | exact HB.out)⟩
                                                · rw [if_neg c52] at H
                                                  exact absurd H (by simp)
                                              · rw [if_neg c51] at H
                                                exact absurd H (by simp)
                                            · rw [if_neg c50] at H
                                              exact absurd H (by simp)
                                          · rw [if_neg c48] at H
                                            exact absurd H (by simp)
                                        · rw [if_neg c46] at H
                                          exact absurd H (by simp)
                                      · rw [if_neg c45] at H
                                        exact absurd H (by simp)
                                    · rw [if_neg c44] at H
                                      exact absurd H (by simp)
                      · rw [if_neg c19] at H
                        exact absurd H (by simp)
                    · rw [if_neg c18] at H
                      exact absurd H (by simp)
                  · rw [if_neg c17] at H
                    exact absurd H (by simp)
                · rw [if_neg c16] at H
                  exact absurd H (by simp)
              · rw [if_neg c15] at H
                exact absurd H (by simp)
        · rw [if_neg c9] at H
          exact absurd H (by simp)
      · rw [if_neg c8] at H
        exact absurd H (by simp)

end Go.Proofs.YtbkhgmmlacdhoaaDoor.Q
