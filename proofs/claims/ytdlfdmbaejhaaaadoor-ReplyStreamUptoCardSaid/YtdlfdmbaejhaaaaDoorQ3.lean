/- The plain Lean functions that calls of the program answer, and proofs that they do. Printed by program out of the translation; Lean checks it. -/
import Derived.Test.YtdlfdmbaejhaaaaDoorQ0
import Derived.Test.YtdlfdmbaejhaaaaDoorQ2
import Derived.Test.YtdlfdmbaejhaaaaDoorLowR
import Derived.Test.YtdlfdmbaejhaaaaDoorTabs
namespace Go.Proofs.YtdlfdmbaejhaaaaDoor.Q
open Go.RowKit Go.Proofs.YtdlfdmbaejhaaaaDoorW.PrintWords Go.Proofs.YtdlfdmbaejhaaaaDoorW.PrintLast Go.Proofs.YtdlfdmbaejhaaaaDoorW.PrintMore
attribute [local go_sem] max2_int min2_int max_two min_two max_three min_three max_four min_four   -- for this text's walks alone
set_option linter.unusedVariables false
set_option linter.unusedSimpArgs false

theorem Aq3 {p : Prop} (h : p) : Aside0 p := ⟨h⟩
theorem tq3_0 {P : Prop} (h : P := by first | omega | exact Nat.le_refl _) : P := h
theorem tq3_1 {P : Prop} (h : P := by first | rfl | (simp; done) | (simp [*]; done)) : P := h
theorem tq3_2 {P : Prop} (h : P := by first | (with_reducible assumption) | assumption) : P := h
theorem tq3_3 {P : Prop} (h : P := by first | rfl | (simp [errW_none, errW_some] <;> rfl) | (simp [*, errW_none, errW_some] <;> rfl)) : P := h
theorem tq3_4 {P Q0 : Prop} (y0 : Q0) (h : Q0 → P := by intro y0_; repeat (first | exact y0_ | refine blk_drewN ?_ _ | refine blk_drew ?_ | refine blk_alloc ?_ _)) : P := h y0
theorem tq3_5 {P Q0 : Prop} (y0 : Q0) (h : Q0 → P := by intro y0_; (with_reducible repeat (first | refine blk_drewN ?_ _ | refine blk_drew ?_ | refine blk_alloc ?_ _)); exact y0_) : P := h y0
theorem tq3_6 {P : Prop} (h : P := by repeat (first | (with_reducible first | exact HB.out | apply below_alloc | apply pw_below_drewN | apply below_drew1) | exact HB.out)) : P := h
theorem tq3_7 {P Q0 : Prop} (y0 : Q0) (h : Q0 → P := by intro y0_; repeat (first | (with_reducible first | exact HB.out | apply below_alloc | apply pw_below_drewN | apply below_drew1 | refine below_set ?_ y0_) | exact HB.out)) : P := h y0
/-! ### reply_may: function 40 -/
mutual
def reply_may.j0 : Nat → Bool → ByteArray → ByteArray → Option (Bool)
 | 0, _, _, _ => none
 | k + 1, x23, x109000, x109001 => if x23 = true then (some false) else ((reply_lower.f x109000).bind fun t112 => (reply_may.l0 k t112 0))
def reply_may.l0 : Nat → ByteArray → Int → Option (Bool)
 | 0, _, _ => none
 | k + 1, x3, x28 => if x28 < 3 then (if 0 ≤ x28 then (if x3.toList = (reply_own.c0 x28).toList then (some false) else (reply_may.l0 k x3 (wrap64 (x28 + 1)))) else (none)) else (some true)
end
def reply_may.f (k : Nat) (a0_0 : ByteArray) (a0_1 : ByteArray) : Option (Bool) := (field_Token.f k a0_0).bind fun t109 => (if t109 = true then ((field_Value.f k a0_1).bind fun t110 => (if t110 = true then ((field_Trim.f k a0_1).bind fun t111 => (reply_may.j0 k (t111.toList != a0_1.toList) a0_0 a0_1)) else (reply_may.j0 k true a0_0 a0_1))) else (reply_may.j0 k true a0_0 a0_1))
theorem reply_may.mono_l : ∀ k, (∀ y0 y1 y2, LeO (reply_may.j0 k y0 y1 y2) (reply_may.j0 (k + 1) y0 y1 y2)) ∧ (∀ y0 y1, LeO (reply_may.l0 k y0 y1) (reply_may.l0 (k + 1) y0 y1))
 | 0 => ⟨fun _ _ _ r h => by simp [reply_may.j0] at h, fun _ _ r h => by simp [reply_may.l0] at h⟩
 | k + 1 => by
  obtain ⟨ih0, ih1⟩ := reply_may.mono_l k
  refine ⟨?_, ?_⟩
  ·intro y0 y1 y2
   unfold reply_may.j0
   repeat' first
   | (with_reducible exact ih0 _ _ _)
   | (with_reducible exact ih1 _ _)
   | (with_reducible exact field_Token.mono _ _)
   | (with_reducible exact field_Trim.mono _ _)
   | (with_reducible exact field_Value.mono _ _)
   | (with_reducible exact LeO.refl _)
   | (with_reducible exact LeO.none _)
   | (with_reducible refine LeO.ite ?_ ?_)
   | (with_reducible refine LeO.bind ?_ (fun _ => ?_))
   | exact ih0 _ _ _
   | exact ih1 _ _
   | exact field_Token.mono _ _
   | exact field_Trim.mono _ _
   | exact field_Value.mono _ _
   | exact LeO.none _
   | refine LeO.ite ?_ ?_
   | refine LeO.bind ?_ (fun _ => ?_)
  ·intro y0 y1
   unfold reply_may.l0
   repeat' first
   | (with_reducible exact ih0 _ _ _)
   | (with_reducible exact ih1 _ _)
   | (with_reducible exact field_Token.mono _ _)
   | (with_reducible exact field_Trim.mono _ _)
   | (with_reducible exact field_Value.mono _ _)
   | (with_reducible exact LeO.refl _)
   | (with_reducible exact LeO.none _)
   | (with_reducible refine LeO.ite ?_ ?_)
   | (with_reducible refine LeO.bind ?_ (fun _ => ?_))
   | exact ih0 _ _ _
   | exact ih1 _ _
   | exact field_Token.mono _ _
   | exact field_Trim.mono _ _
   | exact field_Value.mono _ _
   | exact LeO.none _
   | refine LeO.ite ?_ ?_
   | refine LeO.bind ?_ (fun _ => ?_)
theorem reply_may.mono : ∀ a0 a1 k, LeO (reply_may.f k a0 a1) (reply_may.f (k + 1) a0 a1) := by
 intro a0 a1 k
 obtain ⟨ih0, ih1⟩ := reply_may.mono_l k
 unfold reply_may.f
 repeat' first
   | (with_reducible exact ih0 _ _ _)
   | (with_reducible exact ih1 _ _)
   | (with_reducible exact field_Token.mono _ _)
   | (with_reducible exact field_Trim.mono _ _)
   | (with_reducible exact field_Value.mono _ _)
   | (with_reducible exact LeO.refl _)
   | (with_reducible exact LeO.none _)
   | (with_reducible refine LeO.ite ?_ ?_)
   | (with_reducible refine LeO.bind ?_ (fun _ => ?_))
   | exact ih0 _ _ _
   | exact ih1 _ _
   | exact field_Token.mono _ _
   | exact field_Trim.mono _ _
   | exact field_Value.mono _ _
   | exact LeO.none _
   | refine LeO.ite ?_ ?_
   | refine LeO.bind ?_ (fun _ => ?_)
set_option maxHeartbeats 8000000 in
set_option maxRecDepth 100000 in
theorem reply_may.calls [Sent] (k : Nat) (a0_0 : ByteArray) (a0_1 : ByteArray) (r : Bool) (w : World) (h : reply_may.f k a0_0 a0_1 = some r) (hG : Glob [9, 16] w) :
  Calls Tryd.prog 40 #[.agg #[.string a0_0, .string a0_1]] w fun e w' => e = .returned (.bool r) ∧ Below w.heap.size w w' := by
 have HG := Aq3 hG
 clear hG
 have hu26 := Tryd.underlying26
 have HB := Aq3 (Below.refl w.heap.size w)
 have H : ((field_Token.f k a0_0).bind fun t109 => (if t109 = true then ((field_Value.f k a0_1).bind fun t110 => (if t110 = true then ((field_Trim.f k a0_1).bind fun t111 => (reply_may.j0 k (t111.toList != a0_1.toList) a0_0 a0_1)) else (reply_may.j0 k true a0_0 a0_1))) else (reply_may.j0 k true a0_0 a0_1))) = some r := h
 clear h
 have HC2 := Aq3 H
 clear H
 go_enter Tryd.func40, Tryd.ntmps40
 go_upto_region 1 with (first | ((with_reducible refine gate_dst (N := 1) rfl ?_); refine box_event ?hg (N := 1) ?hd (cs := #[.string a0_0, .string a0_1]) (t := 26) ?hr ?_; (case hd => rfl); (case hg => rfl); (case hr => first | (go_simp; done) | (go_simp; rfl)); intro gb108 hg w3 hbox hb; have BK108 := Aq3 (hbox); have GW108 := Aq3 ((by rw [hg]; exact (below_size tq3_6) : w.heap.size ≤ gb108)); have GE108 := Aq3 ((by rw [hg]; exact (below_size tq3_6) : w.heap.size ≤ gb108)); replace HB := Aq3 (below_step tq3_6 hb); clear hb hbox hg))
 repeat (go_quiet (first | ((with_reducible refine gate_dst (N := 1) rfl ?_); refine box_event ?hg (N := 1) ?hd (cs := #[.string a0_0, .string a0_1]) (t := 26) ?hr ?_; (case hd => rfl); (case hg => rfl); (case hr => first | (go_simp; done) | (go_simp; rfl)); intro gb108 hg w3 hbox hb; have BK108 := Aq3 (hbox); have GW108 := Aq3 ((by rw [hg]; exact (below_size tq3_6) : w.heap.size ≤ gb108)); have GE108 := Aq3 ((by rw [hg]; exact (below_size tq3_6) : w.heap.size ≤ gb108)); replace HB := Aq3 (below_step tq3_6 hb); clear hb hbox hg)); go_upto_region 1 with (first | ((with_reducible refine gate_dst (N := 1) rfl ?_); refine box_event ?hg (N := 1) ?hd (cs := #[.string a0_0, .string a0_1]) (t := 26) ?hr ?_; (case hd => rfl); (case hg => rfl); (case hr => first | (go_simp; done) | (go_simp; rfl)); intro gb108 hg w3 hbox hb; have BK108 := Aq3 (hbox); have GW108 := Aq3 ((by rw [hg]; exact (below_size tq3_6) : w.heap.size ≤ gb108)); have GE108 := Aq3 ((by rw [hg]; exact (below_size tq3_6) : w.heap.size ≤ gb108)); replace HB := Aq3 (below_step tq3_6 hb); clear hb hbox hg)))
 (try simp only [Act.put, List.setIfInBounds_toArray, List.set_cons_zero, List.set_cons_succ])
 go_cut [23] (fun v23 wc => ∃ (kq : Nat) (x23_1 : Bool), v23 = .bool x23_1 ∧ Aside0 (reply_may.j0 kq x23_1 a0_0 a0_1 = some r) ∧ Aside0 (kq ≤ k) ∧ Aside0 (wc.heap[gb108]? = some (.cells #[.string a0_0, .string a0_1] 26 (0, 0))) ∧ Aside0 (Below w.heap.size w wc))
 case first =>
  have H := HC2.out
  clear HC2
  replace H := Option.bind_eq_some_iff.mp H
  obtain ⟨t109, A40, H⟩ := H
  replace H : (if t109 = true then ((field_Value.f k a0_1).bind fun t110 => (if t110 = true then ((field_Trim.f k a0_1).bind fun t111 => (reply_may.j0 k (t111.toList != a0_1.toList) a0_0 a0_1)) else (reply_may.j0 k true a0_0 a0_1))) else (reply_may.j0 k true a0_0 a0_1)) = some r := H
  have A4 := Aq3 A40
  clear A40
  by_cases c5 : t109 = true
  ·subst c5
   have H1 : ((field_Value.f k a0_1).bind fun t110 => (if t110 = true then ((field_Trim.f k a0_1).bind fun t111 => (reply_may.j0 k (t111.toList != a0_1.toList) a0_0 a0_1)) else (reply_may.j0 k true a0_0 a0_1))) = some r := by rw [if_pos rfl] at H; exact H
   clear H
   have H := H1
   clear H1
   replace H := Option.bind_eq_some_iff.mp H
   obtain ⟨t110, A60, H⟩ := H
   replace H : (if t110 = true then ((field_Trim.f k a0_1).bind fun t111 => (reply_may.j0 k (t111.toList != a0_1.toList) a0_0 a0_1)) else (reply_may.j0 k true a0_0 a0_1)) = some r := H
   have A6 := Aq3 A60
   clear A60
   by_cases c7 : t110 = true
   ·subst c7
    have H1 : ((field_Trim.f k a0_1).bind fun t111 => (reply_may.j0 k (t111.toList != a0_1.toList) a0_0 a0_1)) = some r := by rw [if_pos rfl] at H; exact H
    clear H
    have H := H1
    clear H1
    replace H := Option.bind_eq_some_iff.mp H
    obtain ⟨t111, A80, H⟩ := H
    replace H : (reply_may.j0 k (t111.toList != a0_1.toList) a0_0 a0_1) = some r := H
    have A8 := Aq3 A80
    clear A80
    have H' := Aq3 H
    clear H
    have hcz9_0 : w3.cell? ⟨gb108, 0, none⟩ = some (.string a0_0) := (blk_cell BK108.out 0).trans rfl
    have hcz9_1 : w3.cell? ⟨gb108, 1, none⟩ = some (.string a0_1) := (blk_cell BK108.out 1).trans rfl
    have hfz9_0 := blk_frozen BK108.out 0
    have hfz9_1 := blk_frozen BK108.out 1
    go_wp2_with (first | (go_at_call 24; (with_reducible refine (field_Token.calls k a0_0 true _ A4.out ?side1).mono ?_); (case side1 => exact HG.out.step (tq3_7 GE108.out) rfl); rintro e w' ⟨rfl, ⟨nd, rfl⟩⟩; (try first | exact ⟨rfl, _, World.drewN_drewN _ _ _⟩ | exact ⟨rfl, _, Eq.trans (World.drewN_drewN _ _ _) (congrArg (World.drewN _) (Nat.add_assoc _ _ _))⟩)) | (go_at_call 29; (with_reducible refine (field_Value.calls k a0_1 true _ A6.out ?side1).mono ?_); (case side1 => exact HG.out.step (tq3_7 GE108.out) rfl); rintro e w' ⟨rfl, ⟨nd, rfl⟩⟩; (try first | exact ⟨rfl, _, World.drewN_drewN _ _ _⟩ | exact ⟨rfl, _, Eq.trans (World.drewN_drewN _ _ _) (congrArg (World.drewN _) (Nat.add_assoc _ _ _))⟩)) | (go_at_call 49; (with_reducible refine (field_Trim.calls k a0_1 t111 _ A8.out ?side1).mono ?_); (case side1 => exact HG.out.step (tq3_7 GE108.out) rfl); rintro e w' ⟨rfl, ⟨nd, rfl⟩⟩; (try first | exact ⟨rfl, _, World.drewN_drewN _ _ _⟩ | exact ⟨rfl, _, Eq.trans (World.drewN_drewN _ _ _) (congrArg (World.drewN _) (Nat.add_assoc _ _ _))⟩)))
    repeat (go_quiet (first | (go_at_call 24; (with_reducible refine (field_Token.calls k a0_0 true _ A4.out ?side1).mono ?_); (case side1 => exact HG.out.step (tq3_7 GE108.out) rfl); rintro e w' ⟨rfl, ⟨nd, rfl⟩⟩; (try first | exact ⟨rfl, _, World.drewN_drewN _ _ _⟩ | exact ⟨rfl, _, Eq.trans (World.drewN_drewN _ _ _) (congrArg (World.drewN _) (Nat.add_assoc _ _ _))⟩)) | (go_at_call 29; (with_reducible refine (field_Value.calls k a0_1 true _ A6.out ?side1).mono ?_); (case side1 => exact HG.out.step (tq3_7 GE108.out) rfl); rintro e w' ⟨rfl, ⟨nd, rfl⟩⟩; (try first | exact ⟨rfl, _, World.drewN_drewN _ _ _⟩ | exact ⟨rfl, _, Eq.trans (World.drewN_drewN _ _ _) (congrArg (World.drewN _) (Nat.add_assoc _ _ _))⟩)) | (go_at_call 49; (with_reducible refine (field_Trim.calls k a0_1 t111 _ A8.out ?side1).mono ?_); (case side1 => exact HG.out.step (tq3_7 GE108.out) rfl); rintro e w' ⟨rfl, ⟨nd, rfl⟩⟩; (try first | exact ⟨rfl, _, World.drewN_drewN _ _ _⟩ | exact ⟨rfl, _, Eq.trans (World.drewN_drewN _ _ _) (congrArg (World.drewN _) (Nat.add_assoc _ _ _))⟩))); try go_wp2_with (first | (go_at_call 24; (with_reducible refine (field_Token.calls k a0_0 true _ A4.out ?side1).mono ?_); (case side1 => exact HG.out.step (tq3_7 GE108.out) rfl); rintro e w' ⟨rfl, ⟨nd, rfl⟩⟩; (try first | exact ⟨rfl, _, World.drewN_drewN _ _ _⟩ | exact ⟨rfl, _, Eq.trans (World.drewN_drewN _ _ _) (congrArg (World.drewN _) (Nat.add_assoc _ _ _))⟩)) | (go_at_call 29; (with_reducible refine (field_Value.calls k a0_1 true _ A6.out ?side1).mono ?_); (case side1 => exact HG.out.step (tq3_7 GE108.out) rfl); rintro e w' ⟨rfl, ⟨nd, rfl⟩⟩; (try first | exact ⟨rfl, _, World.drewN_drewN _ _ _⟩ | exact ⟨rfl, _, Eq.trans (World.drewN_drewN _ _ _) (congrArg (World.drewN _) (Nat.add_assoc _ _ _))⟩)) | (go_at_call 49; (with_reducible refine (field_Trim.calls k a0_1 t111 _ A8.out ?side1).mono ?_); (case side1 => exact HG.out.step (tq3_7 GE108.out) rfl); rintro e w' ⟨rfl, ⟨nd, rfl⟩⟩; (try first | exact ⟨rfl, _, World.drewN_drewN _ _ _⟩ | exact ⟨rfl, _, Eq.trans (World.drewN_drewN _ _ _) (congrArg (World.drewN _) (Nat.add_assoc _ _ _))⟩))))
    go_meet
    case rel => exact ⟨_, ((t111.toList != a0_1.toList)), tq3_1, H', ⟨tq3_0⟩, ⟨(tq3_5 BK108.out)⟩, ⟨(tq3_7 GE108.out)⟩⟩
   ·replace c7 := Bool.eq_false_iff.mpr c7
    subst c7
    have H1 : (reply_may.j0 k true a0_0 a0_1) = some r := by rw [if_neg (show ¬ (false = true) by decide)] at H; exact H
    clear H
    have H := H1
    clear H1
    have H' := Aq3 H
    clear H
    have hcz10_0 : w3.cell? ⟨gb108, 0, none⟩ = some (.string a0_0) := (blk_cell BK108.out 0).trans rfl
    have hcz10_1 : w3.cell? ⟨gb108, 1, none⟩ = some (.string a0_1) := (blk_cell BK108.out 1).trans rfl
    have hfz10_0 := blk_frozen BK108.out 0
    have hfz10_1 := blk_frozen BK108.out 1
    go_wp2_with (first | (go_at_call 24; (with_reducible refine (field_Token.calls k a0_0 true _ A4.out ?side1).mono ?_); (case side1 => exact HG.out.step (tq3_7 GE108.out) rfl); rintro e w' ⟨rfl, ⟨nd, rfl⟩⟩; (try first | exact ⟨rfl, _, World.drewN_drewN _ _ _⟩ | exact ⟨rfl, _, Eq.trans (World.drewN_drewN _ _ _) (congrArg (World.drewN _) (Nat.add_assoc _ _ _))⟩)) | (go_at_call 29; (with_reducible refine (field_Value.calls k a0_1 false _ A6.out ?side1).mono ?_); (case side1 => exact HG.out.step (tq3_7 GE108.out) rfl); rintro e w' ⟨rfl, ⟨nd, rfl⟩⟩; (try first | exact ⟨rfl, _, World.drewN_drewN _ _ _⟩ | exact ⟨rfl, _, Eq.trans (World.drewN_drewN _ _ _) (congrArg (World.drewN _) (Nat.add_assoc _ _ _))⟩)))
    repeat (go_quiet (first | (go_at_call 24; (with_reducible refine (field_Token.calls k a0_0 true _ A4.out ?side1).mono ?_); (case side1 => exact HG.out.step (tq3_7 GE108.out) rfl); rintro e w' ⟨rfl, ⟨nd, rfl⟩⟩; (try first | exact ⟨rfl, _, World.drewN_drewN _ _ _⟩ | exact ⟨rfl, _, Eq.trans (World.drewN_drewN _ _ _) (congrArg (World.drewN _) (Nat.add_assoc _ _ _))⟩)) | (go_at_call 29; (with_reducible refine (field_Value.calls k a0_1 false _ A6.out ?side1).mono ?_); (case side1 => exact HG.out.step (tq3_7 GE108.out) rfl); rintro e w' ⟨rfl, ⟨nd, rfl⟩⟩; (try first | exact ⟨rfl, _, World.drewN_drewN _ _ _⟩ | exact ⟨rfl, _, Eq.trans (World.drewN_drewN _ _ _) (congrArg (World.drewN _) (Nat.add_assoc _ _ _))⟩))); try go_wp2_with (first | (go_at_call 24; (with_reducible refine (field_Token.calls k a0_0 true _ A4.out ?side1).mono ?_); (case side1 => exact HG.out.step (tq3_7 GE108.out) rfl); rintro e w' ⟨rfl, ⟨nd, rfl⟩⟩; (try first | exact ⟨rfl, _, World.drewN_drewN _ _ _⟩ | exact ⟨rfl, _, Eq.trans (World.drewN_drewN _ _ _) (congrArg (World.drewN _) (Nat.add_assoc _ _ _))⟩)) | (go_at_call 29; (with_reducible refine (field_Value.calls k a0_1 false _ A6.out ?side1).mono ?_); (case side1 => exact HG.out.step (tq3_7 GE108.out) rfl); rintro e w' ⟨rfl, ⟨nd, rfl⟩⟩; (try first | exact ⟨rfl, _, World.drewN_drewN _ _ _⟩ | exact ⟨rfl, _, Eq.trans (World.drewN_drewN _ _ _) (congrArg (World.drewN _) (Nat.add_assoc _ _ _))⟩))))
    go_meet
    case rel => exact ⟨_, (true), tq3_1, H', ⟨tq3_0⟩, ⟨(tq3_5 BK108.out)⟩, ⟨(tq3_7 GE108.out)⟩⟩
  ·replace c5 := Bool.eq_false_iff.mpr c5
   subst c5
   have H1 : (reply_may.j0 k true a0_0 a0_1) = some r := by rw [if_neg (show ¬ (false = true) by decide)] at H; exact H
   clear H
   have H := H1
   clear H1
   have H' := Aq3 H
   clear H
   have hcz11_0 : w3.cell? ⟨gb108, 0, none⟩ = some (.string a0_0) := (blk_cell BK108.out 0).trans rfl
   have hcz11_1 : w3.cell? ⟨gb108, 1, none⟩ = some (.string a0_1) := (blk_cell BK108.out 1).trans rfl
   have hfz11_0 := blk_frozen BK108.out 0
   have hfz11_1 := blk_frozen BK108.out 1
   go_wp2_with (first | (go_at_call 24; (with_reducible refine (field_Token.calls k a0_0 false _ A4.out ?side1).mono ?_); (case side1 => exact HG.out.step (tq3_7 GE108.out) rfl); rintro e w' ⟨rfl, ⟨nd, rfl⟩⟩; (try first | exact ⟨rfl, _, World.drewN_drewN _ _ _⟩ | exact ⟨rfl, _, Eq.trans (World.drewN_drewN _ _ _) (congrArg (World.drewN _) (Nat.add_assoc _ _ _))⟩)))
   repeat (go_quiet (first | (go_at_call 24; (with_reducible refine (field_Token.calls k a0_0 false _ A4.out ?side1).mono ?_); (case side1 => exact HG.out.step (tq3_7 GE108.out) rfl); rintro e w' ⟨rfl, ⟨nd, rfl⟩⟩; (try first | exact ⟨rfl, _, World.drewN_drewN _ _ _⟩ | exact ⟨rfl, _, Eq.trans (World.drewN_drewN _ _ _) (congrArg (World.drewN _) (Nat.add_assoc _ _ _))⟩))); try go_wp2_with (first | (go_at_call 24; (with_reducible refine (field_Token.calls k a0_0 false _ A4.out ?side1).mono ?_); (case side1 => exact HG.out.step (tq3_7 GE108.out) rfl); rintro e w' ⟨rfl, ⟨nd, rfl⟩⟩; (try first | exact ⟨rfl, _, World.drewN_drewN _ _ _⟩ | exact ⟨rfl, _, Eq.trans (World.drewN_drewN _ _ _) (congrArg (World.drewN _) (Nat.add_assoc _ _ _))⟩))))
   go_meet
   case rel => exact ⟨_, (true), tq3_1, H', ⟨tq3_0⟩, ⟨(tq3_5 BK108.out)⟩, ⟨(tq3_7 GE108.out)⟩⟩
 case rest =>
  clear HC2
  try clear p2
  try clear c4
  try clear c5
  try clear c7
  try clear hcz10_0
  try clear hcz10_1
  try clear hcz11_0
  try clear hcz11_1
  try clear hcz9_0
  try clear hcz9_1
  try clear hfz10_0
  try clear hfz10_1
  try clear hfz11_0
  try clear hfz11_1
  try clear hfz9_0
  try clear hfz9_1
  obtain ⟨kq, x23_1, rfl, HA, HJ1, BK108, HB⟩ := hcut
  cases kq with
  | zero => exact absurd HA.out (by simp [reply_may.j0])
  | succ kj1 =>
   have H := HA.out
   clear HA
   simp only [reply_may.j0] at H
   by_cases c12 : x23_1 = true
   ·subst c12
    have H1 : (some false) = some r := by rw [if_pos rfl] at H; exact H
    clear H
    have H := H1
    clear H1
    obtain rfl := Option.some.inj H
    go_wp2
    repeat (go_quiet (fail); try go_wp2)
    go_ret
    exact ⟨tq3_3, (tq3_7 GE108.out)⟩
   ·replace c12 := Bool.eq_false_iff.mpr c12
    subst c12
    have H1 : ((reply_lower.f a0_0).bind fun t112 => (reply_may.l0 kj1 t112 0)) = some r := by rw [if_neg (show ¬ (false = true) by decide)] at H; exact H
    clear H
    have H := H1
    clear H1
    replace H := Option.bind_eq_some_iff.mp H
    obtain ⟨t112, A130, H⟩ := H
    replace H : (reply_may.l0 kj1 t112 0) = some r := H
    have A13 := Aq3 A130
    clear A130
    have H' := Aq3 H
    clear H
    have hcz14_0 : wc.cell? ⟨gb108, 0, none⟩ = some (.string a0_0) := (blk_cell BK108.out 0).trans rfl
    have hcz14_1 : wc.cell? ⟨gb108, 1, none⟩ = some (.string a0_1) := (blk_cell BK108.out 1).trans rfl
    have hfz14_0 := blk_frozen BK108.out 0
    have hfz14_1 := blk_frozen BK108.out 1
    go_wp2_with (first | (go_at_call 63; (with_reducible refine (reply_lower.calls a0_0 t112 _ A13.out).mono ?_); rintro e w15 ⟨rfl, hb⟩; replace BK108 := Aq3 (blk_below (g := gb108) (o := .cells #[.string a0_0, .string a0_1] 26 (0, 0)) (tq3_5 BK108.out) hb); replace HB := Aq3 (below_step (tq3_7 GE108.out) hb); (try clear hb); (try clear hb2); (try clear hk); (try clear hi); obtain ⟨tyTV113, frTV113, hbTV113⟩ := Glob.own (HG.out.step HB.out (T := [9, 16]) rfl) (by rfl); obtain ⟨TV113, hTV113⟩ : ∃ V_ : Array Value, V_ = ownV.toArray := ⟨_, rfl⟩; rw [← hTV113] at hbTV113; have HSTV113 := Aq3 (show (Tryd.prog.info? 99).map (·.size) = some TV113.size from by rw [hTV113]; exact reply_own.size); have HTTV113 := Aq3 hTV113; have HKTV113 := Aq3 hbTV113; clear hTV113 hbTV113) | ((with_reducible refine gate_dst (N := 27) rfl ?_); refine wpList_load_row rfl 99 (.global 9) rfl 9 rfl tyTV113 TV113 frTV113 _ (tq3_4 HKTV113.out) Tryd.underlying99 rfl HSTV113.out ?_))
    repeat (go_quiet (first | (go_at_call 63; (with_reducible refine (reply_lower.calls a0_0 t112 _ A13.out).mono ?_); rintro e w15 ⟨rfl, hb⟩; replace BK108 := Aq3 (blk_below (g := gb108) (o := .cells #[.string a0_0, .string a0_1] 26 (0, 0)) (tq3_5 BK108.out) hb); replace HB := Aq3 (below_step (tq3_7 GE108.out) hb); (try clear hb); (try clear hb2); (try clear hk); (try clear hi); obtain ⟨tyTV113, frTV113, hbTV113⟩ := Glob.own (HG.out.step HB.out (T := [9, 16]) rfl) (by rfl); obtain ⟨TV113, hTV113⟩ : ∃ V_ : Array Value, V_ = ownV.toArray := ⟨_, rfl⟩; rw [← hTV113] at hbTV113; have HSTV113 := Aq3 (show (Tryd.prog.info? 99).map (·.size) = some TV113.size from by rw [hTV113]; exact reply_own.size); have HTTV113 := Aq3 hTV113; have HKTV113 := Aq3 hbTV113; clear hTV113 hbTV113) | ((with_reducible refine gate_dst (N := 27) rfl ?_); refine wpList_load_row rfl 99 (.global 9) rfl 9 rfl tyTV113 TV113 frTV113 _ (tq3_4 HKTV113.out) Tryd.underlying99 rfl HSTV113.out ?_)); try go_wp2_with (first | (go_at_call 63; (with_reducible refine (reply_lower.calls a0_0 t112 _ A13.out).mono ?_); rintro e w15 ⟨rfl, hb⟩; replace BK108 := Aq3 (blk_below (g := gb108) (o := .cells #[.string a0_0, .string a0_1] 26 (0, 0)) (tq3_5 BK108.out) hb); replace HB := Aq3 (below_step (tq3_7 GE108.out) hb); (try clear hb); (try clear hb2); (try clear hk); (try clear hi); obtain ⟨tyTV113, frTV113, hbTV113⟩ := Glob.own (HG.out.step HB.out (T := [9, 16]) rfl) (by rfl); obtain ⟨TV113, hTV113⟩ : ∃ V_ : Array Value, V_ = ownV.toArray := ⟨_, rfl⟩; rw [← hTV113] at hbTV113; have HSTV113 := Aq3 (show (Tryd.prog.info? 99).map (·.size) = some TV113.size from by rw [hTV113]; exact reply_own.size); have HTTV113 := Aq3 hTV113; have HKTV113 := Aq3 hbTV113; clear hTV113 hbTV113) | ((with_reducible refine gate_dst (N := 27) rfl ?_); refine wpList_load_row rfl 99 (.global 9) rfl 9 rfl tyTV113 TV113 frTV113 _ (tq3_4 HKTV113.out) Tryd.underlying99 rfl HSTV113.out ?_)))
    go_loopg [28] kj1 (fun kq v28 w' => ∃ (x28_2 : Int), v28 = .int .i64 x28_2 ∧ Aside0 (reply_may.l0 kq t112 x28_2 = some r) ∧ Aside0 (kq ≤ kj1) ∧ Aside0 (w'.heap[gb108]? = some (.cells #[.string a0_0, .string a0_1] 26 (0, 0))) ∧ Aside0 (Below w.heap.size w w'))
    case atStart => exact ⟨(0), tq3_1, H', ⟨Nat.le_refl _⟩, ⟨(tq3_5 BK108.out)⟩, ⟨(tq3_7 GE108.out)⟩⟩
    case round =>
     clear H'
     try clear c1
     try clear p2
     try clear c4
     try clear c5
     try clear c7
     try clear c12
     try clear hcz10_0
     try clear hcz10_1
     try clear hcz11_0
     try clear hcz11_1
     try clear hcz14_0
     try clear hcz14_1
     try clear hcz9_0
     try clear hcz9_1
     try clear hfz10_0
     try clear hfz10_1
     try clear hfz11_0
     try clear hfz11_1
     try clear hfz14_0
     try clear hfz14_1
     try clear hfz9_0
     try clear hfz9_1
     try clear p2
     obtain ⟨x28_2, rfl, HA, HK2, BK108, HB⟩ := hrel
     cases gk with
     | zero => exact absurd HA.out (by simp [reply_may.l0])
     | succ k2 =>
      have H := HA.out
      clear HA
      simp only [reply_may.l0] at H
      by_cases c16 : x28_2 < 3
      ·rw [if_pos c16] at H
       have c16b0 : decide (x28_2 < 3) = true := decide_eq_true c16
       clear c16
       by_cases c17 : 0 ≤ x28_2
       ·rw [if_pos c17] at H
        have c17b0 : decide (0 ≤ x28_2) = true := decide_eq_true c17
        clear c17
        by_cases c19 : t112.toList = (reply_own.c0 x28_2).toList
        ·rw [if_pos c19] at H
         have c19b0 : (t112.toList == (reply_own.c0 x28_2).toList) = true := beq_iff_eq.mpr c19
         have c19b1 : (t112.toList != (reply_own.c0 x28_2).toList) = false := bne_eq_false_iff_eq.mpr c19
         clear c19
         obtain rfl := Option.some.inj H
         have p18 : 0 ≤ (x28_2 : Int) := of_decide_eq_true tq3_2
         have q18 : (x28_2 : Int) < 3 := of_decide_eq_true tq3_2
         have hx18 := reply_own.index x28_2 p18 q18
         rw [← HTTV113.out] at hx18
         clear p18 q18
         go_wp2
         repeat (go_quiet (fail); try go_wp2)
         go_ret
         exact ⟨tq3_3, (tq3_7 GE108.out)⟩
        ·rw [if_neg c19] at H
         have c19b0 : (t112.toList == (reply_own.c0 x28_2).toList) = false := beq_eq_false_iff_ne.mpr c19
         have c19b1 : (t112.toList != (reply_own.c0 x28_2).toList) = true := bne_iff_ne.mpr c19
         have H' := Aq3 H
         clear H
         have p18 : 0 ≤ (x28_2 : Int) := of_decide_eq_true tq3_2
         have q18 : (x28_2 : Int) < 3 := of_decide_eq_true tq3_2
         have hx18 := reply_own.index x28_2 p18 q18
         rw [← HTTV113.out] at hx18
         clear p18 q18
         go_wp2
         repeat (go_quiet (fail); try go_wp2)
         go_roundg k2
         case measure => have := HJ1.out; have := HK2.out; omega
         case rel => exact ⟨(wrap64 (x28_2 + 1)), tq3_1, H', ⟨by have := HJ1.out; have := HK2.out; omega⟩, ⟨(tq3_5 BK108.out)⟩, ⟨(tq3_7 GE108.out)⟩⟩
       ·rw [if_neg c17] at H
        exact absurd H (by simp)
      ·rw [if_neg c16] at H
       have c16b0 : decide (x28_2 < 3) = false := decide_eq_false c16
       clear c16
       obtain rfl := Option.some.inj H
       go_wp2
       repeat (go_quiet (fail); try go_wp2)
       go_ret
       exact ⟨tq3_3, (tq3_7 GE108.out)⟩

end Go.Proofs.YtdlfdmbaejhaaaaDoor.Q
