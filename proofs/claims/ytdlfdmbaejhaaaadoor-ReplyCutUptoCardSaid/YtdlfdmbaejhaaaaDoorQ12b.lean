/- The plain Lean functions that calls of the program answer, and proofs that they do. Printed by program out of the translation; Lean checks it. -/
import Derived.Test.YtdlfdmbaejhaaaaDoorQ0
import Derived.Test.YtdlfdmbaejhaaaaDoorQ4
import Derived.Test.YtdlfdmbaejhaaaaDoorQ5
import Derived.Test.YtdlfdmbaejhaaaaDoorQ8
import Derived.Test.YtdlfdmbaejhaaaaDoorQ11
import Derived.Test.YtdlfdmbaejhaaaaDoorNum
import Derived.Test.YtdlfdmbaejhaaaaDoorQ12
namespace Go.Proofs.YtdlfdmbaejhaaaaDoor.Q
open Go.RowKit Go.Proofs.YtdlfdmbaejhaaaaDoorW.PrintWords Go.Proofs.YtdlfdmbaejhaaaaDoorW.PrintLast Go.Proofs.YtdlfdmbaejhaaaaDoorW.PrintMore
attribute [local go_sem] max2_int min2_int max_two min_two max_three min_three max_four min_four   -- for this text's walks alone
set_option linter.unusedVariables false
set_option linter.unusedSimpArgs false


/-! ### usherlaw8_ReplyCut: function 10 -/
def usherlaw8_ReplyCut.j0 : Nat → ByteArray → Bool → Int → List (S26) → ByteArray → Bool → ByteArray → Int → Option (Bool)
 | 0, _, _, _, _, _, _, _, _ => none
 | k + 1, x4, x24, x302000, x302001, x302002, x302003, x302004, x302005 => if x24 = true then (some false) else ((usherkit_Pick.f x302005 (x4.size : Int)).bind fun t312 => (if 0 ≤ t312 then (if t312 ≤ (x4.size : Int) then ((reply_Read.f k (x4.extract 0 (t312 : Int).toNat)).bind fun bt313 => ((usherref0_SameReply.f k bt313.1 bt313.2.1 bt313.2.2.1 bt313.2.2.2.1 0 ([] : List (S26)) (⟨#[]⟩ : ByteArray) false).bind fun t322 => (if t322 = true then (if bt313.2.2.2.2.1 = 0 then ((usherkit_Num.f bt313.2.2.2.2.2).bind fun t323 => (some (t323 == 6))) else (some false)) else (some false)))) else (none)) else (none)))
def usherlaw8_ReplyCut.f (k : Nat) (a0_0 : Int) (l0_1 : List (S26)) (a0_2 : ByteArray) (a0_3 : Bool) (a0_4 : ByteArray) (a0_5 : Int) : Option (Bool) := (usherlaw8_tidy.f k a0_0 l0_1 a0_2 a0_3).bind fun bt302 => ((reply_Render.f k bt302.1 bt302.2.1 bt302.2.2.1 bt302.2.2.2 false).bind fun bt309 => (if bt309.2.isNone = true then (usherlaw8_ReplyCut.j0 k bt309.1 (bt309.1.toList == ([] : List UInt8)) a0_0 l0_1 a0_2 a0_3 a0_4 a0_5) else (usherlaw8_ReplyCut.j0 k bt309.1 true a0_0 l0_1 a0_2 a0_3 a0_4 a0_5)))
theorem usherlaw8_ReplyCut.mono_l : ∀ k, (∀ y0 y1 y2 y3 y4 y5 y6 y7, LeO (usherlaw8_ReplyCut.j0 k y0 y1 y2 y3 y4 y5 y6 y7) (usherlaw8_ReplyCut.j0 (k + 1) y0 y1 y2 y3 y4 y5 y6 y7))
 | 0 => fun _ _ _ _ _ _ _ _ r h => by simp [usherlaw8_ReplyCut.j0] at h
 | k + 1 => by
  have ih0 := usherlaw8_ReplyCut.mono_l k
  ·intro y0 y1 y2 y3 y4 y5 y6 y7
   unfold usherlaw8_ReplyCut.j0
   repeat' first
   | (with_reducible exact ih0 _ _ _ _ _ _ _ _)
   | (with_reducible exact reply_Read.mono _ _)
   | (with_reducible exact reply_Render.mono _ _ _ _ _ _)
   | (with_reducible exact usherlaw8_tidy.mono _ _ _ _ _)
   | (with_reducible exact usherref0_SameReply.mono _ _ _ _ _ _ _ _ _)
   | (with_reducible exact LeO.refl _)
   | (with_reducible exact LeO.none _)
   | (with_reducible refine LeO.ite ?_ ?_)
   | (with_reducible refine LeO.bind ?_ (fun _ => ?_))
   | exact ih0 _ _ _ _ _ _ _ _
   | exact reply_Read.mono _ _
   | exact reply_Render.mono _ _ _ _ _ _
   | exact usherlaw8_tidy.mono _ _ _ _ _
   | exact usherref0_SameReply.mono _ _ _ _ _ _ _ _ _
   | exact LeO.none _
   | refine LeO.ite ?_ ?_
   | refine LeO.bind ?_ (fun _ => ?_)
theorem usherlaw8_ReplyCut.mono : ∀ a0 a1 a2 a3 a4 a5 k, LeO (usherlaw8_ReplyCut.f k a0 a1 a2 a3 a4 a5) (usherlaw8_ReplyCut.f (k + 1) a0 a1 a2 a3 a4 a5) := by
 intro a0 a1 a2 a3 a4 a5 k
 have ih0 := usherlaw8_ReplyCut.mono_l k
 unfold usherlaw8_ReplyCut.f
 repeat' first
   | (with_reducible exact ih0 _ _ _ _ _ _ _ _)
   | (with_reducible exact reply_Read.mono _ _)
   | (with_reducible exact reply_Render.mono _ _ _ _ _ _)
   | (with_reducible exact usherlaw8_tidy.mono _ _ _ _ _)
   | (with_reducible exact usherref0_SameReply.mono _ _ _ _ _ _ _ _ _)
   | (with_reducible exact LeO.refl _)
   | (with_reducible exact LeO.none _)
   | (with_reducible refine LeO.ite ?_ ?_)
   | (with_reducible refine LeO.bind ?_ (fun _ => ?_))
   | exact ih0 _ _ _ _ _ _ _ _
   | exact reply_Read.mono _ _
   | exact reply_Render.mono _ _ _ _ _ _
   | exact usherlaw8_tidy.mono _ _ _ _ _
   | exact usherref0_SameReply.mono _ _ _ _ _ _ _ _ _
   | exact LeO.none _
   | refine LeO.ite ?_ ?_
   | refine LeO.bind ?_ (fun _ => ?_)
set_option maxHeartbeats 8000000 in
set_option maxRecDepth 100000 in
theorem usherlaw8_ReplyCut.calls [Sent] (k : Nat) (a0_0 : Int) (A0_1 : Option Addr) (c0_1 : Nat) (l0_1 : List (S26)) (a0_2 : ByteArray) (a0_3 : Bool) (a0_4 : ByteArray) (a0_5 : Int) (r : Bool) (w : World) (hr0_1 : Kd.C k26 w A0_1 l0_1.length l0_1) (hc0_1 : l0_1.length ≤ c0_1) (h : usherlaw8_ReplyCut.f k a0_0 l0_1 a0_2 a0_3 a0_4 a0_5 = some r) (hG : Glob [0, 1, 2, 3, 4, 5, 6, 7, 8, 9, 10, 11, 12, 13, 14, 15, 16, 18, 19, 999] w) :
  Calls Tryd.prog 10 #[.agg #[.int .i64 a0_0, .slice A0_1 l0_1.length c0_1, .string a0_2, .bool a0_3, .string a0_4, .int .i64 a0_5]] w fun e w' => e = .returned (.bool r) ∧ Below w.heap.size w w' := by
 have HG := Aq12 hG
 clear hG
 have hu64 := Tryd.underlying64
 have hu24 := Tryd.underlying24
 have hu28 := Tryd.underlying28
 have hu143 := Tryd.underlying143
 have HR0_1 := Aq12 hr0_1
 have HC0_1 := Aq12 hc0_1
 clear hr0_1 hc0_1
 have HB := Aq12 (Below.refl w.heap.size w)
 have H : ((usherlaw8_tidy.f k a0_0 l0_1 a0_2 a0_3).bind fun bt302 => ((reply_Render.f k bt302.1 bt302.2.1 bt302.2.2.1 bt302.2.2.2 false).bind fun bt309 => (if bt309.2.isNone = true then (usherlaw8_ReplyCut.j0 k bt309.1 (bt309.1.toList == ([] : List UInt8)) a0_0 l0_1 a0_2 a0_3 a0_4 a0_5) else (usherlaw8_ReplyCut.j0 k bt309.1 true a0_0 l0_1 a0_2 a0_3 a0_4 a0_5)))) = some r := h
 clear h
 replace H := Option.bind_eq_some_iff.mp H
 obtain ⟨⟨t302, t303, t306, t307⟩, A20, H⟩ := H
 replace H : ((reply_Render.f k t302 t303 t306 t307 false).bind fun bt309 => (if bt309.2.isNone = true then (usherlaw8_ReplyCut.j0 k bt309.1 (bt309.1.toList == ([] : List UInt8)) a0_0 l0_1 a0_2 a0_3 a0_4 a0_5) else (usherlaw8_ReplyCut.j0 k bt309.1 true a0_0 l0_1 a0_2 a0_3 a0_4 a0_5))) = some r := H
 have A2 := Aq12 A20
 clear A20
 replace H := Option.bind_eq_some_iff.mp H
 obtain ⟨⟨t309, t310⟩, A30, H⟩ := H
 replace H : (if t310.isNone = true then (usherlaw8_ReplyCut.j0 k t309 (t309.toList == ([] : List UInt8)) a0_0 l0_1 a0_2 a0_3 a0_4 a0_5) else (usherlaw8_ReplyCut.j0 k t309 true a0_0 l0_1 a0_2 a0_3 a0_4 a0_5)) = some r := H
 have A3 := Aq12 A30
 clear A30
 have HC4 := Aq12 H
 clear H
 go_enter Tryd.func10, Tryd.ntmps10
 go_upto_region 3 with (first | ((with_reducible refine gate_dst (N := 1) rfl ?_); refine box_event ?hg (N := 1) ?hd (cs := #[.int .i64 a0_0, .slice A0_1 l0_1.length c0_1, .string a0_2, .bool a0_3, .string a0_4, .int .i64 a0_5]) (t := 64) ?hr ?_; (case hd => rfl); (case hg => rfl); (case hr => first | (go_simp; done) | (go_simp; rfl)); intro gb301 hg w5 hbox hb; have BK301 := Aq12 (hbox); have GW301 := Aq12 ((by rw [hg]; exact (below_size tq12_6) : w.heap.size ≤ gb301)); have GE301 := Aq12 ((by rw [hg]; exact (below_size tq12_6) : w.heap.size ≤ gb301)); replace HB := Aq12 (below_step tq12_6 hb); clear hb hbox hg; have hcz6_0 : w5.cell? ⟨gb301, 0, none⟩ = some (.int .i64 a0_0) := (blk_cell BK301.out 0).trans rfl; have hcz6_1 : w5.cell? ⟨gb301, 1, none⟩ = some (.slice A0_1 l0_1.length c0_1) := (blk_cell BK301.out 1).trans rfl; have hcz6_2 : w5.cell? ⟨gb301, 2, none⟩ = some (.string a0_2) := (blk_cell BK301.out 2).trans rfl; have hcz6_3 : w5.cell? ⟨gb301, 3, none⟩ = some (.bool a0_3) := (blk_cell BK301.out 3).trans rfl; have hcz6_4 : w5.cell? ⟨gb301, 4, none⟩ = some (.string a0_4) := (blk_cell BK301.out 4).trans rfl; have hcz6_5 : w5.cell? ⟨gb301, 5, none⟩ = some (.int .i64 a0_5) := (blk_cell BK301.out 5).trans rfl; have hfz6_0 := blk_frozen BK301.out 0; have hfz6_1 := blk_frozen BK301.out 1; have hfz6_2 := blk_frozen BK301.out 2; have hfz6_3 := blk_frozen BK301.out 3; have hfz6_4 := blk_frozen BK301.out 4; have hfz6_5 := blk_frozen BK301.out 5) | ((with_reducible refine gate_callee (f := 35) rfl ?_); refine goesL_ (some 13) rfl rfl Tryd.func35 (by kernel_rfl) rfl #[.agg #[.int .i64 a0_0, .slice A0_1 l0_1.length c0_1, .string a0_2, .bool a0_3]] rfl tq12_7 ?_; (with_reducible refine (usherlaw8_tidy.calls k a0_0 _ _ l0_1 a0_2 a0_3 t302 t303 t306 t307 _ ?side1 ?side2 A2.out ?side3).mono ?_); (case side1 => repeat (first | exact (Kd.C_below HR0_1.out HB.out) | (with_reducible refine Kd.C_alloc ?_ _) | (with_reducible refine Kd.C_drewN ?_ _) | (with_reducible refine Kd.C_drew ?_))); (case side2 => exact HC0_1.out); (case side3 => exact HG.out.step (tq12_8 GE301.out) rfl); rintro e w7 ⟨v304, rfl, ho0, hb⟩; refine ⟨_, rfl, ?_⟩; have HO305 := Aq12 (Kd.R_lower ho0 (below_size (tq12_8 GE301.out))); replace BK301 := Aq12 (blk_below (g := gb301) (o := .cells #[.int .i64 a0_0, .slice A0_1 l0_1.length c0_1, .string a0_2, .bool a0_3, .string a0_4, .int .i64 a0_5] 64 (0, 0)) (tq12_4 BK301.out) hb); replace HB := Aq12 (below_step (tq12_8 GE301.out) hb); (try clear hb); (try clear hb2); (try clear hk); (try clear hi); (try clear ho0)) | ((with_reducible refine gate_dst (N := 3) rfl ?_); refine box_event ?hg (N := 3) ?hd (cs := #[.int .i64 0, .slice none 0 0, .string (⟨#[]⟩ : ByteArray), .bool false]) (t := 24) ?hr ?_; (case hd => rfl); (case hg => rfl); (case hr => first | (go_simp; done) | (go_simp; rfl)); intro gb308 hg w8 hbox hb; replace HO305 := Aq12 (Kd.R_below (tq12_3 HO305.out) hb); have BK308 := Aq12 (hbox); have GW308 := Aq12 ((by rw [hg]; exact (below_size (tq12_8 GE301.out)) : w.heap.size ≤ gb308)); have GE308 := Aq12 ((by rw [hg]; exact (below_size (tq12_8 GE301.out)) : w.heap.size ≤ gb308)); have NB301_308 := Aq12 ((by rw [hg]; exact Nat.ne_of_lt (blk_lt (g := gb301) (o := .cells #[.int .i64 a0_0, .slice A0_1 l0_1.length c0_1, .string a0_2, .bool a0_3, .string a0_4, .int .i64 a0_5] 64 (0, 0)) (tq12_4 BK301.out)) : gb301 ≠ gb308)); have NB308_301 := Aq12 ((by rw [hg]; exact Nat.ne_of_gt (blk_lt (g := gb301) (o := .cells #[.int .i64 a0_0, .slice A0_1 l0_1.length c0_1, .string a0_2, .bool a0_3, .string a0_4, .int .i64 a0_5] 64 (0, 0)) (tq12_4 BK301.out)) : gb308 ≠ gb301)); replace BK301 := Aq12 (blk_below (g := gb301) (o := .cells #[.int .i64 a0_0, .slice A0_1 l0_1.length c0_1, .string a0_2, .bool a0_3, .string a0_4, .int .i64 a0_5] 64 (0, 0)) (tq12_4 BK301.out) hb); replace HB := Aq12 (below_step (tq12_8 GE301.out) hb); clear hb hbox hg; have hnb9 := NB308_301.out; have hnc9 := NB301_308.out; have hcz10_0 : w8.cell? ⟨gb308, 0, none⟩ = some (.int .i64 0) := (blk_cell BK308.out 0).trans rfl; have hcz10_1 : w8.cell? ⟨gb308, 1, none⟩ = some (.slice none 0 0) := (blk_cell BK308.out 1).trans rfl; have hcz10_2 : w8.cell? ⟨gb308, 2, none⟩ = some (.string (⟨#[]⟩ : ByteArray)) := (blk_cell BK308.out 2).trans rfl; have hcz10_3 : w8.cell? ⟨gb308, 3, none⟩ = some (.bool false) := (blk_cell BK308.out 3).trans rfl; have hfz10_0 := blk_frozen BK308.out 0; have hfz10_1 := blk_frozen BK308.out 1; have hfz10_2 := blk_frozen BK308.out 2; have hfz10_3 := blk_frozen BK308.out 3; obtain ⟨Ao11, co11, eo11⟩ := Kd.R_slice HO305.out; subst eo11) | ((with_reducible refine gate_callee (f := 15) rfl ?_); refine goesL_ (some 16) rfl rfl Tryd.func15 (by kernel_rfl) rfl #[.agg #[.int .i64 t302, .slice Ao11 t303.length co11, .string t306, .bool t307], .bool false] rfl tq12_7 ?_; (with_reducible refine (reply_Render.calls k t302 _ _ t303 t306 t307 false t309 t310 _ ?side1 ?side2 A3.out ?side3).mono ?_); (case side1 => refine (Kd.R_reads' (e := 26) (base := w.heap.size) (ok := fun k_ => True) (n := t303.length) (c := co11) ?_).2.2; exact (tq12_c HO305.out BK308.out)); (case side2 => exact (Kd.R_reads' HO305.out).2.1); (case side3 => exact HG.out.step (tq12_9 GE301.out GE308.out) rfl); rintro e w12 ⟨rfl, hb⟩; refine ⟨_, rfl, ?_⟩; replace HO305 := Aq12 (Kd.R_below (tq12_c HO305.out BK308.out) hb); replace BK301 := Aq12 (blk_below (g := gb301) (o := .cells #[.int .i64 a0_0, .slice A0_1 l0_1.length c0_1, .string a0_2, .bool a0_3, .string a0_4, .int .i64 a0_5] 64 (0, 0)) (tq12_b NB301_308.out BK301.out) hb); replace BK308 := Aq12 (blk_below (g := gb308) (o := .cells #[.int .i64 t302, .slice Ao11 t303.length co11, .string t306, .bool t307] 24 (0, 0)) (by (with_reducible repeat (first | refine blk_drewN ?_ _ | refine blk_drew ?_ | refine blk_alloc ?_ _)); refine blk_put (cs := #[.int .i64 t302, .slice Ao11 t303.length co11, .string t306, .bool false]) ?_ 3 _ rfl; (with_reducible repeat (first | refine blk_drewN ?_ _ | refine blk_drew ?_ | refine blk_alloc ?_ _)); refine blk_put (cs := #[.int .i64 t302, .slice Ao11 t303.length co11, .string (⟨#[]⟩ : ByteArray), .bool false]) ?_ 2 _ rfl; (with_reducible repeat (first | refine blk_drewN ?_ _ | refine blk_drew ?_ | refine blk_alloc ?_ _)); refine blk_put (cs := #[.int .i64 t302, .slice none 0 0, .string (⟨#[]⟩ : ByteArray), .bool false]) ?_ 1 _ rfl; (with_reducible repeat (first | refine blk_drewN ?_ _ | refine blk_drew ?_ | refine blk_alloc ?_ _)); refine blk_put (cs := #[.int .i64 0, .slice none 0 0, .string (⟨#[]⟩ : ByteArray), .bool false]) ?_ 0 _ rfl; (with_reducible repeat (first | refine blk_drewN ?_ _ | refine blk_drew ?_ | refine blk_alloc ?_ _)); exact BK308.out) hb); replace HB := Aq12 (below_step (tq12_9 GE301.out GE308.out) hb); (try clear hb); (try clear hb2); (try clear hk); (try clear hi); (try simp only [errW_none, errW_some])))
 (try simp only [Act.put, List.setIfInBounds_toArray, List.set_cons_zero, List.set_cons_succ])
 go_cut [24] (fun v24 wc => ∃ (kq : Nat) (x24_3 : Bool), v24 = .bool x24_3 ∧ Aside0 (usherlaw8_ReplyCut.j0 kq t309 x24_3 a0_0 l0_1 a0_2 a0_3 a0_4 a0_5 = some r) ∧ Aside0 (kq ≤ k) ∧ Aside0 (Kd.R k26 26 wc w.heap.size (fun _ => True) (.slice Ao11 t303.length co11) t303) ∧ Aside0 (wc.heap[gb301]? = some (.cells #[.int .i64 a0_0, (.slice A0_1 l0_1.length c0_1), .string a0_2, .bool a0_3, .string a0_4, .int .i64 a0_5] 64 (0, 0))) ∧ Aside0 (wc.heap[gb308]? = some (.cells #[.int .i64 t302, (.slice Ao11 t303.length co11), .string t306, .bool t307] 24 (0, 0))) ∧ Aside0 (Below w.heap.size w wc))
 case first =>
  have H := HC4.out
  clear HC4
  rcases t310 with _ | q311
  ·have H1 : (usherlaw8_ReplyCut.j0 k t309 (t309.toList == ([] : List UInt8)) a0_0 l0_1 a0_2 a0_3 a0_4 a0_5) = some r := by rw [if_pos (show (none : Option Int).isNone = true by rfl)] at H; exact H
   clear H
   have H := H1
   clear H1
   try simp only [errW_none, errW_some]
   have H' := Aq12 H
   clear H
   go_wp2
   go_meet
   case rel => exact ⟨_, ((t309.toList == ([] : List UInt8))), tq12_0, H', ⟨by first | omega | exact Nat.le_refl _⟩, ⟨(tq12_3 HO305.out)⟩, ⟨(tq12_4 BK301.out)⟩, ⟨(tq12_4 BK308.out)⟩, ⟨(tq12_9 GE301.out GE308.out)⟩⟩
  ·have H1 : (usherlaw8_ReplyCut.j0 k t309 true a0_0 l0_1 a0_2 a0_3 a0_4 a0_5) = some r := by rw [if_neg (show ¬ (some q311).isNone = true by simp)] at H; exact H
   clear H
   have H := H1
   clear H1
   try simp only [errW_none, errW_some]
   have H' := Aq12 H
   clear H
   go_wp2
   go_meet
   case rel => exact ⟨_, (true), tq12_0, H', ⟨by first | omega | exact Nat.le_refl _⟩, ⟨(tq12_3 HO305.out)⟩, ⟨(tq12_4 BK301.out)⟩, ⟨(tq12_4 BK308.out)⟩, ⟨(tq12_9 GE301.out GE308.out)⟩⟩
 case rest =>
  clear HC4
  try clear c1
  try clear p2
  try clear c3
  try clear q3
  try clear c9
  try clear c10
  try clear hcz10_0
  try clear hcz10_1
  try clear hcz10_2
  try clear hcz10_3
  try clear hcz6_0
  try clear hcz6_1
  try clear hcz6_2
  try clear hcz6_3
  try clear hcz6_4
  try clear hcz6_5
  try clear hfz10_0
  try clear hfz10_1
  try clear hfz10_2
  try clear hfz10_3
  try clear hfz6_0
  try clear hfz6_1
  try clear hfz6_2
  try clear hfz6_3
  try clear hfz6_4
  try clear hfz6_5
  try clear q311
  obtain ⟨kq, x24_3, rfl, HA, HJ3, HO_309001, BK301, BK308, HB⟩ := hcut
  cases kq with
  | zero => exact absurd HA.out (by simp [usherlaw8_ReplyCut.j0])
  | succ kj3 =>
   have H := HA.out
   clear HA
   simp only [usherlaw8_ReplyCut.j0] at H
   by_cases c13 : x24_3 = true
   ·subst c13
    have H1 : (some false) = some r := by rw [if_pos rfl] at H; exact H
    clear H
    have H := H1
    clear H1
    obtain rfl := Option.some.inj H
    go_wp2
    go_ret
    exact ⟨tq12_2, (tq12_9 GE301.out GE308.out)⟩
   ·replace c13 := Bool.eq_false_iff.mpr c13
    subst c13
    have H1 : ((usherkit_Pick.f a0_5 (t309.size : Int)).bind fun t312 => (if 0 ≤ t312 then (if t312 ≤ (t309.size : Int) then ((reply_Read.f kj3 (t309.extract 0 (t312 : Int).toNat)).bind fun bt313 => ((usherref0_SameReply.f kj3 bt313.1 bt313.2.1 bt313.2.2.1 bt313.2.2.2.1 0 ([] : List (S26)) (⟨#[]⟩ : ByteArray) false).bind fun t322 => (if t322 = true then (if bt313.2.2.2.2.1 = 0 then ((usherkit_Num.f bt313.2.2.2.2.2).bind fun t323 => (some (t323 == 6))) else (some false)) else (some false)))) else (none)) else (none))) = some r := by rw [if_neg (show ¬ (false = true) by decide)] at H; exact H
    clear H
    have H := H1
    clear H1
    replace H := Option.bind_eq_some_iff.mp H
    obtain ⟨t312, A140, H⟩ := H
    replace H : (if 0 ≤ t312 then (if t312 ≤ (t309.size : Int) then ((reply_Read.f kj3 (t309.extract 0 (t312 : Int).toNat)).bind fun bt313 => ((usherref0_SameReply.f kj3 bt313.1 bt313.2.1 bt313.2.2.1 bt313.2.2.2.1 0 ([] : List (S26)) (⟨#[]⟩ : ByteArray) false).bind fun t322 => (if t322 = true then (if bt313.2.2.2.2.1 = 0 then ((usherkit_Num.f bt313.2.2.2.2.2).bind fun t323 => (some (t323 == 6))) else (some false)) else (some false)))) else (none)) else (none)) = some r := H
    have A14 := Aq12 A140
    clear A140
    by_cases c15 : 0 ≤ t312
    ·rw [if_pos c15] at H
     have c15b0 := eq_true c15
     have c15b1 : decide (0 ≤ t312) = true := decide_eq_true c15
     clear c15
     by_cases c16 : t312 ≤ (t309.size : Int)
     ·rw [if_pos c16] at H
      have c16b0 := eq_true c16
      have c16b1 : decide (t312 ≤ (t309.size : Int)) = true := decide_eq_true c16
      clear c16
      replace H := Option.bind_eq_some_iff.mp H
      obtain ⟨⟨t313, t314, t317, t318, t319, t320⟩, A170, H⟩ := H
      replace H : ((usherref0_SameReply.f kj3 t313 t314 t317 t318 0 ([] : List (S26)) (⟨#[]⟩ : ByteArray) false).bind fun t322 => (if t322 = true then (if t319 = 0 then ((usherkit_Num.f t320).bind fun t323 => (some (t323 == 6))) else (some false)) else (some false))) = some r := H
      have A17 := Aq12 A170
      clear A170
      replace H := Option.bind_eq_some_iff.mp H
      obtain ⟨t322, A180, H⟩ := H
      replace H : (if t322 = true then (if t319 = 0 then ((usherkit_Num.f t320).bind fun t323 => (some (t323 == 6))) else (some false)) else (some false)) = some r := H
      have A18 := Aq12 A180
      clear A180
      by_cases c19 : t322 = true
      ·subst c19
       have H1 : (if t319 = 0 then ((usherkit_Num.f t320).bind fun t323 => (some (t323 == 6))) else (some false)) = some r := by rw [if_pos rfl] at H; exact H
       clear H
       have H := H1
       clear H1
       by_cases c20 : t319 = 0
       ·rw [if_pos c20] at H
        have c20b0 : (t319 == 0) = true := beq_iff_eq.mpr c20
        have c20b1 : (t319 != 0) = false := bne_eq_false_iff_eq.mpr c20
        clear c20
        replace H := Option.bind_eq_some_iff.mp H
        obtain ⟨t323, A210, H⟩ := H
        replace H : (some (t323 == 6)) = some r := H
        have A21 := Aq12 A210
        clear A210
        obtain rfl := Option.some.inj H
        have hnb22 := NB301_308.out
        have hnc22 := NB308_301.out
        have hcz23_0 : wc.cell? ⟨gb301, 0, none⟩ = some (.int .i64 a0_0) := (blk_cell BK301.out 0).trans rfl
        have hcz23_1 : wc.cell? ⟨gb301, 1, none⟩ = some (.slice A0_1 l0_1.length c0_1) := (blk_cell BK301.out 1).trans rfl
        have hcz23_2 : wc.cell? ⟨gb301, 2, none⟩ = some (.string a0_2) := (blk_cell BK301.out 2).trans rfl
        have hcz23_3 : wc.cell? ⟨gb301, 3, none⟩ = some (.bool a0_3) := (blk_cell BK301.out 3).trans rfl
        have hcz23_4 : wc.cell? ⟨gb301, 4, none⟩ = some (.string a0_4) := (blk_cell BK301.out 4).trans rfl
        have hcz23_5 : wc.cell? ⟨gb301, 5, none⟩ = some (.int .i64 a0_5) := (blk_cell BK301.out 5).trans rfl
        have hfz23_0 := blk_frozen BK301.out 0
        have hfz23_1 := blk_frozen BK301.out 1
        have hfz23_2 := blk_frozen BK301.out 2
        have hfz23_3 := blk_frozen BK301.out 3
        have hfz23_4 := blk_frozen BK301.out 4
        have hfz23_5 := blk_frozen BK301.out 5
        go_wp2_with (first | ((with_reducible refine gate_callee (f := 34) rfl ?_); refine goesL_ (some 29) rfl rfl Tryd.func34 (by kernel_rfl) rfl #[.int .i64 a0_5, .int .i64 (t309.size : Int)] rfl tq12_7 ?_; (with_reducible refine (usherkit_Pick.calls a0_5 (t309.size : Int) t312 _ A14.out).mono ?_); rintro e w' ⟨rfl, ⟨nd, rfl⟩⟩; refine ⟨_, rfl, ?_⟩; (try (rw [drewN_self wc]; generalize hq_ : World.drewN wc _ = wc; have n0_ : Aside0 (Kd.R k26 26 wc w.heap.size (fun _ => True) (.slice Ao11 t303.length co11) t303) := ⟨by rw [← hq_]; exact (tq12_3 HO_309001.out)⟩; have n1_ : Aside0 (wc.heap[gb301]? = some (.cells #[.int .i64 a0_0, .slice A0_1 l0_1.length c0_1, .string a0_2, .bool a0_3, .string a0_4, .int .i64 a0_5] 64 (0, 0))) := ⟨(tq12_5 BK301.out)⟩; have n2_ : Aside0 (wc.heap[gb308]? = some (.cells #[.int .i64 t302, .slice Ao11 t303.length co11, .string t306, .bool t307] 24 (0, 0))) := ⟨(tq12_5 BK308.out)⟩; have n3_ : Aside0 (Below w.heap.size w wc) := ⟨by rw [← hq_]; exact (tq12_9 GE301.out GE308.out)⟩; clear HO_309001 BK301 BK308 HB hq_; have HO_309001 := n0_; have BK301 := n1_; have BK308 := n2_; have HB := n3_; clear n0_ n1_ n2_ n3_))) | ((with_reducible refine gate_callee (f := 32) rfl ?_); refine goesL_ (some 34) rfl rfl Tryd.func32 (by kernel_rfl) rfl #[.string (t309.extract 0 (t312 : Int).toNat)] rfl tq12_7 ?_; (with_reducible refine (reply_Read.calls kj3 (t309.extract 0 (t312 : Int).toNat) t313 t314 t317 t318 t319 t320 _ A17.out ?side1).mono ?_); (case side1 => exact HG.out.step (tq12_9 GE301.out GE308.out) rfl); rintro e w24 ⟨v315, rfl, ho0, hb⟩; refine ⟨_, rfl, ?_⟩; have HO316 := Aq12 (Kd.R_lower (Kd.R_new' ho0 (Kd.R_lt (tq12_3 HO_309001.out))) (below_size (tq12_9 GE301.out GE308.out))); replace HO_309001 := Aq12 (Kd.R_elder' (tq12_3 HO_309001.out) (Kd.R_base ho0) hb); replace BK301 := Aq12 (blk_below (g := gb301) (o := .cells #[.int .i64 a0_0, .slice A0_1 l0_1.length c0_1, .string a0_2, .bool a0_3, .string a0_4, .int .i64 a0_5] 64 (0, 0)) (tq12_4 BK301.out) hb); replace BK308 := Aq12 (blk_below (g := gb308) (o := .cells #[.int .i64 t302, .slice Ao11 t303.length co11, .string t306, .bool t307] 24 (0, 0)) (tq12_4 BK308.out) hb); replace HB := Aq12 (below_step (tq12_9 GE301.out GE308.out) hb); (try clear hb); (try clear hb2); (try clear hk); (try clear hi); (try clear ho0); (try simp only [errW_none, errW_some])) | ((with_reducible refine gate_dst (N := 7) rfl ?_); refine box_event ?hg (N := 7) ?hd (cs := #[.int .i64 0, .slice none 0 0, .string (⟨#[]⟩ : ByteArray), .bool false]) (t := 24) ?hr ?_; (case hd => rfl); (case hg => rfl); (case hr => first | (go_simp; done) | (go_simp; rfl)); intro gb321 hg w25 hbox hb; replace HO_309001 := Aq12 (Kd.R_below (tq12_3 HO_309001.out) hb); replace HO316 := Aq12 (Kd.R_below (tq12_3 HO316.out) hb); have BK321 := Aq12 (hbox); have GW321 := Aq12 ((by rw [hg]; exact (below_size (tq12_9 GE301.out GE308.out)) : w.heap.size ≤ gb321)); have GE321 := Aq12 ((by rw [hg]; exact (below_size (tq12_9 GE301.out GE308.out)) : w.heap.size ≤ gb321)); have NB301_321 := Aq12 ((by rw [hg]; exact Nat.ne_of_lt (blk_lt (g := gb301) (o := .cells #[.int .i64 a0_0, .slice A0_1 l0_1.length c0_1, .string a0_2, .bool a0_3, .string a0_4, .int .i64 a0_5] 64 (0, 0)) (tq12_4 BK301.out)) : gb301 ≠ gb321)); have NB321_301 := Aq12 ((by rw [hg]; exact Nat.ne_of_gt (blk_lt (g := gb301) (o := .cells #[.int .i64 a0_0, .slice A0_1 l0_1.length c0_1, .string a0_2, .bool a0_3, .string a0_4, .int .i64 a0_5] 64 (0, 0)) (tq12_4 BK301.out)) : gb321 ≠ gb301)); replace BK301 := Aq12 (blk_below (g := gb301) (o := .cells #[.int .i64 a0_0, .slice A0_1 l0_1.length c0_1, .string a0_2, .bool a0_3, .string a0_4, .int .i64 a0_5] 64 (0, 0)) (tq12_4 BK301.out) hb); have NB308_321 := Aq12 ((by rw [hg]; exact Nat.ne_of_lt (blk_lt (g := gb308) (o := .cells #[.int .i64 t302, .slice Ao11 t303.length co11, .string t306, .bool t307] 24 (0, 0)) (tq12_4 BK308.out)) : gb308 ≠ gb321)); have NB321_308 := Aq12 ((by rw [hg]; exact Nat.ne_of_gt (blk_lt (g := gb308) (o := .cells #[.int .i64 t302, .slice Ao11 t303.length co11, .string t306, .bool t307] 24 (0, 0)) (tq12_4 BK308.out)) : gb321 ≠ gb308)); replace BK308 := Aq12 (blk_below (g := gb308) (o := .cells #[.int .i64 t302, .slice Ao11 t303.length co11, .string t306, .bool t307] 24 (0, 0)) (tq12_4 BK308.out) hb); replace HB := Aq12 (below_step (tq12_9 GE301.out GE308.out) hb); clear hb hbox hg; have hnb26 := NB321_301.out; have hnc26 := NB301_321.out; have hnb27 := NB321_308.out; have hnc27 := NB308_321.out; have hcz28_0 : w25.cell? ⟨gb321, 0, none⟩ = some (.int .i64 0) := (blk_cell BK321.out 0).trans rfl; have hcz28_1 : w25.cell? ⟨gb321, 1, none⟩ = some (.slice none 0 0) := (blk_cell BK321.out 1).trans rfl; have hcz28_2 : w25.cell? ⟨gb321, 2, none⟩ = some (.string (⟨#[]⟩ : ByteArray)) := (blk_cell BK321.out 2).trans rfl; have hcz28_3 : w25.cell? ⟨gb321, 3, none⟩ = some (.bool false) := (blk_cell BK321.out 3).trans rfl; have hfz28_0 := blk_frozen BK321.out 0; have hfz28_1 := blk_frozen BK321.out 1; have hfz28_2 := blk_frozen BK321.out 2; have hfz28_3 := blk_frozen BK321.out 3; obtain ⟨Ao29, co29, eo29⟩ := Kd.R_slice HO316.out; subst eo29) | ((with_reducible refine gate_callee (f := 18) rfl ?_); refine goesL_ (some 40) rfl rfl Tryd.func18 (by kernel_rfl) rfl #[.agg #[.int .i64 t313, .slice Ao29 t314.length co29, .string t317, .bool t318], .agg #[.int .i64 0, .slice none 0 0, .string (⟨#[]⟩ : ByteArray), .bool false]] rfl tq12_7 ?_; (refine (usherref0_SameReply.calls kj3 t313 _ _ t314 t317 t318 0 _ _ ([] : List (S26)) (⟨#[]⟩ : ByteArray) false true _ ?side1 ?side2 ?side3 ?side4 A18.out).mono ?_); (case side1 => refine (Kd.R_reads' (e := 26) (base := w.heap.size) (ok := fun k_ => (True ∧ some k_ ≠ (.slice Ao11 t303.length co11 : Value).ownBlock)) (n := t314.length) (c := co29) ?_).2.2; exact (tq12_d HO316.out BK321.out)); (case side2 => exact (Kd.R_reads' HO316.out).2.1); (case side3 => exact Kd.C_nil _ _); (case side4 => exact Nat.le_refl _); rintro e w30 ⟨rfl, hb⟩; refine ⟨_, rfl, ?_⟩; replace HO_309001 := Aq12 (Kd.R_below (tq12_d HO_309001.out BK321.out) hb); replace HO316 := Aq12 (Kd.R_below (tq12_d HO316.out BK321.out) hb); replace BK301 := Aq12 (blk_below (g := gb301) (o := .cells #[.int .i64 a0_0, .slice A0_1 l0_1.length c0_1, .string a0_2, .bool a0_3, .string a0_4, .int .i64 a0_5] 64 (0, 0)) (tq12_b NB301_321.out BK301.out) hb); replace BK308 := Aq12 (blk_below (g := gb308) (o := .cells #[.int .i64 t302, .slice Ao11 t303.length co11, .string t306, .bool t307] 24 (0, 0)) (tq12_b NB308_321.out BK308.out) hb); replace BK321 := Aq12 (blk_below (g := gb321) (o := .cells #[.int .i64 t313, .slice Ao29 t314.length co29, .string t317, .bool t318] 24 (0, 0)) (by (with_reducible repeat (first | refine blk_drewN ?_ _ | refine blk_drew ?_ | refine blk_alloc ?_ _)); refine blk_put (cs := #[.int .i64 t313, .slice Ao29 t314.length co29, .string t317, .bool false]) ?_ 3 _ rfl; (with_reducible repeat (first | refine blk_drewN ?_ _ | refine blk_drew ?_ | refine blk_alloc ?_ _)); refine blk_put (cs := #[.int .i64 t313, .slice Ao29 t314.length co29, .string (⟨#[]⟩ : ByteArray), .bool false]) ?_ 2 _ rfl; (with_reducible repeat (first | refine blk_drewN ?_ _ | refine blk_drew ?_ | refine blk_alloc ?_ _)); refine blk_put (cs := #[.int .i64 t313, .slice none 0 0, .string (⟨#[]⟩ : ByteArray), .bool false]) ?_ 1 _ rfl; (with_reducible repeat (first | refine blk_drewN ?_ _ | refine blk_drew ?_ | refine blk_alloc ?_ _)); refine blk_put (cs := #[.int .i64 0, .slice none 0 0, .string (⟨#[]⟩ : ByteArray), .bool false]) ?_ 0 _ rfl; (with_reducible repeat (first | refine blk_drewN ?_ _ | refine blk_drew ?_ | refine blk_alloc ?_ _)); exact BK321.out) hb); replace HB := Aq12 (below_step (tq12_a GE301.out GE308.out GE321.out) hb); (try clear hb); (try clear hb2); (try clear hk); (try clear hi); have CA21 := fun W (hG_ : Glob [0, 1, 2, 3, 4, 5, 6, 10, 11, 12, 13, 14, 15, 999] W) => usherkit_Num.calls t320 t323 W A21.out (hG_.sub rfl); try simp only [errW_none, errW_some] at CA21) | (go_at_call 17; (with_reducible refine (CA21 _ ?side1).mono ?_); (case side1 => exact HG.out.step (tq12_a GE301.out GE308.out GE321.out) rfl); rintro e w' ⟨rfl, ⟨nd, rfl⟩⟩))
        go_ret
        exact ⟨tq12_2, (tq12_a GE301.out GE308.out GE321.out)⟩
       ·rw [if_neg c20] at H
        have c20b0 : (t319 == 0) = false := beq_eq_false_iff_ne.mpr c20
        have c20b1 : (t319 != 0) = true := bne_iff_ne.mpr c20
        obtain rfl := Option.some.inj H
        have hnb31 := NB301_308.out
        have hnc31 := NB308_301.out
        have hcz32_0 : wc.cell? ⟨gb301, 0, none⟩ = some (.int .i64 a0_0) := (blk_cell BK301.out 0).trans rfl
        have hcz32_1 : wc.cell? ⟨gb301, 1, none⟩ = some (.slice A0_1 l0_1.length c0_1) := (blk_cell BK301.out 1).trans rfl
        have hcz32_2 : wc.cell? ⟨gb301, 2, none⟩ = some (.string a0_2) := (blk_cell BK301.out 2).trans rfl
        have hcz32_3 : wc.cell? ⟨gb301, 3, none⟩ = some (.bool a0_3) := (blk_cell BK301.out 3).trans rfl
        have hcz32_4 : wc.cell? ⟨gb301, 4, none⟩ = some (.string a0_4) := (blk_cell BK301.out 4).trans rfl
        have hcz32_5 : wc.cell? ⟨gb301, 5, none⟩ = some (.int .i64 a0_5) := (blk_cell BK301.out 5).trans rfl
        have hfz32_0 := blk_frozen BK301.out 0
        have hfz32_1 := blk_frozen BK301.out 1
        have hfz32_2 := blk_frozen BK301.out 2
        have hfz32_3 := blk_frozen BK301.out 3
        have hfz32_4 := blk_frozen BK301.out 4
        have hfz32_5 := blk_frozen BK301.out 5
        go_wp2_with (first | ((with_reducible refine gate_callee (f := 34) rfl ?_); refine goesL_ (some 29) rfl rfl Tryd.func34 (by kernel_rfl) rfl #[.int .i64 a0_5, .int .i64 (t309.size : Int)] rfl tq12_7 ?_; (with_reducible refine (usherkit_Pick.calls a0_5 (t309.size : Int) t312 _ A14.out).mono ?_); rintro e w' ⟨rfl, ⟨nd, rfl⟩⟩; refine ⟨_, rfl, ?_⟩; (try (rw [drewN_self wc]; generalize hq_ : World.drewN wc _ = wc; have n0_ : Aside0 (Kd.R k26 26 wc w.heap.size (fun _ => True) (.slice Ao11 t303.length co11) t303) := ⟨by rw [← hq_]; exact (tq12_3 HO_309001.out)⟩; have n1_ : Aside0 (wc.heap[gb301]? = some (.cells #[.int .i64 a0_0, .slice A0_1 l0_1.length c0_1, .string a0_2, .bool a0_3, .string a0_4, .int .i64 a0_5] 64 (0, 0))) := ⟨(tq12_5 BK301.out)⟩; have n2_ : Aside0 (wc.heap[gb308]? = some (.cells #[.int .i64 t302, .slice Ao11 t303.length co11, .string t306, .bool t307] 24 (0, 0))) := ⟨(tq12_5 BK308.out)⟩; have n3_ : Aside0 (Below w.heap.size w wc) := ⟨by rw [← hq_]; exact (tq12_9 GE301.out GE308.out)⟩; clear HO_309001 BK301 BK308 HB hq_; have HO_309001 := n0_; have BK301 := n1_; have BK308 := n2_; have HB := n3_; clear n0_ n1_ n2_ n3_))) | ((with_reducible refine gate_callee (f := 32) rfl ?_); refine goesL_ (some 34) rfl rfl Tryd.func32 (by kernel_rfl) rfl #[.string (t309.extract 0 (t312 : Int).toNat)] rfl tq12_7 ?_; (with_reducible refine (reply_Read.calls kj3 (t309.extract 0 (t312 : Int).toNat) t313 t314 t317 t318 t319 t320 _ A17.out ?side1).mono ?_); (case side1 => exact HG.out.step (tq12_9 GE301.out GE308.out) rfl); rintro e w33 ⟨v315, rfl, ho0, hb⟩; refine ⟨_, rfl, ?_⟩; have HO316 := Aq12 (Kd.R_lower (Kd.R_new' ho0 (Kd.R_lt (tq12_3 HO_309001.out))) (below_size (tq12_9 GE301.out GE308.out))); replace HO_309001 := Aq12 (Kd.R_elder' (tq12_3 HO_309001.out) (Kd.R_base ho0) hb); replace BK301 := Aq12 (blk_below (g := gb301) (o := .cells #[.int .i64 a0_0, .slice A0_1 l0_1.length c0_1, .string a0_2, .bool a0_3, .string a0_4, .int .i64 a0_5] 64 (0, 0)) (tq12_4 BK301.out) hb); replace BK308 := Aq12 (blk_below (g := gb308) (o := .cells #[.int .i64 t302, .slice Ao11 t303.length co11, .string t306, .bool t307] 24 (0, 0)) (tq12_4 BK308.out) hb); replace HB := Aq12 (below_step (tq12_9 GE301.out GE308.out) hb); (try clear hb); (try clear hb2); (try clear hk); (try clear hi); (try clear ho0); (try simp only [errW_none, errW_some])) | ((with_reducible refine gate_dst (N := 7) rfl ?_); refine box_event ?hg (N := 7) ?hd (cs := #[.int .i64 0, .slice none 0 0, .string (⟨#[]⟩ : ByteArray), .bool false]) (t := 24) ?hr ?_; (case hd => rfl); (case hg => rfl); (case hr => first | (go_simp; done) | (go_simp; rfl)); intro gb321 hg w34 hbox hb; replace HO_309001 := Aq12 (Kd.R_below (tq12_3 HO_309001.out) hb); replace HO316 := Aq12 (Kd.R_below (tq12_3 HO316.out) hb); have BK321 := Aq12 (hbox); have GW321 := Aq12 ((by rw [hg]; exact (below_size (tq12_9 GE301.out GE308.out)) : w.heap.size ≤ gb321)); have GE321 := Aq12 ((by rw [hg]; exact (below_size (tq12_9 GE301.out GE308.out)) : w.heap.size ≤ gb321)); have NB301_321 := Aq12 ((by rw [hg]; exact Nat.ne_of_lt (blk_lt (g := gb301) (o := .cells #[.int .i64 a0_0, .slice A0_1 l0_1.length c0_1, .string a0_2, .bool a0_3, .string a0_4, .int .i64 a0_5] 64 (0, 0)) (tq12_4 BK301.out)) : gb301 ≠ gb321)); have NB321_301 := Aq12 ((by rw [hg]; exact Nat.ne_of_gt (blk_lt (g := gb301) (o := .cells #[.int .i64 a0_0, .slice A0_1 l0_1.length c0_1, .string a0_2, .bool a0_3, .string a0_4, .int .i64 a0_5] 64 (0, 0)) (tq12_4 BK301.out)) : gb321 ≠ gb301)); replace BK301 := Aq12 (blk_below (g := gb301) (o := .cells #[.int .i64 a0_0, .slice A0_1 l0_1.length c0_1, .string a0_2, .bool a0_3, .string a0_4, .int .i64 a0_5] 64 (0, 0)) (tq12_4 BK301.out) hb); have NB308_321 := Aq12 ((by rw [hg]; exact Nat.ne_of_lt (blk_lt (g := gb308) (o := .cells #[.int .i64 t302, .slice Ao11 t303.length co11, .string t306, .bool t307] 24 (0, 0)) (tq12_4 BK308.out)) : gb308 ≠ gb321)); have NB321_308 := Aq12 ((by rw [hg]; exact Nat.ne_of_gt (blk_lt (g := gb308) (o := .cells #[.int .i64 t302, .slice Ao11 t303.length co11, .string t306, .bool t307] 24 (0, 0)) (tq12_4 BK308.out)) : gb321 ≠ gb308)); replace BK308 := Aq12 (blk_below (g := gb308) (o := .cells #[.int .i64 t302, .slice Ao11 t303.length co11, .string t306, .bool t307] 24 (0, 0)) (tq12_4 BK308.out) hb); replace HB := Aq12 (below_step (tq12_9 GE301.out GE308.out) hb); clear hb hbox hg; have hnb35 := NB321_301.out; have hnc35 := NB301_321.out; have hnb36 := NB321_308.out; have hnc36 := NB308_321.out; have hcz37_0 : w34.cell? ⟨gb321, 0, none⟩ = some (.int .i64 0) := (blk_cell BK321.out 0).trans rfl; have hcz37_1 : w34.cell? ⟨gb321, 1, none⟩ = some (.slice none 0 0) := (blk_cell BK321.out 1).trans rfl; have hcz37_2 : w34.cell? ⟨gb321, 2, none⟩ = some (.string (⟨#[]⟩ : ByteArray)) := (blk_cell BK321.out 2).trans rfl; have hcz37_3 : w34.cell? ⟨gb321, 3, none⟩ = some (.bool false) := (blk_cell BK321.out 3).trans rfl; have hfz37_0 := blk_frozen BK321.out 0; have hfz37_1 := blk_frozen BK321.out 1; have hfz37_2 := blk_frozen BK321.out 2; have hfz37_3 := blk_frozen BK321.out 3; obtain ⟨Ao38, co38, eo38⟩ := Kd.R_slice HO316.out; subst eo38) | ((with_reducible refine gate_callee (f := 18) rfl ?_); refine goesL_ (some 40) rfl rfl Tryd.func18 (by kernel_rfl) rfl #[.agg #[.int .i64 t313, .slice Ao38 t314.length co38, .string t317, .bool t318], .agg #[.int .i64 0, .slice none 0 0, .string (⟨#[]⟩ : ByteArray), .bool false]] rfl tq12_7 ?_; (refine (usherref0_SameReply.calls kj3 t313 _ _ t314 t317 t318 0 _ _ ([] : List (S26)) (⟨#[]⟩ : ByteArray) false true _ ?side1 ?side2 ?side3 ?side4 A18.out).mono ?_); (case side1 => refine (Kd.R_reads' (e := 26) (base := w.heap.size) (ok := fun k_ => (True ∧ some k_ ≠ (.slice Ao11 t303.length co11 : Value).ownBlock)) (n := t314.length) (c := co38) ?_).2.2; exact (tq12_e HO316.out BK321.out)); (case side2 => exact (Kd.R_reads' HO316.out).2.1); (case side3 => exact Kd.C_nil _ _); (case side4 => exact Nat.le_refl _); rintro e w39 ⟨rfl, hb⟩; refine ⟨_, rfl, ?_⟩; replace HO_309001 := Aq12 (Kd.R_below (tq12_e HO_309001.out BK321.out) hb); replace HO316 := Aq12 (Kd.R_below (tq12_e HO316.out BK321.out) hb); replace BK301 := Aq12 (blk_below (g := gb301) (o := .cells #[.int .i64 a0_0, .slice A0_1 l0_1.length c0_1, .string a0_2, .bool a0_3, .string a0_4, .int .i64 a0_5] 64 (0, 0)) (tq12_b NB301_321.out BK301.out) hb); replace BK308 := Aq12 (blk_below (g := gb308) (o := .cells #[.int .i64 t302, .slice Ao11 t303.length co11, .string t306, .bool t307] 24 (0, 0)) (tq12_b NB308_321.out BK308.out) hb); replace BK321 := Aq12 (blk_below (g := gb321) (o := .cells #[.int .i64 t313, .slice Ao38 t314.length co38, .string t317, .bool t318] 24 (0, 0)) (by (with_reducible repeat (first | refine blk_drewN ?_ _ | refine blk_drew ?_ | refine blk_alloc ?_ _)); refine blk_put (cs := #[.int .i64 t313, .slice Ao38 t314.length co38, .string t317, .bool false]) ?_ 3 _ rfl; (with_reducible repeat (first | refine blk_drewN ?_ _ | refine blk_drew ?_ | refine blk_alloc ?_ _)); refine blk_put (cs := #[.int .i64 t313, .slice Ao38 t314.length co38, .string (⟨#[]⟩ : ByteArray), .bool false]) ?_ 2 _ rfl; (with_reducible repeat (first | refine blk_drewN ?_ _ | refine blk_drew ?_ | refine blk_alloc ?_ _)); refine blk_put (cs := #[.int .i64 t313, .slice none 0 0, .string (⟨#[]⟩ : ByteArray), .bool false]) ?_ 1 _ rfl; (with_reducible repeat (first | refine blk_drewN ?_ _ | refine blk_drew ?_ | refine blk_alloc ?_ _)); refine blk_put (cs := #[.int .i64 0, .slice none 0 0, .string (⟨#[]⟩ : ByteArray), .bool false]) ?_ 0 _ rfl; (with_reducible repeat (first | refine blk_drewN ?_ _ | refine blk_drew ?_ | refine blk_alloc ?_ _)); exact BK321.out) hb); replace HB := Aq12 (below_step (tq12_a GE301.out GE308.out GE321.out) hb); (try clear hb); (try clear hb2); (try clear hk); (try clear hi)))
        go_ret
        exact ⟨tq12_2, (tq12_a GE301.out GE308.out GE321.out)⟩
      ·replace c19 := Bool.eq_false_iff.mpr c19
       subst c19
       have H1 : (some false) = some r := by rw [if_neg (show ¬ (false = true) by decide)] at H; exact H
       clear H
       have H := H1
       clear H1
       obtain rfl := Option.some.inj H
       have hnb40 := NB301_308.out
       have hnc40 := NB308_301.out
       have hcz41_0 : wc.cell? ⟨gb301, 0, none⟩ = some (.int .i64 a0_0) := (blk_cell BK301.out 0).trans rfl
       have hcz41_1 : wc.cell? ⟨gb301, 1, none⟩ = some (.slice A0_1 l0_1.length c0_1) := (blk_cell BK301.out 1).trans rfl
       have hcz41_2 : wc.cell? ⟨gb301, 2, none⟩ = some (.string a0_2) := (blk_cell BK301.out 2).trans rfl
       have hcz41_3 : wc.cell? ⟨gb301, 3, none⟩ = some (.bool a0_3) := (blk_cell BK301.out 3).trans rfl
       have hcz41_4 : wc.cell? ⟨gb301, 4, none⟩ = some (.string a0_4) := (blk_cell BK301.out 4).trans rfl
       have hcz41_5 : wc.cell? ⟨gb301, 5, none⟩ = some (.int .i64 a0_5) := (blk_cell BK301.out 5).trans rfl
       have hfz41_0 := blk_frozen BK301.out 0
       have hfz41_1 := blk_frozen BK301.out 1
       have hfz41_2 := blk_frozen BK301.out 2
       have hfz41_3 := blk_frozen BK301.out 3
       have hfz41_4 := blk_frozen BK301.out 4
       have hfz41_5 := blk_frozen BK301.out 5
       go_wp2_with (first | ((with_reducible refine gate_callee (f := 34) rfl ?_); refine goesL_ (some 29) rfl rfl Tryd.func34 (by kernel_rfl) rfl #[.int .i64 a0_5, .int .i64 (t309.size : Int)] rfl tq12_7 ?_; (with_reducible refine (usherkit_Pick.calls a0_5 (t309.size : Int) t312 _ A14.out).mono ?_); rintro e w' ⟨rfl, ⟨nd, rfl⟩⟩; refine ⟨_, rfl, ?_⟩; (try (rw [drewN_self wc]; generalize hq_ : World.drewN wc _ = wc; have n0_ : Aside0 (Kd.R k26 26 wc w.heap.size (fun _ => True) (.slice Ao11 t303.length co11) t303) := ⟨by rw [← hq_]; exact (tq12_3 HO_309001.out)⟩; have n1_ : Aside0 (wc.heap[gb301]? = some (.cells #[.int .i64 a0_0, .slice A0_1 l0_1.length c0_1, .string a0_2, .bool a0_3, .string a0_4, .int .i64 a0_5] 64 (0, 0))) := ⟨(tq12_5 BK301.out)⟩; have n2_ : Aside0 (wc.heap[gb308]? = some (.cells #[.int .i64 t302, .slice Ao11 t303.length co11, .string t306, .bool t307] 24 (0, 0))) := ⟨(tq12_5 BK308.out)⟩; have n3_ : Aside0 (Below w.heap.size w wc) := ⟨by rw [← hq_]; exact (tq12_9 GE301.out GE308.out)⟩; clear HO_309001 BK301 BK308 HB hq_; have HO_309001 := n0_; have BK301 := n1_; have BK308 := n2_; have HB := n3_; clear n0_ n1_ n2_ n3_))) | ((with_reducible refine gate_callee (f := 32) rfl ?_); refine goesL_ (some 34) rfl rfl Tryd.func32 (by kernel_rfl) rfl #[.string (t309.extract 0 (t312 : Int).toNat)] rfl tq12_7 ?_; (with_reducible refine (reply_Read.calls kj3 (t309.extract 0 (t312 : Int).toNat) t313 t314 t317 t318 t319 t320 _ A17.out ?side1).mono ?_); (case side1 => exact HG.out.step (tq12_9 GE301.out GE308.out) rfl); rintro e w42 ⟨v315, rfl, ho0, hb⟩; refine ⟨_, rfl, ?_⟩; have HO316 := Aq12 (Kd.R_lower (Kd.R_new' ho0 (Kd.R_lt (tq12_3 HO_309001.out))) (below_size (tq12_9 GE301.out GE308.out))); replace HO_309001 := Aq12 (Kd.R_elder' (tq12_3 HO_309001.out) (Kd.R_base ho0) hb); replace BK301 := Aq12 (blk_below (g := gb301) (o := .cells #[.int .i64 a0_0, .slice A0_1 l0_1.length c0_1, .string a0_2, .bool a0_3, .string a0_4, .int .i64 a0_5] 64 (0, 0)) (tq12_4 BK301.out) hb); replace BK308 := Aq12 (blk_below (g := gb308) (o := .cells #[.int .i64 t302, .slice Ao11 t303.length co11, .string t306, .bool t307] 24 (0, 0)) (tq12_4 BK308.out) hb); replace HB := Aq12 (below_step (tq12_9 GE301.out GE308.out) hb); (try clear hb); (try clear hb2); (try clear hk); (try clear hi); (try clear ho0); (try simp only [errW_none, errW_some])) | ((with_reducible refine gate_dst (N := 7) rfl ?_); refine box_event ?hg (N := 7) ?hd (cs := #[.int .i64 0, .slice none 0 0, .string (⟨#[]⟩ : ByteArray), .bool false]) (t := 24) ?hr ?_; (case hd => rfl); (case hg => rfl); (case hr => first | (go_simp; done) | (go_simp; rfl)); intro gb321 hg w43 hbox hb; replace HO_309001 := Aq12 (Kd.R_below (tq12_3 HO_309001.out) hb); replace HO316 := Aq12 (Kd.R_below (tq12_3 HO316.out) hb); have BK321 := Aq12 (hbox); have GW321 := Aq12 ((by rw [hg]; exact (below_size (tq12_9 GE301.out GE308.out)) : w.heap.size ≤ gb321)); have GE321 := Aq12 ((by rw [hg]; exact (below_size (tq12_9 GE301.out GE308.out)) : w.heap.size ≤ gb321)); have NB301_321 := Aq12 ((by rw [hg]; exact Nat.ne_of_lt (blk_lt (g := gb301) (o := .cells #[.int .i64 a0_0, .slice A0_1 l0_1.length c0_1, .string a0_2, .bool a0_3, .string a0_4, .int .i64 a0_5] 64 (0, 0)) (tq12_4 BK301.out)) : gb301 ≠ gb321)); have NB321_301 := Aq12 ((by rw [hg]; exact Nat.ne_of_gt (blk_lt (g := gb301) (o := .cells #[.int .i64 a0_0, .slice A0_1 l0_1.length c0_1, .string a0_2, .bool a0_3, .string a0_4, .int .i64 a0_5] 64 (0, 0)) (tq12_4 BK301.out)) : gb321 ≠ gb301)); replace BK301 := Aq12 (blk_below (g := gb301) (o := .cells #[.int .i64 a0_0, .slice A0_1 l0_1.length c0_1, .string a0_2, .bool a0_3, .string a0_4, .int .i64 a0_5] 64 (0, 0)) (tq12_4 BK301.out) hb); have NB308_321 := Aq12 ((by rw [hg]; exact Nat.ne_of_lt (blk_lt (g := gb308) (o := .cells #[.int .i64 t302, .slice Ao11 t303.length co11, .string t306, .bool t307] 24 (0, 0)) (tq12_4 BK308.out)) : gb308 ≠ gb321)); have NB321_308 := Aq12 ((by rw [hg]; exact Nat.ne_of_gt (blk_lt (g := gb308) (o := .cells #[.int .i64 t302, .slice Ao11 t303.length co11, .string t306, .bool t307] 24 (0, 0)) (tq12_4 BK308.out)) : gb321 ≠ gb308)); replace BK308 := Aq12 (blk_below (g := gb308) (o := .cells #[.int .i64 t302, .slice Ao11 t303.length co11, .string t306, .bool t307] 24 (0, 0)) (tq12_4 BK308.out) hb); replace HB := Aq12 (below_step (tq12_9 GE301.out GE308.out) hb); clear hb hbox hg; have hnb44 := NB321_301.out; have hnc44 := NB301_321.out; have hnb45 := NB321_308.out; have hnc45 := NB308_321.out; have hcz46_0 : w43.cell? ⟨gb321, 0, none⟩ = some (.int .i64 0) := (blk_cell BK321.out 0).trans rfl; have hcz46_1 : w43.cell? ⟨gb321, 1, none⟩ = some (.slice none 0 0) := (blk_cell BK321.out 1).trans rfl; have hcz46_2 : w43.cell? ⟨gb321, 2, none⟩ = some (.string (⟨#[]⟩ : ByteArray)) := (blk_cell BK321.out 2).trans rfl; have hcz46_3 : w43.cell? ⟨gb321, 3, none⟩ = some (.bool false) := (blk_cell BK321.out 3).trans rfl; have hfz46_0 := blk_frozen BK321.out 0; have hfz46_1 := blk_frozen BK321.out 1; have hfz46_2 := blk_frozen BK321.out 2; have hfz46_3 := blk_frozen BK321.out 3; obtain ⟨Ao47, co47, eo47⟩ := Kd.R_slice HO316.out; subst eo47) | ((with_reducible refine gate_callee (f := 18) rfl ?_); refine goesL_ (some 40) rfl rfl Tryd.func18 (by kernel_rfl) rfl #[.agg #[.int .i64 t313, .slice Ao47 t314.length co47, .string t317, .bool t318], .agg #[.int .i64 0, .slice none 0 0, .string (⟨#[]⟩ : ByteArray), .bool false]] rfl tq12_7 ?_; (refine (usherref0_SameReply.calls kj3 t313 _ _ t314 t317 t318 0 _ _ ([] : List (S26)) (⟨#[]⟩ : ByteArray) false false _ ?side1 ?side2 ?side3 ?side4 A18.out).mono ?_); (case side1 => refine (Kd.R_reads' (e := 26) (base := w.heap.size) (ok := fun k_ => (True ∧ some k_ ≠ (.slice Ao11 t303.length co11 : Value).ownBlock)) (n := t314.length) (c := co47) ?_).2.2; exact (tq12_f HO316.out BK321.out)); (case side2 => exact (Kd.R_reads' HO316.out).2.1); (case side3 => exact Kd.C_nil _ _); (case side4 => exact Nat.le_refl _); rintro e w48 ⟨rfl, hb⟩; refine ⟨_, rfl, ?_⟩; replace HO_309001 := Aq12 (Kd.R_below (tq12_f HO_309001.out BK321.out) hb); replace HO316 := Aq12 (Kd.R_below (tq12_f HO316.out BK321.out) hb); replace BK301 := Aq12 (blk_below (g := gb301) (o := .cells #[.int .i64 a0_0, .slice A0_1 l0_1.length c0_1, .string a0_2, .bool a0_3, .string a0_4, .int .i64 a0_5] 64 (0, 0)) (tq12_b NB301_321.out BK301.out) hb); replace BK308 := Aq12 (blk_below (g := gb308) (o := .cells #[.int .i64 t302, .slice Ao11 t303.length co11, .string t306, .bool t307] 24 (0, 0)) (tq12_b NB308_321.out BK308.out) hb); replace BK321 := Aq12 (blk_below (g := gb321) (o := .cells #[.int .i64 t313, .slice Ao47 t314.length co47, .string t317, .bool t318] 24 (0, 0)) (by (with_reducible repeat (first | refine blk_drewN ?_ _ | refine blk_drew ?_ | refine blk_alloc ?_ _)); refine blk_put (cs := #[.int .i64 t313, .slice Ao47 t314.length co47, .string t317, .bool false]) ?_ 3 _ rfl; (with_reducible repeat (first | refine blk_drewN ?_ _ | refine blk_drew ?_ | refine blk_alloc ?_ _)); refine blk_put (cs := #[.int .i64 t313, .slice Ao47 t314.length co47, .string (⟨#[]⟩ : ByteArray), .bool false]) ?_ 2 _ rfl; (with_reducible repeat (first | refine blk_drewN ?_ _ | refine blk_drew ?_ | refine blk_alloc ?_ _)); refine blk_put (cs := #[.int .i64 t313, .slice none 0 0, .string (⟨#[]⟩ : ByteArray), .bool false]) ?_ 1 _ rfl; (with_reducible repeat (first | refine blk_drewN ?_ _ | refine blk_drew ?_ | refine blk_alloc ?_ _)); refine blk_put (cs := #[.int .i64 0, .slice none 0 0, .string (⟨#[]⟩ : ByteArray), .bool false]) ?_ 0 _ rfl; (with_reducible repeat (first | refine blk_drewN ?_ _ | refine blk_drew ?_ | refine blk_alloc ?_ _)); exact BK321.out) hb); replace HB := Aq12 (below_step (tq12_a GE301.out GE308.out GE321.out) hb); (try clear hb); (try clear hb2); (try clear hk); (try clear hi)))
       go_ret
       exact ⟨tq12_2, (tq12_a GE301.out GE308.out GE321.out)⟩
     ·rw [if_neg c16] at H
      exact absurd H (by simp)
    ·rw [if_neg c15] at H
     exact absurd H (by simp)

end Go.Proofs.YtdlfdmbaejhaaaaDoor.Q
