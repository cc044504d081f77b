/- The plain Lean functions that calls of the program answer, and proofs that they do. Printed by program out of the translation; Lean checks it. -/
import Derived.Test.YtdlfdmbaejhaaaaDoorQ0
import Derived.Test.YtdlfdmbaejhaaaaDoorQ4
import Derived.Test.YtdlfdmbaejhaaaaDoorQ5
import Derived.Test.YtdlfdmbaejhaaaaDoorQ8
import Derived.Test.YtdlfdmbaejhaaaaDoorQ11
import Derived.Test.YtdlfdmbaejhaaaaDoorNum
namespace Go.Proofs.YtdlfdmbaejhaaaaDoor.Q
open Go.RowKit Go.Proofs.YtdlfdmbaejhaaaaDoorW.PrintWords Go.Proofs.YtdlfdmbaejhaaaaDoorW.PrintLast Go.Proofs.YtdlfdmbaejhaaaaDoorW.PrintMore
attribute [local go_sem] max2_int min2_int max_two min_two max_three min_three max_four min_four   -- for this text's walks alone
set_option linter.unusedVariables false
set_option linter.unusedSimpArgs false

theorem Aq15 {p : Prop} (h : p) : Aside0 p := ⟨h⟩
theorem tq15_0 {P : Prop} (h : P := by first | omega | exact Nat.le_refl _) : P := h
theorem tq15_1 {P : Prop} (h : P := by first | rfl | (simp; done) | (simp [*]; done)) : P := h
theorem tq15_2 {P : Prop} (h : P := by first | rfl | (simp [errW_none, errW_some] <;> rfl) | (simp [*, errW_none, errW_some] <;> rfl)) : P := h
theorem tq15_3 {P Q0 : Prop} (y0 : Q0) (h : Q0 → P := by intro y0_; (with_reducible repeat (first | apply Kd.R_alloc | apply Kd.R_drewN | apply Kd.R_drew)); exact y0_) : P := h y0
theorem tq15_4 {P Q0 : Prop} (y0 : Q0) (h : Q0 → P := by intro y0_; (with_reducible repeat (first | refine blk_drewN ?_ _ | refine blk_drew ?_ | refine blk_alloc ?_ _)); exact y0_) : P := h y0
theorem tq15_5 {P : Prop} (h : P := by repeat (first | (with_reducible first | exact HB.out | apply below_alloc | apply pw_below_drewN | apply below_drew1) | exact HB.out)) : P := h
theorem tq15_6 {P : Prop} (h : P := by (try simp only [List.map_toArray, List.map_cons, List.map_nil]); first | done | rfl | (simp only [List.length_drop, List.length_take]; rfl)) : P := h
theorem tq15_7 {P Q0 : Prop} (y0 : Q0) (h : Q0 → P := by intro y0_; repeat (first | (with_reducible first | exact HB.out | apply below_alloc | apply pw_below_drewN | apply below_drew1 | refine below_set ?_ y0_) | exact HB.out)) : P := h y0
theorem tq15_8 {P Q0 Q1 : Prop} (y0 : Q0) (y1 : Q1) (h : Q0 → Q1 → P := by intro y0_ y1_; repeat (first | (with_reducible first | exact HB.out | apply below_alloc | apply pw_below_drewN | apply below_drew1 | refine below_set ?_ y0_ | refine below_set ?_ y1_) | exact HB.out)) : P := h y0 y1
theorem tq15_9 {P Q0 Q1 Q2 : Prop} (y0 : Q0) (y1 : Q1) (y2 : Q2) (h : Q0 → Q1 → Q2 → P := by intro y0_ y1_ y2_; repeat (first | (with_reducible first | exact HB.out | apply below_alloc | apply pw_below_drewN | apply below_drew1 | refine below_set ?_ y0_ | refine below_set ?_ y1_ | refine below_set ?_ y2_) | exact HB.out)) : P := h y0 y1 y2
theorem tq15_a {P Q0 Q1 : Prop} (y0 : Q0) (y1 : Q1) (h : Q0 → Q1 → P := by intro y0_ y1_; (iterate 4 ((with_reducible repeat (first | refine blk_drewN ?_ _ | refine blk_drew ?_ | refine blk_alloc ?_ _)); refine blk_far ?_ y0_ _)); (with_reducible repeat (first | refine blk_drewN ?_ _ | refine blk_drew ?_ | refine blk_alloc ?_ _)); exact y1_) : P := h y0 y1
theorem tq15_b {P Q0 Q1 : Prop} (y0 : Q0) (y1 : Q1) (h : Q0 → Q1 → P := by intro y0_ y1_; (with_reducible repeat (first | apply Kd.R_alloc | apply Kd.R_drewN | apply Kd.R_drew)); exact (Kd.R_mono (Kd.R_far (p := ⟨gb393, 3, none⟩) (Kd.R_far (p := ⟨gb393, 2, none⟩) (Kd.R_far (p := ⟨gb393, 1, none⟩) (Kd.R_far (p := ⟨gb393, 0, none⟩) (Kd.R_types y0_ y1_ (by decide)) (fun _ hk => hk.2) (.int .i64 t387)) (fun _ hk => hk.2) (.slice Ao12 t388.length co12)) (fun _ hk => hk.2) (.string t391)) (fun _ hk => hk.2) (.bool t392)) (fun _ h_ => h_.1))) : P := h y0 y1
theorem tq15_c {P Q0 Q1 : Prop} (y0 : Q0) (y1 : Q1) (h : Q0 → Q1 → P := by intro y0_ y1_; (with_reducible repeat (first | apply Kd.R_alloc | apply Kd.R_drewN | apply Kd.R_drew)); exact (Kd.R_mono (Kd.R_far (p := ⟨gb408, 3, none⟩) (Kd.R_far (p := ⟨gb408, 2, none⟩) (Kd.R_far (p := ⟨gb408, 1, none⟩) (Kd.R_far (p := ⟨gb408, 0, none⟩) (Kd.R_types y0_ y1_ (by decide)) (fun _ hk => hk.2) (.int .i64 t400)) (fun _ hk => hk.2) (.slice Ao30 t401.length co30)) (fun _ hk => hk.2) (.string t404)) (fun _ hk => hk.2) (.bool t405)) (fun _ h_ => h_.1))) : P := h y0 y1
theorem tq15_d {P Q0 Q1 : Prop} (y0 : Q0) (y1 : Q1) (h : Q0 → Q1 → P := by intro y0_ y1_; (with_reducible repeat (first | apply Kd.R_alloc | apply Kd.R_drewN | apply Kd.R_drew)); exact (Kd.R_mono (Kd.R_far (p := ⟨gb408, 3, none⟩) (Kd.R_far (p := ⟨gb408, 2, none⟩) (Kd.R_far (p := ⟨gb408, 1, none⟩) (Kd.R_far (p := ⟨gb408, 0, none⟩) (Kd.R_types y0_ y1_ (by decide)) (fun _ hk => hk.2) (.int .i64 t400)) (fun _ hk => hk.2) (.slice Ao39 t401.length co39)) (fun _ hk => hk.2) (.string t404)) (fun _ hk => hk.2) (.bool t405)) (fun _ h_ => h_.1))) : P := h y0 y1
theorem tq15_e {P Q0 Q1 : Prop} (y0 : Q0) (y1 : Q1) (h : Q0 → Q1 → P := by intro y0_ y1_; (with_reducible repeat (first | apply Kd.R_alloc | apply Kd.R_drewN | apply Kd.R_drew)); exact (Kd.R_mono (Kd.R_far (p := ⟨gb408, 3, none⟩) (Kd.R_far (p := ⟨gb408, 2, none⟩) (Kd.R_far (p := ⟨gb408, 1, none⟩) (Kd.R_far (p := ⟨gb408, 0, none⟩) (Kd.R_types y0_ y1_ (by decide)) (fun _ hk => hk.2) (.int .i64 t400)) (fun _ hk => hk.2) (.slice Ao48 t401.length co48)) (fun _ hk => hk.2) (.string t404)) (fun _ hk => hk.2) (.bool t405)) (fun _ h_ => h_.1))) : P := h y0 y1
/-! ### usherlaw8_ReplyBare: function 13 -/
def usherlaw8_ReplyBare.j0 : Nat → ByteArray → Bool → Int → List (S26) → ByteArray → Bool → Option (Bool)
 | 0, _, _, _, _, _, _ => none
 | k + 1, x6, x42, x394000, x394001, x394002, x394003 => if x42 = true then (some false) else ((reply_Read.f k x6).bind fun bt400 => (if x394002.toList = ([] : List UInt8) then ((usherref0_SameReply.f k bt400.1 bt400.2.1 bt400.2.2.1 bt400.2.2.2.1 x394000 x394001 x394002 x394003).bind fun t409 => (if bt400.2.2.2.2.2.isNone = true then (if bt400.2.2.2.2.1 = (x6.size : Int) then (some t409) else (some false)) else (some false))) else (if bt400.2.2.2.2.1 = 0 then ((usherkit_Num.f bt400.2.2.2.2.2).bind fun t411 => (some (t411 == 6))) else (some false))))
def usherlaw8_ReplyBare.f (k : Nat) (a0_0 : Int) (l0_1 : List (S26)) (a0_2 : ByteArray) (a0_3 : Bool) (a0_4 : ByteArray) (a0_5 : Int) : Option (Bool) := (usherlaw8_tidy.f k a0_0 l0_1 a0_2 a0_3).bind fun bt387 => ((reply_Render.f k bt387.1 bt387.2.1 bt387.2.2.1 bt387.2.2.2 false).bind fun bt394 => ((reply_Render.f k bt387.1 bt387.2.1 bt387.2.2.1 bt387.2.2.2 true).bind fun bt396 => (if bt394.2.isNone = true then (if bt396.2.isNone = true then (if bt396.1.toList = ([] : List UInt8) then (usherlaw8_ReplyBare.j0 k bt396.1 true bt387.1 bt387.2.1 bt387.2.2.1 bt387.2.2.2) else (if bt396.1.size + bt387.2.2.1.size ≤ 9223372036854775807 then (usherlaw8_ReplyBare.j0 k bt396.1 (bt394.1.toList != (bt396.1 ++ bt387.2.2.1).toList) bt387.1 bt387.2.1 bt387.2.2.1 bt387.2.2.2) else (none))) else (usherlaw8_ReplyBare.j0 k bt396.1 true bt387.1 bt387.2.1 bt387.2.2.1 bt387.2.2.2)) else (usherlaw8_ReplyBare.j0 k bt396.1 true bt387.1 bt387.2.1 bt387.2.2.1 bt387.2.2.2))))
theorem usherlaw8_ReplyBare.mono_l : ∀ k, (∀ y0 y1 y2 y3 y4 y5, LeO (usherlaw8_ReplyBare.j0 k y0 y1 y2 y3 y4 y5) (usherlaw8_ReplyBare.j0 (k + 1) y0 y1 y2 y3 y4 y5))
 | 0 => fun _ _ _ _ _ _ r h => by simp [usherlaw8_ReplyBare.j0] at h
 | k + 1 => by
  have ih0 := usherlaw8_ReplyBare.mono_l k
  ·intro y0 y1 y2 y3 y4 y5
   unfold usherlaw8_ReplyBare.j0
   repeat' first
   | (with_reducible exact ih0 _ _ _ _ _ _)
   | (with_reducible exact reply_Read.mono _ _)
   | (with_reducible exact reply_Render.mono _ _ _ _ _ _)
   | (with_reducible exact usherlaw8_tidy.mono _ _ _ _ _)
   | (with_reducible exact usherref0_SameReply.mono _ _ _ _ _ _ _ _ _)
   | (with_reducible exact LeO.refl _)
   | (with_reducible exact LeO.none _)
   | (with_reducible refine LeO.ite ?_ ?_)
   | (with_reducible refine LeO.bind ?_ (fun _ => ?_))
   | exact ih0 _ _ _ _ _ _
   | exact reply_Read.mono _ _
   | exact reply_Render.mono _ _ _ _ _ _
   | exact usherlaw8_tidy.mono _ _ _ _ _
   | exact usherref0_SameReply.mono _ _ _ _ _ _ _ _ _
   | exact LeO.none _
   | refine LeO.ite ?_ ?_
   | refine LeO.bind ?_ (fun _ => ?_)
theorem usherlaw8_ReplyBare.mono : ∀ a0 a1 a2 a3 a4 a5 k, LeO (usherlaw8_ReplyBare.f k a0 a1 a2 a3 a4 a5) (usherlaw8_ReplyBare.f (k + 1) a0 a1 a2 a3 a4 a5) := by
 intro a0 a1 a2 a3 a4 a5 k
 have ih0 := usherlaw8_ReplyBare.mono_l k
 unfold usherlaw8_ReplyBare.f
 repeat' first
   | (with_reducible exact ih0 _ _ _ _ _ _)
   | (with_reducible exact reply_Read.mono _ _)
   | (with_reducible exact reply_Render.mono _ _ _ _ _ _)
   | (with_reducible exact usherlaw8_tidy.mono _ _ _ _ _)
   | (with_reducible exact usherref0_SameReply.mono _ _ _ _ _ _ _ _ _)
   | (with_reducible exact LeO.refl _)
   | (with_reducible exact LeO.none _)
   | (with_reducible refine LeO.ite ?_ ?_)
   | (with_reducible refine LeO.bind ?_ (fun _ => ?_))
   | exact ih0 _ _ _ _ _ _
   | exact reply_Read.mono _ _
   | exact reply_Render.mono _ _ _ _ _ _
   | exact usherlaw8_tidy.mono _ _ _ _ _
   | exact usherref0_SameReply.mono _ _ _ _ _ _ _ _ _
   | exact LeO.none _
   | refine LeO.ite ?_ ?_
   | refine LeO.bind ?_ (fun _ => ?_)
set_option maxHeartbeats 8000000 in
set_option maxRecDepth 100000 in
theorem usherlaw8_ReplyBare.calls [Sent] (k : Nat) (a0_0 : Int) (A0_1 : Option Addr) (c0_1 : Nat) (l0_1 : List (S26)) (a0_2 : ByteArray) (a0_3 : Bool) (a0_4 : ByteArray) (a0_5 : Int) (r : Bool) (w : World) (hr0_1 : Kd.C k26 w A0_1 l0_1.length l0_1) (hc0_1 : l0_1.length ≤ c0_1) (h : usherlaw8_ReplyBare.f k a0_0 l0_1 a0_2 a0_3 a0_4 a0_5 = some r) (hG : Glob [0, 1, 2, 3, 4, 5, 6, 7, 8, 9, 10, 11, 12, 13, 14, 15, 16, 18, 19, 999] w) :
  Calls Tryd.prog 13 #[.agg #[.int .i64 a0_0, .slice A0_1 l0_1.length c0_1, .string a0_2, .bool a0_3, .string a0_4, .int .i64 a0_5]] w fun e w' => e = .returned (.bool r) ∧ Below w.heap.size w w' := by
 have HG := Aq15 hG
 clear hG
 have hu64 := Tryd.underlying64
 have hu24 := Tryd.underlying24
 have hu28 := Tryd.underlying28
 have hu143 := Tryd.underlying143
 have HR0_1 := Aq15 hr0_1
 have HC0_1 := Aq15 hc0_1
 clear hr0_1 hc0_1
 have HB := Aq15 (Below.refl w.heap.size w)
 have H : ((usherlaw8_tidy.f k a0_0 l0_1 a0_2 a0_3).bind fun bt387 => ((reply_Render.f k bt387.1 bt387.2.1 bt387.2.2.1 bt387.2.2.2 false).bind fun bt394 => ((reply_Render.f k bt387.1 bt387.2.1 bt387.2.2.1 bt387.2.2.2 true).bind fun bt396 => (if bt394.2.isNone = true then (if bt396.2.isNone = true then (if bt396.1.toList = ([] : List UInt8) then (usherlaw8_ReplyBare.j0 k bt396.1 true bt387.1 bt387.2.1 bt387.2.2.1 bt387.2.2.2) else (if bt396.1.size + bt387.2.2.1.size ≤ 9223372036854775807 then (usherlaw8_ReplyBare.j0 k bt396.1 (bt394.1.toList != (bt396.1 ++ bt387.2.2.1).toList) bt387.1 bt387.2.1 bt387.2.2.1 bt387.2.2.2) else (none))) else (usherlaw8_ReplyBare.j0 k bt396.1 true bt387.1 bt387.2.1 bt387.2.2.1 bt387.2.2.2)) else (usherlaw8_ReplyBare.j0 k bt396.1 true bt387.1 bt387.2.1 bt387.2.2.1 bt387.2.2.2))))) = some r := h
 clear h
 replace H := Option.bind_eq_some_iff.mp H
 obtain ⟨⟨t387, t388, t391, t392⟩, A20, H⟩ := H
 replace H : ((reply_Render.f k t387 t388 t391 t392 false).bind fun bt394 => ((reply_Render.f k t387 t388 t391 t392 true).bind fun bt396 => (if bt394.2.isNone = true then (if bt396.2.isNone = true then (if bt396.1.toList = ([] : List UInt8) then (usherlaw8_ReplyBare.j0 k bt396.1 true t387 t388 t391 t392) else (if bt396.1.size + t391.size ≤ 9223372036854775807 then (usherlaw8_ReplyBare.j0 k bt396.1 (bt394.1.toList != (bt396.1 ++ t391).toList) t387 t388 t391 t392) else (none))) else (usherlaw8_ReplyBare.j0 k bt396.1 true t387 t388 t391 t392)) else (usherlaw8_ReplyBare.j0 k bt396.1 true t387 t388 t391 t392)))) = some r := H
 have A2 := Aq15 A20
 clear A20
 replace H := Option.bind_eq_some_iff.mp H
 obtain ⟨⟨t394, t395⟩, A30, H⟩ := H
 replace H : ((reply_Render.f k t387 t388 t391 t392 true).bind fun bt396 => (if t395.isNone = true then (if bt396.2.isNone = true then (if bt396.1.toList = ([] : List UInt8) then (usherlaw8_ReplyBare.j0 k bt396.1 true t387 t388 t391 t392) else (if bt396.1.size + t391.size ≤ 9223372036854775807 then (usherlaw8_ReplyBare.j0 k bt396.1 (t394.toList != (bt396.1 ++ t391).toList) t387 t388 t391 t392) else (none))) else (usherlaw8_ReplyBare.j0 k bt396.1 true t387 t388 t391 t392)) else (usherlaw8_ReplyBare.j0 k bt396.1 true t387 t388 t391 t392))) = some r := H
 have A3 := Aq15 A30
 clear A30
 replace H := Option.bind_eq_some_iff.mp H
 obtain ⟨⟨t396, t397⟩, A40, H⟩ := H
 replace H : (if t395.isNone = true then (if t397.isNone = true then (if t396.toList = ([] : List UInt8) then (usherlaw8_ReplyBare.j0 k t396 true t387 t388 t391 t392) else (if t396.size + t391.size ≤ 9223372036854775807 then (usherlaw8_ReplyBare.j0 k t396 (t394.toList != (t396 ++ t391).toList) t387 t388 t391 t392) else (none))) else (usherlaw8_ReplyBare.j0 k t396 true t387 t388 t391 t392)) else (usherlaw8_ReplyBare.j0 k t396 true t387 t388 t391 t392)) = some r := H
 have A4 := Aq15 A40
 clear A40
 have HC5 := Aq15 H
 clear H
 go_enter Tryd.func13, Tryd.ntmps13
 go_upto_region 4 with (first | ((with_reducible refine gate_dst (N := 1) rfl ?_); (try (refine gate_guard (by rfl) ?_; dsimp only)); refine box_event ?hg (N := 1) ?hd (cs := #[.int .i64 a0_0, .slice A0_1 l0_1.length c0_1, .string a0_2, .bool a0_3, .string a0_4, .int .i64 a0_5]) (t := 64) ?hr ?_; (case hd => rfl); (case hg => rfl); (case hr => first | (go_simp; done) | (go_simp; rfl)); intro gb386 hg w6 hbox hb; have BK386 := Aq15 (hbox); have GW386 := Aq15 ((by rw [hg]; exact (below_size tq15_5) : w.heap.size ≤ gb386)); have GE386 := Aq15 ((by rw [hg]; exact (below_size tq15_5) : w.heap.size ≤ gb386)); replace HB := Aq15 (below_step tq15_5 hb); clear hb hbox hg; have hcz7_0 : w6.cell? ⟨gb386, 0, none⟩ = some (.int .i64 a0_0) := (blk_cell BK386.out 0).trans rfl; have hcz7_1 : w6.cell? ⟨gb386, 1, none⟩ = some (.slice A0_1 l0_1.length c0_1) := (blk_cell BK386.out 1).trans rfl; have hcz7_2 : w6.cell? ⟨gb386, 2, none⟩ = some (.string a0_2) := (blk_cell BK386.out 2).trans rfl; have hcz7_3 : w6.cell? ⟨gb386, 3, none⟩ = some (.bool a0_3) := (blk_cell BK386.out 3).trans rfl; have hcz7_4 : w6.cell? ⟨gb386, 4, none⟩ = some (.string a0_4) := (blk_cell BK386.out 4).trans rfl; have hcz7_5 : w6.cell? ⟨gb386, 5, none⟩ = some (.int .i64 a0_5) := (blk_cell BK386.out 5).trans rfl; have hfz7_0 := blk_frozen BK386.out 0; have hfz7_1 := blk_frozen BK386.out 1; have hfz7_2 := blk_frozen BK386.out 2; have hfz7_3 := blk_frozen BK386.out 3; have hfz7_4 := blk_frozen BK386.out 4; have hfz7_5 := blk_frozen BK386.out 5) | ((with_reducible refine gate_callee (f := 35) rfl ?_); refine goesL_ (some 14) rfl rfl Tryd.func35 (by kernel_rfl) rfl #[.agg #[.int .i64 a0_0, .slice A0_1 l0_1.length c0_1, .string a0_2, .bool a0_3]] rfl tq15_6 ?_; (with_reducible refine (usherlaw8_tidy.calls k a0_0 _ _ l0_1 a0_2 a0_3 t387 t388 t391 t392 _ ?side1 ?side2 A2.out ?side3).mono ?_); (case side1 => repeat (first | exact (Kd.C_below HR0_1.out HB.out) | (with_reducible refine Kd.C_alloc ?_ _) | (with_reducible refine Kd.C_drewN ?_ _) | (with_reducible refine Kd.C_drew ?_))); (case side2 => exact HC0_1.out); (case side3 => exact HG.out.step (tq15_7 GE386.out) rfl); rintro e w8 ⟨v389, rfl, ho0, hb⟩; refine ⟨_, rfl, ?_⟩; have HO390 := Aq15 (Kd.R_lower ho0 (below_size (tq15_7 GE386.out))); replace BK386 := Aq15 (blk_below (g := gb386) (o := .cells #[.int .i64 a0_0, .slice A0_1 l0_1.length c0_1, .string a0_2, .bool a0_3, .string a0_4, .int .i64 a0_5] 64 (0, 0)) (tq15_4 BK386.out) hb); replace HB := Aq15 (below_step (tq15_7 GE386.out) hb); (try clear hb); (try clear hb2); (try clear hk); (try clear hi); (try clear ho0)) | ((with_reducible refine gate_dst (N := 3) rfl ?_); (try (refine gate_guard (by rfl) ?_; dsimp only)); refine box_event ?hg (N := 3) ?hd (cs := #[.int .i64 0, .slice none 0 0, .string (⟨#[]⟩ : ByteArray), .bool false]) (t := 24) ?hr ?_; (case hd => rfl); (case hg => rfl); (case hr => first | (go_simp; done) | (go_simp; rfl)); intro gb393 hg w9 hbox hb; replace HO390 := Aq15 (Kd.R_below (tq15_3 HO390.out) hb); have BK393 := Aq15 (hbox); have GW393 := Aq15 ((by rw [hg]; exact (below_size (tq15_7 GE386.out)) : w.heap.size ≤ gb393)); have GE393 := Aq15 ((by rw [hg]; exact (below_size (tq15_7 GE386.out)) : w.heap.size ≤ gb393)); have NB386_393 := Aq15 ((by rw [hg]; exact Nat.ne_of_lt (blk_lt (g := gb386) (o := .cells #[.int .i64 a0_0, .slice A0_1 l0_1.length c0_1, .string a0_2, .bool a0_3, .string a0_4, .int .i64 a0_5] 64 (0, 0)) (tq15_4 BK386.out)) : gb386 ≠ gb393)); have NB393_386 := Aq15 ((by rw [hg]; exact Nat.ne_of_gt (blk_lt (g := gb386) (o := .cells #[.int .i64 a0_0, .slice A0_1 l0_1.length c0_1, .string a0_2, .bool a0_3, .string a0_4, .int .i64 a0_5] 64 (0, 0)) (tq15_4 BK386.out)) : gb393 ≠ gb386)); replace BK386 := Aq15 (blk_below (g := gb386) (o := .cells #[.int .i64 a0_0, .slice A0_1 l0_1.length c0_1, .string a0_2, .bool a0_3, .string a0_4, .int .i64 a0_5] 64 (0, 0)) (tq15_4 BK386.out) hb); replace HB := Aq15 (below_step (tq15_7 GE386.out) hb); clear hb hbox hg; have hnb10 := NB393_386.out; have hnc10 := NB386_393.out; have hcz11_0 : w9.cell? ⟨gb393, 0, none⟩ = some (.int .i64 0) := (blk_cell BK393.out 0).trans rfl; have hcz11_1 : w9.cell? ⟨gb393, 1, none⟩ = some (.slice none 0 0) := (blk_cell BK393.out 1).trans rfl; have hcz11_2 : w9.cell? ⟨gb393, 2, none⟩ = some (.string (⟨#[]⟩ : ByteArray)) := (blk_cell BK393.out 2).trans rfl; have hcz11_3 : w9.cell? ⟨gb393, 3, none⟩ = some (.bool false) := (blk_cell BK393.out 3).trans rfl; have hfz11_0 := blk_frozen BK393.out 0; have hfz11_1 := blk_frozen BK393.out 1; have hfz11_2 := blk_frozen BK393.out 2; have hfz11_3 := blk_frozen BK393.out 3; obtain ⟨Ao12, co12, eo12⟩ := Kd.R_slice HO390.out; subst eo12) | ((with_reducible refine gate_callee (f := 15) rfl ?_); refine goesL_ (some 17) rfl rfl Tryd.func15 (by kernel_rfl) rfl #[.agg #[.int .i64 t387, .slice Ao12 t388.length co12, .string t391, .bool t392], .bool false] rfl tq15_6 ?_; (with_reducible refine (reply_Render.calls k t387 _ _ t388 t391 t392 false t394 t395 _ ?side1 ?side2 A3.out ?side3).mono ?_); (case side1 => refine (Kd.R_reads' (e := 26) (base := w.heap.size) (ok := fun k_ => True) (n := t388.length) (c := co12) ?_).2.2; exact (tq15_b HO390.out BK393.out)); (case side2 => exact (Kd.R_reads' HO390.out).2.1); (case side3 => exact HG.out.step (tq15_8 GE386.out GE393.out) rfl); rintro e w13 ⟨rfl, hb⟩; refine ⟨_, rfl, ?_⟩; replace HO390 := Aq15 (Kd.R_below (tq15_b HO390.out BK393.out) hb); replace BK386 := Aq15 (blk_below (g := gb386) (o := .cells #[.int .i64 a0_0, .slice A0_1 l0_1.length c0_1, .string a0_2, .bool a0_3, .string a0_4, .int .i64 a0_5] 64 (0, 0)) (tq15_a NB386_393.out BK386.out) hb); replace BK393 := Aq15 (blk_below (g := gb393) (o := .cells #[.int .i64 t387, .slice Ao12 t388.length co12, .string t391, .bool t392] 24 (0, 0)) (by (with_reducible repeat (first | refine blk_drewN ?_ _ | refine blk_drew ?_ | refine blk_alloc ?_ _)); refine blk_put (cs := #[.int .i64 t387, .slice Ao12 t388.length co12, .string t391, .bool false]) ?_ 3 _ rfl; (with_reducible repeat (first | refine blk_drewN ?_ _ | refine blk_drew ?_ | refine blk_alloc ?_ _)); refine blk_put (cs := #[.int .i64 t387, .slice Ao12 t388.length co12, .string (⟨#[]⟩ : ByteArray), .bool false]) ?_ 2 _ rfl; (with_reducible repeat (first | refine blk_drewN ?_ _ | refine blk_drew ?_ | refine blk_alloc ?_ _)); refine blk_put (cs := #[.int .i64 t387, .slice none 0 0, .string (⟨#[]⟩ : ByteArray), .bool false]) ?_ 1 _ rfl; (with_reducible repeat (first | refine blk_drewN ?_ _ | refine blk_drew ?_ | refine blk_alloc ?_ _)); refine blk_put (cs := #[.int .i64 0, .slice none 0 0, .string (⟨#[]⟩ : ByteArray), .bool false]) ?_ 0 _ rfl; (with_reducible repeat (first | refine blk_drewN ?_ _ | refine blk_drew ?_ | refine blk_alloc ?_ _)); exact BK393.out) hb); replace HB := Aq15 (below_step (tq15_8 GE386.out GE393.out) hb); (try clear hb); (try clear hb2); (try clear hk); (try clear hi); (try simp only [errW_none, errW_some]); have hcz14_0 : w13.cell? ⟨gb393, 0, none⟩ = some (.int .i64 t387) := (blk_cell BK393.out 0).trans rfl; have hcz14_1 : w13.cell? ⟨gb393, 1, none⟩ = some (.slice Ao12 t388.length co12) := (blk_cell BK393.out 1).trans rfl; have hcz14_2 : w13.cell? ⟨gb393, 2, none⟩ = some (.string t391) := (blk_cell BK393.out 2).trans rfl; have hcz14_3 : w13.cell? ⟨gb393, 3, none⟩ = some (.bool t392) := (blk_cell BK393.out 3).trans rfl; have hfz14_0 := blk_frozen BK393.out 0; have hfz14_1 := blk_frozen BK393.out 1; have hfz14_2 := blk_frozen BK393.out 2; have hfz14_3 := blk_frozen BK393.out 3) | ((with_reducible refine gate_callee (f := 15) rfl ?_); refine goesL_ (some 22) rfl rfl Tryd.func15 (by kernel_rfl) rfl #[.agg #[.int .i64 t387, .slice Ao12 t388.length co12, .string t391, .bool t392], .bool true] rfl tq15_6 ?_; (with_reducible refine (reply_Render.calls k t387 _ _ t388 t391 t392 true t396 t397 _ ?side1 ?side2 A4.out ?side3).mono ?_); (case side1 => repeat (first | exact (Kd.R_reads' HO390.out).2.2 | (with_reducible refine Kd.C_alloc ?_ _) | (with_reducible refine Kd.C_drewN ?_ _) | (with_reducible refine Kd.C_drew ?_))); (case side2 => exact (Kd.R_reads' HO390.out).2.1); (case side3 => exact HG.out.step (tq15_8 GE386.out GE393.out) rfl); rintro e w15 ⟨rfl, hb⟩; refine ⟨_, rfl, ?_⟩; replace HO390 := Aq15 (Kd.R_below (tq15_3 HO390.out) hb); replace BK386 := Aq15 (blk_below (g := gb386) (o := .cells #[.int .i64 a0_0, .slice A0_1 l0_1.length c0_1, .string a0_2, .bool a0_3, .string a0_4, .int .i64 a0_5] 64 (0, 0)) (tq15_4 BK386.out) hb); replace BK393 := Aq15 (blk_below (g := gb393) (o := .cells #[.int .i64 t387, .slice Ao12 t388.length co12, .string t391, .bool t392] 24 (0, 0)) (tq15_4 BK393.out) hb); replace HB := Aq15 (below_step (tq15_8 GE386.out GE393.out) hb); (try clear hb); (try clear hb2); (try clear hk); (try clear hi); (try simp only [errW_none, errW_some])))
 (try simp only [Act.put, List.setIfInBounds_toArray, List.set_cons_zero, List.set_cons_succ])
 go_cut [42] (fun v42 wc => ∃ (kq : Nat) (x42_4 : Bool), v42 = .bool x42_4 ∧ Aside0 (usherlaw8_ReplyBare.j0 kq t396 x42_4 t387 t388 t391 t392 = some r) ∧ Aside0 (kq ≤ k) ∧ Aside0 (Kd.R k26 26 wc w.heap.size (fun _ => True) (.slice Ao12 t388.length co12) t388) ∧ Aside0 (wc.heap[gb386]? = some (.cells #[.int .i64 a0_0, (.slice A0_1 l0_1.length c0_1), .string a0_2, .bool a0_3, .string a0_4, .int .i64 a0_5] 64 (0, 0))) ∧ Aside0 (wc.heap[gb393]? = some (.cells #[.int .i64 t387, (.slice Ao12 t388.length co12), .string t391, .bool t392] 24 (0, 0))) ∧ Aside0 (Below w.heap.size w wc))
 case first =>
  have H := HC5.out
  clear HC5
  rcases t395 with _ | q398
  ·have H1 : (if t397.isNone = true then (if t396.toList = ([] : List UInt8) then (usherlaw8_ReplyBare.j0 k t396 true t387 t388 t391 t392) else (if t396.size + t391.size ≤ 9223372036854775807 then (usherlaw8_ReplyBare.j0 k t396 (t394.toList != (t396 ++ t391).toList) t387 t388 t391 t392) else (none))) else (usherlaw8_ReplyBare.j0 k t396 true t387 t388 t391 t392)) = some r := by rw [if_pos (show (none : Option Int).isNone = true by rfl)] at H; exact H
   clear H
   have H := H1
   clear H1
   try simp only [errW_none, errW_some]
   rcases t397 with _ | q399
   ·have H1 : (if t396.toList = ([] : List UInt8) then (usherlaw8_ReplyBare.j0 k t396 true t387 t388 t391 t392) else (if t396.size + t391.size ≤ 9223372036854775807 then (usherlaw8_ReplyBare.j0 k t396 (t394.toList != (t396 ++ t391).toList) t387 t388 t391 t392) else (none))) = some r := by rw [if_pos (show (none : Option Int).isNone = true by rfl)] at H; exact H
    clear H
    have H := H1
    clear H1
    try simp only [errW_none, errW_some]
    by_cases c16 : t396.toList = ([] : List UInt8)
    ·rw [if_pos c16] at H
     have c16b0 : (t396.toList == ([] : List UInt8)) = true := beq_iff_eq.mpr c16
     have c16b1 : (t396.toList != ([] : List UInt8)) = false := bne_eq_false_iff_eq.mpr c16
     clear c16
     (first | rw [c16b0] | (simp only [i64_w, i32_w]; rw [c16b0]) | skip)
     have H' := Aq15 H
     clear H
     go_wp2
     go_meet
     case rel => exact ⟨_, (true), tq15_1, H', ⟨tq15_0⟩, ⟨(tq15_3 HO390.out)⟩, ⟨(tq15_4 BK386.out)⟩, ⟨(tq15_4 BK393.out)⟩, ⟨(tq15_8 GE386.out GE393.out)⟩⟩
    ·rw [if_neg c16] at H
     have c16b0 : (t396.toList == ([] : List UInt8)) = false := beq_eq_false_iff_ne.mpr c16
     have c16b1 : (t396.toList != ([] : List UInt8)) = true := bne_iff_ne.mpr c16
     (first | rw [c16b0] | (simp only [i64_w, i32_w]; rw [c16b0]) | skip)
     by_cases c17 : t396.size + t391.size ≤ 9223372036854775807
     ·rw [if_pos c17] at H
      have c17b0 := eq_true c17
      have c17b1 : decide (t396.size + t391.size ≤ 9223372036854775807) = true := decide_eq_true c17
      try have c17b2 : (9223372036854775807 < t396.size + t391.size) = False := eq_false (Nat.not_lt.2 c17)
      have H' := Aq15 H
      clear H
      have hnb18 := NB393_386.out
      have hnc18 := NB386_393.out
      have hcz19_0 : w15.cell? ⟨gb393, 0, none⟩ = some (.int .i64 t387) := (blk_cell BK393.out 0).trans rfl
      have hcz19_1 : w15.cell? ⟨gb393, 1, none⟩ = some (.slice Ao12 t388.length co12) := (blk_cell BK393.out 1).trans rfl
      have hcz19_2 : w15.cell? ⟨gb393, 2, none⟩ = some (.string t391) := (blk_cell BK393.out 2).trans rfl
      have hcz19_3 : w15.cell? ⟨gb393, 3, none⟩ = some (.bool t392) := (blk_cell BK393.out 3).trans rfl
      have hfz19_0 := blk_frozen BK393.out 0
      have hfz19_1 := blk_frozen BK393.out 1
      have hfz19_2 := blk_frozen BK393.out 2
      have hfz19_3 := blk_frozen BK393.out 3
      go_wp2
      go_meet
      case rel => exact ⟨_, ((t394.toList != (t396 ++ t391).toList)), tq15_1, H', ⟨tq15_0⟩, ⟨(tq15_3 HO390.out)⟩, ⟨(tq15_4 BK386.out)⟩, ⟨(tq15_4 BK393.out)⟩, ⟨(tq15_8 GE386.out GE393.out)⟩⟩
     ·rw [if_neg c17] at H
      exact absurd H (by simp)
   ·have H1 : (usherlaw8_ReplyBare.j0 k t396 true t387 t388 t391 t392) = some r := by rw [if_neg (show ¬ (some q399).isNone = true by simp)] at H; exact H
    clear H
    have H := H1
    clear H1
    try simp only [errW_none, errW_some]
    have H' := Aq15 H
    clear H
    go_wp2
    go_meet
    case rel => exact ⟨_, (true), tq15_1, H', ⟨tq15_0⟩, ⟨(tq15_3 HO390.out)⟩, ⟨(tq15_4 BK386.out)⟩, ⟨(tq15_4 BK393.out)⟩, ⟨(tq15_8 GE386.out GE393.out)⟩⟩
  ·have H1 : (usherlaw8_ReplyBare.j0 k t396 true t387 t388 t391 t392) = some r := by rw [if_neg (show ¬ (some q398).isNone = true by simp)] at H; exact H
   clear H
   have H := H1
   clear H1
   try simp only [errW_none, errW_some]
   have H' := Aq15 H
   clear H
   go_wp2
   go_meet
   case rel => exact ⟨_, (true), tq15_1, H', ⟨tq15_0⟩, ⟨(tq15_3 HO390.out)⟩, ⟨(tq15_4 BK386.out)⟩, ⟨(tq15_4 BK393.out)⟩, ⟨(tq15_8 GE386.out GE393.out)⟩⟩
 case rest =>
  clear HC5
  try clear c1
  try clear p2
  try clear c3
  try clear q3
  try clear c10
  try clear c13
  try clear c15
  try clear c16
  try clear c16b0
  try clear c16b1
  try clear c17
  try clear c17b0
  try clear c17b1
  try clear c17b2
  try clear c18
  try clear hcz11_0
  try clear hcz11_1
  try clear hcz11_2
  try clear hcz11_3
  try clear hcz14_0
  try clear hcz14_1
  try clear hcz14_2
  try clear hcz14_3
  try clear hcz19_0
  try clear hcz19_1
  try clear hcz19_2
  try clear hcz19_3
  try clear hcz7_0
  try clear hcz7_1
  try clear hcz7_2
  try clear hcz7_3
  try clear hcz7_4
  try clear hcz7_5
  try clear hfz11_0
  try clear hfz11_1
  try clear hfz11_2
  try clear hfz11_3
  try clear hfz14_0
  try clear hfz14_1
  try clear hfz14_2
  try clear hfz14_3
  try clear hfz19_0
  try clear hfz19_1
  try clear hfz19_2
  try clear hfz19_3
  try clear hfz7_0
  try clear hfz7_1
  try clear hfz7_2
  try clear hfz7_3
  try clear hfz7_4
  try clear hfz7_5
  try clear q398
  try clear q399
  obtain ⟨kq, x42_4, rfl, HA, HJ4, HO_394001, BK386, BK393, HB⟩ := hcut
  cases kq with
  | zero => exact absurd HA.out (by simp [usherlaw8_ReplyBare.j0])
  | succ kj4 =>
   have H := HA.out
   clear HA
   simp only [usherlaw8_ReplyBare.j0] at H
   by_cases c20 : x42_4 = true
   ·subst c20
    have H1 : (some false) = some r := by rw [if_pos rfl] at H; exact H
    clear H
    have H := H1
    clear H1
    obtain rfl := Option.some.inj H
    go_wp2
    go_ret
    exact ⟨tq15_2, (tq15_8 GE386.out GE393.out)⟩
   ·replace c20 := Bool.eq_false_iff.mpr c20
    subst c20
    have H1 : ((reply_Read.f kj4 t396).bind fun bt400 => (if t391.toList = ([] : List UInt8) then ((usherref0_SameReply.f kj4 bt400.1 bt400.2.1 bt400.2.2.1 bt400.2.2.2.1 t387 t388 t391 t392).bind fun t409 => (if bt400.2.2.2.2.2.isNone = true then (if bt400.2.2.2.2.1 = (t396.size : Int) then (some t409) else (some false)) else (some false))) else (if bt400.2.2.2.2.1 = 0 then ((usherkit_Num.f bt400.2.2.2.2.2).bind fun t411 => (some (t411 == 6))) else (some false)))) = some r := by rw [if_neg (show ¬ (false = true) by decide)] at H; exact H
    clear H
    have H := H1
    clear H1
    replace H := Option.bind_eq_some_iff.mp H
    obtain ⟨⟨t400, t401, t404, t405, t406, t407⟩, A210, H⟩ := H
    replace H : (if t391.toList = ([] : List UInt8) then ((usherref0_SameReply.f kj4 t400 t401 t404 t405 t387 t388 t391 t392).bind fun t409 => (if t407.isNone = true then (if t406 = (t396.size : Int) then (some t409) else (some false)) else (some false))) else (if t406 = 0 then ((usherkit_Num.f t407).bind fun t411 => (some (t411 == 6))) else (some false))) = some r := H
    have A21 := Aq15 A210
    clear A210
    by_cases c22 : t391.toList = ([] : List UInt8)
    ·rw [if_pos c22] at H
     have c22b0 : (t391.toList == ([] : List UInt8)) = true := beq_iff_eq.mpr c22
     have c22b1 : (t391.toList != ([] : List UInt8)) = false := bne_eq_false_iff_eq.mpr c22
     clear c22
     replace H := Option.bind_eq_some_iff.mp H
     obtain ⟨t409, A230, H⟩ := H
     replace H : (if t407.isNone = true then (if t406 = (t396.size : Int) then (some t409) else (some false)) else (some false)) = some r := H
     have A23 := Aq15 A230
     clear A230
     rcases t407 with _ | q410
     ·have H1 : (if t406 = (t396.size : Int) then (some t409) else (some false)) = some r := by rw [if_pos (show (none : Option Int).isNone = true by rfl)] at H; exact H
      clear H
      have H := H1
      clear H1
      try simp only [errW_none, errW_some]
      by_cases c24 : t406 = (t396.size : Int)
      ·rw [if_pos c24] at H
       have c24b0 : (t406 == (t396.size : Int)) = true := beq_iff_eq.mpr c24
       have c24b1 : (t406 != (t396.size : Int)) = false := bne_eq_false_iff_eq.mpr c24
       clear c24
       obtain rfl := Option.some.inj H
       go_wp2_with (first | ((with_reducible refine gate_callee (f := 32) rfl ?_); refine goesL_ (some 45) rfl rfl Tryd.func32 (by kernel_rfl) rfl #[.string t396] rfl tq15_6 ?_; (with_reducible refine (reply_Read.calls kj4 t396 t400 t401 t404 t405 t406 none _ A21.out ?side1).mono ?_); (case side1 => exact HG.out.step (tq15_8 GE386.out GE393.out) rfl); rintro e w25 ⟨v402, rfl, ho0, hb⟩; refine ⟨_, rfl, ?_⟩; have HO403 := Aq15 (Kd.R_lower (Kd.R_new' ho0 (Kd.R_lt (tq15_3 HO_394001.out))) (below_size (tq15_8 GE386.out GE393.out))); replace HO_394001 := Aq15 (Kd.R_elder' (tq15_3 HO_394001.out) (Kd.R_base ho0) hb); replace BK386 := Aq15 (blk_below (g := gb386) (o := .cells #[.int .i64 a0_0, .slice A0_1 l0_1.length c0_1, .string a0_2, .bool a0_3, .string a0_4, .int .i64 a0_5] 64 (0, 0)) (tq15_4 BK386.out) hb); replace BK393 := Aq15 (blk_below (g := gb393) (o := .cells #[.int .i64 t387, .slice Ao12 t388.length co12, .string t391, .bool t392] 24 (0, 0)) (tq15_4 BK393.out) hb); replace HB := Aq15 (below_step (tq15_8 GE386.out GE393.out) hb); (try clear hb); (try clear hb2); (try clear hk); (try clear hi); (try clear ho0); (try simp only [errW_none, errW_some])) | ((with_reducible refine gate_dst (N := 8) rfl ?_); (try (refine gate_guard (by rfl) ?_; dsimp only)); refine box_event ?hg (N := 8) ?hd (cs := #[.int .i64 0, .slice none 0 0, .string (⟨#[]⟩ : ByteArray), .bool false]) (t := 24) ?hr ?_; (case hd => rfl); (case hg => rfl); (case hr => first | (go_simp; done) | (go_simp; rfl)); intro gb408 hg w26 hbox hb; replace HO_394001 := Aq15 (Kd.R_below (tq15_3 HO_394001.out) hb); replace HO403 := Aq15 (Kd.R_below (tq15_3 HO403.out) hb); have BK408 := Aq15 (hbox); have GW408 := Aq15 ((by rw [hg]; exact (below_size (tq15_8 GE386.out GE393.out)) : w.heap.size ≤ gb408)); have GE408 := Aq15 ((by rw [hg]; exact (below_size (tq15_8 GE386.out GE393.out)) : w.heap.size ≤ gb408)); have NB386_408 := Aq15 ((by rw [hg]; exact Nat.ne_of_lt (blk_lt (g := gb386) (o := .cells #[.int .i64 a0_0, .slice A0_1 l0_1.length c0_1, .string a0_2, .bool a0_3, .string a0_4, .int .i64 a0_5] 64 (0, 0)) (tq15_4 BK386.out)) : gb386 ≠ gb408)); have NB408_386 := Aq15 ((by rw [hg]; exact Nat.ne_of_gt (blk_lt (g := gb386) (o := .cells #[.int .i64 a0_0, .slice A0_1 l0_1.length c0_1, .string a0_2, .bool a0_3, .string a0_4, .int .i64 a0_5] 64 (0, 0)) (tq15_4 BK386.out)) : gb408 ≠ gb386)); replace BK386 := Aq15 (blk_below (g := gb386) (o := .cells #[.int .i64 a0_0, .slice A0_1 l0_1.length c0_1, .string a0_2, .bool a0_3, .string a0_4, .int .i64 a0_5] 64 (0, 0)) (tq15_4 BK386.out) hb); have NB393_408 := Aq15 ((by rw [hg]; exact Nat.ne_of_lt (blk_lt (g := gb393) (o := .cells #[.int .i64 t387, .slice Ao12 t388.length co12, .string t391, .bool t392] 24 (0, 0)) (tq15_4 BK393.out)) : gb393 ≠ gb408)); have NB408_393 := Aq15 ((by rw [hg]; exact Nat.ne_of_gt (blk_lt (g := gb393) (o := .cells #[.int .i64 t387, .slice Ao12 t388.length co12, .string t391, .bool t392] 24 (0, 0)) (tq15_4 BK393.out)) : gb408 ≠ gb393)); replace BK393 := Aq15 (blk_below (g := gb393) (o := .cells #[.int .i64 t387, .slice Ao12 t388.length co12, .string t391, .bool t392] 24 (0, 0)) (tq15_4 BK393.out) hb); replace HB := Aq15 (below_step (tq15_8 GE386.out GE393.out) hb); clear hb hbox hg; have hnb27 := NB408_386.out; have hnc27 := NB386_408.out; have hnb28 := NB408_393.out; have hnc28 := NB393_408.out; have hcz29_0 : w26.cell? ⟨gb408, 0, none⟩ = some (.int .i64 0) := (blk_cell BK408.out 0).trans rfl; have hcz29_1 : w26.cell? ⟨gb408, 1, none⟩ = some (.slice none 0 0) := (blk_cell BK408.out 1).trans rfl; have hcz29_2 : w26.cell? ⟨gb408, 2, none⟩ = some (.string (⟨#[]⟩ : ByteArray)) := (blk_cell BK408.out 2).trans rfl; have hcz29_3 : w26.cell? ⟨gb408, 3, none⟩ = some (.bool false) := (blk_cell BK408.out 3).trans rfl; have hfz29_0 := blk_frozen BK408.out 0; have hfz29_1 := blk_frozen BK408.out 1; have hfz29_2 := blk_frozen BK408.out 2; have hfz29_3 := blk_frozen BK408.out 3; obtain ⟨Ao30, co30, eo30⟩ := Kd.R_slice HO403.out; subst eo30; have hnb31 := NB393_386.out; have hnc31 := NB386_393.out; have hcz32_0 : w26.cell? ⟨gb393, 0, none⟩ = some (.int .i64 t387) := (blk_cell BK393.out 0).trans rfl; have hcz32_1 : w26.cell? ⟨gb393, 1, none⟩ = some (.slice Ao12 t388.length co12) := (blk_cell BK393.out 1).trans rfl; have hcz32_2 : w26.cell? ⟨gb393, 2, none⟩ = some (.string t391) := (blk_cell BK393.out 2).trans rfl; have hcz32_3 : w26.cell? ⟨gb393, 3, none⟩ = some (.bool t392) := (blk_cell BK393.out 3).trans rfl; have hfz32_0 := blk_frozen BK393.out 0; have hfz32_1 := blk_frozen BK393.out 1; have hfz32_2 := blk_frozen BK393.out 2; have hfz32_3 := blk_frozen BK393.out 3) | ((with_reducible refine gate_callee (f := 18) rfl ?_); refine goesL_ (some 54) rfl rfl Tryd.func18 (by kernel_rfl) rfl #[.agg #[.int .i64 t400, .slice Ao30 t401.length co30, .string t404, .bool t405], .agg #[.int .i64 t387, .slice Ao12 t388.length co12, .string t391, .bool t392]] rfl tq15_6 ?_; (with_reducible refine (usherref0_SameReply.calls kj4 t400 _ _ t401 t404 t405 t387 _ _ t388 t391 t392 t409 _ ?side1 ?side2 ?side3 ?side4 A23.out).mono ?_); (case side1 => refine (Kd.R_reads' (e := 26) (base := w.heap.size) (ok := fun k_ => (True ∧ some k_ ≠ (.slice Ao12 t388.length co12 : Value).ownBlock)) (n := t401.length) (c := co30) ?_).2.2; exact (tq15_c HO403.out BK408.out)); (case side2 => exact (Kd.R_reads' HO403.out).2.1); (case side3 => refine (Kd.R_reads' (e := 26) (base := w.heap.size) (ok := fun k_ => (True ∧ some k_ ≠ (.slice Ao30 t401.length co30 : Value).ownBlock)) (n := t388.length) (c := co12) ?_).2.2; exact (tq15_c HO_394001.out BK408.out)); (case side4 => exact (Kd.R_reads' HO_394001.out).2.1); rintro e w33 ⟨rfl, hb⟩; refine ⟨_, rfl, ?_⟩; replace HO_394001 := Aq15 (Kd.R_below (tq15_c HO_394001.out BK408.out) hb); replace HO403 := Aq15 (Kd.R_below (tq15_c HO403.out BK408.out) hb); replace BK386 := Aq15 (blk_below (g := gb386) (o := .cells #[.int .i64 a0_0, .slice A0_1 l0_1.length c0_1, .string a0_2, .bool a0_3, .string a0_4, .int .i64 a0_5] 64 (0, 0)) (tq15_a NB386_408.out BK386.out) hb); replace BK393 := Aq15 (blk_below (g := gb393) (o := .cells #[.int .i64 t387, .slice Ao12 t388.length co12, .string t391, .bool t392] 24 (0, 0)) (tq15_a NB393_408.out BK393.out) hb); replace BK408 := Aq15 (blk_below (g := gb408) (o := .cells #[.int .i64 t400, .slice Ao30 t401.length co30, .string t404, .bool t405] 24 (0, 0)) (by (with_reducible repeat (first | refine blk_drewN ?_ _ | refine blk_drew ?_ | refine blk_alloc ?_ _)); refine blk_put (cs := #[.int .i64 t400, .slice Ao30 t401.length co30, .string t404, .bool false]) ?_ 3 _ rfl; (with_reducible repeat (first | refine blk_drewN ?_ _ | refine blk_drew ?_ | refine blk_alloc ?_ _)); refine blk_put (cs := #[.int .i64 t400, .slice Ao30 t401.length co30, .string (⟨#[]⟩ : ByteArray), .bool false]) ?_ 2 _ rfl; (with_reducible repeat (first | refine blk_drewN ?_ _ | refine blk_drew ?_ | refine blk_alloc ?_ _)); refine blk_put (cs := #[.int .i64 t400, .slice none 0 0, .string (⟨#[]⟩ : ByteArray), .bool false]) ?_ 1 _ rfl; (with_reducible repeat (first | refine blk_drewN ?_ _ | refine blk_drew ?_ | refine blk_alloc ?_ _)); refine blk_put (cs := #[.int .i64 0, .slice none 0 0, .string (⟨#[]⟩ : ByteArray), .bool false]) ?_ 0 _ rfl; (with_reducible repeat (first | refine blk_drewN ?_ _ | refine blk_drew ?_ | refine blk_alloc ?_ _)); exact BK408.out) hb); replace HB := Aq15 (below_step (tq15_9 GE386.out GE393.out GE408.out) hb); (try clear hb); (try clear hb2); (try clear hk); (try clear hi)))
       go_ret
       exact ⟨tq15_2, (tq15_9 GE386.out GE393.out GE408.out)⟩
      ·rw [if_neg c24] at H
       have c24b0 : (t406 == (t396.size : Int)) = false := beq_eq_false_iff_ne.mpr c24
       have c24b1 : (t406 != (t396.size : Int)) = true := bne_iff_ne.mpr c24
       obtain rfl := Option.some.inj H
       go_wp2_with (first | ((with_reducible refine gate_callee (f := 32) rfl ?_); refine goesL_ (some 45) rfl rfl Tryd.func32 (by kernel_rfl) rfl #[.string t396] rfl tq15_6 ?_; (with_reducible refine (reply_Read.calls kj4 t396 t400 t401 t404 t405 t406 none _ A21.out ?side1).mono ?_); (case side1 => exact HG.out.step (tq15_8 GE386.out GE393.out) rfl); rintro e w34 ⟨v402, rfl, ho0, hb⟩; refine ⟨_, rfl, ?_⟩; have HO403 := Aq15 (Kd.R_lower (Kd.R_new' ho0 (Kd.R_lt (tq15_3 HO_394001.out))) (below_size (tq15_8 GE386.out GE393.out))); replace HO_394001 := Aq15 (Kd.R_elder' (tq15_3 HO_394001.out) (Kd.R_base ho0) hb); replace BK386 := Aq15 (blk_below (g := gb386) (o := .cells #[.int .i64 a0_0, .slice A0_1 l0_1.length c0_1, .string a0_2, .bool a0_3, .string a0_4, .int .i64 a0_5] 64 (0, 0)) (tq15_4 BK386.out) hb); replace BK393 := Aq15 (blk_below (g := gb393) (o := .cells #[.int .i64 t387, .slice Ao12 t388.length co12, .string t391, .bool t392] 24 (0, 0)) (tq15_4 BK393.out) hb); replace HB := Aq15 (below_step (tq15_8 GE386.out GE393.out) hb); (try clear hb); (try clear hb2); (try clear hk); (try clear hi); (try clear ho0); (try simp only [errW_none, errW_some])) | ((with_reducible refine gate_dst (N := 8) rfl ?_); (try (refine gate_guard (by rfl) ?_; dsimp only)); refine box_event ?hg (N := 8) ?hd (cs := #[.int .i64 0, .slice none 0 0, .string (⟨#[]⟩ : ByteArray), .bool false]) (t := 24) ?hr ?_; (case hd => rfl); (case hg => rfl); (case hr => first | (go_simp; done) | (go_simp; rfl)); intro gb408 hg w35 hbox hb; replace HO_394001 := Aq15 (Kd.R_below (tq15_3 HO_394001.out) hb); replace HO403 := Aq15 (Kd.R_below (tq15_3 HO403.out) hb); have BK408 := Aq15 (hbox); have GW408 := Aq15 ((by rw [hg]; exact (below_size (tq15_8 GE386.out GE393.out)) : w.heap.size ≤ gb408)); have GE408 := Aq15 ((by rw [hg]; exact (below_size (tq15_8 GE386.out GE393.out)) : w.heap.size ≤ gb408)); have NB386_408 := Aq15 ((by rw [hg]; exact Nat.ne_of_lt (blk_lt (g := gb386) (o := .cells #[.int .i64 a0_0, .slice A0_1 l0_1.length c0_1, .string a0_2, .bool a0_3, .string a0_4, .int .i64 a0_5] 64 (0, 0)) (tq15_4 BK386.out)) : gb386 ≠ gb408)); have NB408_386 := Aq15 ((by rw [hg]; exact Nat.ne_of_gt (blk_lt (g := gb386) (o := .cells #[.int .i64 a0_0, .slice A0_1 l0_1.length c0_1, .string a0_2, .bool a0_3, .string a0_4, .int .i64 a0_5] 64 (0, 0)) (tq15_4 BK386.out)) : gb408 ≠ gb386)); replace BK386 := Aq15 (blk_below (g := gb386) (o := .cells #[.int .i64 a0_0, .slice A0_1 l0_1.length c0_1, .string a0_2, .bool a0_3, .string a0_4, .int .i64 a0_5] 64 (0, 0)) (tq15_4 BK386.out) hb); have NB393_408 := Aq15 ((by rw [hg]; exact Nat.ne_of_lt (blk_lt (g := gb393) (o := .cells #[.int .i64 t387, .slice Ao12 t388.length co12, .string t391, .bool t392] 24 (0, 0)) (tq15_4 BK393.out)) : gb393 ≠ gb408)); have NB408_393 := Aq15 ((by rw [hg]; exact Nat.ne_of_gt (blk_lt (g := gb393) (o := .cells #[.int .i64 t387, .slice Ao12 t388.length co12, .string t391, .bool t392] 24 (0, 0)) (tq15_4 BK393.out)) : gb408 ≠ gb393)); replace BK393 := Aq15 (blk_below (g := gb393) (o := .cells #[.int .i64 t387, .slice Ao12 t388.length co12, .string t391, .bool t392] 24 (0, 0)) (tq15_4 BK393.out) hb); replace HB := Aq15 (below_step (tq15_8 GE386.out GE393.out) hb); clear hb hbox hg; have hnb36 := NB408_386.out; have hnc36 := NB386_408.out; have hnb37 := NB408_393.out; have hnc37 := NB393_408.out; have hcz38_0 : w35.cell? ⟨gb408, 0, none⟩ = some (.int .i64 0) := (blk_cell BK408.out 0).trans rfl; have hcz38_1 : w35.cell? ⟨gb408, 1, none⟩ = some (.slice none 0 0) := (blk_cell BK408.out 1).trans rfl; have hcz38_2 : w35.cell? ⟨gb408, 2, none⟩ = some (.string (⟨#[]⟩ : ByteArray)) := (blk_cell BK408.out 2).trans rfl; have hcz38_3 : w35.cell? ⟨gb408, 3, none⟩ = some (.bool false) := (blk_cell BK408.out 3).trans rfl; have hfz38_0 := blk_frozen BK408.out 0; have hfz38_1 := blk_frozen BK408.out 1; have hfz38_2 := blk_frozen BK408.out 2; have hfz38_3 := blk_frozen BK408.out 3; obtain ⟨Ao39, co39, eo39⟩ := Kd.R_slice HO403.out; subst eo39; have hnb40 := NB393_386.out; have hnc40 := NB386_393.out; have hcz41_0 : w35.cell? ⟨gb393, 0, none⟩ = some (.int .i64 t387) := (blk_cell BK393.out 0).trans rfl; have hcz41_1 : w35.cell? ⟨gb393, 1, none⟩ = some (.slice Ao12 t388.length co12) := (blk_cell BK393.out 1).trans rfl; have hcz41_2 : w35.cell? ⟨gb393, 2, none⟩ = some (.string t391) := (blk_cell BK393.out 2).trans rfl; have hcz41_3 : w35.cell? ⟨gb393, 3, none⟩ = some (.bool t392) := (blk_cell BK393.out 3).trans rfl; have hfz41_0 := blk_frozen BK393.out 0; have hfz41_1 := blk_frozen BK393.out 1; have hfz41_2 := blk_frozen BK393.out 2; have hfz41_3 := blk_frozen BK393.out 3) | ((with_reducible refine gate_callee (f := 18) rfl ?_); refine goesL_ (some 54) rfl rfl Tryd.func18 (by kernel_rfl) rfl #[.agg #[.int .i64 t400, .slice Ao39 t401.length co39, .string t404, .bool t405], .agg #[.int .i64 t387, .slice Ao12 t388.length co12, .string t391, .bool t392]] rfl tq15_6 ?_; (with_reducible refine (usherref0_SameReply.calls kj4 t400 _ _ t401 t404 t405 t387 _ _ t388 t391 t392 t409 _ ?side1 ?side2 ?side3 ?side4 A23.out).mono ?_); (case side1 => refine (Kd.R_reads' (e := 26) (base := w.heap.size) (ok := fun k_ => (True ∧ some k_ ≠ (.slice Ao12 t388.length co12 : Value).ownBlock)) (n := t401.length) (c := co39) ?_).2.2; exact (tq15_d HO403.out BK408.out)); (case side2 => exact (Kd.R_reads' HO403.out).2.1); (case side3 => refine (Kd.R_reads' (e := 26) (base := w.heap.size) (ok := fun k_ => (True ∧ some k_ ≠ (.slice Ao39 t401.length co39 : Value).ownBlock)) (n := t388.length) (c := co12) ?_).2.2; exact (tq15_d HO_394001.out BK408.out)); (case side4 => exact (Kd.R_reads' HO_394001.out).2.1); rintro e w42 ⟨rfl, hb⟩; refine ⟨_, rfl, ?_⟩; replace HO_394001 := Aq15 (Kd.R_below (tq15_d HO_394001.out BK408.out) hb); replace HO403 := Aq15 (Kd.R_below (tq15_d HO403.out BK408.out) hb); replace BK386 := Aq15 (blk_below (g := gb386) (o := .cells #[.int .i64 a0_0, .slice A0_1 l0_1.length c0_1, .string a0_2, .bool a0_3, .string a0_4, .int .i64 a0_5] 64 (0, 0)) (tq15_a NB386_408.out BK386.out) hb); replace BK393 := Aq15 (blk_below (g := gb393) (o := .cells #[.int .i64 t387, .slice Ao12 t388.length co12, .string t391, .bool t392] 24 (0, 0)) (tq15_a NB393_408.out BK393.out) hb); replace BK408 := Aq15 (blk_below (g := gb408) (o := .cells #[.int .i64 t400, .slice Ao39 t401.length co39, .string t404, .bool t405] 24 (0, 0)) (by (with_reducible repeat (first | refine blk_drewN ?_ _ | refine blk_drew ?_ | refine blk_alloc ?_ _)); refine blk_put (cs := #[.int .i64 t400, .slice Ao39 t401.length co39, .string t404, .bool false]) ?_ 3 _ rfl; (with_reducible repeat (first | refine blk_drewN ?_ _ | refine blk_drew ?_ | refine blk_alloc ?_ _)); refine blk_put (cs := #[.int .i64 t400, .slice Ao39 t401.length co39, .string (⟨#[]⟩ : ByteArray), .bool false]) ?_ 2 _ rfl; (with_reducible repeat (first | refine blk_drewN ?_ _ | refine blk_drew ?_ | refine blk_alloc ?_ _)); refine blk_put (cs := #[.int .i64 t400, .slice none 0 0, .string (⟨#[]⟩ : ByteArray), .bool false]) ?_ 1 _ rfl; (with_reducible repeat (first | refine blk_drewN ?_ _ | refine blk_drew ?_ | refine blk_alloc ?_ _)); refine blk_put (cs := #[.int .i64 0, .slice none 0 0, .string (⟨#[]⟩ : ByteArray), .bool false]) ?_ 0 _ rfl; (with_reducible repeat (first | refine blk_drewN ?_ _ | refine blk_drew ?_ | refine blk_alloc ?_ _)); exact BK408.out) hb); replace HB := Aq15 (below_step (tq15_9 GE386.out GE393.out GE408.out) hb); (try clear hb); (try clear hb2); (try clear hk); (try clear hi)))
       go_ret
       exact ⟨tq15_2, (tq15_9 GE386.out GE393.out GE408.out)⟩
     ·have H1 : (some false) = some r := by rw [if_neg (show ¬ (some q410).isNone = true by simp)] at H; exact H
      clear H
      have H := H1
      clear H1
      try simp only [errW_none, errW_some]
      obtain rfl := Option.some.inj H
      go_wp2_with (first | ((with_reducible refine gate_callee (f := 32) rfl ?_); refine goesL_ (some 45) rfl rfl Tryd.func32 (by kernel_rfl) rfl #[.string t396] rfl tq15_6 ?_; (with_reducible refine (reply_Read.calls kj4 t396 t400 t401 t404 t405 t406 (some q410) _ A21.out ?side1).mono ?_); (case side1 => exact HG.out.step (tq15_8 GE386.out GE393.out) rfl); rintro e w43 ⟨v402, rfl, ho0, hb⟩; refine ⟨_, rfl, ?_⟩; have HO403 := Aq15 (Kd.R_lower (Kd.R_new' ho0 (Kd.R_lt (tq15_3 HO_394001.out))) (below_size (tq15_8 GE386.out GE393.out))); replace HO_394001 := Aq15 (Kd.R_elder' (tq15_3 HO_394001.out) (Kd.R_base ho0) hb); replace BK386 := Aq15 (blk_below (g := gb386) (o := .cells #[.int .i64 a0_0, .slice A0_1 l0_1.length c0_1, .string a0_2, .bool a0_3, .string a0_4, .int .i64 a0_5] 64 (0, 0)) (tq15_4 BK386.out) hb); replace BK393 := Aq15 (blk_below (g := gb393) (o := .cells #[.int .i64 t387, .slice Ao12 t388.length co12, .string t391, .bool t392] 24 (0, 0)) (tq15_4 BK393.out) hb); replace HB := Aq15 (below_step (tq15_8 GE386.out GE393.out) hb); (try clear hb); (try clear hb2); (try clear hk); (try clear hi); (try clear ho0); (try simp only [errW_none, errW_some])) | ((with_reducible refine gate_dst (N := 8) rfl ?_); (try (refine gate_guard (by rfl) ?_; dsimp only)); refine box_event ?hg (N := 8) ?hd (cs := #[.int .i64 0, .slice none 0 0, .string (⟨#[]⟩ : ByteArray), .bool false]) (t := 24) ?hr ?_; (case hd => rfl); (case hg => rfl); (case hr => first | (go_simp; done) | (go_simp; rfl)); intro gb408 hg w44 hbox hb; replace HO_394001 := Aq15 (Kd.R_below (tq15_3 HO_394001.out) hb); replace HO403 := Aq15 (Kd.R_below (tq15_3 HO403.out) hb); have BK408 := Aq15 (hbox); have GW408 := Aq15 ((by rw [hg]; exact (below_size (tq15_8 GE386.out GE393.out)) : w.heap.size ≤ gb408)); have GE408 := Aq15 ((by rw [hg]; exact (below_size (tq15_8 GE386.out GE393.out)) : w.heap.size ≤ gb408)); have NB386_408 := Aq15 ((by rw [hg]; exact Nat.ne_of_lt (blk_lt (g := gb386) (o := .cells #[.int .i64 a0_0, .slice A0_1 l0_1.length c0_1, .string a0_2, .bool a0_3, .string a0_4, .int .i64 a0_5] 64 (0, 0)) (tq15_4 BK386.out)) : gb386 ≠ gb408)); have NB408_386 := Aq15 ((by rw [hg]; exact Nat.ne_of_gt (blk_lt (g := gb386) (o := .cells #[.int .i64 a0_0, .slice A0_1 l0_1.length c0_1, .string a0_2, .bool a0_3, .string a0_4, .int .i64 a0_5] 64 (0, 0)) (tq15_4 BK386.out)) : gb408 ≠ gb386)); replace BK386 := Aq15 (blk_below (g := gb386) (o := .cells #[.int .i64 a0_0, .slice A0_1 l0_1.length c0_1, .string a0_2, .bool a0_3, .string a0_4, .int .i64 a0_5] 64 (0, 0)) (tq15_4 BK386.out) hb); have NB393_408 := Aq15 ((by rw [hg]; exact Nat.ne_of_lt (blk_lt (g := gb393) (o := .cells #[.int .i64 t387, .slice Ao12 t388.length co12, .string t391, .bool t392] 24 (0, 0)) (tq15_4 BK393.out)) : gb393 ≠ gb408)); have NB408_393 := Aq15 ((by rw [hg]; exact Nat.ne_of_gt (blk_lt (g := gb393) (o := .cells #[.int .i64 t387, .slice Ao12 t388.length co12, .string t391, .bool t392] 24 (0, 0)) (tq15_4 BK393.out)) : gb408 ≠ gb393)); replace BK393 := Aq15 (blk_below (g := gb393) (o := .cells #[.int .i64 t387, .slice Ao12 t388.length co12, .string t391, .bool t392] 24 (0, 0)) (tq15_4 BK393.out) hb); replace HB := Aq15 (below_step (tq15_8 GE386.out GE393.out) hb); clear hb hbox hg; have hnb45 := NB408_386.out; have hnc45 := NB386_408.out; have hnb46 := NB408_393.out; have hnc46 := NB393_408.out; have hcz47_0 : w44.cell? ⟨gb408, 0, none⟩ = some (.int .i64 0) := (blk_cell BK408.out 0).trans rfl; have hcz47_1 : w44.cell? ⟨gb408, 1, none⟩ = some (.slice none 0 0) := (blk_cell BK408.out 1).trans rfl; have hcz47_2 : w44.cell? ⟨gb408, 2, none⟩ = some (.string (⟨#[]⟩ : ByteArray)) := (blk_cell BK408.out 2).trans rfl; have hcz47_3 : w44.cell? ⟨gb408, 3, none⟩ = some (.bool false) := (blk_cell BK408.out 3).trans rfl; have hfz47_0 := blk_frozen BK408.out 0; have hfz47_1 := blk_frozen BK408.out 1; have hfz47_2 := blk_frozen BK408.out 2; have hfz47_3 := blk_frozen BK408.out 3; obtain ⟨Ao48, co48, eo48⟩ := Kd.R_slice HO403.out; subst eo48; have hnb49 := NB393_386.out; have hnc49 := NB386_393.out; have hcz50_0 : w44.cell? ⟨gb393, 0, none⟩ = some (.int .i64 t387) := (blk_cell BK393.out 0).trans rfl; have hcz50_1 : w44.cell? ⟨gb393, 1, none⟩ = some (.slice Ao12 t388.length co12) := (blk_cell BK393.out 1).trans rfl; have hcz50_2 : w44.cell? ⟨gb393, 2, none⟩ = some (.string t391) := (blk_cell BK393.out 2).trans rfl; have hcz50_3 : w44.cell? ⟨gb393, 3, none⟩ = some (.bool t392) := (blk_cell BK393.out 3).trans rfl; have hfz50_0 := blk_frozen BK393.out 0; have hfz50_1 := blk_frozen BK393.out 1; have hfz50_2 := blk_frozen BK393.out 2; have hfz50_3 := blk_frozen BK393.out 3) | ((with_reducible refine gate_callee (f := 18) rfl ?_); refine goesL_ (some 54) rfl rfl Tryd.func18 (by kernel_rfl) rfl #[.agg #[.int .i64 t400, .slice Ao48 t401.length co48, .string t404, .bool t405], .agg #[.int .i64 t387, .slice Ao12 t388.length co12, .string t391, .bool t392]] rfl tq15_6 ?_; (with_reducible refine (usherref0_SameReply.calls kj4 t400 _ _ t401 t404 t405 t387 _ _ t388 t391 t392 t409 _ ?side1 ?side2 ?side3 ?side4 A23.out).mono ?_); (case side1 => refine (Kd.R_reads' (e := 26) (base := w.heap.size) (ok := fun k_ => (True ∧ some k_ ≠ (.slice Ao12 t388.length co12 : Value).ownBlock)) (n := t401.length) (c := co48) ?_).2.2; exact (tq15_e HO403.out BK408.out)); (case side2 => exact (Kd.R_reads' HO403.out).2.1); (case side3 => refine (Kd.R_reads' (e := 26) (base := w.heap.size) (ok := fun k_ => (True ∧ some k_ ≠ (.slice Ao48 t401.length co48 : Value).ownBlock)) (n := t388.length) (c := co12) ?_).2.2; exact (tq15_e HO_394001.out BK408.out)); (case side4 => exact (Kd.R_reads' HO_394001.out).2.1); rintro e w51 ⟨rfl, hb⟩; refine ⟨_, rfl, ?_⟩; replace HO_394001 := Aq15 (Kd.R_below (tq15_e HO_394001.out BK408.out) hb); replace HO403 := Aq15 (Kd.R_below (tq15_e HO403.out BK408.out) hb); replace BK386 := Aq15 (blk_below (g := gb386) (o := .cells #[.int .i64 a0_0, .slice A0_1 l0_1.length c0_1, .string a0_2, .bool a0_3, .string a0_4, .int .i64 a0_5] 64 (0, 0)) (tq15_a NB386_408.out BK386.out) hb); replace BK393 := Aq15 (blk_below (g := gb393) (o := .cells #[.int .i64 t387, .slice Ao12 t388.length co12, .string t391, .bool t392] 24 (0, 0)) (tq15_a NB393_408.out BK393.out) hb); replace BK408 := Aq15 (blk_below (g := gb408) (o := .cells #[.int .i64 t400, .slice Ao48 t401.length co48, .string t404, .bool t405] 24 (0, 0)) (by (with_reducible repeat (first | refine blk_drewN ?_ _ | refine blk_drew ?_ | refine blk_alloc ?_ _)); refine blk_put (cs := #[.int .i64 t400, .slice Ao48 t401.length co48, .string t404, .bool false]) ?_ 3 _ rfl; (with_reducible repeat (first | refine blk_drewN ?_ _ | refine blk_drew ?_ | refine blk_alloc ?_ _)); refine blk_put (cs := #[.int .i64 t400, .slice Ao48 t401.length co48, .string (⟨#[]⟩ : ByteArray), .bool false]) ?_ 2 _ rfl; (with_reducible repeat (first | refine blk_drewN ?_ _ | refine blk_drew ?_ | refine blk_alloc ?_ _)); refine blk_put (cs := #[.int .i64 t400, .slice none 0 0, .string (⟨#[]⟩ : ByteArray), .bool false]) ?_ 1 _ rfl; (with_reducible repeat (first | refine blk_drewN ?_ _ | refine blk_drew ?_ | refine blk_alloc ?_ _)); refine blk_put (cs := #[.int .i64 0, .slice none 0 0, .string (⟨#[]⟩ : ByteArray), .bool false]) ?_ 0 _ rfl; (with_reducible repeat (first | refine blk_drewN ?_ _ | refine blk_drew ?_ | refine blk_alloc ?_ _)); exact BK408.out) hb); replace HB := Aq15 (below_step (tq15_9 GE386.out GE393.out GE408.out) hb); (try clear hb); (try clear hb2); (try clear hk); (try clear hi)))
      go_ret
      exact ⟨tq15_2, (tq15_9 GE386.out GE393.out GE408.out)⟩
    ·rw [if_neg c22] at H
     have c22b0 : (t391.toList == ([] : List UInt8)) = false := beq_eq_false_iff_ne.mpr c22
     have c22b1 : (t391.toList != ([] : List UInt8)) = true := bne_iff_ne.mpr c22
     by_cases c52 : t406 = 0
     ·rw [if_pos c52] at H
      have c52b0 : (t406 == 0) = true := beq_iff_eq.mpr c52
      have c52b1 : (t406 != 0) = false := bne_eq_false_iff_eq.mpr c52
      clear c52
      replace H := Option.bind_eq_some_iff.mp H
      obtain ⟨t411, A530, H⟩ := H
      replace H : (some (t411 == 6)) = some r := H
      have A53 := Aq15 A530
      clear A530
      obtain rfl := Option.some.inj H
      go_wp2_with (first | ((with_reducible refine gate_callee (f := 32) rfl ?_); refine goesL_ (some 45) rfl rfl Tryd.func32 (by kernel_rfl) rfl #[.string t396] rfl tq15_6 ?_; (with_reducible refine (reply_Read.calls kj4 t396 t400 t401 t404 t405 t406 t407 _ A21.out ?side1).mono ?_); (case side1 => exact HG.out.step (tq15_8 GE386.out GE393.out) rfl); rintro e w54 ⟨v402, rfl, ho0, hb⟩; refine ⟨_, rfl, ?_⟩; have HO403 := Aq15 (Kd.R_lower (Kd.R_new' ho0 (Kd.R_lt (tq15_3 HO_394001.out))) (below_size (tq15_8 GE386.out GE393.out))); replace HO_394001 := Aq15 (Kd.R_elder' (tq15_3 HO_394001.out) (Kd.R_base ho0) hb); replace BK386 := Aq15 (blk_below (g := gb386) (o := .cells #[.int .i64 a0_0, .slice A0_1 l0_1.length c0_1, .string a0_2, .bool a0_3, .string a0_4, .int .i64 a0_5] 64 (0, 0)) (tq15_4 BK386.out) hb); replace BK393 := Aq15 (blk_below (g := gb393) (o := .cells #[.int .i64 t387, .slice Ao12 t388.length co12, .string t391, .bool t392] 24 (0, 0)) (tq15_4 BK393.out) hb); replace HB := Aq15 (below_step (tq15_8 GE386.out GE393.out) hb); (try clear hb); (try clear hb2); (try clear hk); (try clear hi); (try clear ho0); (try simp only [errW_none, errW_some])) | ((with_reducible refine gate_dst (N := 8) rfl ?_); (try (refine gate_guard (by rfl) ?_; dsimp only)); refine box_event ?hg (N := 8) ?hd (cs := #[.int .i64 0, .slice none 0 0, .string (⟨#[]⟩ : ByteArray), .bool false]) (t := 24) ?hr ?_; (case hd => rfl); (case hg => rfl); (case hr => first | (go_simp; done) | (go_simp; rfl)); intro gb408 hg w55 hbox hb; replace HO_394001 := Aq15 (Kd.R_below (tq15_3 HO_394001.out) hb); replace HO403 := Aq15 (Kd.R_below (tq15_3 HO403.out) hb); have BK408 := Aq15 (hbox); have GW408 := Aq15 ((by rw [hg]; exact (below_size (tq15_8 GE386.out GE393.out)) : w.heap.size ≤ gb408)); have GE408 := Aq15 ((by rw [hg]; exact (below_size (tq15_8 GE386.out GE393.out)) : w.heap.size ≤ gb408)); have NB386_408 := Aq15 ((by rw [hg]; exact Nat.ne_of_lt (blk_lt (g := gb386) (o := .cells #[.int .i64 a0_0, .slice A0_1 l0_1.length c0_1, .string a0_2, .bool a0_3, .string a0_4, .int .i64 a0_5] 64 (0, 0)) (tq15_4 BK386.out)) : gb386 ≠ gb408)); have NB408_386 := Aq15 ((by rw [hg]; exact Nat.ne_of_gt (blk_lt (g := gb386) (o := .cells #[.int .i64 a0_0, .slice A0_1 l0_1.length c0_1, .string a0_2, .bool a0_3, .string a0_4, .int .i64 a0_5] 64 (0, 0)) (tq15_4 BK386.out)) : gb408 ≠ gb386)); replace BK386 := Aq15 (blk_below (g := gb386) (o := .cells #[.int .i64 a0_0, .slice A0_1 l0_1.length c0_1, .string a0_2, .bool a0_3, .string a0_4, .int .i64 a0_5] 64 (0, 0)) (tq15_4 BK386.out) hb); have NB393_408 := Aq15 ((by rw [hg]; exact Nat.ne_of_lt (blk_lt (g := gb393) (o := .cells #[.int .i64 t387, .slice Ao12 t388.length co12, .string t391, .bool t392] 24 (0, 0)) (tq15_4 BK393.out)) : gb393 ≠ gb408)); have NB408_393 := Aq15 ((by rw [hg]; exact Nat.ne_of_gt (blk_lt (g := gb393) (o := .cells #[.int .i64 t387, .slice Ao12 t388.length co12, .string t391, .bool t392] 24 (0, 0)) (tq15_4 BK393.out)) : gb408 ≠ gb393)); replace BK393 := Aq15 (blk_below (g := gb393) (o := .cells #[.int .i64 t387, .slice Ao12 t388.length co12, .string t391, .bool t392] 24 (0, 0)) (tq15_4 BK393.out) hb); replace HB := Aq15 (below_step (tq15_8 GE386.out GE393.out) hb); clear hb hbox hg; have hnb56 := NB408_386.out; have hnc56 := NB386_408.out; have hnb57 := NB408_393.out; have hnc57 := NB393_408.out; have hcz58_0 : w55.cell? ⟨gb408, 0, none⟩ = some (.int .i64 0) := (blk_cell BK408.out 0).trans rfl; have hcz58_1 : w55.cell? ⟨gb408, 1, none⟩ = some (.slice none 0 0) := (blk_cell BK408.out 1).trans rfl; have hcz58_2 : w55.cell? ⟨gb408, 2, none⟩ = some (.string (⟨#[]⟩ : ByteArray)) := (blk_cell BK408.out 2).trans rfl; have hcz58_3 : w55.cell? ⟨gb408, 3, none⟩ = some (.bool false) := (blk_cell BK408.out 3).trans rfl; have hfz58_0 := blk_frozen BK408.out 0; have hfz58_1 := blk_frozen BK408.out 1; have hfz58_2 := blk_frozen BK408.out 2; have hfz58_3 := blk_frozen BK408.out 3; obtain ⟨Ao59, co59, eo59⟩ := Kd.R_slice HO403.out; subst eo59; have hnb60 := NB393_386.out; have hnc60 := NB386_393.out; have hcz61_0 : w55.cell? ⟨gb393, 0, none⟩ = some (.int .i64 t387) := (blk_cell BK393.out 0).trans rfl; have hcz61_1 : w55.cell? ⟨gb393, 1, none⟩ = some (.slice Ao12 t388.length co12) := (blk_cell BK393.out 1).trans rfl; have hcz61_2 : w55.cell? ⟨gb393, 2, none⟩ = some (.string t391) := (blk_cell BK393.out 2).trans rfl; have hcz61_3 : w55.cell? ⟨gb393, 3, none⟩ = some (.bool t392) := (blk_cell BK393.out 3).trans rfl; have hfz61_0 := blk_frozen BK393.out 0; have hfz61_1 := blk_frozen BK393.out 1; have hfz61_2 := blk_frozen BK393.out 2; have hfz61_3 := blk_frozen BK393.out 3; have CA53 := fun W (hG_ : Glob [0, 1, 2, 3, 4, 5, 6, 10, 11, 12, 13, 14, 15, 999] W) => usherkit_Num.calls t407 t411 W A53.out (hG_.sub rfl); try simp only [errW_none, errW_some] at CA53) | (go_at_call 17; (with_reducible refine (CA53 _ ?side1).mono ?_); (case side1 => exact HG.out.step (tq15_9 GE386.out GE393.out GE408.out) rfl); rintro e w' ⟨rfl, ⟨nd, rfl⟩⟩))
      go_ret
      exact ⟨tq15_2, (tq15_9 GE386.out GE393.out GE408.out)⟩
     ·rw [if_neg c52] at H
      have c52b0 : (t406 == 0) = false := beq_eq_false_iff_ne.mpr c52
      have c52b1 : (t406 != 0) = true := bne_iff_ne.mpr c52
      obtain rfl := Option.some.inj H
      go_wp2_with (first | ((with_reducible refine gate_callee (f := 32) rfl ?_); refine goesL_ (some 45) rfl rfl Tryd.func32 (by kernel_rfl) rfl #[.string t396] rfl tq15_6 ?_; (with_reducible refine (reply_Read.calls kj4 t396 t400 t401 t404 t405 t406 t407 _ A21.out ?side1).mono ?_); (case side1 => exact HG.out.step (tq15_8 GE386.out GE393.out) rfl); rintro e w62 ⟨v402, rfl, ho0, hb⟩; refine ⟨_, rfl, ?_⟩; have HO403 := Aq15 (Kd.R_lower (Kd.R_new' ho0 (Kd.R_lt (tq15_3 HO_394001.out))) (below_size (tq15_8 GE386.out GE393.out))); replace HO_394001 := Aq15 (Kd.R_elder' (tq15_3 HO_394001.out) (Kd.R_base ho0) hb); replace BK386 := Aq15 (blk_below (g := gb386) (o := .cells #[.int .i64 a0_0, .slice A0_1 l0_1.length c0_1, .string a0_2, .bool a0_3, .string a0_4, .int .i64 a0_5] 64 (0, 0)) (tq15_4 BK386.out) hb); replace BK393 := Aq15 (blk_below (g := gb393) (o := .cells #[.int .i64 t387, .slice Ao12 t388.length co12, .string t391, .bool t392] 24 (0, 0)) (tq15_4 BK393.out) hb); replace HB := Aq15 (below_step (tq15_8 GE386.out GE393.out) hb); (try clear hb); (try clear hb2); (try clear hk); (try clear hi); (try clear ho0); (try simp only [errW_none, errW_some])) | ((with_reducible refine gate_dst (N := 8) rfl ?_); (try (refine gate_guard (by rfl) ?_; dsimp only)); refine box_event ?hg (N := 8) ?hd (cs := #[.int .i64 0, .slice none 0 0, .string (⟨#[]⟩ : ByteArray), .bool false]) (t := 24) ?hr ?_; (case hd => rfl); (case hg => rfl); (case hr => first | (go_simp; done) | (go_simp; rfl)); intro gb408 hg w63 hbox hb; replace HO_394001 := Aq15 (Kd.R_below (tq15_3 HO_394001.out) hb); replace HO403 := Aq15 (Kd.R_below (tq15_3 HO403.out) hb); have BK408 := Aq15 (hbox); have GW408 := Aq15 ((by rw [hg]; exact (below_size (tq15_8 GE386.out GE393.out)) : w.heap.size ≤ gb408)); have GE408 := Aq15 ((by rw [hg]; exact (below_size (tq15_8 GE386.out GE393.out)) : w.heap.size ≤ gb408)); have NB386_408 := Aq15 ((by rw [hg]; exact Nat.ne_of_lt (blk_lt (g := gb386) (o := .cells #[.int .i64 a0_0, .slice A0_1 l0_1.length c0_1, .string a0_2, .bool a0_3, .string a0_4, .int .i64 a0_5] 64 (0, 0)) (tq15_4 BK386.out)) : gb386 ≠ gb408)); have NB408_386 := Aq15 ((by rw [hg]; exact Nat.ne_of_gt (blk_lt (g := gb386) (o := .cells #[.int .i64 a0_0, .slice A0_1 l0_1.length c0_1, .string a0_2, .bool a0_3, .string a0_4, .int .i64 a0_5] 64 (0, 0)) (tq15_4 BK386.out)) : gb408 ≠ gb386)); replace BK386 := Aq15 (blk_below (g := gb386) (o := .cells #[.int .i64 a0_0, .slice A0_1 l0_1.length c0_1, .string a0_2, .bool a0_3, .string a0_4, .int .i64 a0_5] 64 (0, 0)) (tq15_4 BK386.out) hb); have NB393_408 := Aq15 ((by rw [hg]; exact Nat.ne_of_lt (blk_lt (g := gb393) (o := .cells #[.int .i64 t387, .slice Ao12 t388.length co12, .string t391, .bool t392] 24 (0, 0)) (tq15_4 BK393.out)) : gb393 ≠ gb408)); have NB408_393 := Aq15 ((by rw [hg]; exact Nat.ne_of_gt (blk_lt (g := gb393) (o := .cells #[.int .i64 t387, .slice Ao12 t388.length co12, .string t391, .bool t392] 24 (0, 0)) (tq15_4 BK393.out)) : gb408 ≠ gb393)); replace BK393 := Aq15 (blk_below (g := gb393) (o := .cells #[.int .i64 t387, .slice Ao12 t388.length co12, .string t391, .bool t392] 24 (0, 0)) (tq15_4 BK393.out) hb); replace HB := Aq15 (below_step (tq15_8 GE386.out GE393.out) hb); clear hb hbox hg; have hnb64 := NB408_386.out; have hnc64 := NB386_408.out; have hnb65 := NB408_393.out; have hnc65 := NB393_408.out; have hcz66_0 : w63.cell? ⟨gb408, 0, none⟩ = some (.int .i64 0) := (blk_cell BK408.out 0).trans rfl; have hcz66_1 : w63.cell? ⟨gb408, 1, none⟩ = some (.slice none 0 0) := (blk_cell BK408.out 1).trans rfl; have hcz66_2 : w63.cell? ⟨gb408, 2, none⟩ = some (.string (⟨#[]⟩ : ByteArray)) := (blk_cell BK408.out 2).trans rfl; have hcz66_3 : w63.cell? ⟨gb408, 3, none⟩ = some (.bool false) := (blk_cell BK408.out 3).trans rfl; have hfz66_0 := blk_frozen BK408.out 0; have hfz66_1 := blk_frozen BK408.out 1; have hfz66_2 := blk_frozen BK408.out 2; have hfz66_3 := blk_frozen BK408.out 3; obtain ⟨Ao67, co67, eo67⟩ := Kd.R_slice HO403.out; subst eo67; have hnb68 := NB393_386.out; have hnc68 := NB386_393.out; have hcz69_0 : w63.cell? ⟨gb393, 0, none⟩ = some (.int .i64 t387) := (blk_cell BK393.out 0).trans rfl; have hcz69_1 : w63.cell? ⟨gb393, 1, none⟩ = some (.slice Ao12 t388.length co12) := (blk_cell BK393.out 1).trans rfl; have hcz69_2 : w63.cell? ⟨gb393, 2, none⟩ = some (.string t391) := (blk_cell BK393.out 2).trans rfl; have hcz69_3 : w63.cell? ⟨gb393, 3, none⟩ = some (.bool t392) := (blk_cell BK393.out 3).trans rfl; have hfz69_0 := blk_frozen BK393.out 0; have hfz69_1 := blk_frozen BK393.out 1; have hfz69_2 := blk_frozen BK393.out 2; have hfz69_3 := blk_frozen BK393.out 3))
      go_ret
      exact ⟨tq15_2, (tq15_9 GE386.out GE393.out GE408.out)⟩

end Go.Proofs.YtdlfdmbaejhaaaaDoor.Q
