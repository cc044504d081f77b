/- The plain Lean functions that calls of the program answer, and proofs that they do. Printed by program out of the translation; Lean checks it. -/
import Derived.Test.YtdlfdmbaejhaaaaDoorQ0
import Derived.Test.YtdlfdmbaejhaaaaDoorQ4
import Derived.Test.YtdlfdmbaejhaaaaDoorQ5
import Derived.Test.YtdlfdmbaejhaaaaDoorQ8
import Derived.Test.YtdlfdmbaejhaaaaDoorQ11
namespace Go.Proofs.YtdlfdmbaejhaaaaDoor.Q
open Go.RowKit Go.Proofs.YtdlfdmbaejhaaaaDoorW.PrintWords Go.Proofs.YtdlfdmbaejhaaaaDoorW.PrintLast Go.Proofs.YtdlfdmbaejhaaaaDoorW.PrintMore
attribute [local go_sem] max2_int min2_int max_two min_two max_three min_three max_four min_four   -- for this text's walks alone
set_option linter.unusedVariables false
set_option linter.unusedSimpArgs false

theorem Aq14 {p : Prop} (h : p) : Aside0 p := ⟨h⟩
theorem tq14_0 {P : Prop} (h : P := by first | rfl | (simp; done) | (simp [*]; done)) : P := h
theorem tq14_1 {P : Prop} (h : P := by first | (with_reducible assumption) | assumption) : P := h
theorem tq14_2 {P Q0 : Prop} (y0 : Q0) (h : Q0 → P := by intro y0_; first | exact q370 | exact of_decide_eq_true tq14_1 | (have e_ := (Kd.S_reads' y0_).1; omega)) : P := h y0
theorem tq14_3 {P Q0 : Prop} (y0 : Q0) (h : Q0 → P := by intro y0_; first | exact q383 | exact of_decide_eq_true tq14_1 | (have e_ := (Kd.S_reads' y0_).1; omega)) : P := h y0
theorem tq14_4 {P : Prop} (h : P := by first | rfl | (simp [errW_none, errW_some] <;> rfl) | (simp [*, errW_none, errW_some] <;> rfl)) : P := h
theorem tq14_5 {P Q0 : Prop} (y0 : Q0) (h : Q0 → P := by intro y0_; (with_reducible repeat (first | apply Kd.S_alloc | apply Kd.S_drewN | apply Kd.S_drew)); exact y0_) : P := h y0
theorem tq14_6 {P Q0 : Prop} (y0 : Q0) (h : Q0 → P := by intro y0_; (with_reducible repeat (first | apply Kd.R_alloc | apply Kd.R_drewN | apply Kd.R_drew)); exact y0_) : P := h y0
theorem tq14_7 {P Q0 : Prop} (y0 : Q0) (h : Q0 → P := by intro y0_; (with_reducible repeat (first | refine blk_drewN ?_ _ | refine blk_drew ?_ | refine blk_alloc ?_ _)); exact y0_) : P := h y0
theorem tq14_8 {P Q0 : Prop} (y0 : Q0) (h : Q0 → P := by intro y0_; (with_reducible repeat (first | apply Kd.S_alloc | apply Kd.S_drewN | apply Kd.S_drew)); exact Kd.S_mono y0_ (fun _ hk => trivial)) : P := h y0
theorem tq14_9 {P : Prop} (h : P := by repeat (first | (with_reducible first | exact HB.out | apply below_alloc | apply pw_below_drewN | apply below_drew1) | exact HB.out)) : P := h
theorem tq14_a {P : Prop} (h : P := by (try simp only [List.map_toArray, List.map_cons, List.map_nil]); first | done | rfl | (simp only [List.length_drop, List.length_take]; rfl)) : P := h
theorem tq14_b {P Q0 : Prop} (y0 : Q0) (h : Q0 → P := by intro y0_; repeat (first | (with_reducible first | exact HB.out | apply below_alloc | apply pw_below_drewN | apply below_drew1 | refine below_set ?_ y0_) | exact HB.out)) : P := h y0
theorem tq14_c {P Q0 : Prop} (y0 : Q0) (h : Q0 → P := by intro y0_; repeat (first | (with_reducible exact y0_) | (with_reducible refine Kd.C_alloc ?_ _) | (with_reducible refine Kd.C_drewN ?_ _) | (with_reducible refine Kd.C_drew ?_) | exact y0_)) : P := h y0
/-! ### usherlaw8_ReplyStream: function 12 -/
mutual
def usherlaw8_ReplyStream.l0 : Nat → List (S24) → ByteArray → List (S24) → Int → Option (Bool)
 | 0, _, _, _, _ => none
 | k + 1, x0, x3, x4, x5 => if x5 < (x0.length : Int) then (if 0 ≤ x5 then ((usherlaw8_tidy.f k ((rd_T24 x0 x5).f0) ((rd_T24 x0 x5).f1) ((rd_T24 x0 x5).f2) ((rd_T24 x0 x5).f3)).bind fun bt360 => (if x4.length < 2513169434916 then (usherlaw8_ReplyStream.l0 k x0 x3 (x4 ++ [(⟨bt360.1, bt360.2.1, bt360.2.2.1, bt360.2.2.2⟩ : S24)]) (wrap64 (x5 + 1))) else (none))) else (none)) else (usherlaw8_ReplyStream.l1 k x3 x4 0)
def usherlaw8_ReplyStream.l1 : Nat → ByteArray → List (S24) → Int → Option (Bool)
 | 0, _, _, _ => none
 | k + 1, x3, x4, x7 => if x7 < (x4.length : Int) then (if 0 ≤ x7 then ((reply_Render.f k ((rd_T24 x4 x7).f0) ((rd_T24 x4 x7).f1) ((rd_T24 x4 x7).f2) ((rd_T24 x4 x7).f3) false).bind fun bt371 => (if bt371.2.isNone = true then (if (wrap64 ((x3.size : Int) + (bt371.1.size : Int))) > 16777216 then (some true) else (if x3.size + bt371.1.size ≤ 9223372036854775807 then (usherlaw8_ReplyStream.l1 k (x3 ++ bt371.1) x4 (wrap64 (x7 + 1))) else (none))) else (some false))) else (none)) else (usherlaw8_ReplyStream.l2 k x3 x4 0)
def usherlaw8_ReplyStream.l2 : Nat → ByteArray → List (S24) → Int → Option (Bool)
 | 0, _, _, _ => none
 | k + 1, x3, x4, x10 => if x10 < (x4.length : Int) then ((reply_Read.f k x3).bind fun bt374 => (if 0 ≤ x10 then ((usherref0_SameReply.f k bt374.1 bt374.2.1 bt374.2.2.1 bt374.2.2.2.1 ((rd_T24 x4 x10).f0) ((rd_T24 x4 x10).f1) ((rd_T24 x4 x10).f2) ((rd_T24 x4 x10).f3)).bind fun t384 => (if bt374.2.2.2.2.2.isNone = true then (if t384 = true then (if bt374.2.2.2.2.1 < 1 then (some false) else (if bt374.2.2.2.2.1 > (x3.size : Int) then (some false) else (if 0 ≤ bt374.2.2.2.2.1 then (if bt374.2.2.2.2.1 ≤ (x3.size : Int) then (usherlaw8_ReplyStream.l2 k (x3.extract (bt374.2.2.2.2.1 : Int).toNat x3.size) x4 (wrap64 (x10 + 1))) else (none)) else (none)))) else (some false)) else (some false))) else (none))) else (some (x3.toList == ([] : List UInt8)))
end
def usherlaw8_ReplyStream.f (k : Nat) (l0 : List (S24)) : Option (Bool) := if ([] : List (S24)).length < 2513169434916 then (usherlaw8_ReplyStream.l0 k l0 (⟨#[]⟩ : ByteArray) (([] : List (S24)) ++ [(⟨404, ([] : List (S26)), (⟨#[102, 105, 114, 115, 116]⟩ : ByteArray), false⟩ : S24)]) 0) else (none)
theorem usherlaw8_ReplyStream.mono_l : ∀ k, (∀ y0 y1 y2 y3, LeO (usherlaw8_ReplyStream.l0 k y0 y1 y2 y3) (usherlaw8_ReplyStream.l0 (k + 1) y0 y1 y2 y3)) ∧ (∀ y0 y1 y2, LeO (usherlaw8_ReplyStream.l1 k y0 y1 y2) (usherlaw8_ReplyStream.l1 (k + 1) y0 y1 y2)) ∧ (∀ y0 y1 y2, LeO (usherlaw8_ReplyStream.l2 k y0 y1 y2) (usherlaw8_ReplyStream.l2 (k + 1) y0 y1 y2))
 | 0 => ⟨fun _ _ _ _ r h => by simp [usherlaw8_ReplyStream.l0] at h, fun _ _ _ r h => by simp [usherlaw8_ReplyStream.l1] at h, fun _ _ _ r h => by simp [usherlaw8_ReplyStream.l2] at h⟩
 | k + 1 => by
  obtain ⟨ih0, ih1, ih2⟩ := usherlaw8_ReplyStream.mono_l k
  refine ⟨?_, ?_, ?_⟩
  ·intro y0 y1 y2 y3
   unfold usherlaw8_ReplyStream.l0
   repeat' first
   | (with_reducible exact ih0 _ _ _ _)
   | (with_reducible exact ih1 _ _ _)
   | (with_reducible exact ih2 _ _ _)
   | (with_reducible exact reply_Read.mono _ _)
   | (with_reducible exact reply_Render.mono _ _ _ _ _ _)
   | (with_reducible exact usherlaw8_tidy.mono _ _ _ _ _)
   | (with_reducible exact usherref0_SameReply.mono _ _ _ _ _ _ _ _ _)
   | (with_reducible exact LeO.refl _)
   | (with_reducible exact LeO.none _)
   | (with_reducible refine LeO.ite ?_ ?_)
   | (with_reducible refine LeO.bind ?_ (fun _ => ?_))
   | exact ih0 _ _ _ _
   | exact ih1 _ _ _
   | exact ih2 _ _ _
   | exact reply_Read.mono _ _
   | exact reply_Render.mono _ _ _ _ _ _
   | exact usherlaw8_tidy.mono _ _ _ _ _
   | exact usherref0_SameReply.mono _ _ _ _ _ _ _ _ _
   | exact LeO.none _
   | refine LeO.ite ?_ ?_
   | refine LeO.bind ?_ (fun _ => ?_)
  ·intro y0 y1 y2
   unfold usherlaw8_ReplyStream.l1
   repeat' first
   | (with_reducible exact ih0 _ _ _ _)
   | (with_reducible exact ih1 _ _ _)
   | (with_reducible exact ih2 _ _ _)
   | (with_reducible exact reply_Read.mono _ _)
   | (with_reducible exact reply_Render.mono _ _ _ _ _ _)
   | (with_reducible exact usherlaw8_tidy.mono _ _ _ _ _)
   | (with_reducible exact usherref0_SameReply.mono _ _ _ _ _ _ _ _ _)
   | (with_reducible exact LeO.refl _)
   | (with_reducible exact LeO.none _)
   | (with_reducible refine LeO.ite ?_ ?_)
   | (with_reducible refine LeO.bind ?_ (fun _ => ?_))
   | exact ih0 _ _ _ _
   | exact ih1 _ _ _
   | exact ih2 _ _ _
   | exact reply_Read.mono _ _
   | exact reply_Render.mono _ _ _ _ _ _
   | exact usherlaw8_tidy.mono _ _ _ _ _
   | exact usherref0_SameReply.mono _ _ _ _ _ _ _ _ _
   | exact LeO.none _
   | refine LeO.ite ?_ ?_
   | refine LeO.bind ?_ (fun _ => ?_)
  ·intro y0 y1 y2
   unfold usherlaw8_ReplyStream.l2
   repeat' first
   | (with_reducible exact ih0 _ _ _ _)
   | (with_reducible exact ih1 _ _ _)
   | (with_reducible exact ih2 _ _ _)
   | (with_reducible exact reply_Read.mono _ _)
   | (with_reducible exact reply_Render.mono _ _ _ _ _ _)
   | (with_reducible exact usherlaw8_tidy.mono _ _ _ _ _)
   | (with_reducible exact usherref0_SameReply.mono _ _ _ _ _ _ _ _ _)
   | (with_reducible exact LeO.refl _)
   | (with_reducible exact LeO.none _)
   | (with_reducible refine LeO.ite ?_ ?_)
   | (with_reducible refine LeO.bind ?_ (fun _ => ?_))
   | exact ih0 _ _ _ _
   | exact ih1 _ _ _
   | exact ih2 _ _ _
   | exact reply_Read.mono _ _
   | exact reply_Render.mono _ _ _ _ _ _
   | exact usherlaw8_tidy.mono _ _ _ _ _
   | exact usherref0_SameReply.mono _ _ _ _ _ _ _ _ _
   | exact LeO.none _
   | refine LeO.ite ?_ ?_
   | refine LeO.bind ?_ (fun _ => ?_)
theorem usherlaw8_ReplyStream.mono : ∀ a0 k, LeO (usherlaw8_ReplyStream.f k a0) (usherlaw8_ReplyStream.f (k + 1) a0) := by
 intro a0 k
 obtain ⟨ih0, ih1, ih2⟩ := usherlaw8_ReplyStream.mono_l k
 unfold usherlaw8_ReplyStream.f
 repeat' first
   | (with_reducible exact ih0 _ _ _ _)
   | (with_reducible exact ih1 _ _ _)
   | (with_reducible exact ih2 _ _ _)
   | (with_reducible exact reply_Read.mono _ _)
   | (with_reducible exact reply_Render.mono _ _ _ _ _ _)
   | (with_reducible exact usherlaw8_tidy.mono _ _ _ _ _)
   | (with_reducible exact usherref0_SameReply.mono _ _ _ _ _ _ _ _ _)
   | (with_reducible exact LeO.refl _)
   | (with_reducible exact LeO.none _)
   | (with_reducible refine LeO.ite ?_ ?_)
   | (with_reducible refine LeO.bind ?_ (fun _ => ?_))
   | exact ih0 _ _ _ _
   | exact ih1 _ _ _
   | exact ih2 _ _ _
   | exact reply_Read.mono _ _
   | exact reply_Render.mono _ _ _ _ _ _
   | exact usherlaw8_tidy.mono _ _ _ _ _
   | exact usherref0_SameReply.mono _ _ _ _ _ _ _ _ _
   | exact LeO.none _
   | refine LeO.ite ?_ ?_
   | refine LeO.bind ?_ (fun _ => ?_)
set_option maxHeartbeats 8000000 in
set_option maxRecDepth 100000 in
theorem usherlaw8_ReplyStream.calls [Sent] (k : Nat) (A0 : Option Addr) (c0 : Nat) (l0 : List (S24)) (r : Bool) (w : World) (hr0 : Kd.C k24 w A0 l0.length l0) (hc0 : l0.length ≤ c0) (h : usherlaw8_ReplyStream.f k l0 = some r) (hG : Glob [0, 1, 2, 5, 7, 8, 9, 16, 18, 19] w) :
  Calls Tryd.prog 12 #[.slice A0 l0.length c0] w fun e w' => e = .returned (.bool r) ∧ Below w.heap.size w w' := by
 have HG := Aq14 hG
 clear hG
 have hu24 := Tryd.underlying24
 have hu28 := Tryd.underlying28
 have hu143 := Tryd.underlying143
 have HR0 := Aq14 hr0
 have HC0 := Aq14 hc0
 clear hr0 hc0
 have HB := Aq14 (Below.refl w.heap.size w)
 have H : (if ([] : List (S24)).length < 2513169434916 then (usherlaw8_ReplyStream.l0 k l0 (⟨#[]⟩ : ByteArray) (([] : List (S24)) ++ [(⟨404, ([] : List (S26)), (⟨#[102, 105, 114, 115, 116]⟩ : ByteArray), false⟩ : S24)]) 0) else (none)) = some r := h
 clear h
 by_cases c2 : ([] : List (S24)).length < 2513169434916
 ·rw [if_pos c2] at H
  have LMc2 := Aq14 c2
  clear c2
  obtain ⟨y356, hy356⟩ : ∃ y_ : List (S24), y_ = (([] : List (S24)) ++ [(⟨404, ([] : List (S26)), (⟨#[102, 105, 114, 115, 116]⟩ : ByteArray), false⟩ : S24)]) := ⟨_, rfl⟩
  replace H : (usherlaw8_ReplyStream.l0 k l0 (⟨#[]⟩ : ByteArray) y356 0) = some r := by first | (rw [hy356]; with_reducible exact H) | (have H2_ := (Option.bind_some _ _).symm.trans H; rw [hy356]; with_reducible exact H2_) | (have H2_ := (Option.bind_some _ _).symm.trans H; with_reducible exact H2_) | with_reducible exact H | (rw [hy356]; exact H) | exact H
  have Ny356 := Aq14 hy356
  clear hy356
  have H' := Aq14 H
  clear H
  go_enter Tryd.func12, Tryd.ntmps12
  go_wp2_with (first | ((with_reducible refine gate_builtin (b := .append) (xs := #[.tmp 15, .tmp 17]) rfl ?_); (try (refine gate_guard (by rfl) ?_; dsimp only)); at_builtin; refine Kd.S_append k24 (w0 := w) w.heap.size rfl (.tmp 15) (.tmp 17) 67 24 (.agg #[(.int .i64 0), (.slice none 0 0), (.string ⟨#[]⟩), (.bool false)]) 56 rfl Tryd.underlying67 info24 rfl (by decide) (by omega) (.slice none 0 0) ([] : List (S24)) (⟨404, ([] : List (S26)), (⟨#[102, 105, 114, 115, 116]⟩ : ByteArray), false⟩ : S24) [.int .i64 404, .slice none 0 0, .string (⟨#[102, 105, 114, 115, 116]⟩ : ByteArray), .bool false] (fun _ => True) (fun _ => False) rfl rfl ?aP (fun k_ hk_ => hk_.elim) ?aF ?aO ?aB ?aS ?aL ?_; (case aP => exact k24_mkM _ _ _ (⟨404, ([] : List (S26)), (⟨#[102, 105, 114, 115, 116]⟩ : ByteArray), false⟩ : S24) (Kd.R_nil _ _ _ _ _)); (case aB => exact tq14_9); (case aF => exact (fun _ _ => trivial)); (case aO => exact ((Kd.S_nil _ _ _ _ _))); (case aS => exact (below_size tq14_9)); (case aL => have := LMc2.out; omega); intro v357 w3 ho hb hg hat; rw [← Ny356.out] at ho; have HO358 := Aq14 (ho); replace HB := Aq14 (hb); clear ho hb hg hat))
  go_loopg [4, 5] k (fun kq v4 v5 w' => ∃ (x4_1 : List (S24)) (x5_1 : Int), v5 = .int .i64 x5_1 ∧ Aside0 (usherlaw8_ReplyStream.l0 kq l0 (⟨#[]⟩ : ByteArray) x4_1 x5_1 = some r) ∧ Aside0 (kq ≤ k) ∧ Aside0 (Kd.S k24 24 w' w.heap.size (fun _ => True) v4 x4_1) ∧ Aside0 (Below w.heap.size w w'))
  case atStart => exact ⟨(y356), (0), tq14_0, H', ⟨Nat.le_refl _⟩, ⟨(tq14_5 HO358.out)⟩, ⟨tq14_9⟩⟩
  case round =>
   clear H'
   try clear c1
   try clear c2
   try clear p2
   obtain ⟨x4_1, x5_1, rfl, HA, HK1, HO_4, HB⟩ := hrel
   cases gk with
   | zero => exact absurd HA.out (by simp [usherlaw8_ReplyStream.l0])
   | succ k1 =>
    have H := HA.out
    clear HA
    simp only [usherlaw8_ReplyStream.l0] at H
    by_cases c4 : x5_1 < (l0.length : Int)
    ·rw [if_pos c4] at H
     have c4b0 : decide (x5_1 < (l0.length : Int)) = true := decide_eq_true c4
     clear c4
     by_cases c5 : 0 ≤ x5_1
     ·rw [if_pos c5] at H
      have c5b0 : decide (0 ≤ x5_1) = true := decide_eq_true c5
      clear c5
      replace H := Option.bind_eq_some_iff.mp H
      obtain ⟨⟨t360, t361, t364, t365⟩, A60, H⟩ := H
      replace H : (if x4_1.length < 2513169434916 then (usherlaw8_ReplyStream.l0 k1 l0 (⟨#[]⟩ : ByteArray) (x4_1 ++ [(⟨t360, t361, t364, t365⟩ : S24)]) (wrap64 (x5_1 + 1))) else (none)) = some r := H
      have A6 := Aq14 A60
      clear A60
      by_cases c7 : x4_1.length < 2513169434916
      ·rw [if_pos c7] at H
       have LMc7 := Aq14 c7
       clear c7
       obtain ⟨y367, hy367⟩ : ∃ y_ : List (S24), y_ = (x4_1 ++ [(⟨t360, t361, t364, t365⟩ : S24)]) := ⟨_, rfl⟩
       replace H : (usherlaw8_ReplyStream.l0 k1 l0 (⟨#[]⟩ : ByteArray) y367 (wrap64 (x5_1 + 1))) = some r := by first | (rw [hy367]; with_reducible exact H) | (have H2_ := (Option.bind_some _ _).symm.trans H; rw [hy367]; with_reducible exact H2_) | (have H2_ := (Option.bind_some _ _).symm.trans H; with_reducible exact H2_) | with_reducible exact H | (rw [hy367]; exact H) | exact H
       have Ny367 := Aq14 hy367
       clear hy367
       have H' := Aq14 H
       clear H
       have p359 : 0 ≤ (x5_1 : Int) := of_decide_eq_true tq14_1
       have q359 : x5_1 < (l0.length : Int) := of_decide_eq_true tq14_1
       obtain ⟨ad359, A359_1, c359_1, e359, hx359_0, hx359_1, hx359_2, hx359_3, hl359_1, hi359_1⟩ := at_T24 HR0.out x5_1 p359 q359
       cases e359
       replace hx359_0 := (HB.out.cell (World.block_lt_of_cell? w _ hx359_0)).trans hx359_0
       replace hx359_1 := (HB.out.cell (World.block_lt_of_cell? w _ hx359_1)).trans hx359_1
       replace hx359_2 := (HB.out.cell (World.block_lt_of_cell? w _ hx359_2)).trans hx359_2
       replace hx359_3 := (HB.out.cell (World.block_lt_of_cell? w _ hx359_3)).trans hx359_3
       have HR359_1 := Aq14 hi359_1
       have HC359_1 := Aq14 hl359_1
       clear hi359_1 hl359_1
       replace p359 := eq_true p359
       replace q359 := eq_true q359
       go_wp2_with (first | ((with_reducible refine gate_callee (f := 35) rfl ?_); refine goesL_ (some 29) rfl rfl Tryd.func35 (by kernel_rfl) rfl #[.agg #[.int .i64 ((rd_T24 l0 x5_1).f0), .slice A359_1 ((rd_T24 l0 x5_1).f1).length c359_1, .string ((rd_T24 l0 x5_1).f2), .bool ((rd_T24 l0 x5_1).f3)]] rfl tq14_a ?_; (with_reducible refine (usherlaw8_tidy.calls k1 ((rd_T24 l0 x5_1).f0) _ _ ((rd_T24 l0 x5_1).f1) ((rd_T24 l0 x5_1).f2) ((rd_T24 l0 x5_1).f3) t360 t361 t364 t365 _ ?side1 ?side2 A6.out ?side3).mono ?_); (case side1 => repeat (first | exact (Kd.C_below HR359_1.out HB.out) | (with_reducible refine Kd.C_alloc ?_ _) | (with_reducible refine Kd.C_drewN ?_ _) | (with_reducible refine Kd.C_drew ?_))); (case side2 => exact HC359_1.out); (case side3 => exact HG.out.step tq14_9 rfl); rintro e w8 ⟨v362, rfl, ho0, hb⟩; refine ⟨_, rfl, ?_⟩; replace HO_4 := Aq14 (Kd.S_elder' (tq14_5 HO_4.out) (Kd.R_base ho0) hb); have HO363 := Aq14 (Kd.R_lower ho0 (below_size tq14_9)); replace HB := Aq14 (below_step tq14_9 hb); (try clear hb); (try clear hb2); (try clear hk); (try clear hi); (try clear ho0)) | ((with_reducible refine gate_dst (N := 6) rfl ?_); (try (refine gate_guard (by rfl) ?_; dsimp only)); refine box_event ?hg (N := 6) ?hd (cs := #[.int .i64 0, .slice none 0 0, .string (⟨#[]⟩ : ByteArray), .bool false]) (t := 24) ?hr ?_; (case hd => rfl); (case hg => rfl); (case hr => first | (go_simp; done) | (go_simp; rfl)); intro gb366 hg w9 hbox hb; replace HO_4 := Aq14 (Kd.S_below (Kd.S_elderB (tq14_5 HO_4.out) gb366 (Nat.le_of_eq hg.symm)) hb); replace HO363 := Aq14 (Kd.R_below (tq14_6 HO363.out) hb); have BK366 := Aq14 (hbox); have GW366 := Aq14 ((by rw [hg]; exact (below_size tq14_9) : w.heap.size ≤ gb366)); have GE366 := Aq14 ((by rw [hg]; exact (below_size tq14_9) : w.heap.size ≤ gb366)); replace HB := Aq14 (below_step tq14_9 hb); clear hb hbox hg; have hcz10_0 : w9.cell? ⟨gb366, 0, none⟩ = some (.int .i64 0) := (blk_cell BK366.out 0).trans rfl; have hcz10_1 : w9.cell? ⟨gb366, 1, none⟩ = some (.slice none 0 0) := (blk_cell BK366.out 1).trans rfl; have hcz10_2 : w9.cell? ⟨gb366, 2, none⟩ = some (.string (⟨#[]⟩ : ByteArray)) := (blk_cell BK366.out 2).trans rfl; have hcz10_3 : w9.cell? ⟨gb366, 3, none⟩ = some (.bool false) := (blk_cell BK366.out 3).trans rfl; have hfz10_0 := blk_frozen BK366.out 0; have hfz10_1 := blk_frozen BK366.out 1; have hfz10_2 := blk_frozen BK366.out 2; have hfz10_3 := blk_frozen BK366.out 3; obtain ⟨Ao11, co11, eo11⟩ := Kd.R_slice HO363.out; subst eo11) | ((with_reducible refine gate_store (t := 24) (p := 6) rfl ?_); refine store_event (t := 24) (p := 6) (v := ?vo_w12) (w1 := ((((w9.setCell ⟨gb366, 0, none⟩ (.int .i64 t360)).setCell ⟨gb366, 1, none⟩ (.slice Ao11 t361.length co11)).setCell ⟨gb366, 2, none⟩ (.string t364)).setCell ⟨gb366, 3, none⟩ (.bool t365))) ?hg ?ho ?hn ?hr ?_; (case ho => rfl); (case hg => rfl); (case hn => rfl); (case hr => first | (go_simp; done) | (go_simp; rfl)); intro w12 hw; have n0_ : Aside0 (Kd.S k24 24 w12 w.heap.size (fun k_ => some k_ ≠ (.slice Ao11 t361.length co11 : Value).ownBlock ∧ k_ ≠ gb366) u4 x4_1) := ⟨(by rw [hw]; exact (by (with_reducible repeat (first | apply Kd.S_alloc | apply Kd.S_drewN | apply Kd.S_drew)); exact Kd.S_mono (Kd.S_far (p := ⟨gb366, 3, none⟩) (Kd.S_far (p := ⟨gb366, 2, none⟩) (Kd.S_far (p := ⟨gb366, 1, none⟩) (Kd.S_far (p := ⟨gb366, 0, none⟩) (Kd.S_mono HO_4.out (fun k_ hk => (⟨hk, hk.2⟩ : _ ∧ k_ ≠ gb366))) (fun _ hk => hk.2) (.int .i64 t360)) (fun _ hk => hk.2) (.slice Ao11 t361.length co11)) (fun _ hk => hk.2) (.string t364)) (fun _ hk => hk.2) (.bool t365)) (fun _ hk => ⟨hk.1.1.2, hk.1.2⟩)))⟩; have n1_ : Aside0 (Kd.R k26 26 w12 w.heap.size (fun _ => True) (.slice Ao11 t361.length co11) t361) := ⟨(by rw [hw]; exact (by (with_reducible repeat (first | apply Kd.R_alloc | apply Kd.R_drewN | apply Kd.R_drew)); exact Kd.R_mono (Kd.R_far (p := ⟨gb366, 3, none⟩) (Kd.R_far (p := ⟨gb366, 2, none⟩) (Kd.R_far (p := ⟨gb366, 1, none⟩) (Kd.R_far (p := ⟨gb366, 0, none⟩) (Kd.R_types HO363.out BK366.out (by decide)) (fun _ hk => hk.2) (.int .i64 t360)) (fun _ hk => hk.2) (.slice Ao11 t361.length co11)) (fun _ hk => hk.2) (.string t364)) (fun _ hk => hk.2) (.bool t365)) (fun _ hk => trivial)))⟩; have n2_ : Aside0 (w12.heap[gb366]? = some (.cells #[.int .i64 t360, .slice Ao11 t361.length co11, .string t364, .bool t365] 24 (0, 0))) := ⟨(by rw [hw]; exact (by (with_reducible repeat (first | refine blk_drewN ?_ _ | refine blk_drew ?_ | refine blk_alloc ?_ _)); refine blk_put (cs := #[.int .i64 t360, .slice Ao11 t361.length co11, .string t364, .bool false]) ?_ 3 _ rfl; (with_reducible repeat (first | refine blk_drewN ?_ _ | refine blk_drew ?_ | refine blk_alloc ?_ _)); refine blk_put (cs := #[.int .i64 t360, .slice Ao11 t361.length co11, .string (⟨#[]⟩ : ByteArray), .bool false]) ?_ 2 _ rfl; (with_reducible repeat (first | refine blk_drewN ?_ _ | refine blk_drew ?_ | refine blk_alloc ?_ _)); refine blk_put (cs := #[.int .i64 t360, .slice none 0 0, .string (⟨#[]⟩ : ByteArray), .bool false]) ?_ 1 _ rfl; (with_reducible repeat (first | refine blk_drewN ?_ _ | refine blk_drew ?_ | refine blk_alloc ?_ _)); refine blk_put (cs := #[.int .i64 0, .slice none 0 0, .string (⟨#[]⟩ : ByteArray), .bool false]) ?_ 0 _ rfl; (with_reducible repeat (first | refine blk_drewN ?_ _ | refine blk_drew ?_ | refine blk_alloc ?_ _)); exact BK366.out))⟩; have n3_ : Aside0 (Below w.heap.size w w12) := ⟨(by rw [hw]; exact (tq14_b GE366.out))⟩; clear hw; clear HO_4; clear HO363; clear BK366; clear HB; have HO_4 := n0_; have HO363 := n1_; have BK366 := n2_; have HB := n3_; clear n0_ n1_ n2_ n3_; have hcz13_0 : w12.cell? ⟨gb366, 0, none⟩ = some (.int .i64 t360) := (blk_cell BK366.out 0).trans rfl; have hcz13_1 : w12.cell? ⟨gb366, 1, none⟩ = some (.slice Ao11 t361.length co11) := (blk_cell BK366.out 1).trans rfl; have hcz13_2 : w12.cell? ⟨gb366, 2, none⟩ = some (.string t364) := (blk_cell BK366.out 2).trans rfl; have hcz13_3 : w12.cell? ⟨gb366, 3, none⟩ = some (.bool t365) := (blk_cell BK366.out 3).trans rfl; have hfz13_0 := blk_frozen BK366.out 0; have hfz13_1 := blk_frozen BK366.out 1; have hfz13_2 := blk_frozen BK366.out 2; have hfz13_3 := blk_frozen BK366.out 3) | ((with_reducible refine gate_builtin (b := .append) (xs := #[.tmp 30, .tmp 32]) rfl ?_); (try (refine gate_guard (by rfl) ?_; dsimp only)); at_builtin; refine Kd.S_append k24 (w0 := w) w.heap.size rfl (.tmp 30) (.tmp 32) 67 24 (.agg #[(.int .i64 0), (.slice none 0 0), (.string ⟨#[]⟩), (.bool false)]) 56 rfl Tryd.underlying67 info24 rfl (by decide) (by omega) u4 x4_1 (⟨t360, t361, t364, t365⟩ : S24) [.int .i64 t360, .slice Ao11 t361.length co11, .string t364, .bool t365] (fun k_ => k_ ≠ gb366) (fun k_ => some k_ = (.slice Ao11 t361.length co11 : Value).ownBlock) rfl rfl ?aP (fun k_ hk_ => ((Kd.R_mono (ok' := fun k_ => ((fun k_ => k_ ≠ gb366)) k_ ∧ some k_ ≠ (u4 : Value).ownBlock) (Kd.R_types (Kd.R_apart' (HO363.out) (Kd.S_typed HO_4.out) (by decide)) BK366.out (by decide)) (fun k_ hk => ⟨hk.2, hk.1.2⟩))).1 k_ hk_.symm) ?aF ?aO ?aB ?aS ?aL ?_; (case aP => exact k24_mkM _ _ _ (⟨t360, t361, t364, t365⟩ : S24) (Kd.R_mono (Kd.R_tight rfl (Kd.R_mono (ok' := fun k_ => ((fun k_ => k_ ≠ gb366)) k_ ∧ some k_ ≠ (u4 : Value).ownBlock) (Kd.R_types (Kd.R_apart' (HO363.out) (Kd.S_typed HO_4.out) (by decide)) BK366.out (by decide)) (fun k_ hk => ⟨hk.2, hk.1.2⟩))) (fun _ h_ => h_))); (case aB => exact (tq14_b GE366.out)); (case aF => exact (fun k_ hk => Kd.freshB (g := gb366) (o := .cells #[.int .i64 t360, .slice Ao11 t361.length co11, .string t364, .bool t365] 24 (0, 0)) (tq14_7 BK366.out) k_ hk)); (case aO => exact (by (with_reducible repeat (first | apply Kd.S_alloc | apply Kd.S_drewN | apply Kd.S_drew)); exact Kd.S_mono HO_4.out (fun k_ hk => ⟨hk.2, fun e_ => hk.1 e_⟩))); (case aS => exact (below_size (tq14_b GE366.out))); (case aL => have := LMc7.out; omega); intro v368 w14 ho hb hg hat; rw [← Ny367.out] at ho; have n0_ := Aq14 (blk_grown (g := gb366) (o := .cells #[.int .i64 t360, .slice Ao11 t361.length co11, .string t364, .bool t365] 24 (0, 0)) (tq14_7 BK366.out) hg (Kd.S_away HO_4.out (fun _ hk => hk.2))); have n1_ := Aq14 (hb); have n2_ := Aq14 (ho); clear BK366; clear HB; clear HO_4; clear HO363; have BK366 := n0_; have HB := n1_; have HO369 := n2_; clear n0_ n1_ n2_; clear ho hb hg hat))
       go_roundg k1
       case measure => have := HK1.out; omega
       case rel => exact ⟨(y367), (wrap64 (x5_1 + 1)), tq14_0, H', ⟨by have := HK1.out; omega⟩, ⟨(tq14_8 HO369.out)⟩, ⟨(tq14_b GE366.out)⟩⟩
      ·rw [if_neg c7] at H
       exact absurd H (by simp)
     ·rw [if_neg c5] at H
      exact absurd H (by simp)
    ·rw [if_neg c4] at H
     have c4b0 : decide (x5_1 < (l0.length : Int)) = false := decide_eq_false c4
     clear c4
     have H' := Aq14 H
     clear H
     go_wp2
     go_loopg [3, 7] k1 (fun kq v3 v7 w' => ∃ (x3_2 : ByteArray) (x7_2 : Int), v3 = .string x3_2 ∧ v7 = .int .i64 x7_2 ∧ Aside0 (usherlaw8_ReplyStream.l1 kq x3_2 x4_1 x7_2 = some r) ∧ Aside0 (kq ≤ k1) ∧ Aside0 (Kd.S k24 24 w' w.heap.size (fun _ => True) u4 x4_1) ∧ Aside0 (Below w.heap.size w w'))
     case atStart => exact ⟨((⟨#[]⟩ : ByteArray)), (0), tq14_0, tq14_0, H', ⟨Nat.le_refl _⟩, ⟨(tq14_5 HO_4.out)⟩, ⟨tq14_9⟩⟩
     case round =>
      clear H'
      try clear c1
      try clear c2
      try clear p2
      try clear c3
      try clear p3
      try clear q3
      try clear hx3
      try clear c4
      try clear c4b0
      try clear c5
      try clear c5b0
      try clear p6
      try clear c7
      try clear c12
      try clear hcz10_0
      try clear hcz10_1
      try clear hcz10_2
      try clear hcz10_3
      try clear hcz13_0
      try clear hcz13_1
      try clear hcz13_2
      try clear hcz13_3
      try clear hfz10_0
      try clear hfz10_1
      try clear hfz10_2
      try clear hfz10_3
      try clear hfz13_0
      try clear hfz13_1
      try clear hfz13_2
      try clear hfz13_3
      try clear hx359_0
      try clear hx359_1
      try clear hx359_2
      try clear hx359_3
      try clear p2
      try clear p359
      try clear q359
      obtain ⟨x3_2, x7_2, rfl, rfl, HA, HK2, HO_4, HB⟩ := hrel
      cases gk with
      | zero => exact absurd HA.out (by simp [usherlaw8_ReplyStream.l1])
      | succ k2 =>
       have H := HA.out
       clear HA
       simp only [usherlaw8_ReplyStream.l1] at H
       by_cases c15 : x7_2 < (x4_1.length : Int)
       ·rw [if_pos c15] at H
        have c15b0 : decide (x7_2 < (x4_1.length : Int)) = true := decide_eq_true c15
        clear c15
        by_cases c16 : 0 ≤ x7_2
        ·rw [if_pos c16] at H
         have c16b0 : decide (0 ≤ x7_2) = true := decide_eq_true c16
         clear c16
         replace H := Option.bind_eq_some_iff.mp H
         obtain ⟨⟨t371, t372⟩, A170, H⟩ := H
         replace H : (if t372.isNone = true then (if (wrap64 ((x3_2.size : Int) + (t371.size : Int))) > 16777216 then (some true) else (if x3_2.size + t371.size ≤ 9223372036854775807 then (usherlaw8_ReplyStream.l1 k2 (x3_2 ++ t371) x4_1 (wrap64 (x7_2 + 1))) else (none))) else (some false)) = some r := H
         have A17 := Aq14 A170
         clear A170
         rcases t372 with _ | q373
         ·have H1 : (if (wrap64 ((x3_2.size : Int) + (t371.size : Int))) > 16777216 then (some true) else (if x3_2.size + t371.size ≤ 9223372036854775807 then (usherlaw8_ReplyStream.l1 k2 (x3_2 ++ t371) x4_1 (wrap64 (x7_2 + 1))) else (none))) = some r := by rw [if_pos (show (none : Option Int).isNone = true by rfl)] at H; exact H
          clear H
          have H := H1
          clear H1
          try simp only [errW_none, errW_some]
          by_cases c18 : (wrap64 ((x3_2.size : Int) + (t371.size : Int))) > 16777216
          ·rw [if_pos c18] at H
           have c18b0 : decide (16777216 < (wrap64 ((x3_2.size : Int) + (t371.size : Int)))) = true := decide_eq_true c18
           clear c18
           obtain rfl := Option.some.inj H
           obtain ⟨Ao19, co19, eo19⟩ := Kd.S_slice HO_4.out
           subst eo19
           have p370 : 0 ≤ (x7_2 : Int) := of_decide_eq_true tq14_1
           have q370 : x7_2 < (x4_1.length : Int) := of_decide_eq_true tq14_1
           obtain ⟨ad370, A370_1, c370_1, e370, hx370_0, hx370_1, hx370_2, hx370_3, hl370_1, hi370_1⟩ := at_T24 (Kd.S_reads' HO_4.out).2.2 x7_2 p370 q370
           cases e370
           obtain ⟨ce370, hce370, hMe370, hcc370⟩ := Kd.S_get HO_4.out z24 x7_2 p370 (tq14_2 HO_4.out)
           obtain ⟨ve370_1, rfl, ge370_1⟩ := k24_openM hMe370
           have hv370_1 := hcc370 1 _ rfl
           rw [add_field _ _ 1 (by omega)] at hv370_1
           replace hv370_1 := Option.some.inj (hv370_1.symm.trans hx370_1)
           rw [hv370_1] at ge370_1
           have HL370_1 := Aq14 (show Kd.R k26 26 _ _ _ _ ((rd_T24 x4_1 x7_2).f1) from ge370_1)
           clear hv370_1 ge370_1
           clear hcc370 hce370
           have HR370_1 := Aq14 hi370_1
           have HC370_1 := Aq14 hl370_1
           clear hi370_1 hl370_1
           replace p370 := eq_true p370
           replace q370 := eq_true q370
           go_wp2_with (first | ((with_reducible refine gate_callee (f := 15) rfl ?_); refine goesL_ (some 45) rfl rfl Tryd.func15 (by kernel_rfl) rfl #[.agg #[.int .i64 ((rd_T24 x4_1 x7_2).f0), .slice A370_1 ((rd_T24 x4_1 x7_2).f1).length c370_1, .string ((rd_T24 x4_1 x7_2).f2), .bool ((rd_T24 x4_1 x7_2).f3)], .bool false] rfl tq14_a ?_; (with_reducible refine (reply_Render.calls k2 ((rd_T24 x4_1 x7_2).f0) _ _ ((rd_T24 x4_1 x7_2).f1) ((rd_T24 x4_1 x7_2).f2) ((rd_T24 x4_1 x7_2).f3) false t371 none _ ?side1 ?side2 A17.out ?side3).mono ?_); (case side1 => repeat (first | exact (tq14_c HR370_1.out) | (with_reducible refine Kd.C_alloc ?_ _) | (with_reducible refine Kd.C_drewN ?_ _) | (with_reducible refine Kd.C_drew ?_))); (case side2 => exact HC370_1.out); (case side3 => exact HG.out.step tq14_9 rfl); rintro e w20 ⟨rfl, hb⟩; refine ⟨_, rfl, ?_⟩; replace HO_4 := Aq14 (Kd.S_below (tq14_5 HO_4.out) hb); replace HL370_1 := Aq14 (Kd.R_below (tq14_6 HL370_1.out) hb); replace HR370_1 := Aq14 (Kd.C_below (tq14_c HR370_1.out) hb); replace HB := Aq14 (below_step tq14_9 hb); (try clear hb); (try clear hb2); (try clear hk); (try clear hi); (try simp only [errW_none, errW_some])))
           go_ret
           exact ⟨tq14_4, tq14_9⟩
          ·rw [if_neg c18] at H
           have c18b0 : decide (16777216 < (wrap64 ((x3_2.size : Int) + (t371.size : Int)))) = false := decide_eq_false c18
           clear c18
           by_cases c21 : x3_2.size + t371.size ≤ 9223372036854775807
           ·rw [if_pos c21] at H
            have c21b0 := eq_true c21
            have c21b1 : decide (x3_2.size + t371.size ≤ 9223372036854775807) = true := decide_eq_true c21
            try have c18b0w : decide (16777216 < ((x3_2.size : Int) + (t371.size : Int))) = true := by have e_ := c18b0; rwa [wrap64_of (by omega)] at e_
            try have c18b0w : decide (16777216 < ((x3_2.size : Int) + (t371.size : Int))) = false := by have e_ := c18b0; rwa [wrap64_of (by omega)] at e_
            try have c21b2 : (9223372036854775807 < x3_2.size + t371.size) = False := eq_false (Nat.not_lt.2 c21)
            have H' := Aq14 H
            clear H
            obtain ⟨Ao22, co22, eo22⟩ := Kd.S_slice HO_4.out
            subst eo22
            have p370 : 0 ≤ (x7_2 : Int) := of_decide_eq_true tq14_1
            have q370 : x7_2 < (x4_1.length : Int) := of_decide_eq_true tq14_1
            obtain ⟨ad370, A370_1, c370_1, e370, hx370_0, hx370_1, hx370_2, hx370_3, hl370_1, hi370_1⟩ := at_T24 (Kd.S_reads' HO_4.out).2.2 x7_2 p370 q370
            cases e370
            obtain ⟨ce370, hce370, hMe370, hcc370⟩ := Kd.S_get HO_4.out z24 x7_2 p370 (tq14_2 HO_4.out)
            obtain ⟨ve370_1, rfl, ge370_1⟩ := k24_openM hMe370
            have hv370_1 := hcc370 1 _ rfl
            rw [add_field _ _ 1 (by omega)] at hv370_1
            replace hv370_1 := Option.some.inj (hv370_1.symm.trans hx370_1)
            rw [hv370_1] at ge370_1
            have HL370_1 := Aq14 (show Kd.R k26 26 _ _ _ _ ((rd_T24 x4_1 x7_2).f1) from ge370_1)
            clear hv370_1 ge370_1
            clear hcc370 hce370
            have HR370_1 := Aq14 hi370_1
            have HC370_1 := Aq14 hl370_1
            clear hi370_1 hl370_1
            replace p370 := eq_true p370
            replace q370 := eq_true q370
            go_wp2_with (first | ((with_reducible refine gate_callee (f := 15) rfl ?_); refine goesL_ (some 45) rfl rfl Tryd.func15 (by kernel_rfl) rfl #[.agg #[.int .i64 ((rd_T24 x4_1 x7_2).f0), .slice A370_1 ((rd_T24 x4_1 x7_2).f1).length c370_1, .string ((rd_T24 x4_1 x7_2).f2), .bool ((rd_T24 x4_1 x7_2).f3)], .bool false] rfl tq14_a ?_; (with_reducible refine (reply_Render.calls k2 ((rd_T24 x4_1 x7_2).f0) _ _ ((rd_T24 x4_1 x7_2).f1) ((rd_T24 x4_1 x7_2).f2) ((rd_T24 x4_1 x7_2).f3) false t371 none _ ?side1 ?side2 A17.out ?side3).mono ?_); (case side1 => repeat (first | exact (tq14_c HR370_1.out) | (with_reducible refine Kd.C_alloc ?_ _) | (with_reducible refine Kd.C_drewN ?_ _) | (with_reducible refine Kd.C_drew ?_))); (case side2 => exact HC370_1.out); (case side3 => exact HG.out.step tq14_9 rfl); rintro e w23 ⟨rfl, hb⟩; refine ⟨_, rfl, ?_⟩; replace HO_4 := Aq14 (Kd.S_below (tq14_5 HO_4.out) hb); replace HL370_1 := Aq14 (Kd.R_below (tq14_6 HL370_1.out) hb); replace HR370_1 := Aq14 (Kd.C_below (tq14_c HR370_1.out) hb); replace HB := Aq14 (below_step tq14_9 hb); (try clear hb); (try clear hb2); (try clear hk); (try clear hi); (try simp only [errW_none, errW_some])))
            go_roundg k2
            case measure => have := HK1.out; have := HK2.out; omega
            case rel => exact ⟨(x3_2 ++ t371), (wrap64 (x7_2 + 1)), tq14_0, tq14_0, H', ⟨by have := HK1.out; have := HK2.out; omega⟩, ⟨(tq14_5 HO_4.out)⟩, ⟨tq14_9⟩⟩
           ·rw [if_neg c21] at H
            exact absurd H (by simp)
         ·have H1 : (some false) = some r := by rw [if_neg (show ¬ (some q373).isNone = true by simp)] at H; exact H
          clear H
          have H := H1
          clear H1
          try simp only [errW_none, errW_some]
          obtain rfl := Option.some.inj H
          obtain ⟨Ao24, co24, eo24⟩ := Kd.S_slice HO_4.out
          subst eo24
          have p370 : 0 ≤ (x7_2 : Int) := of_decide_eq_true tq14_1
          have q370 : x7_2 < (x4_1.length : Int) := of_decide_eq_true tq14_1
          obtain ⟨ad370, A370_1, c370_1, e370, hx370_0, hx370_1, hx370_2, hx370_3, hl370_1, hi370_1⟩ := at_T24 (Kd.S_reads' HO_4.out).2.2 x7_2 p370 q370
          cases e370
          obtain ⟨ce370, hce370, hMe370, hcc370⟩ := Kd.S_get HO_4.out z24 x7_2 p370 (tq14_2 HO_4.out)
          obtain ⟨ve370_1, rfl, ge370_1⟩ := k24_openM hMe370
          have hv370_1 := hcc370 1 _ rfl
          rw [add_field _ _ 1 (by omega)] at hv370_1
          replace hv370_1 := Option.some.inj (hv370_1.symm.trans hx370_1)
          rw [hv370_1] at ge370_1
          have HL370_1 := Aq14 (show Kd.R k26 26 _ _ _ _ ((rd_T24 x4_1 x7_2).f1) from ge370_1)
          clear hv370_1 ge370_1
          clear hcc370 hce370
          have HR370_1 := Aq14 hi370_1
          have HC370_1 := Aq14 hl370_1
          clear hi370_1 hl370_1
          replace p370 := eq_true p370
          replace q370 := eq_true q370
          go_wp2_with (first | ((with_reducible refine gate_callee (f := 15) rfl ?_); refine goesL_ (some 45) rfl rfl Tryd.func15 (by kernel_rfl) rfl #[.agg #[.int .i64 ((rd_T24 x4_1 x7_2).f0), .slice A370_1 ((rd_T24 x4_1 x7_2).f1).length c370_1, .string ((rd_T24 x4_1 x7_2).f2), .bool ((rd_T24 x4_1 x7_2).f3)], .bool false] rfl tq14_a ?_; (with_reducible refine (reply_Render.calls k2 ((rd_T24 x4_1 x7_2).f0) _ _ ((rd_T24 x4_1 x7_2).f1) ((rd_T24 x4_1 x7_2).f2) ((rd_T24 x4_1 x7_2).f3) false t371 (some q373) _ ?side1 ?side2 A17.out ?side3).mono ?_); (case side1 => repeat (first | exact (tq14_c HR370_1.out) | (with_reducible refine Kd.C_alloc ?_ _) | (with_reducible refine Kd.C_drewN ?_ _) | (with_reducible refine Kd.C_drew ?_))); (case side2 => exact HC370_1.out); (case side3 => exact HG.out.step tq14_9 rfl); rintro e w25 ⟨rfl, hb⟩; refine ⟨_, rfl, ?_⟩; replace HO_4 := Aq14 (Kd.S_below (tq14_5 HO_4.out) hb); replace HL370_1 := Aq14 (Kd.R_below (tq14_6 HL370_1.out) hb); replace HR370_1 := Aq14 (Kd.C_below (tq14_c HR370_1.out) hb); replace HB := Aq14 (below_step tq14_9 hb); (try clear hb); (try clear hb2); (try clear hk); (try clear hi); (try simp only [errW_none, errW_some])))
          go_ret
          exact ⟨tq14_4, tq14_9⟩
        ·rw [if_neg c16] at H
         exact absurd H (by simp)
       ·rw [if_neg c15] at H
        have c15b0 : decide (x7_2 < (x4_1.length : Int)) = false := decide_eq_false c15
        clear c15
        have H' := Aq14 H
        clear H
        obtain ⟨Ao26, co26, eo26⟩ := Kd.S_slice HO_4.out
        subst eo26
        go_wp2
        go_loopg [3, 10] k2 (fun kq v3 v10 w' => ∃ (x3_3 : ByteArray) (x10_3 : Int), v3 = .string x3_3 ∧ v10 = .int .i64 x10_3 ∧ Aside0 (usherlaw8_ReplyStream.l2 kq x3_3 x4_1 x10_3 = some r) ∧ Aside0 (kq ≤ k2) ∧ Aside0 (Kd.S k24 24 w' w.heap.size (fun _ => True) (.slice Ao26 x4_1.length co26) x4_1) ∧ Aside0 (Below w.heap.size w w'))
        case atStart => exact ⟨(x3_2), (0), tq14_0, tq14_0, H', ⟨Nat.le_refl _⟩, ⟨(tq14_5 HO_4.out)⟩, ⟨tq14_9⟩⟩
        case round =>
         clear H'
         try clear c1
         try clear c2
         try clear p2
         try clear c3
         try clear p3
         try clear q3
         try clear hx3
         try clear c4
         try clear c4b0
         try clear c5
         try clear c5b0
         try clear p6
         try clear c7
         try clear c12
         try clear c15
         try clear c15b0
         try clear c16
         try clear c16b0
         try clear c18
         try clear c18b0
         try clear c21
         try clear c21b0
         try clear c21b1
         try clear c21b2
         try clear hcz10_0
         try clear hcz10_1
         try clear hcz10_2
         try clear hcz10_3
         try clear hcz13_0
         try clear hcz13_1
         try clear hcz13_2
         try clear hcz13_3
         try clear hfz10_0
         try clear hfz10_1
         try clear hfz10_2
         try clear hfz10_3
         try clear hfz13_0
         try clear hfz13_1
         try clear hfz13_2
         try clear hfz13_3
         try clear hx359_0
         try clear hx359_1
         try clear hx359_2
         try clear hx359_3
         try clear hx370_0
         try clear hx370_1
         try clear hx370_2
         try clear hx370_3
         try clear p2
         try clear p3
         try clear p359
         try clear p370
         try clear p6
         try clear q3
         try clear q359
         try clear q370
         try clear q373
         obtain ⟨x3_3, x10_3, rfl, rfl, HA, HK3, HO_4, HB⟩ := hrel
         cases gk with
         | zero => exact absurd HA.out (by simp [usherlaw8_ReplyStream.l2])
         | succ k3 =>
          have H := HA.out
          clear HA
          simp only [usherlaw8_ReplyStream.l2] at H
          by_cases c27 : x10_3 < (x4_1.length : Int)
          ·rw [if_pos c27] at H
           have c27b0 : decide (x10_3 < (x4_1.length : Int)) = true := decide_eq_true c27
           clear c27
           replace H := Option.bind_eq_some_iff.mp H
           obtain ⟨⟨t374, t375, t378, t379, t380, t381⟩, A280, H⟩ := H
           replace H : (if 0 ≤ x10_3 then ((usherref0_SameReply.f k3 t374 t375 t378 t379 ((rd_T24 x4_1 x10_3).f0) ((rd_T24 x4_1 x10_3).f1) ((rd_T24 x4_1 x10_3).f2) ((rd_T24 x4_1 x10_3).f3)).bind fun t384 => (if t381.isNone = true then (if t384 = true then (if t380 < 1 then (some false) else (if t380 > (x3_3.size : Int) then (some false) else (if 0 ≤ t380 then (if t380 ≤ (x3_3.size : Int) then (usherlaw8_ReplyStream.l2 k3 (x3_3.extract (t380 : Int).toNat x3_3.size) x4_1 (wrap64 (x10_3 + 1))) else (none)) else (none)))) else (some false)) else (some false))) else (none)) = some r := H
           have A28 := Aq14 A280
           clear A280
           by_cases c29 : 0 ≤ x10_3
           ·rw [if_pos c29] at H
            have c29b0 : decide (0 ≤ x10_3) = true := decide_eq_true c29
            clear c29
            replace H := Option.bind_eq_some_iff.mp H
            obtain ⟨t384, A300, H⟩ := H
            replace H : (if t381.isNone = true then (if t384 = true then (if t380 < 1 then (some false) else (if t380 > (x3_3.size : Int) then (some false) else (if 0 ≤ t380 then (if t380 ≤ (x3_3.size : Int) then (usherlaw8_ReplyStream.l2 k3 (x3_3.extract (t380 : Int).toNat x3_3.size) x4_1 (wrap64 (x10_3 + 1))) else (none)) else (none)))) else (some false)) else (some false)) = some r := H
            have A30 := Aq14 A300
            clear A300
            rcases t381 with _ | q385
            ·have H1 : (if t384 = true then (if t380 < 1 then (some false) else (if t380 > (x3_3.size : Int) then (some false) else (if 0 ≤ t380 then (if t380 ≤ (x3_3.size : Int) then (usherlaw8_ReplyStream.l2 k3 (x3_3.extract (t380 : Int).toNat x3_3.size) x4_1 (wrap64 (x10_3 + 1))) else (none)) else (none)))) else (some false)) = some r := by rw [if_pos (show (none : Option Int).isNone = true by rfl)] at H; exact H
             clear H
             have H := H1
             clear H1
             try simp only [errW_none, errW_some]
             by_cases c31 : t384 = true
             ·subst c31
              have H1 : (if t380 < 1 then (some false) else (if t380 > (x3_3.size : Int) then (some false) else (if 0 ≤ t380 then (if t380 ≤ (x3_3.size : Int) then (usherlaw8_ReplyStream.l2 k3 (x3_3.extract (t380 : Int).toNat x3_3.size) x4_1 (wrap64 (x10_3 + 1))) else (none)) else (none)))) = some r := by rw [if_pos rfl] at H; exact H
              clear H
              have H := H1
              clear H1
              by_cases c32 : t380 < 1
              ·rw [if_pos c32] at H
               have c32b0 : decide (t380 < 1) = true := decide_eq_true c32
               clear c32
               obtain rfl := Option.some.inj H
               try go_wp2_with (first | ((with_reducible refine gate_callee (f := 32) rfl ?_); refine goesL_ (some 67) rfl rfl Tryd.func32 (by kernel_rfl) rfl #[.string x3_3] rfl tq14_a ?_; (with_reducible refine (reply_Read.calls k3 x3_3 t374 t375 t378 t379 t380 none _ A28.out ?side1).mono ?_); (case side1 => exact HG.out.step tq14_9 rfl); rintro e w33 ⟨v376, rfl, ho0, hb⟩; refine ⟨_, rfl, ?_⟩; replace HO_4 := Aq14 (Kd.S_elder' (tq14_5 HO_4.out) (Kd.R_base ho0) hb); have HO377 := Aq14 (Kd.R_lower ho0 (below_size tq14_9)); replace HB := Aq14 (below_step tq14_9 hb); (try clear hb); (try clear hb2); (try clear hk); (try clear hi); (try clear ho0); (try simp only [errW_none, errW_some])) | ((with_reducible refine gate_dst (N := 11) rfl ?_); (try (refine gate_guard (by rfl) ?_; dsimp only)); refine box_event ?hg (N := 11) ?hd (cs := #[.int .i64 0, .slice none 0 0, .string (⟨#[]⟩ : ByteArray), .bool false]) (t := 24) ?hr ?_; (case hd => rfl); (case hg => rfl); (case hr => first | (go_simp; done) | (go_simp; rfl)); intro gb382 hg w34 hbox hb; replace HO_4 := Aq14 (Kd.S_below (Kd.S_elderB (tq14_5 HO_4.out) gb382 (Nat.le_of_eq hg.symm)) hb); replace HO377 := Aq14 (Kd.R_below (tq14_6 HO377.out) hb); have BK382 := Aq14 (hbox); have GW382 := Aq14 ((by rw [hg]; exact (below_size tq14_9) : w.heap.size ≤ gb382)); have GE382 := Aq14 ((by rw [hg]; exact (below_size tq14_9) : w.heap.size ≤ gb382)); replace HB := Aq14 (below_step tq14_9 hb); clear hb hbox hg; have hcz35_0 : w34.cell? ⟨gb382, 0, none⟩ = some (.int .i64 0) := (blk_cell BK382.out 0).trans rfl; have hcz35_1 : w34.cell? ⟨gb382, 1, none⟩ = some (.slice none 0 0) := (blk_cell BK382.out 1).trans rfl; have hcz35_2 : w34.cell? ⟨gb382, 2, none⟩ = some (.string (⟨#[]⟩ : ByteArray)) := (blk_cell BK382.out 2).trans rfl; have hcz35_3 : w34.cell? ⟨gb382, 3, none⟩ = some (.bool false) := (blk_cell BK382.out 3).trans rfl; have hfz35_0 := blk_frozen BK382.out 0; have hfz35_1 := blk_frozen BK382.out 1; have hfz35_2 := blk_frozen BK382.out 2; have hfz35_3 := blk_frozen BK382.out 3; obtain ⟨Ao36, co36, eo36⟩ := Kd.R_slice HO377.out; subst eo36))
               have n0_ : Aside0 (Kd.S k24 24 ((((w34.setCell ⟨gb382, 0, none⟩ (.int .i64 t374)).setCell ⟨gb382, 1, none⟩ (.slice Ao36 t375.length co36)).setCell ⟨gb382, 2, none⟩ (.string t378)).setCell ⟨gb382, 3, none⟩ (.bool t379)) w.heap.size (fun k_ => some k_ ≠ (.slice Ao36 t375.length co36 : Value).ownBlock ∧ k_ ≠ gb382) (.slice Ao26 x4_1.length co26) x4_1) := ⟨by (with_reducible repeat (first | apply Kd.S_alloc | apply Kd.S_drewN | apply Kd.S_drew)); exact Kd.S_mono (Kd.S_far (p := ⟨gb382, 3, none⟩) (Kd.S_far (p := ⟨gb382, 2, none⟩) (Kd.S_far (p := ⟨gb382, 1, none⟩) (Kd.S_far (p := ⟨gb382, 0, none⟩) (Kd.S_mono HO_4.out (fun k_ hk => (⟨hk, hk.2⟩ : _ ∧ k_ ≠ gb382))) (fun _ hk => hk.2) (.int .i64 t374)) (fun _ hk => hk.2) (.slice Ao36 t375.length co36)) (fun _ hk => hk.2) (.string t378)) (fun _ hk => hk.2) (.bool t379)) (fun _ hk => ⟨hk.1.1.2, hk.1.2⟩)⟩
               have n1_ : Aside0 (Kd.R k26 26 ((((w34.setCell ⟨gb382, 0, none⟩ (.int .i64 t374)).setCell ⟨gb382, 1, none⟩ (.slice Ao36 t375.length co36)).setCell ⟨gb382, 2, none⟩ (.string t378)).setCell ⟨gb382, 3, none⟩ (.bool t379)) w.heap.size (fun _ => True) (.slice Ao36 t375.length co36) t375) := ⟨by (with_reducible repeat (first | apply Kd.R_alloc | apply Kd.R_drewN | apply Kd.R_drew)); exact Kd.R_mono (Kd.R_far (p := ⟨gb382, 3, none⟩) (Kd.R_far (p := ⟨gb382, 2, none⟩) (Kd.R_far (p := ⟨gb382, 1, none⟩) (Kd.R_far (p := ⟨gb382, 0, none⟩) (Kd.R_types HO377.out BK382.out (by decide)) (fun _ hk => hk.2) (.int .i64 t374)) (fun _ hk => hk.2) (.slice Ao36 t375.length co36)) (fun _ hk => hk.2) (.string t378)) (fun _ hk => hk.2) (.bool t379)) (fun _ hk => trivial)⟩
               have n2_ : Aside0 (((((w34.setCell ⟨gb382, 0, none⟩ (.int .i64 t374)).setCell ⟨gb382, 1, none⟩ (.slice Ao36 t375.length co36)).setCell ⟨gb382, 2, none⟩ (.string t378)).setCell ⟨gb382, 3, none⟩ (.bool t379)).heap[gb382]? = some (.cells #[.int .i64 t374, .slice Ao36 t375.length co36, .string t378, .bool t379] 24 (0, 0))) := ⟨by (with_reducible repeat (first | refine blk_drewN ?_ _ | refine blk_drew ?_ | refine blk_alloc ?_ _)); refine blk_put (cs := #[.int .i64 t374, .slice Ao36 t375.length co36, .string t378, .bool false]) ?_ 3 _ rfl; (with_reducible repeat (first | refine blk_drewN ?_ _ | refine blk_drew ?_ | refine blk_alloc ?_ _)); refine blk_put (cs := #[.int .i64 t374, .slice Ao36 t375.length co36, .string (⟨#[]⟩ : ByteArray), .bool false]) ?_ 2 _ rfl; (with_reducible repeat (first | refine blk_drewN ?_ _ | refine blk_drew ?_ | refine blk_alloc ?_ _)); refine blk_put (cs := #[.int .i64 t374, .slice none 0 0, .string (⟨#[]⟩ : ByteArray), .bool false]) ?_ 1 _ rfl; (with_reducible repeat (first | refine blk_drewN ?_ _ | refine blk_drew ?_ | refine blk_alloc ?_ _)); refine blk_put (cs := #[.int .i64 0, .slice none 0 0, .string (⟨#[]⟩ : ByteArray), .bool false]) ?_ 0 _ rfl; (with_reducible repeat (first | refine blk_drewN ?_ _ | refine blk_drew ?_ | refine blk_alloc ?_ _)); exact BK382.out⟩
               have n3_ : Aside0 (Below w.heap.size w ((((w34.setCell ⟨gb382, 0, none⟩ (.int .i64 t374)).setCell ⟨gb382, 1, none⟩ (.slice Ao36 t375.length co36)).setCell ⟨gb382, 2, none⟩ (.string t378)).setCell ⟨gb382, 3, none⟩ (.bool t379))) := ⟨(tq14_b GE382.out)⟩
               (try clear HO_4)
               (try clear HO377)
               (try clear BK382)
               (try clear HB)
               generalize ((((w34.setCell ⟨gb382, 0, none⟩ (.int .i64 t374)).setCell ⟨gb382, 1, none⟩ (.slice Ao36 t375.length co36)).setCell ⟨gb382, 2, none⟩ (.string t378)).setCell ⟨gb382, 3, none⟩ (.bool t379)) = w37 at n0_ n1_ n2_ n3_ ⊢
               have HO_4 := n0_
               have HO377 := n1_
               have BK382 := n2_
               have HB := n3_
               clear n0_ n1_ n2_ n3_
               have n0_ := Aq14 (Kd.S_drew HO_4.out)
               have n1_ := Aq14 (Kd.R_drew HO377.out)
               have n2_ := Aq14 (blk_drew BK382.out)
               have n3_ := Aq14 (below_drew1 HB.out)
               clear HO_4
               clear HO377
               clear BK382
               clear HB
               have HO_4 := n0_
               have HO377 := n1_
               have BK382 := n2_
               have HB := n3_
               clear n0_ n1_ n2_ n3_
               have p383 : 0 ≤ (x10_3 : Int) := of_decide_eq_true tq14_1
               have q383 : x10_3 < (x4_1.length : Int) := of_decide_eq_true tq14_1
               obtain ⟨ad383, A383_1, c383_1, e383, hx383_0, hx383_1, hx383_2, hx383_3, hl383_1, hi383_1⟩ := at_T24 (Kd.S_reads' HO_4.out).2.2 x10_3 p383 q383
               cases e383
               obtain ⟨ce383, hce383, hMe383, hcc383⟩ := Kd.S_get HO_4.out z24 x10_3 p383 (tq14_3 HO_4.out)
               obtain ⟨ve383_1, rfl, ge383_1⟩ := k24_openM hMe383
               have hv383_1 := hcc383 1 _ rfl
               rw [add_field _ _ 1 (by omega)] at hv383_1
               replace hv383_1 := Option.some.inj (hv383_1.symm.trans hx383_1)
               rw [hv383_1] at ge383_1
               have HL383_1 := Aq14 (show Kd.R k26 26 _ _ _ _ ((rd_T24 x4_1 x10_3).f1) from ge383_1)
               clear hv383_1 ge383_1
               clear hcc383 hce383
               have HR383_1 := Aq14 hi383_1
               have HC383_1 := Aq14 hl383_1
               clear hi383_1 hl383_1
               replace p383 := eq_true p383
               replace q383 := eq_true q383
               refine start_ (n := 7) (S := fun w' => w'.cell? ⟨gb382, 0, none⟩ = some (.int .i64 t374) ∧ w'.cell? ⟨gb382, 1, none⟩ = some (.slice Ao36 t375.length co36) ∧ w'.cell? ⟨gb382, 2, none⟩ = some (.string t378) ∧ w'.cell? ⟨gb382, 3, none⟩ = some (.bool t379) ∧ w'.cell? (ad383.add ((x10_3).toNat * 4)) = some (.int .i64 ((rd_T24 x4_1 x10_3).f0)) ∧ w'.cell? ⟨(ad383.add ((x10_3).toNat * 4)).block, (ad383.add ((x10_3).toNat * 4)).off + 1, none⟩ = some (.slice A383_1 ((rd_T24 x4_1 x10_3).f1).length c383_1) ∧ w'.cell? ⟨(ad383.add ((x10_3).toNat * 4)).block, (ad383.add ((x10_3).toNat * 4)).off + 2, none⟩ = some (.string ((rd_T24 x4_1 x10_3).f2)) ∧ w'.cell? ⟨(ad383.add ((x10_3).toNat * 4)).block, (ad383.add ((x10_3).toNat * 4)).off + 3, none⟩ = some (.bool ((rd_T24 x4_1 x10_3).f3))) (ds := []) #[false, false, false, false, false, false, false] (by kernel_rfl) rfl rfl ⟨(blk_cell BK382.out 0).trans rfl, (blk_cell BK382.out 1).trans rfl, (blk_cell BK382.out 2).trans rfl, (blk_cell BK382.out 3).trans rfl, hx383_0, hx383_1, hx383_2, hx383_3⟩ (fun hHeld => ?_)
               generalize w37.drew = w38 at HO_4 HO377 BK382 HB HL383_1 HR383_1 hx383_0 hx383_1 hx383_2 hx383_3 hHeld ⊢
               refine pure_ (i := 1) (N := some 72) (v := ?_) (a' := ?_) #[false, true, false, false, false, false, false] rfl rfl (by kernel_rfl) (fun _ _ _ h => h) (Or.inl ⟨by rfl, ?_⟩) ?_ ?_
               rotate_left
               ·intro w'
                go_simp
                with_reducible rfl
               rotate_left
               ·simp only [Act.put, List.setIfInBounds_toArray, List.set_cons_zero, List.set_cons_succ, i64_w, i32_w]
                rfl
               refine pure_ (i := 2) (N := some 73) (v := ?_) (a' := ?_) #[false, true, true, false, false, false, false] rfl rfl (by kernel_rfl) (fun _ _ _ h => h) (Or.inl ⟨by rfl, ?_⟩) ?_ ?_
               rotate_left
               ·intro w'
                go_simp
                with_reducible rfl
               rotate_left
               ·simp only [Act.put, List.setIfInBounds_toArray, List.set_cons_zero, List.set_cons_succ, i64_w, i32_w]
                rfl
               refine pure_ (i := 3) (N := some 74) (v := ?_) (a' := ?_) #[false, true, true, true, false, false, false] rfl rfl (by kernel_rfl) (fun _ _ _ h => h) (Or.inl ⟨by rfl, ?_⟩) ?_ ?_
               rotate_left
               ·intro w'
                go_simp
                with_reducible rfl
               rotate_left
               ·simp only [Act.put, List.setIfInBounds_toArray, List.set_cons_zero, List.set_cons_succ, i64_w, i32_w]
                rfl
               refine take_ (i := 0) (N := some 71) (v := ?_) (a' := ?_) #[true, true, true, true, false, false, false] rfl rfl (by kernel_rfl) (fun _ _ _ h => h) (Or.inl ⟨by rfl, ?_⟩) hHeld ?_ ?_
               rotate_left
               ·rintro w' ⟨s0, s1, s2, s3, s4, s5, s6, s7⟩
                go_simp
                with_reducible rfl
               rotate_left
               ·simp only [Act.put, List.setIfInBounds_toArray, List.set_cons_zero, List.set_cons_succ, i64_w, i32_w]
                rfl
               refine take_ (i := 4) (N := some 75) (v := ?_) (a' := ?_) #[true, true, true, true, true, false, false] rfl rfl (by kernel_rfl) (fun _ _ _ h => h) (Or.inl ⟨by rfl, ?_⟩) hHeld ?_ ?_
               rotate_left
               ·rintro w' ⟨s0, s1, s2, s3, s4, s5, s6, s7⟩
                go_simp
                with_reducible rfl
               rotate_left
               ·simp only [Act.put, List.setIfInBounds_toArray, List.set_cons_zero, List.set_cons_succ, i64_w, i32_w]
                rfl
               refine one_ (i := 5) (N := some 76) #[true, true, true, true, true, true, false] rfl rfl (by kernel_rfl) (by decide) (fun K hK => ?_)
               refine goes_ Tryd.func18 (by kernel_rfl) rfl #[.agg #[.int .i64 t374, .slice Ao36 t375.length co36, .string t378, .bool t379], .agg #[.int .i64 ((rd_T24 x4_1 x10_3).f0), .slice A383_1 ((rd_T24 x4_1 x10_3).f1).length c383_1, .string ((rd_T24 x4_1 x10_3).f2), .bool ((rd_T24 x4_1 x10_3).f3)]] (by rfl) rfl rfl tq14_a ?_
               with_reducible refine (usherref0_SameReply.calls k3 t374 _ _ t375 t378 t379 ((rd_T24 x4_1 x10_3).f0) _ _ ((rd_T24 x4_1 x10_3).f1) ((rd_T24 x4_1 x10_3).f2) ((rd_T24 x4_1 x10_3).f3) true _ ?side1 ?side2 ?side3 ?side4 A30.out).mono ?_
               (case side1 => repeat (first | exact (Kd.R_reads' HO377.out).2.2 | (with_reducible refine Kd.C_alloc ?_ _) | (with_reducible refine Kd.C_drewN ?_ _) | (with_reducible refine Kd.C_drew ?_)))
               (case side2 => exact (Kd.R_reads' HO377.out).2.1)
               (case side3 => repeat (first | exact (tq14_c HR383_1.out) | (with_reducible refine Kd.C_alloc ?_ _) | (with_reducible refine Kd.C_drewN ?_ _) | (with_reducible refine Kd.C_drew ?_)))
               (case side4 => exact HC383_1.out)
               rintro e w39 ⟨rfl, hb⟩
               have HS4_ := (hb.cell (World.block_lt_of_cell? _ _ (hHeld.2.2.2.2.1))).trans (hHeld.2.2.2.2.1)
               have HS5_ := (hb.cell (World.block_lt_of_cell? _ _ (hHeld.2.2.2.2.2.1))).trans (hHeld.2.2.2.2.2.1)
               have HS6_ := (hb.cell (World.block_lt_of_cell? _ _ (hHeld.2.2.2.2.2.2.1))).trans (hHeld.2.2.2.2.2.2.1)
               have HS7_ := (hb.cell (World.block_lt_of_cell? _ _ (hHeld.2.2.2.2.2.2.2))).trans (hHeld.2.2.2.2.2.2.2)
               refine ⟨_, rfl, ?_⟩
               have n0_ := Aq14 (Kd.S_below (tq14_5 HO_4.out) hb)
               have n1_ := Aq14 (Kd.R_below (tq14_6 HO377.out) hb)
               have n2_ := Aq14 (Kd.R_below (tq14_6 HL383_1.out) hb)
               have n3_ := Aq14 (blk_below (g := gb382) (o := .cells #[.int .i64 t374, .slice Ao36 t375.length co36, .string t378, .bool t379] 24 (0, 0)) (tq14_7 BK382.out) hb)
               have n4_ := Aq14 (Kd.C_below (tq14_c HR383_1.out) hb)
               have n5_ := Aq14 (below_step (tq14_b GE382.out) hb)
               clear HO_4
               clear HO377
               clear HL383_1
               clear BK382
               clear HR383_1
               clear HB
               have HO_4 := n0_
               have HO377 := n1_
               have HL383_1 := n2_
               have BK382 := n3_
               have HR383_1 := n4_
               have HB := n5_
               clear n0_ n1_ n2_ n3_ n4_ n5_
               (try clear hb)
               (try clear hb2)
               (try clear hk)
               (try clear hi)
               refine hK.out _ _ ⟨(blk_cell BK382.out 0).trans rfl, (blk_cell BK382.out 1).trans rfl, (blk_cell BK382.out 2).trans rfl, (blk_cell BK382.out 3).trans rfl, HS4_, HS5_, HS6_, HS7_⟩ (fun hHeld => ?_)
               clear hK K
               refine norm_ (a' := ?_) ?_ ?_
               rotate_left
               ·show Act.put _ (some 76) _ = _
                simp only [Act.put, List.setIfInBounds_toArray, List.set_cons_zero, List.set_cons_succ, i64_w, i32_w]
                rfl
               refine pure_ (i := 6) (N := some 14) (v := ?_) (a' := ?_) #[true, true, true, true, true, true, true] rfl rfl (by kernel_rfl) (fun _ _ _ h => h) (Or.inl ⟨by rfl, ?_⟩) ?_ ?_
               rotate_left
               ·intro w'
                go_simp
                with_reducible rfl
               rotate_left
               ·simp only [Act.put, List.setIfInBounds_toArray, List.set_cons_zero, List.set_cons_succ, i64_w, i32_w]
                rfl
               refine done_ (by kernel_rfl) ?_
               try go_wp2
               go_ret
               exact ⟨tq14_4, (tq14_b GE382.out)⟩
              ·rw [if_neg c32] at H
               have c32b0 : decide (t380 < 1) = false := decide_eq_false c32
               clear c32
               by_cases c40 : t380 > (x3_3.size : Int)
               ·rw [if_pos c40] at H
                have c40b0 : decide ((x3_3.size : Int) < t380) = true := decide_eq_true c40
                clear c40
                obtain rfl := Option.some.inj H
                try go_wp2_with (first | ((with_reducible refine gate_callee (f := 32) rfl ?_); refine goesL_ (some 67) rfl rfl Tryd.func32 (by kernel_rfl) rfl #[.string x3_3] rfl tq14_a ?_; (with_reducible refine (reply_Read.calls k3 x3_3 t374 t375 t378 t379 t380 none _ A28.out ?side1).mono ?_); (case side1 => exact HG.out.step tq14_9 rfl); rintro e w41 ⟨v376, rfl, ho0, hb⟩; refine ⟨_, rfl, ?_⟩; replace HO_4 := Aq14 (Kd.S_elder' (tq14_5 HO_4.out) (Kd.R_base ho0) hb); have HO377 := Aq14 (Kd.R_lower ho0 (below_size tq14_9)); replace HB := Aq14 (below_step tq14_9 hb); (try clear hb); (try clear hb2); (try clear hk); (try clear hi); (try clear ho0); (try simp only [errW_none, errW_some])) | ((with_reducible refine gate_dst (N := 11) rfl ?_); (try (refine gate_guard (by rfl) ?_; dsimp only)); refine box_event ?hg (N := 11) ?hd (cs := #[.int .i64 0, .slice none 0 0, .string (⟨#[]⟩ : ByteArray), .bool false]) (t := 24) ?hr ?_; (case hd => rfl); (case hg => rfl); (case hr => first | (go_simp; done) | (go_simp; rfl)); intro gb382 hg w42 hbox hb; replace HO_4 := Aq14 (Kd.S_below (Kd.S_elderB (tq14_5 HO_4.out) gb382 (Nat.le_of_eq hg.symm)) hb); replace HO377 := Aq14 (Kd.R_below (tq14_6 HO377.out) hb); have BK382 := Aq14 (hbox); have GW382 := Aq14 ((by rw [hg]; exact (below_size tq14_9) : w.heap.size ≤ gb382)); have GE382 := Aq14 ((by rw [hg]; exact (below_size tq14_9) : w.heap.size ≤ gb382)); replace HB := Aq14 (below_step tq14_9 hb); clear hb hbox hg; have hcz43_0 : w42.cell? ⟨gb382, 0, none⟩ = some (.int .i64 0) := (blk_cell BK382.out 0).trans rfl; have hcz43_1 : w42.cell? ⟨gb382, 1, none⟩ = some (.slice none 0 0) := (blk_cell BK382.out 1).trans rfl; have hcz43_2 : w42.cell? ⟨gb382, 2, none⟩ = some (.string (⟨#[]⟩ : ByteArray)) := (blk_cell BK382.out 2).trans rfl; have hcz43_3 : w42.cell? ⟨gb382, 3, none⟩ = some (.bool false) := (blk_cell BK382.out 3).trans rfl; have hfz43_0 := blk_frozen BK382.out 0; have hfz43_1 := blk_frozen BK382.out 1; have hfz43_2 := blk_frozen BK382.out 2; have hfz43_3 := blk_frozen BK382.out 3; obtain ⟨Ao44, co44, eo44⟩ := Kd.R_slice HO377.out; subst eo44))
                have n0_ : Aside0 (Kd.S k24 24 ((((w42.setCell ⟨gb382, 0, none⟩ (.int .i64 t374)).setCell ⟨gb382, 1, none⟩ (.slice Ao44 t375.length co44)).setCell ⟨gb382, 2, none⟩ (.string t378)).setCell ⟨gb382, 3, none⟩ (.bool t379)) w.heap.size (fun k_ => some k_ ≠ (.slice Ao44 t375.length co44 : Value).ownBlock ∧ k_ ≠ gb382) (.slice Ao26 x4_1.length co26) x4_1) := ⟨by (with_reducible repeat (first | apply Kd.S_alloc | apply Kd.S_drewN | apply Kd.S_drew)); exact Kd.S_mono (Kd.S_far (p := ⟨gb382, 3, none⟩) (Kd.S_far (p := ⟨gb382, 2, none⟩) (Kd.S_far (p := ⟨gb382, 1, none⟩) (Kd.S_far (p := ⟨gb382, 0, none⟩) (Kd.S_mono HO_4.out (fun k_ hk => (⟨hk, hk.2⟩ : _ ∧ k_ ≠ gb382))) (fun _ hk => hk.2) (.int .i64 t374)) (fun _ hk => hk.2) (.slice Ao44 t375.length co44)) (fun _ hk => hk.2) (.string t378)) (fun _ hk => hk.2) (.bool t379)) (fun _ hk => ⟨hk.1.1.2, hk.1.2⟩)⟩
                have n1_ : Aside0 (Kd.R k26 26 ((((w42.setCell ⟨gb382, 0, none⟩ (.int .i64 t374)).setCell ⟨gb382, 1, none⟩ (.slice Ao44 t375.length co44)).setCell ⟨gb382, 2, none⟩ (.string t378)).setCell ⟨gb382, 3, none⟩ (.bool t379)) w.heap.size (fun _ => True) (.slice Ao44 t375.length co44) t375) := ⟨by (with_reducible repeat (first | apply Kd.R_alloc | apply Kd.R_drewN | apply Kd.R_drew)); exact Kd.R_mono (Kd.R_far (p := ⟨gb382, 3, none⟩) (Kd.R_far (p := ⟨gb382, 2, none⟩) (Kd.R_far (p := ⟨gb382, 1, none⟩) (Kd.R_far (p := ⟨gb382, 0, none⟩) (Kd.R_types HO377.out BK382.out (by decide)) (fun _ hk => hk.2) (.int .i64 t374)) (fun _ hk => hk.2) (.slice Ao44 t375.length co44)) (fun _ hk => hk.2) (.string t378)) (fun _ hk => hk.2) (.bool t379)) (fun _ hk => trivial)⟩
                have n2_ : Aside0 (((((w42.setCell ⟨gb382, 0, none⟩ (.int .i64 t374)).setCell ⟨gb382, 1, none⟩ (.slice Ao44 t375.length co44)).setCell ⟨gb382, 2, none⟩ (.string t378)).setCell ⟨gb382, 3, none⟩ (.bool t379)).heap[gb382]? = some (.cells #[.int .i64 t374, .slice Ao44 t375.length co44, .string t378, .bool t379] 24 (0, 0))) := ⟨by (with_reducible repeat (first | refine blk_drewN ?_ _ | refine blk_drew ?_ | refine blk_alloc ?_ _)); refine blk_put (cs := #[.int .i64 t374, .slice Ao44 t375.length co44, .string t378, .bool false]) ?_ 3 _ rfl; (with_reducible repeat (first | refine blk_drewN ?_ _ | refine blk_drew ?_ | refine blk_alloc ?_ _)); refine blk_put (cs := #[.int .i64 t374, .slice Ao44 t375.length co44, .string (⟨#[]⟩ : ByteArray), .bool false]) ?_ 2 _ rfl; (with_reducible repeat (first | refine blk_drewN ?_ _ | refine blk_drew ?_ | refine blk_alloc ?_ _)); refine blk_put (cs := #[.int .i64 t374, .slice none 0 0, .string (⟨#[]⟩ : ByteArray), .bool false]) ?_ 1 _ rfl; (with_reducible repeat (first | refine blk_drewN ?_ _ | refine blk_drew ?_ | refine blk_alloc ?_ _)); refine blk_put (cs := #[.int .i64 0, .slice none 0 0, .string (⟨#[]⟩ : ByteArray), .bool false]) ?_ 0 _ rfl; (with_reducible repeat (first | refine blk_drewN ?_ _ | refine blk_drew ?_ | refine blk_alloc ?_ _)); exact BK382.out⟩
                have n3_ : Aside0 (Below w.heap.size w ((((w42.setCell ⟨gb382, 0, none⟩ (.int .i64 t374)).setCell ⟨gb382, 1, none⟩ (.slice Ao44 t375.length co44)).setCell ⟨gb382, 2, none⟩ (.string t378)).setCell ⟨gb382, 3, none⟩ (.bool t379))) := ⟨(tq14_b GE382.out)⟩
                (try clear HO_4)
                (try clear HO377)
                (try clear BK382)
                (try clear HB)
                generalize ((((w42.setCell ⟨gb382, 0, none⟩ (.int .i64 t374)).setCell ⟨gb382, 1, none⟩ (.slice Ao44 t375.length co44)).setCell ⟨gb382, 2, none⟩ (.string t378)).setCell ⟨gb382, 3, none⟩ (.bool t379)) = w45 at n0_ n1_ n2_ n3_ ⊢
                have HO_4 := n0_
                have HO377 := n1_
                have BK382 := n2_
                have HB := n3_
                clear n0_ n1_ n2_ n3_
                have n0_ := Aq14 (Kd.S_drew HO_4.out)
                have n1_ := Aq14 (Kd.R_drew HO377.out)
                have n2_ := Aq14 (blk_drew BK382.out)
                have n3_ := Aq14 (below_drew1 HB.out)
                clear HO_4
                clear HO377
                clear BK382
                clear HB
                have HO_4 := n0_
                have HO377 := n1_
                have BK382 := n2_
                have HB := n3_
                clear n0_ n1_ n2_ n3_
                have p383 : 0 ≤ (x10_3 : Int) := of_decide_eq_true tq14_1
                have q383 : x10_3 < (x4_1.length : Int) := of_decide_eq_true tq14_1
                obtain ⟨ad383, A383_1, c383_1, e383, hx383_0, hx383_1, hx383_2, hx383_3, hl383_1, hi383_1⟩ := at_T24 (Kd.S_reads' HO_4.out).2.2 x10_3 p383 q383
                cases e383
                obtain ⟨ce383, hce383, hMe383, hcc383⟩ := Kd.S_get HO_4.out z24 x10_3 p383 (tq14_3 HO_4.out)
                obtain ⟨ve383_1, rfl, ge383_1⟩ := k24_openM hMe383
                have hv383_1 := hcc383 1 _ rfl
                rw [add_field _ _ 1 (by omega)] at hv383_1
                replace hv383_1 := Option.some.inj (hv383_1.symm.trans hx383_1)
                rw [hv383_1] at ge383_1
                have HL383_1 := Aq14 (show Kd.R k26 26 _ _ _ _ ((rd_T24 x4_1 x10_3).f1) from ge383_1)
                clear hv383_1 ge383_1
                clear hcc383 hce383
                have HR383_1 := Aq14 hi383_1
                have HC383_1 := Aq14 hl383_1
                clear hi383_1 hl383_1
                replace p383 := eq_true p383
                replace q383 := eq_true q383
                refine start_ (n := 7) (S := fun w' => w'.cell? ⟨gb382, 0, none⟩ = some (.int .i64 t374) ∧ w'.cell? ⟨gb382, 1, none⟩ = some (.slice Ao44 t375.length co44) ∧ w'.cell? ⟨gb382, 2, none⟩ = some (.string t378) ∧ w'.cell? ⟨gb382, 3, none⟩ = some (.bool t379) ∧ w'.cell? (ad383.add ((x10_3).toNat * 4)) = some (.int .i64 ((rd_T24 x4_1 x10_3).f0)) ∧ w'.cell? ⟨(ad383.add ((x10_3).toNat * 4)).block, (ad383.add ((x10_3).toNat * 4)).off + 1, none⟩ = some (.slice A383_1 ((rd_T24 x4_1 x10_3).f1).length c383_1) ∧ w'.cell? ⟨(ad383.add ((x10_3).toNat * 4)).block, (ad383.add ((x10_3).toNat * 4)).off + 2, none⟩ = some (.string ((rd_T24 x4_1 x10_3).f2)) ∧ w'.cell? ⟨(ad383.add ((x10_3).toNat * 4)).block, (ad383.add ((x10_3).toNat * 4)).off + 3, none⟩ = some (.bool ((rd_T24 x4_1 x10_3).f3))) (ds := []) #[false, false, false, false, false, false, false] (by kernel_rfl) rfl rfl ⟨(blk_cell BK382.out 0).trans rfl, (blk_cell BK382.out 1).trans rfl, (blk_cell BK382.out 2).trans rfl, (blk_cell BK382.out 3).trans rfl, hx383_0, hx383_1, hx383_2, hx383_3⟩ (fun hHeld => ?_)
                generalize w45.drew = w46 at HO_4 HO377 BK382 HB HL383_1 HR383_1 hx383_0 hx383_1 hx383_2 hx383_3 hHeld ⊢
                refine pure_ (i := 1) (N := some 72) (v := ?_) (a' := ?_) #[false, true, false, false, false, false, false] rfl rfl (by kernel_rfl) (fun _ _ _ h => h) (Or.inl ⟨by rfl, ?_⟩) ?_ ?_
                rotate_left
                ·intro w'
                 go_simp
                 with_reducible rfl
                rotate_left
                ·simp only [Act.put, List.setIfInBounds_toArray, List.set_cons_zero, List.set_cons_succ, i64_w, i32_w]
                 rfl
                refine pure_ (i := 2) (N := some 73) (v := ?_) (a' := ?_) #[false, true, true, false, false, false, false] rfl rfl (by kernel_rfl) (fun _ _ _ h => h) (Or.inl ⟨by rfl, ?_⟩) ?_ ?_
                rotate_left
                ·intro w'
                 go_simp
                 with_reducible rfl
                rotate_left
                ·simp only [Act.put, List.setIfInBounds_toArray, List.set_cons_zero, List.set_cons_succ, i64_w, i32_w]
                 rfl
                refine pure_ (i := 3) (N := some 74) (v := ?_) (a' := ?_) #[false, true, true, true, false, false, false] rfl rfl (by kernel_rfl) (fun _ _ _ h => h) (Or.inl ⟨by rfl, ?_⟩) ?_ ?_
                rotate_left
                ·intro w'
                 go_simp
                 with_reducible rfl
                rotate_left
                ·simp only [Act.put, List.setIfInBounds_toArray, List.set_cons_zero, List.set_cons_succ, i64_w, i32_w]
                 rfl
                refine take_ (i := 0) (N := some 71) (v := ?_) (a' := ?_) #[true, true, true, true, false, false, false] rfl rfl (by kernel_rfl) (fun _ _ _ h => h) (Or.inl ⟨by rfl, ?_⟩) hHeld ?_ ?_
                rotate_left
                ·rintro w' ⟨s0, s1, s2, s3, s4, s5, s6, s7⟩
                 go_simp
                 with_reducible rfl
                rotate_left
                ·simp only [Act.put, List.setIfInBounds_toArray, List.set_cons_zero, List.set_cons_succ, i64_w, i32_w]
                 rfl
                refine take_ (i := 4) (N := some 75) (v := ?_) (a' := ?_) #[true, true, true, true, true, false, false] rfl rfl (by kernel_rfl) (fun _ _ _ h => h) (Or.inl ⟨by rfl, ?_⟩) hHeld ?_ ?_
                rotate_left
                ·rintro w' ⟨s0, s1, s2, s3, s4, s5, s6, s7⟩
                 go_simp
                 with_reducible rfl
                rotate_left
                ·simp only [Act.put, List.setIfInBounds_toArray, List.set_cons_zero, List.set_cons_succ, i64_w, i32_w]
                 rfl
                refine one_ (i := 5) (N := some 76) #[true, true, true, true, true, true, false] rfl rfl (by kernel_rfl) (by decide) (fun K hK => ?_)
                refine goes_ Tryd.func18 (by kernel_rfl) rfl #[.agg #[.int .i64 t374, .slice Ao44 t375.length co44, .string t378, .bool t379], .agg #[.int .i64 ((rd_T24 x4_1 x10_3).f0), .slice A383_1 ((rd_T24 x4_1 x10_3).f1).length c383_1, .string ((rd_T24 x4_1 x10_3).f2), .bool ((rd_T24 x4_1 x10_3).f3)]] (by rfl) rfl rfl tq14_a ?_
                with_reducible refine (usherref0_SameReply.calls k3 t374 _ _ t375 t378 t379 ((rd_T24 x4_1 x10_3).f0) _ _ ((rd_T24 x4_1 x10_3).f1) ((rd_T24 x4_1 x10_3).f2) ((rd_T24 x4_1 x10_3).f3) true _ ?side1 ?side2 ?side3 ?side4 A30.out).mono ?_
                (case side1 => repeat (first | exact (Kd.R_reads' HO377.out).2.2 | (with_reducible refine Kd.C_alloc ?_ _) | (with_reducible refine Kd.C_drewN ?_ _) | (with_reducible refine Kd.C_drew ?_)))
                (case side2 => exact (Kd.R_reads' HO377.out).2.1)
                (case side3 => repeat (first | exact (tq14_c HR383_1.out) | (with_reducible refine Kd.C_alloc ?_ _) | (with_reducible refine Kd.C_drewN ?_ _) | (with_reducible refine Kd.C_drew ?_)))
                (case side4 => exact HC383_1.out)
                rintro e w47 ⟨rfl, hb⟩
                have HS4_ := (hb.cell (World.block_lt_of_cell? _ _ (hHeld.2.2.2.2.1))).trans (hHeld.2.2.2.2.1)
                have HS5_ := (hb.cell (World.block_lt_of_cell? _ _ (hHeld.2.2.2.2.2.1))).trans (hHeld.2.2.2.2.2.1)
                have HS6_ := (hb.cell (World.block_lt_of_cell? _ _ (hHeld.2.2.2.2.2.2.1))).trans (hHeld.2.2.2.2.2.2.1)
                have HS7_ := (hb.cell (World.block_lt_of_cell? _ _ (hHeld.2.2.2.2.2.2.2))).trans (hHeld.2.2.2.2.2.2.2)
                refine ⟨_, rfl, ?_⟩
                have n0_ := Aq14 (Kd.S_below (tq14_5 HO_4.out) hb)
                have n1_ := Aq14 (Kd.R_below (tq14_6 HO377.out) hb)
                have n2_ := Aq14 (Kd.R_below (tq14_6 HL383_1.out) hb)
                have n3_ := Aq14 (blk_below (g := gb382) (o := .cells #[.int .i64 t374, .slice Ao44 t375.length co44, .string t378, .bool t379] 24 (0, 0)) (tq14_7 BK382.out) hb)
                have n4_ := Aq14 (Kd.C_below (tq14_c HR383_1.out) hb)
                have n5_ := Aq14 (below_step (tq14_b GE382.out) hb)
                clear HO_4
                clear HO377
                clear HL383_1
                clear BK382
                clear HR383_1
                clear HB
                have HO_4 := n0_
                have HO377 := n1_
                have HL383_1 := n2_
                have BK382 := n3_
                have HR383_1 := n4_
                have HB := n5_
                clear n0_ n1_ n2_ n3_ n4_ n5_
                (try clear hb)
                (try clear hb2)
                (try clear hk)
                (try clear hi)
                refine hK.out _ _ ⟨(blk_cell BK382.out 0).trans rfl, (blk_cell BK382.out 1).trans rfl, (blk_cell BK382.out 2).trans rfl, (blk_cell BK382.out 3).trans rfl, HS4_, HS5_, HS6_, HS7_⟩ (fun hHeld => ?_)
                clear hK K
                refine norm_ (a' := ?_) ?_ ?_
                rotate_left
                ·show Act.put _ (some 76) _ = _
                 simp only [Act.put, List.setIfInBounds_toArray, List.set_cons_zero, List.set_cons_succ, i64_w, i32_w]
                 rfl
                refine pure_ (i := 6) (N := some 14) (v := ?_) (a' := ?_) #[true, true, true, true, true, true, true] rfl rfl (by kernel_rfl) (fun _ _ _ h => h) (Or.inl ⟨by rfl, ?_⟩) ?_ ?_
                rotate_left
                ·intro w'
                 go_simp
                 with_reducible rfl
                rotate_left
                ·simp only [Act.put, List.setIfInBounds_toArray, List.set_cons_zero, List.set_cons_succ, i64_w, i32_w]
                 rfl
                refine done_ (by kernel_rfl) ?_
                try go_wp2
                go_ret
                exact ⟨tq14_4, (tq14_b GE382.out)⟩
               ·rw [if_neg c40] at H
                have c40b0 : decide ((x3_3.size : Int) < t380) = false := decide_eq_false c40
                clear c40
                by_cases c48 : 0 ≤ t380
                ·rw [if_pos c48] at H
                 have c48b0 := eq_true c48
                 have c48b1 : decide (0 ≤ t380) = true := decide_eq_true c48
                 clear c48
                 by_cases c49 : t380 ≤ (x3_3.size : Int)
                 ·rw [if_pos c49] at H
                  have c49b0 := eq_true c49
                  have c49b1 : decide (t380 ≤ (x3_3.size : Int)) = true := decide_eq_true c49
                  clear c49
                  have H' := Aq14 H
                  clear H
                  try go_wp2_with (first | ((with_reducible refine gate_callee (f := 32) rfl ?_); refine goesL_ (some 67) rfl rfl Tryd.func32 (by kernel_rfl) rfl #[.string x3_3] rfl tq14_a ?_; (with_reducible refine (reply_Read.calls k3 x3_3 t374 t375 t378 t379 t380 none _ A28.out ?side1).mono ?_); (case side1 => exact HG.out.step tq14_9 rfl); rintro e w50 ⟨v376, rfl, ho0, hb⟩; refine ⟨_, rfl, ?_⟩; replace HO_4 := Aq14 (Kd.S_elder' (tq14_5 HO_4.out) (Kd.R_base ho0) hb); have HO377 := Aq14 (Kd.R_lower ho0 (below_size tq14_9)); replace HB := Aq14 (below_step tq14_9 hb); (try clear hb); (try clear hb2); (try clear hk); (try clear hi); (try clear ho0); (try simp only [errW_none, errW_some])) | ((with_reducible refine gate_dst (N := 11) rfl ?_); (try (refine gate_guard (by rfl) ?_; dsimp only)); refine box_event ?hg (N := 11) ?hd (cs := #[.int .i64 0, .slice none 0 0, .string (⟨#[]⟩ : ByteArray), .bool false]) (t := 24) ?hr ?_; (case hd => rfl); (case hg => rfl); (case hr => first | (go_simp; done) | (go_simp; rfl)); intro gb382 hg w51 hbox hb; replace HO_4 := Aq14 (Kd.S_below (Kd.S_elderB (tq14_5 HO_4.out) gb382 (Nat.le_of_eq hg.symm)) hb); replace HO377 := Aq14 (Kd.R_below (tq14_6 HO377.out) hb); have BK382 := Aq14 (hbox); have GW382 := Aq14 ((by rw [hg]; exact (below_size tq14_9) : w.heap.size ≤ gb382)); have GE382 := Aq14 ((by rw [hg]; exact (below_size tq14_9) : w.heap.size ≤ gb382)); replace HB := Aq14 (below_step tq14_9 hb); clear hb hbox hg; have hcz52_0 : w51.cell? ⟨gb382, 0, none⟩ = some (.int .i64 0) := (blk_cell BK382.out 0).trans rfl; have hcz52_1 : w51.cell? ⟨gb382, 1, none⟩ = some (.slice none 0 0) := (blk_cell BK382.out 1).trans rfl; have hcz52_2 : w51.cell? ⟨gb382, 2, none⟩ = some (.string (⟨#[]⟩ : ByteArray)) := (blk_cell BK382.out 2).trans rfl; have hcz52_3 : w51.cell? ⟨gb382, 3, none⟩ = some (.bool false) := (blk_cell BK382.out 3).trans rfl; have hfz52_0 := blk_frozen BK382.out 0; have hfz52_1 := blk_frozen BK382.out 1; have hfz52_2 := blk_frozen BK382.out 2; have hfz52_3 := blk_frozen BK382.out 3; obtain ⟨Ao53, co53, eo53⟩ := Kd.R_slice HO377.out; subst eo53))
                  have n0_ : Aside0 (Kd.S k24 24 ((((w51.setCell ⟨gb382, 0, none⟩ (.int .i64 t374)).setCell ⟨gb382, 1, none⟩ (.slice Ao53 t375.length co53)).setCell ⟨gb382, 2, none⟩ (.string t378)).setCell ⟨gb382, 3, none⟩ (.bool t379)) w.heap.size (fun k_ => some k_ ≠ (.slice Ao53 t375.length co53 : Value).ownBlock ∧ k_ ≠ gb382) (.slice Ao26 x4_1.length co26) x4_1) := ⟨by (with_reducible repeat (first | apply Kd.S_alloc | apply Kd.S_drewN | apply Kd.S_drew)); exact Kd.S_mono (Kd.S_far (p := ⟨gb382, 3, none⟩) (Kd.S_far (p := ⟨gb382, 2, none⟩) (Kd.S_far (p := ⟨gb382, 1, none⟩) (Kd.S_far (p := ⟨gb382, 0, none⟩) (Kd.S_mono HO_4.out (fun k_ hk => (⟨hk, hk.2⟩ : _ ∧ k_ ≠ gb382))) (fun _ hk => hk.2) (.int .i64 t374)) (fun _ hk => hk.2) (.slice Ao53 t375.length co53)) (fun _ hk => hk.2) (.string t378)) (fun _ hk => hk.2) (.bool t379)) (fun _ hk => ⟨hk.1.1.2, hk.1.2⟩)⟩
                  have n1_ : Aside0 (Kd.R k26 26 ((((w51.setCell ⟨gb382, 0, none⟩ (.int .i64 t374)).setCell ⟨gb382, 1, none⟩ (.slice Ao53 t375.length co53)).setCell ⟨gb382, 2, none⟩ (.string t378)).setCell ⟨gb382, 3, none⟩ (.bool t379)) w.heap.size (fun _ => True) (.slice Ao53 t375.length co53) t375) := ⟨by (with_reducible repeat (first | apply Kd.R_alloc | apply Kd.R_drewN | apply Kd.R_drew)); exact Kd.R_mono (Kd.R_far (p := ⟨gb382, 3, none⟩) (Kd.R_far (p := ⟨gb382, 2, none⟩) (Kd.R_far (p := ⟨gb382, 1, none⟩) (Kd.R_far (p := ⟨gb382, 0, none⟩) (Kd.R_types HO377.out BK382.out (by decide)) (fun _ hk => hk.2) (.int .i64 t374)) (fun _ hk => hk.2) (.slice Ao53 t375.length co53)) (fun _ hk => hk.2) (.string t378)) (fun _ hk => hk.2) (.bool t379)) (fun _ hk => trivial)⟩
                  have n2_ : Aside0 (((((w51.setCell ⟨gb382, 0, none⟩ (.int .i64 t374)).setCell ⟨gb382, 1, none⟩ (.slice Ao53 t375.length co53)).setCell ⟨gb382, 2, none⟩ (.string t378)).setCell ⟨gb382, 3, none⟩ (.bool t379)).heap[gb382]? = some (.cells #[.int .i64 t374, .slice Ao53 t375.length co53, .string t378, .bool t379] 24 (0, 0))) := ⟨by (with_reducible repeat (first | refine blk_drewN ?_ _ | refine blk_drew ?_ | refine blk_alloc ?_ _)); refine blk_put (cs := #[.int .i64 t374, .slice Ao53 t375.length co53, .string t378, .bool false]) ?_ 3 _ rfl; (with_reducible repeat (first | refine blk_drewN ?_ _ | refine blk_drew ?_ | refine blk_alloc ?_ _)); refine blk_put (cs := #[.int .i64 t374, .slice Ao53 t375.length co53, .string (⟨#[]⟩ : ByteArray), .bool false]) ?_ 2 _ rfl; (with_reducible repeat (first | refine blk_drewN ?_ _ | refine blk_drew ?_ | refine blk_alloc ?_ _)); refine blk_put (cs := #[.int .i64 t374, .slice none 0 0, .string (⟨#[]⟩ : ByteArray), .bool false]) ?_ 1 _ rfl; (with_reducible repeat (first | refine blk_drewN ?_ _ | refine blk_drew ?_ | refine blk_alloc ?_ _)); refine blk_put (cs := #[.int .i64 0, .slice none 0 0, .string (⟨#[]⟩ : ByteArray), .bool false]) ?_ 0 _ rfl; (with_reducible repeat (first | refine blk_drewN ?_ _ | refine blk_drew ?_ | refine blk_alloc ?_ _)); exact BK382.out⟩
                  have n3_ : Aside0 (Below w.heap.size w ((((w51.setCell ⟨gb382, 0, none⟩ (.int .i64 t374)).setCell ⟨gb382, 1, none⟩ (.slice Ao53 t375.length co53)).setCell ⟨gb382, 2, none⟩ (.string t378)).setCell ⟨gb382, 3, none⟩ (.bool t379))) := ⟨(tq14_b GE382.out)⟩
                  (try clear HO_4)
                  (try clear HO377)
                  (try clear BK382)
                  (try clear HB)
                  generalize ((((w51.setCell ⟨gb382, 0, none⟩ (.int .i64 t374)).setCell ⟨gb382, 1, none⟩ (.slice Ao53 t375.length co53)).setCell ⟨gb382, 2, none⟩ (.string t378)).setCell ⟨gb382, 3, none⟩ (.bool t379)) = w54 at n0_ n1_ n2_ n3_ ⊢
                  have HO_4 := n0_
                  have HO377 := n1_
                  have BK382 := n2_
                  have HB := n3_
                  clear n0_ n1_ n2_ n3_
                  have n0_ := Aq14 (Kd.S_drew HO_4.out)
                  have n1_ := Aq14 (Kd.R_drew HO377.out)
                  have n2_ := Aq14 (blk_drew BK382.out)
                  have n3_ := Aq14 (below_drew1 HB.out)
                  clear HO_4
                  clear HO377
                  clear BK382
                  clear HB
                  have HO_4 := n0_
                  have HO377 := n1_
                  have BK382 := n2_
                  have HB := n3_
                  clear n0_ n1_ n2_ n3_
                  have p383 : 0 ≤ (x10_3 : Int) := of_decide_eq_true tq14_1
                  have q383 : x10_3 < (x4_1.length : Int) := of_decide_eq_true tq14_1
                  obtain ⟨ad383, A383_1, c383_1, e383, hx383_0, hx383_1, hx383_2, hx383_3, hl383_1, hi383_1⟩ := at_T24 (Kd.S_reads' HO_4.out).2.2 x10_3 p383 q383
                  cases e383
                  obtain ⟨ce383, hce383, hMe383, hcc383⟩ := Kd.S_get HO_4.out z24 x10_3 p383 (tq14_3 HO_4.out)
                  obtain ⟨ve383_1, rfl, ge383_1⟩ := k24_openM hMe383
                  have hv383_1 := hcc383 1 _ rfl
                  rw [add_field _ _ 1 (by omega)] at hv383_1
                  replace hv383_1 := Option.some.inj (hv383_1.symm.trans hx383_1)
                  rw [hv383_1] at ge383_1
                  have HL383_1 := Aq14 (show Kd.R k26 26 _ _ _ _ ((rd_T24 x4_1 x10_3).f1) from ge383_1)
                  clear hv383_1 ge383_1
                  clear hcc383 hce383
                  have HR383_1 := Aq14 hi383_1
                  have HC383_1 := Aq14 hl383_1
                  clear hi383_1 hl383_1
                  replace p383 := eq_true p383
                  replace q383 := eq_true q383
                  refine start_ (n := 7) (S := fun w' => w'.cell? ⟨gb382, 0, none⟩ = some (.int .i64 t374) ∧ w'.cell? ⟨gb382, 1, none⟩ = some (.slice Ao53 t375.length co53) ∧ w'.cell? ⟨gb382, 2, none⟩ = some (.string t378) ∧ w'.cell? ⟨gb382, 3, none⟩ = some (.bool t379) ∧ w'.cell? (ad383.add ((x10_3).toNat * 4)) = some (.int .i64 ((rd_T24 x4_1 x10_3).f0)) ∧ w'.cell? ⟨(ad383.add ((x10_3).toNat * 4)).block, (ad383.add ((x10_3).toNat * 4)).off + 1, none⟩ = some (.slice A383_1 ((rd_T24 x4_1 x10_3).f1).length c383_1) ∧ w'.cell? ⟨(ad383.add ((x10_3).toNat * 4)).block, (ad383.add ((x10_3).toNat * 4)).off + 2, none⟩ = some (.string ((rd_T24 x4_1 x10_3).f2)) ∧ w'.cell? ⟨(ad383.add ((x10_3).toNat * 4)).block, (ad383.add ((x10_3).toNat * 4)).off + 3, none⟩ = some (.bool ((rd_T24 x4_1 x10_3).f3))) (ds := []) #[false, false, false, false, false, false, false] (by kernel_rfl) rfl rfl ⟨(blk_cell BK382.out 0).trans rfl, (blk_cell BK382.out 1).trans rfl, (blk_cell BK382.out 2).trans rfl, (blk_cell BK382.out 3).trans rfl, hx383_0, hx383_1, hx383_2, hx383_3⟩ (fun hHeld => ?_)
                  generalize w54.drew = w55 at HO_4 HO377 BK382 HB HL383_1 HR383_1 hx383_0 hx383_1 hx383_2 hx383_3 hHeld ⊢
                  refine pure_ (i := 1) (N := some 72) (v := ?_) (a' := ?_) #[false, true, false, false, false, false, false] rfl rfl (by kernel_rfl) (fun _ _ _ h => h) (Or.inl ⟨by rfl, ?_⟩) ?_ ?_
                  rotate_left
                  ·intro w'
                   go_simp
                   with_reducible rfl
                  rotate_left
                  ·simp only [Act.put, List.setIfInBounds_toArray, List.set_cons_zero, List.set_cons_succ, i64_w, i32_w]
                   rfl
                  refine pure_ (i := 2) (N := some 73) (v := ?_) (a' := ?_) #[false, true, true, false, false, false, false] rfl rfl (by kernel_rfl) (fun _ _ _ h => h) (Or.inl ⟨by rfl, ?_⟩) ?_ ?_
                  rotate_left
                  ·intro w'
                   go_simp
                   with_reducible rfl
                  rotate_left
                  ·simp only [Act.put, List.setIfInBounds_toArray, List.set_cons_zero, List.set_cons_succ, i64_w, i32_w]
                   rfl
                  refine pure_ (i := 3) (N := some 74) (v := ?_) (a' := ?_) #[false, true, true, true, false, false, false] rfl rfl (by kernel_rfl) (fun _ _ _ h => h) (Or.inl ⟨by rfl, ?_⟩) ?_ ?_
                  rotate_left
                  ·intro w'
                   go_simp
                   with_reducible rfl
                  rotate_left
                  ·simp only [Act.put, List.setIfInBounds_toArray, List.set_cons_zero, List.set_cons_succ, i64_w, i32_w]
                   rfl
                  refine take_ (i := 0) (N := some 71) (v := ?_) (a' := ?_) #[true, true, true, true, false, false, false] rfl rfl (by kernel_rfl) (fun _ _ _ h => h) (Or.inl ⟨by rfl, ?_⟩) hHeld ?_ ?_
                  rotate_left
                  ·rintro w' ⟨s0, s1, s2, s3, s4, s5, s6, s7⟩
                   go_simp
                   with_reducible rfl
                  rotate_left
                  ·simp only [Act.put, List.setIfInBounds_toArray, List.set_cons_zero, List.set_cons_succ, i64_w, i32_w]
                   rfl
                  refine take_ (i := 4) (N := some 75) (v := ?_) (a' := ?_) #[true, true, true, true, true, false, false] rfl rfl (by kernel_rfl) (fun _ _ _ h => h) (Or.inl ⟨by rfl, ?_⟩) hHeld ?_ ?_
                  rotate_left
                  ·rintro w' ⟨s0, s1, s2, s3, s4, s5, s6, s7⟩
                   go_simp
                   with_reducible rfl
                  rotate_left
                  ·simp only [Act.put, List.setIfInBounds_toArray, List.set_cons_zero, List.set_cons_succ, i64_w, i32_w]
                   rfl
                  refine one_ (i := 5) (N := some 76) #[true, true, true, true, true, true, false] rfl rfl (by kernel_rfl) (by decide) (fun K hK => ?_)
                  refine goes_ Tryd.func18 (by kernel_rfl) rfl #[.agg #[.int .i64 t374, .slice Ao53 t375.length co53, .string t378, .bool t379], .agg #[.int .i64 ((rd_T24 x4_1 x10_3).f0), .slice A383_1 ((rd_T24 x4_1 x10_3).f1).length c383_1, .string ((rd_T24 x4_1 x10_3).f2), .bool ((rd_T24 x4_1 x10_3).f3)]] (by rfl) rfl rfl tq14_a ?_
                  with_reducible refine (usherref0_SameReply.calls k3 t374 _ _ t375 t378 t379 ((rd_T24 x4_1 x10_3).f0) _ _ ((rd_T24 x4_1 x10_3).f1) ((rd_T24 x4_1 x10_3).f2) ((rd_T24 x4_1 x10_3).f3) true _ ?side1 ?side2 ?side3 ?side4 A30.out).mono ?_
                  (case side1 => repeat (first | exact (Kd.R_reads' HO377.out).2.2 | (with_reducible refine Kd.C_alloc ?_ _) | (with_reducible refine Kd.C_drewN ?_ _) | (with_reducible refine Kd.C_drew ?_)))
                  (case side2 => exact (Kd.R_reads' HO377.out).2.1)
                  (case side3 => repeat (first | exact (tq14_c HR383_1.out) | (with_reducible refine Kd.C_alloc ?_ _) | (with_reducible refine Kd.C_drewN ?_ _) | (with_reducible refine Kd.C_drew ?_)))
                  (case side4 => exact HC383_1.out)
                  rintro e w56 ⟨rfl, hb⟩
                  have HS4_ := (hb.cell (World.block_lt_of_cell? _ _ (hHeld.2.2.2.2.1))).trans (hHeld.2.2.2.2.1)
                  have HS5_ := (hb.cell (World.block_lt_of_cell? _ _ (hHeld.2.2.2.2.2.1))).trans (hHeld.2.2.2.2.2.1)
                  have HS6_ := (hb.cell (World.block_lt_of_cell? _ _ (hHeld.2.2.2.2.2.2.1))).trans (hHeld.2.2.2.2.2.2.1)
                  have HS7_ := (hb.cell (World.block_lt_of_cell? _ _ (hHeld.2.2.2.2.2.2.2))).trans (hHeld.2.2.2.2.2.2.2)
                  refine ⟨_, rfl, ?_⟩
                  have n0_ := Aq14 (Kd.S_below (tq14_5 HO_4.out) hb)
                  have n1_ := Aq14 (Kd.R_below (tq14_6 HO377.out) hb)
                  have n2_ := Aq14 (Kd.R_below (tq14_6 HL383_1.out) hb)
                  have n3_ := Aq14 (blk_below (g := gb382) (o := .cells #[.int .i64 t374, .slice Ao53 t375.length co53, .string t378, .bool t379] 24 (0, 0)) (tq14_7 BK382.out) hb)
                  have n4_ := Aq14 (Kd.C_below (tq14_c HR383_1.out) hb)
                  have n5_ := Aq14 (below_step (tq14_b GE382.out) hb)
                  clear HO_4
                  clear HO377
                  clear HL383_1
                  clear BK382
                  clear HR383_1
                  clear HB
                  have HO_4 := n0_
                  have HO377 := n1_
                  have HL383_1 := n2_
                  have BK382 := n3_
                  have HR383_1 := n4_
                  have HB := n5_
                  clear n0_ n1_ n2_ n3_ n4_ n5_
                  (try clear hb)
                  (try clear hb2)
                  (try clear hk)
                  (try clear hi)
                  refine hK.out _ _ ⟨(blk_cell BK382.out 0).trans rfl, (blk_cell BK382.out 1).trans rfl, (blk_cell BK382.out 2).trans rfl, (blk_cell BK382.out 3).trans rfl, HS4_, HS5_, HS6_, HS7_⟩ (fun hHeld => ?_)
                  clear hK K
                  refine norm_ (a' := ?_) ?_ ?_
                  rotate_left
                  ·show Act.put _ (some 76) _ = _
                   simp only [Act.put, List.setIfInBounds_toArray, List.set_cons_zero, List.set_cons_succ, i64_w, i32_w]
                   rfl
                  refine pure_ (i := 6) (N := some 14) (v := ?_) (a' := ?_) #[true, true, true, true, true, true, true] rfl rfl (by kernel_rfl) (fun _ _ _ h => h) (Or.inl ⟨by rfl, ?_⟩) ?_ ?_
                  rotate_left
                  ·intro w'
                   go_simp
                   with_reducible rfl
                  rotate_left
                  ·simp only [Act.put, List.setIfInBounds_toArray, List.set_cons_zero, List.set_cons_succ, i64_w, i32_w]
                   rfl
                  refine done_ (by kernel_rfl) ?_
                  try go_wp2
                  go_roundg k3
                  case measure => have := HK1.out; have := HK2.out; have := HK3.out; omega
                  case rel => exact ⟨(x3_3.extract (t380 : Int).toNat x3_3.size), (wrap64 (x10_3 + 1)), tq14_0, tq14_0, H', ⟨by have := HK1.out; have := HK2.out; have := HK3.out; omega⟩, ⟨(tq14_8 HO_4.out)⟩, ⟨(tq14_b GE382.out)⟩⟩
                 ·rw [if_neg c49] at H
                  exact absurd H (by simp)
                ·rw [if_neg c48] at H
                 exact absurd H (by simp)
             ·replace c31 := Bool.eq_false_iff.mpr c31
              subst c31
              have H1 : (some false) = some r := by rw [if_neg (show ¬ (false = true) by decide)] at H; exact H
              clear H
              have H := H1
              clear H1
              obtain rfl := Option.some.inj H
              try go_wp2_with (first | ((with_reducible refine gate_callee (f := 32) rfl ?_); refine goesL_ (some 67) rfl rfl Tryd.func32 (by kernel_rfl) rfl #[.string x3_3] rfl tq14_a ?_; (with_reducible refine (reply_Read.calls k3 x3_3 t374 t375 t378 t379 t380 none _ A28.out ?side1).mono ?_); (case side1 => exact HG.out.step tq14_9 rfl); rintro e w57 ⟨v376, rfl, ho0, hb⟩; refine ⟨_, rfl, ?_⟩; replace HO_4 := Aq14 (Kd.S_elder' (tq14_5 HO_4.out) (Kd.R_base ho0) hb); have HO377 := Aq14 (Kd.R_lower ho0 (below_size tq14_9)); replace HB := Aq14 (below_step tq14_9 hb); (try clear hb); (try clear hb2); (try clear hk); (try clear hi); (try clear ho0); (try simp only [errW_none, errW_some])) | ((with_reducible refine gate_dst (N := 11) rfl ?_); (try (refine gate_guard (by rfl) ?_; dsimp only)); refine box_event ?hg (N := 11) ?hd (cs := #[.int .i64 0, .slice none 0 0, .string (⟨#[]⟩ : ByteArray), .bool false]) (t := 24) ?hr ?_; (case hd => rfl); (case hg => rfl); (case hr => first | (go_simp; done) | (go_simp; rfl)); intro gb382 hg w58 hbox hb; replace HO_4 := Aq14 (Kd.S_below (Kd.S_elderB (tq14_5 HO_4.out) gb382 (Nat.le_of_eq hg.symm)) hb); replace HO377 := Aq14 (Kd.R_below (tq14_6 HO377.out) hb); have BK382 := Aq14 (hbox); have GW382 := Aq14 ((by rw [hg]; exact (below_size tq14_9) : w.heap.size ≤ gb382)); have GE382 := Aq14 ((by rw [hg]; exact (below_size tq14_9) : w.heap.size ≤ gb382)); replace HB := Aq14 (below_step tq14_9 hb); clear hb hbox hg; have hcz59_0 : w58.cell? ⟨gb382, 0, none⟩ = some (.int .i64 0) := (blk_cell BK382.out 0).trans rfl; have hcz59_1 : w58.cell? ⟨gb382, 1, none⟩ = some (.slice none 0 0) := (blk_cell BK382.out 1).trans rfl; have hcz59_2 : w58.cell? ⟨gb382, 2, none⟩ = some (.string (⟨#[]⟩ : ByteArray)) := (blk_cell BK382.out 2).trans rfl; have hcz59_3 : w58.cell? ⟨gb382, 3, none⟩ = some (.bool false) := (blk_cell BK382.out 3).trans rfl; have hfz59_0 := blk_frozen BK382.out 0; have hfz59_1 := blk_frozen BK382.out 1; have hfz59_2 := blk_frozen BK382.out 2; have hfz59_3 := blk_frozen BK382.out 3; obtain ⟨Ao60, co60, eo60⟩ := Kd.R_slice HO377.out; subst eo60))
              have n0_ : Aside0 (Kd.S k24 24 ((((w58.setCell ⟨gb382, 0, none⟩ (.int .i64 t374)).setCell ⟨gb382, 1, none⟩ (.slice Ao60 t375.length co60)).setCell ⟨gb382, 2, none⟩ (.string t378)).setCell ⟨gb382, 3, none⟩ (.bool t379)) w.heap.size (fun k_ => some k_ ≠ (.slice Ao60 t375.length co60 : Value).ownBlock ∧ k_ ≠ gb382) (.slice Ao26 x4_1.length co26) x4_1) := ⟨by (with_reducible repeat (first | apply Kd.S_alloc | apply Kd.S_drewN | apply Kd.S_drew)); exact Kd.S_mono (Kd.S_far (p := ⟨gb382, 3, none⟩) (Kd.S_far (p := ⟨gb382, 2, none⟩) (Kd.S_far (p := ⟨gb382, 1, none⟩) (Kd.S_far (p := ⟨gb382, 0, none⟩) (Kd.S_mono HO_4.out (fun k_ hk => (⟨hk, hk.2⟩ : _ ∧ k_ ≠ gb382))) (fun _ hk => hk.2) (.int .i64 t374)) (fun _ hk => hk.2) (.slice Ao60 t375.length co60)) (fun _ hk => hk.2) (.string t378)) (fun _ hk => hk.2) (.bool t379)) (fun _ hk => ⟨hk.1.1.2, hk.1.2⟩)⟩
              have n1_ : Aside0 (Kd.R k26 26 ((((w58.setCell ⟨gb382, 0, none⟩ (.int .i64 t374)).setCell ⟨gb382, 1, none⟩ (.slice Ao60 t375.length co60)).setCell ⟨gb382, 2, none⟩ (.string t378)).setCell ⟨gb382, 3, none⟩ (.bool t379)) w.heap.size (fun _ => True) (.slice Ao60 t375.length co60) t375) := ⟨by (with_reducible repeat (first | apply Kd.R_alloc | apply Kd.R_drewN | apply Kd.R_drew)); exact Kd.R_mono (Kd.R_far (p := ⟨gb382, 3, none⟩) (Kd.R_far (p := ⟨gb382, 2, none⟩) (Kd.R_far (p := ⟨gb382, 1, none⟩) (Kd.R_far (p := ⟨gb382, 0, none⟩) (Kd.R_types HO377.out BK382.out (by decide)) (fun _ hk => hk.2) (.int .i64 t374)) (fun _ hk => hk.2) (.slice Ao60 t375.length co60)) (fun _ hk => hk.2) (.string t378)) (fun _ hk => hk.2) (.bool t379)) (fun _ hk => trivial)⟩
              have n2_ : Aside0 (((((w58.setCell ⟨gb382, 0, none⟩ (.int .i64 t374)).setCell ⟨gb382, 1, none⟩ (.slice Ao60 t375.length co60)).setCell ⟨gb382, 2, none⟩ (.string t378)).setCell ⟨gb382, 3, none⟩ (.bool t379)).heap[gb382]? = some (.cells #[.int .i64 t374, .slice Ao60 t375.length co60, .string t378, .bool t379] 24 (0, 0))) := ⟨by (with_reducible repeat (first | refine blk_drewN ?_ _ | refine blk_drew ?_ | refine blk_alloc ?_ _)); refine blk_put (cs := #[.int .i64 t374, .slice Ao60 t375.length co60, .string t378, .bool false]) ?_ 3 _ rfl; (with_reducible repeat (first | refine blk_drewN ?_ _ | refine blk_drew ?_ | refine blk_alloc ?_ _)); refine blk_put (cs := #[.int .i64 t374, .slice Ao60 t375.length co60, .string (⟨#[]⟩ : ByteArray), .bool false]) ?_ 2 _ rfl; (with_reducible repeat (first | refine blk_drewN ?_ _ | refine blk_drew ?_ | refine blk_alloc ?_ _)); refine blk_put (cs := #[.int .i64 t374, .slice none 0 0, .string (⟨#[]⟩ : ByteArray), .bool false]) ?_ 1 _ rfl; (with_reducible repeat (first | refine blk_drewN ?_ _ | refine blk_drew ?_ | refine blk_alloc ?_ _)); refine blk_put (cs := #[.int .i64 0, .slice none 0 0, .string (⟨#[]⟩ : ByteArray), .bool false]) ?_ 0 _ rfl; (with_reducible repeat (first | refine blk_drewN ?_ _ | refine blk_drew ?_ | refine blk_alloc ?_ _)); exact BK382.out⟩
              have n3_ : Aside0 (Below w.heap.size w ((((w58.setCell ⟨gb382, 0, none⟩ (.int .i64 t374)).setCell ⟨gb382, 1, none⟩ (.slice Ao60 t375.length co60)).setCell ⟨gb382, 2, none⟩ (.string t378)).setCell ⟨gb382, 3, none⟩ (.bool t379))) := ⟨(tq14_b GE382.out)⟩
              (try clear HO_4)
              (try clear HO377)
              (try clear BK382)
              (try clear HB)
              generalize ((((w58.setCell ⟨gb382, 0, none⟩ (.int .i64 t374)).setCell ⟨gb382, 1, none⟩ (.slice Ao60 t375.length co60)).setCell ⟨gb382, 2, none⟩ (.string t378)).setCell ⟨gb382, 3, none⟩ (.bool t379)) = w61 at n0_ n1_ n2_ n3_ ⊢
              have HO_4 := n0_
              have HO377 := n1_
              have BK382 := n2_
              have HB := n3_
              clear n0_ n1_ n2_ n3_
              have n0_ := Aq14 (Kd.S_drew HO_4.out)
              have n1_ := Aq14 (Kd.R_drew HO377.out)
              have n2_ := Aq14 (blk_drew BK382.out)
              have n3_ := Aq14 (below_drew1 HB.out)
              clear HO_4
              clear HO377
              clear BK382
              clear HB
              have HO_4 := n0_
              have HO377 := n1_
              have BK382 := n2_
              have HB := n3_
              clear n0_ n1_ n2_ n3_
              have p383 : 0 ≤ (x10_3 : Int) := of_decide_eq_true tq14_1
              have q383 : x10_3 < (x4_1.length : Int) := of_decide_eq_true tq14_1
              obtain ⟨ad383, A383_1, c383_1, e383, hx383_0, hx383_1, hx383_2, hx383_3, hl383_1, hi383_1⟩ := at_T24 (Kd.S_reads' HO_4.out).2.2 x10_3 p383 q383
              cases e383
              obtain ⟨ce383, hce383, hMe383, hcc383⟩ := Kd.S_get HO_4.out z24 x10_3 p383 (tq14_3 HO_4.out)
              obtain ⟨ve383_1, rfl, ge383_1⟩ := k24_openM hMe383
              have hv383_1 := hcc383 1 _ rfl
              rw [add_field _ _ 1 (by omega)] at hv383_1
              replace hv383_1 := Option.some.inj (hv383_1.symm.trans hx383_1)
              rw [hv383_1] at ge383_1
              have HL383_1 := Aq14 (show Kd.R k26 26 _ _ _ _ ((rd_T24 x4_1 x10_3).f1) from ge383_1)
              clear hv383_1 ge383_1
              clear hcc383 hce383
              have HR383_1 := Aq14 hi383_1
              have HC383_1 := Aq14 hl383_1
              clear hi383_1 hl383_1
              replace p383 := eq_true p383
              replace q383 := eq_true q383
              refine start_ (n := 7) (S := fun w' => w'.cell? ⟨gb382, 0, none⟩ = some (.int .i64 t374) ∧ w'.cell? ⟨gb382, 1, none⟩ = some (.slice Ao60 t375.length co60) ∧ w'.cell? ⟨gb382, 2, none⟩ = some (.string t378) ∧ w'.cell? ⟨gb382, 3, none⟩ = some (.bool t379) ∧ w'.cell? (ad383.add ((x10_3).toNat * 4)) = some (.int .i64 ((rd_T24 x4_1 x10_3).f0)) ∧ w'.cell? ⟨(ad383.add ((x10_3).toNat * 4)).block, (ad383.add ((x10_3).toNat * 4)).off + 1, none⟩ = some (.slice A383_1 ((rd_T24 x4_1 x10_3).f1).length c383_1) ∧ w'.cell? ⟨(ad383.add ((x10_3).toNat * 4)).block, (ad383.add ((x10_3).toNat * 4)).off + 2, none⟩ = some (.string ((rd_T24 x4_1 x10_3).f2)) ∧ w'.cell? ⟨(ad383.add ((x10_3).toNat * 4)).block, (ad383.add ((x10_3).toNat * 4)).off + 3, none⟩ = some (.bool ((rd_T24 x4_1 x10_3).f3))) (ds := []) #[false, false, false, false, false, false, false] (by kernel_rfl) rfl rfl ⟨(blk_cell BK382.out 0).trans rfl, (blk_cell BK382.out 1).trans rfl, (blk_cell BK382.out 2).trans rfl, (blk_cell BK382.out 3).trans rfl, hx383_0, hx383_1, hx383_2, hx383_3⟩ (fun hHeld => ?_)
              generalize w61.drew = w62 at HO_4 HO377 BK382 HB HL383_1 HR383_1 hx383_0 hx383_1 hx383_2 hx383_3 hHeld ⊢
              refine pure_ (i := 1) (N := some 72) (v := ?_) (a' := ?_) #[false, true, false, false, false, false, false] rfl rfl (by kernel_rfl) (fun _ _ _ h => h) (Or.inl ⟨by rfl, ?_⟩) ?_ ?_
              rotate_left
              ·intro w'
               go_simp
               with_reducible rfl
              rotate_left
              ·simp only [Act.put, List.setIfInBounds_toArray, List.set_cons_zero, List.set_cons_succ, i64_w, i32_w]
               rfl
              refine pure_ (i := 2) (N := some 73) (v := ?_) (a' := ?_) #[false, true, true, false, false, false, false] rfl rfl (by kernel_rfl) (fun _ _ _ h => h) (Or.inl ⟨by rfl, ?_⟩) ?_ ?_
              rotate_left
              ·intro w'
               go_simp
               with_reducible rfl
              rotate_left
              ·simp only [Act.put, List.setIfInBounds_toArray, List.set_cons_zero, List.set_cons_succ, i64_w, i32_w]
               rfl
              refine pure_ (i := 3) (N := some 74) (v := ?_) (a' := ?_) #[false, true, true, true, false, false, false] rfl rfl (by kernel_rfl) (fun _ _ _ h => h) (Or.inl ⟨by rfl, ?_⟩) ?_ ?_
              rotate_left
              ·intro w'
               go_simp
               with_reducible rfl
              rotate_left
              ·simp only [Act.put, List.setIfInBounds_toArray, List.set_cons_zero, List.set_cons_succ, i64_w, i32_w]
               rfl
              refine take_ (i := 0) (N := some 71) (v := ?_) (a' := ?_) #[true, true, true, true, false, false, false] rfl rfl (by kernel_rfl) (fun _ _ _ h => h) (Or.inl ⟨by rfl, ?_⟩) hHeld ?_ ?_
              rotate_left
              ·rintro w' ⟨s0, s1, s2, s3, s4, s5, s6, s7⟩
               go_simp
               with_reducible rfl
              rotate_left
              ·simp only [Act.put, List.setIfInBounds_toArray, List.set_cons_zero, List.set_cons_succ, i64_w, i32_w]
               rfl
              refine take_ (i := 4) (N := some 75) (v := ?_) (a' := ?_) #[true, true, true, true, true, false, false] rfl rfl (by kernel_rfl) (fun _ _ _ h => h) (Or.inl ⟨by rfl, ?_⟩) hHeld ?_ ?_
              rotate_left
              ·rintro w' ⟨s0, s1, s2, s3, s4, s5, s6, s7⟩
               go_simp
               with_reducible rfl
              rotate_left
              ·simp only [Act.put, List.setIfInBounds_toArray, List.set_cons_zero, List.set_cons_succ, i64_w, i32_w]
               rfl
              refine one_ (i := 5) (N := some 76) #[true, true, true, true, true, true, false] rfl rfl (by kernel_rfl) (by decide) (fun K hK => ?_)
              refine goes_ Tryd.func18 (by kernel_rfl) rfl #[.agg #[.int .i64 t374, .slice Ao60 t375.length co60, .string t378, .bool t379], .agg #[.int .i64 ((rd_T24 x4_1 x10_3).f0), .slice A383_1 ((rd_T24 x4_1 x10_3).f1).length c383_1, .string ((rd_T24 x4_1 x10_3).f2), .bool ((rd_T24 x4_1 x10_3).f3)]] (by rfl) rfl rfl tq14_a ?_
              with_reducible refine (usherref0_SameReply.calls k3 t374 _ _ t375 t378 t379 ((rd_T24 x4_1 x10_3).f0) _ _ ((rd_T24 x4_1 x10_3).f1) ((rd_T24 x4_1 x10_3).f2) ((rd_T24 x4_1 x10_3).f3) false _ ?side1 ?side2 ?side3 ?side4 A30.out).mono ?_
              (case side1 => repeat (first | exact (Kd.R_reads' HO377.out).2.2 | (with_reducible refine Kd.C_alloc ?_ _) | (with_reducible refine Kd.C_drewN ?_ _) | (with_reducible refine Kd.C_drew ?_)))
              (case side2 => exact (Kd.R_reads' HO377.out).2.1)
              (case side3 => repeat (first | exact (tq14_c HR383_1.out) | (with_reducible refine Kd.C_alloc ?_ _) | (with_reducible refine Kd.C_drewN ?_ _) | (with_reducible refine Kd.C_drew ?_)))
              (case side4 => exact HC383_1.out)
              rintro e w63 ⟨rfl, hb⟩
              have HS4_ := (hb.cell (World.block_lt_of_cell? _ _ (hHeld.2.2.2.2.1))).trans (hHeld.2.2.2.2.1)
              have HS5_ := (hb.cell (World.block_lt_of_cell? _ _ (hHeld.2.2.2.2.2.1))).trans (hHeld.2.2.2.2.2.1)
              have HS6_ := (hb.cell (World.block_lt_of_cell? _ _ (hHeld.2.2.2.2.2.2.1))).trans (hHeld.2.2.2.2.2.2.1)
              have HS7_ := (hb.cell (World.block_lt_of_cell? _ _ (hHeld.2.2.2.2.2.2.2))).trans (hHeld.2.2.2.2.2.2.2)
              refine ⟨_, rfl, ?_⟩
              have n0_ := Aq14 (Kd.S_below (tq14_5 HO_4.out) hb)
              have n1_ := Aq14 (Kd.R_below (tq14_6 HO377.out) hb)
              have n2_ := Aq14 (Kd.R_below (tq14_6 HL383_1.out) hb)
              have n3_ := Aq14 (blk_below (g := gb382) (o := .cells #[.int .i64 t374, .slice Ao60 t375.length co60, .string t378, .bool t379] 24 (0, 0)) (tq14_7 BK382.out) hb)
              have n4_ := Aq14 (Kd.C_below (tq14_c HR383_1.out) hb)
              have n5_ := Aq14 (below_step (tq14_b GE382.out) hb)
              clear HO_4
              clear HO377
              clear HL383_1
              clear BK382
              clear HR383_1
              clear HB
              have HO_4 := n0_
              have HO377 := n1_
              have HL383_1 := n2_
              have BK382 := n3_
              have HR383_1 := n4_
              have HB := n5_
              clear n0_ n1_ n2_ n3_ n4_ n5_
              (try clear hb)
              (try clear hb2)
              (try clear hk)
              (try clear hi)
              refine hK.out _ _ ⟨(blk_cell BK382.out 0).trans rfl, (blk_cell BK382.out 1).trans rfl, (blk_cell BK382.out 2).trans rfl, (blk_cell BK382.out 3).trans rfl, HS4_, HS5_, HS6_, HS7_⟩ (fun hHeld => ?_)
              clear hK K
              refine norm_ (a' := ?_) ?_ ?_
              rotate_left
              ·show Act.put _ (some 76) _ = _
               simp only [Act.put, List.setIfInBounds_toArray, List.set_cons_zero, List.set_cons_succ, i64_w, i32_w]
               rfl
              refine pure_ (i := 6) (N := some 14) (v := ?_) (a' := ?_) #[true, true, true, true, true, true, true] rfl rfl (by kernel_rfl) (fun _ _ _ h => h) (Or.inl ⟨by rfl, ?_⟩) ?_ ?_
              rotate_left
              ·intro w'
               go_simp
               with_reducible rfl
              rotate_left
              ·simp only [Act.put, List.setIfInBounds_toArray, List.set_cons_zero, List.set_cons_succ, i64_w, i32_w]
               rfl
              refine done_ (by kernel_rfl) ?_
              try go_wp2
              go_ret
              exact ⟨tq14_4, (tq14_b GE382.out)⟩
            ·have H1 : (some false) = some r := by rw [if_neg (show ¬ (some q385).isNone = true by simp)] at H; exact H
             clear H
             have H := H1
             clear H1
             try simp only [errW_none, errW_some]
             obtain rfl := Option.some.inj H
             try go_wp2_with (first | ((with_reducible refine gate_callee (f := 32) rfl ?_); refine goesL_ (some 67) rfl rfl Tryd.func32 (by kernel_rfl) rfl #[.string x3_3] rfl tq14_a ?_; (with_reducible refine (reply_Read.calls k3 x3_3 t374 t375 t378 t379 t380 (some q385) _ A28.out ?side1).mono ?_); (case side1 => exact HG.out.step tq14_9 rfl); rintro e w64 ⟨v376, rfl, ho0, hb⟩; refine ⟨_, rfl, ?_⟩; replace HO_4 := Aq14 (Kd.S_elder' (tq14_5 HO_4.out) (Kd.R_base ho0) hb); have HO377 := Aq14 (Kd.R_lower ho0 (below_size tq14_9)); replace HB := Aq14 (below_step tq14_9 hb); (try clear hb); (try clear hb2); (try clear hk); (try clear hi); (try clear ho0); (try simp only [errW_none, errW_some])) | ((with_reducible refine gate_dst (N := 11) rfl ?_); (try (refine gate_guard (by rfl) ?_; dsimp only)); refine box_event ?hg (N := 11) ?hd (cs := #[.int .i64 0, .slice none 0 0, .string (⟨#[]⟩ : ByteArray), .bool false]) (t := 24) ?hr ?_; (case hd => rfl); (case hg => rfl); (case hr => first | (go_simp; done) | (go_simp; rfl)); intro gb382 hg w65 hbox hb; replace HO_4 := Aq14 (Kd.S_below (Kd.S_elderB (tq14_5 HO_4.out) gb382 (Nat.le_of_eq hg.symm)) hb); replace HO377 := Aq14 (Kd.R_below (tq14_6 HO377.out) hb); have BK382 := Aq14 (hbox); have GW382 := Aq14 ((by rw [hg]; exact (below_size tq14_9) : w.heap.size ≤ gb382)); have GE382 := Aq14 ((by rw [hg]; exact (below_size tq14_9) : w.heap.size ≤ gb382)); replace HB := Aq14 (below_step tq14_9 hb); clear hb hbox hg; have hcz66_0 : w65.cell? ⟨gb382, 0, none⟩ = some (.int .i64 0) := (blk_cell BK382.out 0).trans rfl; have hcz66_1 : w65.cell? ⟨gb382, 1, none⟩ = some (.slice none 0 0) := (blk_cell BK382.out 1).trans rfl; have hcz66_2 : w65.cell? ⟨gb382, 2, none⟩ = some (.string (⟨#[]⟩ : ByteArray)) := (blk_cell BK382.out 2).trans rfl; have hcz66_3 : w65.cell? ⟨gb382, 3, none⟩ = some (.bool false) := (blk_cell BK382.out 3).trans rfl; have hfz66_0 := blk_frozen BK382.out 0; have hfz66_1 := blk_frozen BK382.out 1; have hfz66_2 := blk_frozen BK382.out 2; have hfz66_3 := blk_frozen BK382.out 3; obtain ⟨Ao67, co67, eo67⟩ := Kd.R_slice HO377.out; subst eo67))
             have n0_ : Aside0 (Kd.S k24 24 ((((w65.setCell ⟨gb382, 0, none⟩ (.int .i64 t374)).setCell ⟨gb382, 1, none⟩ (.slice Ao67 t375.length co67)).setCell ⟨gb382, 2, none⟩ (.string t378)).setCell ⟨gb382, 3, none⟩ (.bool t379)) w.heap.size (fun k_ => some k_ ≠ (.slice Ao67 t375.length co67 : Value).ownBlock ∧ k_ ≠ gb382) (.slice Ao26 x4_1.length co26) x4_1) := ⟨by (with_reducible repeat (first | apply Kd.S_alloc | apply Kd.S_drewN | apply Kd.S_drew)); exact Kd.S_mono (Kd.S_far (p := ⟨gb382, 3, none⟩) (Kd.S_far (p := ⟨gb382, 2, none⟩) (Kd.S_far (p := ⟨gb382, 1, none⟩) (Kd.S_far (p := ⟨gb382, 0, none⟩) (Kd.S_mono HO_4.out (fun k_ hk => (⟨hk, hk.2⟩ : _ ∧ k_ ≠ gb382))) (fun _ hk => hk.2) (.int .i64 t374)) (fun _ hk => hk.2) (.slice Ao67 t375.length co67)) (fun _ hk => hk.2) (.string t378)) (fun _ hk => hk.2) (.bool t379)) (fun _ hk => ⟨hk.1.1.2, hk.1.2⟩)⟩
             have n1_ : Aside0 (Kd.R k26 26 ((((w65.setCell ⟨gb382, 0, none⟩ (.int .i64 t374)).setCell ⟨gb382, 1, none⟩ (.slice Ao67 t375.length co67)).setCell ⟨gb382, 2, none⟩ (.string t378)).setCell ⟨gb382, 3, none⟩ (.bool t379)) w.heap.size (fun _ => True) (.slice Ao67 t375.length co67) t375) := ⟨by (with_reducible repeat (first | apply Kd.R_alloc | apply Kd.R_drewN | apply Kd.R_drew)); exact Kd.R_mono (Kd.R_far (p := ⟨gb382, 3, none⟩) (Kd.R_far (p := ⟨gb382, 2, none⟩) (Kd.R_far (p := ⟨gb382, 1, none⟩) (Kd.R_far (p := ⟨gb382, 0, none⟩) (Kd.R_types HO377.out BK382.out (by decide)) (fun _ hk => hk.2) (.int .i64 t374)) (fun _ hk => hk.2) (.slice Ao67 t375.length co67)) (fun _ hk => hk.2) (.string t378)) (fun _ hk => hk.2) (.bool t379)) (fun _ hk => trivial)⟩
             have n2_ : Aside0 (((((w65.setCell ⟨gb382, 0, none⟩ (.int .i64 t374)).setCell ⟨gb382, 1, none⟩ (.slice Ao67 t375.length co67)).setCell ⟨gb382, 2, none⟩ (.string t378)).setCell ⟨gb382, 3, none⟩ (.bool t379)).heap[gb382]? = some (.cells #[.int .i64 t374, .slice Ao67 t375.length co67, .string t378, .bool t379] 24 (0, 0))) := ⟨by (with_reducible repeat (first | refine blk_drewN ?_ _ | refine blk_drew ?_ | refine blk_alloc ?_ _)); refine blk_put (cs := #[.int .i64 t374, .slice Ao67 t375.length co67, .string t378, .bool false]) ?_ 3 _ rfl; (with_reducible repeat (first | refine blk_drewN ?_ _ | refine blk_drew ?_ | refine blk_alloc ?_ _)); refine blk_put (cs := #[.int .i64 t374, .slice Ao67 t375.length co67, .string (⟨#[]⟩ : ByteArray), .bool false]) ?_ 2 _ rfl; (with_reducible repeat (first | refine blk_drewN ?_ _ | refine blk_drew ?_ | refine blk_alloc ?_ _)); refine blk_put (cs := #[.int .i64 t374, .slice none 0 0, .string (⟨#[]⟩ : ByteArray), .bool false]) ?_ 1 _ rfl; (with_reducible repeat (first | refine blk_drewN ?_ _ | refine blk_drew ?_ | refine blk_alloc ?_ _)); refine blk_put (cs := #[.int .i64 0, .slice none 0 0, .string (⟨#[]⟩ : ByteArray), .bool false]) ?_ 0 _ rfl; (with_reducible repeat (first | refine blk_drewN ?_ _ | refine blk_drew ?_ | refine blk_alloc ?_ _)); exact BK382.out⟩
             have n3_ : Aside0 (Below w.heap.size w ((((w65.setCell ⟨gb382, 0, none⟩ (.int .i64 t374)).setCell ⟨gb382, 1, none⟩ (.slice Ao67 t375.length co67)).setCell ⟨gb382, 2, none⟩ (.string t378)).setCell ⟨gb382, 3, none⟩ (.bool t379))) := ⟨(tq14_b GE382.out)⟩
             (try clear HO_4)
             (try clear HO377)
             (try clear BK382)
             (try clear HB)
             generalize ((((w65.setCell ⟨gb382, 0, none⟩ (.int .i64 t374)).setCell ⟨gb382, 1, none⟩ (.slice Ao67 t375.length co67)).setCell ⟨gb382, 2, none⟩ (.string t378)).setCell ⟨gb382, 3, none⟩ (.bool t379)) = w68 at n0_ n1_ n2_ n3_ ⊢
             have HO_4 := n0_
             have HO377 := n1_
             have BK382 := n2_
             have HB := n3_
             clear n0_ n1_ n2_ n3_
             have n0_ := Aq14 (Kd.S_drew HO_4.out)
             have n1_ := Aq14 (Kd.R_drew HO377.out)
             have n2_ := Aq14 (blk_drew BK382.out)
             have n3_ := Aq14 (below_drew1 HB.out)
             clear HO_4
             clear HO377
             clear BK382
             clear HB
             have HO_4 := n0_
             have HO377 := n1_
             have BK382 := n2_
             have HB := n3_
             clear n0_ n1_ n2_ n3_
             have p383 : 0 ≤ (x10_3 : Int) := of_decide_eq_true tq14_1
             have q383 : x10_3 < (x4_1.length : Int) := of_decide_eq_true tq14_1
             obtain ⟨ad383, A383_1, c383_1, e383, hx383_0, hx383_1, hx383_2, hx383_3, hl383_1, hi383_1⟩ := at_T24 (Kd.S_reads' HO_4.out).2.2 x10_3 p383 q383
             cases e383
             obtain ⟨ce383, hce383, hMe383, hcc383⟩ := Kd.S_get HO_4.out z24 x10_3 p383 (tq14_3 HO_4.out)
             obtain ⟨ve383_1, rfl, ge383_1⟩ := k24_openM hMe383
             have hv383_1 := hcc383 1 _ rfl
             rw [add_field _ _ 1 (by omega)] at hv383_1
             replace hv383_1 := Option.some.inj (hv383_1.symm.trans hx383_1)
             rw [hv383_1] at ge383_1
             have HL383_1 := Aq14 (show Kd.R k26 26 _ _ _ _ ((rd_T24 x4_1 x10_3).f1) from ge383_1)
             clear hv383_1 ge383_1
             clear hcc383 hce383
             have HR383_1 := Aq14 hi383_1
             have HC383_1 := Aq14 hl383_1
             clear hi383_1 hl383_1
             replace p383 := eq_true p383
             replace q383 := eq_true q383
             refine start_ (n := 7) (S := fun w' => w'.cell? ⟨gb382, 0, none⟩ = some (.int .i64 t374) ∧ w'.cell? ⟨gb382, 1, none⟩ = some (.slice Ao67 t375.length co67) ∧ w'.cell? ⟨gb382, 2, none⟩ = some (.string t378) ∧ w'.cell? ⟨gb382, 3, none⟩ = some (.bool t379) ∧ w'.cell? (ad383.add ((x10_3).toNat * 4)) = some (.int .i64 ((rd_T24 x4_1 x10_3).f0)) ∧ w'.cell? ⟨(ad383.add ((x10_3).toNat * 4)).block, (ad383.add ((x10_3).toNat * 4)).off + 1, none⟩ = some (.slice A383_1 ((rd_T24 x4_1 x10_3).f1).length c383_1) ∧ w'.cell? ⟨(ad383.add ((x10_3).toNat * 4)).block, (ad383.add ((x10_3).toNat * 4)).off + 2, none⟩ = some (.string ((rd_T24 x4_1 x10_3).f2)) ∧ w'.cell? ⟨(ad383.add ((x10_3).toNat * 4)).block, (ad383.add ((x10_3).toNat * 4)).off + 3, none⟩ = some (.bool ((rd_T24 x4_1 x10_3).f3))) (ds := []) #[false, false, false, false, false, false, false] (by kernel_rfl) rfl rfl ⟨(blk_cell BK382.out 0).trans rfl, (blk_cell BK382.out 1).trans rfl, (blk_cell BK382.out 2).trans rfl, (blk_cell BK382.out 3).trans rfl, hx383_0, hx383_1, hx383_2, hx383_3⟩ (fun hHeld => ?_)
             generalize w68.drew = w69 at HO_4 HO377 BK382 HB HL383_1 HR383_1 hx383_0 hx383_1 hx383_2 hx383_3 hHeld ⊢
             refine pure_ (i := 1) (N := some 72) (v := ?_) (a' := ?_) #[false, true, false, false, false, false, false] rfl rfl (by kernel_rfl) (fun _ _ _ h => h) (Or.inl ⟨by rfl, ?_⟩) ?_ ?_
             rotate_left
             ·intro w'
              go_simp
              with_reducible rfl
             rotate_left
             ·simp only [Act.put, List.setIfInBounds_toArray, List.set_cons_zero, List.set_cons_succ, i64_w, i32_w]
              rfl
             refine pure_ (i := 2) (N := some 73) (v := ?_) (a' := ?_) #[false, true, true, false, false, false, false] rfl rfl (by kernel_rfl) (fun _ _ _ h => h) (Or.inl ⟨by rfl, ?_⟩) ?_ ?_
             rotate_left
             ·intro w'
              go_simp
              with_reducible rfl
             rotate_left
             ·simp only [Act.put, List.setIfInBounds_toArray, List.set_cons_zero, List.set_cons_succ, i64_w, i32_w]
              rfl
             refine pure_ (i := 3) (N := some 74) (v := ?_) (a' := ?_) #[false, true, true, true, false, false, false] rfl rfl (by kernel_rfl) (fun _ _ _ h => h) (Or.inl ⟨by rfl, ?_⟩) ?_ ?_
             rotate_left
             ·intro w'
              go_simp
              with_reducible rfl
             rotate_left
             ·simp only [Act.put, List.setIfInBounds_toArray, List.set_cons_zero, List.set_cons_succ, i64_w, i32_w]
              rfl
             refine take_ (i := 0) (N := some 71) (v := ?_) (a' := ?_) #[true, true, true, true, false, false, false] rfl rfl (by kernel_rfl) (fun _ _ _ h => h) (Or.inl ⟨by rfl, ?_⟩) hHeld ?_ ?_
             rotate_left
             ·rintro w' ⟨s0, s1, s2, s3, s4, s5, s6, s7⟩
              go_simp
              with_reducible rfl
             rotate_left
             ·simp only [Act.put, List.setIfInBounds_toArray, List.set_cons_zero, List.set_cons_succ, i64_w, i32_w]
              rfl
             refine take_ (i := 4) (N := some 75) (v := ?_) (a' := ?_) #[true, true, true, true, true, false, false] rfl rfl (by kernel_rfl) (fun _ _ _ h => h) (Or.inl ⟨by rfl, ?_⟩) hHeld ?_ ?_
             rotate_left
             ·rintro w' ⟨s0, s1, s2, s3, s4, s5, s6, s7⟩
              go_simp
              with_reducible rfl
             rotate_left
             ·simp only [Act.put, List.setIfInBounds_toArray, List.set_cons_zero, List.set_cons_succ, i64_w, i32_w]
              rfl
             refine one_ (i := 5) (N := some 76) #[true, true, true, true, true, true, false] rfl rfl (by kernel_rfl) (by decide) (fun K hK => ?_)
             refine goes_ Tryd.func18 (by kernel_rfl) rfl #[.agg #[.int .i64 t374, .slice Ao67 t375.length co67, .string t378, .bool t379], .agg #[.int .i64 ((rd_T24 x4_1 x10_3).f0), .slice A383_1 ((rd_T24 x4_1 x10_3).f1).length c383_1, .string ((rd_T24 x4_1 x10_3).f2), .bool ((rd_T24 x4_1 x10_3).f3)]] (by rfl) rfl rfl tq14_a ?_
             with_reducible refine (usherref0_SameReply.calls k3 t374 _ _ t375 t378 t379 ((rd_T24 x4_1 x10_3).f0) _ _ ((rd_T24 x4_1 x10_3).f1) ((rd_T24 x4_1 x10_3).f2) ((rd_T24 x4_1 x10_3).f3) t384 _ ?side1 ?side2 ?side3 ?side4 A30.out).mono ?_
             (case side1 => repeat (first | exact (Kd.R_reads' HO377.out).2.2 | (with_reducible refine Kd.C_alloc ?_ _) | (with_reducible refine Kd.C_drewN ?_ _) | (with_reducible refine Kd.C_drew ?_)))
             (case side2 => exact (Kd.R_reads' HO377.out).2.1)
             (case side3 => repeat (first | exact (tq14_c HR383_1.out) | (with_reducible refine Kd.C_alloc ?_ _) | (with_reducible refine Kd.C_drewN ?_ _) | (with_reducible refine Kd.C_drew ?_)))
             (case side4 => exact HC383_1.out)
             rintro e w70 ⟨rfl, hb⟩
             have HS4_ := (hb.cell (World.block_lt_of_cell? _ _ (hHeld.2.2.2.2.1))).trans (hHeld.2.2.2.2.1)
             have HS5_ := (hb.cell (World.block_lt_of_cell? _ _ (hHeld.2.2.2.2.2.1))).trans (hHeld.2.2.2.2.2.1)
             have HS6_ := (hb.cell (World.block_lt_of_cell? _ _ (hHeld.2.2.2.2.2.2.1))).trans (hHeld.2.2.2.2.2.2.1)
             have HS7_ := (hb.cell (World.block_lt_of_cell? _ _ (hHeld.2.2.2.2.2.2.2))).trans (hHeld.2.2.2.2.2.2.2)
             refine ⟨_, rfl, ?_⟩
             have n0_ := Aq14 (Kd.S_below (tq14_5 HO_4.out) hb)
             have n1_ := Aq14 (Kd.R_below (tq14_6 HO377.out) hb)
             have n2_ := Aq14 (Kd.R_below (tq14_6 HL383_1.out) hb)
             have n3_ := Aq14 (blk_below (g := gb382) (o := .cells #[.int .i64 t374, .slice Ao67 t375.length co67, .string t378, .bool t379] 24 (0, 0)) (tq14_7 BK382.out) hb)
             have n4_ := Aq14 (Kd.C_below (tq14_c HR383_1.out) hb)
             have n5_ := Aq14 (below_step (tq14_b GE382.out) hb)
             clear HO_4
             clear HO377
             clear HL383_1
             clear BK382
             clear HR383_1
             clear HB
             have HO_4 := n0_
             have HO377 := n1_
             have HL383_1 := n2_
             have BK382 := n3_
             have HR383_1 := n4_
             have HB := n5_
             clear n0_ n1_ n2_ n3_ n4_ n5_
             (try clear hb)
             (try clear hb2)
             (try clear hk)
             (try clear hi)
             refine hK.out _ _ ⟨(blk_cell BK382.out 0).trans rfl, (blk_cell BK382.out 1).trans rfl, (blk_cell BK382.out 2).trans rfl, (blk_cell BK382.out 3).trans rfl, HS4_, HS5_, HS6_, HS7_⟩ (fun hHeld => ?_)
             clear hK K
             refine norm_ (a' := ?_) ?_ ?_
             rotate_left
             ·show Act.put _ (some 76) _ = _
              simp only [Act.put, List.setIfInBounds_toArray, List.set_cons_zero, List.set_cons_succ, i64_w, i32_w]
              rfl
             refine pure_ (i := 6) (N := some 14) (v := ?_) (a' := ?_) #[true, true, true, true, true, true, true] rfl rfl (by kernel_rfl) (fun _ _ _ h => h) (Or.inl ⟨by rfl, ?_⟩) ?_ ?_
             rotate_left
             ·intro w'
              go_simp
              with_reducible rfl
             rotate_left
             ·simp only [Act.put, List.setIfInBounds_toArray, List.set_cons_zero, List.set_cons_succ, i64_w, i32_w]
              rfl
             refine done_ (by kernel_rfl) ?_
             try go_wp2
             go_ret
             exact ⟨tq14_4, (tq14_b GE382.out)⟩
           ·rw [if_neg c29] at H
            exact absurd H (by simp)
          ·rw [if_neg c27] at H
           have c27b0 : decide (x10_3 < (x4_1.length : Int)) = false := decide_eq_false c27
           clear c27
           obtain rfl := Option.some.inj H
           go_wp2
           go_ret
           exact ⟨tq14_4, tq14_9⟩
 ·rw [if_neg c2] at H
  exact absurd H (by simp)

end Go.Proofs.YtdlfdmbaejhaaaaDoor.Q
