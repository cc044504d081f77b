/- The plain Lean functions that calls of the program answer, and proofs that they do. Printed by program out of the translation; Lean checks it. -/
import Derived.Test.YtdlfdmbaejhaaaaDoorQ0
import Derived.Test.YtdlfdmbaejhaaaaDoorQ2
import Derived.Test.YtdlfdmbaejhaaaaDoorQ5
import Derived.Test.YtdlfdmbaejhaaaaDoorQ8
import Derived.Test.YtdlfdmbaejhaaaaDoorQ14
import Derived.Test.YtdlfdmbaejhaaaaDoorNum
namespace Go.Proofs.YtdlfdmbaejhaaaaDoor.Q
open Go.RowKit Go.Proofs.YtdlfdmbaejhaaaaDoorW.PrintWords Go.Proofs.YtdlfdmbaejhaaaaDoorW.PrintLast Go.Proofs.YtdlfdmbaejhaaaaDoorW.PrintMore
attribute [local go_sem] max2_int min2_int max_two min_two max_three min_three max_four min_four   -- for this text's walks alone
set_option linter.unusedVariables false
set_option linter.unusedSimpArgs false

theorem Aq15 {p : Prop} (h : p) : Aside0 p := ⟨h⟩
theorem tq15_0 {P : Prop} (h : P := by first | rfl | (simp; done) | (simp [*]; done)) : P := h
theorem tq15_1 {P : Prop} (h : P := by first | rfl | (simp [errW_none, errW_some] <;> rfl) | (simp [*, errW_none, errW_some] <;> rfl)) : P := h
theorem tq15_2 {P Q0 : Prop} (y0 : Q0) (h : Q0 → P := by intro y0_; (with_reducible repeat (first | apply Kd.R_alloc | apply Kd.R_drewN | apply Kd.R_drew)); exact y0_) : P := h y0
theorem tq15_3 {P Q0 : Prop} (y0 : Q0) (h : Q0 → P := by intro y0_; (with_reducible repeat (first | refine blk_drewN ?_ _ | refine blk_drew ?_ | refine blk_alloc ?_ _)); exact y0_) : P := h y0
theorem tq15_4 {P : Prop} (h : P := by repeat (first | (with_reducible first | exact HB.out | apply below_alloc | apply pw_below_drewN | apply below_drew1) | exact HB.out)) : P := h
theorem tq15_5 {P : Prop} (h : P := by (try simp only [List.map_toArray, List.map_cons, List.map_nil]); first | done | rfl | (simp only [List.length_drop, List.length_take]; rfl)) : P := h
theorem tq15_6 {P : Prop} (h : P := by first | exact Kd.R_nil _ _ _ _ _ | exact Kd.N_nil _ _ _ _ _ | exact Kd.V_nil _ _ _ _ _ | exact Kd.Q_nil _ _ _ _ _ | exact Kd.S_nil _ _ _ _ _) : P := h
theorem tq15_7 {P Q0 : Prop} (y0 : Q0) (h : Q0 → P := by intro y0_; repeat (first | (with_reducible first | exact HB.out | apply below_alloc | apply pw_below_drewN | apply below_drew1 | refine below_set ?_ y0_) | exact HB.out)) : P := h y0
theorem tq15_8 {P Q0 Q1 : Prop} (y0 : Q0) (y1 : Q1) (h : Q0 → Q1 → P := by intro y0_ y1_; repeat (first | (with_reducible first | exact HB.out | apply below_alloc | apply pw_below_drewN | apply below_drew1 | refine below_set ?_ y0_ | refine below_set ?_ y1_) | exact HB.out)) : P := h y0 y1
theorem tq15_9 {P Q0 Q1 Q2 : Prop} (y0 : Q0) (y1 : Q1) (y2 : Q2) (h : Q0 → Q1 → Q2 → P := by intro y0_ y1_ y2_; repeat (first | (with_reducible first | exact HB.out | apply below_alloc | apply pw_below_drewN | apply below_drew1 | refine below_set ?_ y0_ | refine below_set ?_ y1_ | refine below_set ?_ y2_) | exact HB.out)) : P := h y0 y1 y2
theorem tq15_a {P Q0 Q1 : Prop} (y0 : Q0) (y1 : Q1) (h : Q0 → Q1 → P := by intro y0_ y1_; (with_reducible repeat (first | refine blk_drewN ?_ _ | refine blk_drew ?_ | refine blk_alloc ?_ _)); refine blk_far ?_ y0_ _; (with_reducible repeat (first | refine blk_drewN ?_ _ | refine blk_drew ?_ | refine blk_alloc ?_ _)); exact y1_) : P := h y0 y1
theorem tq15_b {P Q0 Q1 : Prop} (y0 : Q0) (y1 : Q1) (h : Q0 → Q1 → P := by intro y0_ y1_; (iterate 4 ((with_reducible repeat (first | refine blk_drewN ?_ _ | refine blk_drew ?_ | refine blk_alloc ?_ _)); refine blk_far ?_ y0_ _)); (with_reducible repeat (first | refine blk_drewN ?_ _ | refine blk_drew ?_ | refine blk_alloc ?_ _)); exact y1_) : P := h y0 y1
theorem tq15_c {P Q0 Q1 : Prop} (y0 : Q0) (y1 : Q1) (h : Q0 → Q1 → P := by intro y0_ y1_; (with_reducible repeat (first | apply Kd.R_alloc | apply Kd.R_drewN | apply Kd.R_drew)); exact (Kd.R_mono (Kd.R_far (p := ⟨gb344, 3, none⟩) (Kd.R_far (p := ⟨gb344, 2, none⟩) (Kd.R_far (p := ⟨gb344, 1, none⟩) (Kd.R_far (p := ⟨gb344, 0, none⟩) (Kd.R_types y0_ y1_ (by decide)) (fun _ hk => hk.2) (.int .i64 t336)) (fun _ hk => hk.2) (.slice Ao62 t337.length co62)) (fun _ hk => hk.2) (.string t340)) (fun _ hk => hk.2) (.bool t341)) (fun _ h_ => h_.1))) : P := h y0 y1
theorem tq15_d {P Q0 Q1 : Prop} (y0 : Q0) (y1 : Q1) (h : Q0 → Q1 → P := by intro y0_ y1_; (with_reducible repeat (first | apply Kd.R_alloc | apply Kd.R_drewN | apply Kd.R_drew)); exact (Kd.R_mono (Kd.R_far (p := ⟨gb344, 3, none⟩) (Kd.R_far (p := ⟨gb344, 2, none⟩) (Kd.R_far (p := ⟨gb344, 1, none⟩) (Kd.R_far (p := ⟨gb344, 0, none⟩) (Kd.R_types y0_ y1_ (by decide)) (fun _ hk => hk.2) (.int .i64 t336)) (fun _ hk => hk.2) (.slice Ao72 t337.length co72)) (fun _ hk => hk.2) (.string t340)) (fun _ hk => hk.2) (.bool t341)) (fun _ h_ => h_.1))) : P := h y0 y1
theorem tq15_e {P Q0 Q1 : Prop} (y0 : Q0) (y1 : Q1) (h : Q0 → Q1 → P := by intro y0_ y1_; (with_reducible repeat (first | apply Kd.R_alloc | apply Kd.R_drewN | apply Kd.R_drew)); exact (Kd.R_mono (Kd.R_far (p := ⟨gb344, 3, none⟩) (Kd.R_far (p := ⟨gb344, 2, none⟩) (Kd.R_far (p := ⟨gb344, 1, none⟩) (Kd.R_far (p := ⟨gb344, 0, none⟩) (Kd.R_types y0_ y1_ (by decide)) (fun _ hk => hk.2) (.int .i64 t336)) (fun _ hk => hk.2) (.slice Ao82 t337.length co82)) (fun _ hk => hk.2) (.string t340)) (fun _ hk => hk.2) (.bool t341)) (fun _ h_ => h_.1))) : P := h y0 y1
theorem tq15_f {P Q0 Q1 : Prop} (y0 : Q0) (y1 : Q1) (h : Q0 → Q1 → P := by intro y0_ y1_; (with_reducible repeat (first | apply Kd.R_alloc | apply Kd.R_drewN | apply Kd.R_drew)); exact (Kd.R_mono (Kd.R_far (p := ⟨gb344, 3, none⟩) (Kd.R_far (p := ⟨gb344, 2, none⟩) (Kd.R_far (p := ⟨gb344, 1, none⟩) (Kd.R_far (p := ⟨gb344, 0, none⟩) (Kd.R_types y0_ y1_ (by decide)) (fun _ hk => hk.2) (.int .i64 t336)) (fun _ hk => hk.2) (.slice Ao92 t337.length co92)) (fun _ hk => hk.2) (.string t340)) (fun _ hk => hk.2) (.bool t341)) (fun _ h_ => h_.1))) : P := h y0 y1
/-! ### usherlaw8_ReplyLimits: function 8 -/
mutual
def usherlaw8_ReplyLimits.l0 : Nat → Int → Int → Int → Bool → Int → List (S26) → ByteArray → Bool → Option (Bool)
 | 0, _, _, _, _, _, _, _, _ => none
 | k + 1, x4, x323000, x323001, x323002, x324000, x324001, x324002, x324003 => (usherkit_Pick.f x323000 3).bind fun t324 => (if x4 < (wrap64 (63 + t324)) then (if x324001.length < 4398046511104 then (usherlaw8_ReplyLimits.l0 k (wrap64 (x4 + 1)) x323000 x323001 x323002 x324000 (x324001 ++ [(⟨(⟨#[97]⟩ : ByteArray), (⟨#[98]⟩ : ByteArray)⟩ : S26)]) x324002 x324003) else (none)) else ((usherkit_Pick.f x323001 24).bind fun t328 => (if t328 < 3 then (usherlaw8_ReplyLimits.j1 k (wrap64 ((wrap64 (t328 + 1048576)) - 1)) x323000 x323001 x323002 x324000 x324001 x324002 x324003) else (usherlaw8_ReplyLimits.j1 k t328 x323000 x323001 x323002 x324000 x324001 x324002 x324003))))
def usherlaw8_ReplyLimits.j1 : Nat → Int → Int → Int → Bool → Int → List (S26) → ByteArray → Bool → Option (Bool)
 | 0, _, _, _, _, _, _, _, _ => none
 | k + 1, x5, x323000, x323001, x323002, x324000, x324001, x324002, x324003 => usherlaw8_ReplyLimits.l1 k x5 ([] : List Int) 0 x323000 x323001 x323002 x324000 x324001 x324002 x324003
def usherlaw8_ReplyLimits.l1 : Nat → Int → List Int → Int → Int → Int → Bool → Int → List (S26) → ByteArray → Bool → Option (Bool)
 | 0, _, _, _, _, _, _, _, _, _, _ => none
 | k + 1, x5, x6, x7, x323000, x323001, x323002, x324000, x324001, x324002, x324003 => if x7 < x5 then (if x6.length < 140737488355328 then (usherlaw8_ReplyLimits.l1 k x5 (x6 ++ [120]) (wrap64 (x7 + 1)) x323000 x323001 x323002 x324000 x324001 x324002 x324003) else (none)) else (if x323002 = true then (usherlaw8_ReplyLimits.j3 k x323000 x323001 x323002 204 x324001 (strOfNums x6) x324003) else (usherlaw8_ReplyLimits.j3 k x323000 x323001 x323002 x324000 x324001 (strOfNums x6) x324003))
def usherlaw8_ReplyLimits.j3 : Nat → Int → Int → Bool → Int → List (S26) → ByteArray → Bool → Option (Bool)
 | 0, _, _, _, _, _, _, _ => none
 | k + 1, x323000, x323001, x323002, x324000, x324001, x324002, x324003 => (reply_Render.f k x324000 x324001 x324002 x324003 false).bind fun bt332 => (if (x324001.length : Int) > 64 then (usherlaw8_ReplyLimits.j4 k bt332.1 bt332.2 true x323000 x323001 x323002 x324000 x324001 x324002 x324003) else (usherlaw8_ReplyLimits.j4 k bt332.1 bt332.2 (decide ((x324002.size : Int) > 1048576)) x323000 x323001 x323002 x324000 x324001 x324002 x324003))
def usherlaw8_ReplyLimits.j4 : Nat → ByteArray → Option Int → Bool → Int → Int → Bool → Int → List (S26) → ByteArray → Bool → Option (Bool)
 | 0, _, _, _, _, _, _, _, _, _, _ => none
 | k + 1, x8, x9, x65, x323000, x323001, x323002, x324000, x324001, x324002, x324003 => if x65 = true then (if x8.toList = ([] : List UInt8) then ((usherkit_Num.f x9).bind fun t334 => (some (t334 == 3))) else (some false)) else (if x323002 = true then (if x8.toList = ([] : List UInt8) then ((usherkit_Num.f x9).bind fun t335 => (some (t335 == 1))) else (some false)) else ((reply_Read.f k x8).bind fun bt336 => ((usherref0_SameReply.f k x324000 x324001 x324002 x324003 bt336.1 bt336.2.1 bt336.2.2.1 bt336.2.2.2.1).bind fun t345 => (if x9.isNone = true then (if bt336.2.2.2.2.2.isNone = true then (if bt336.2.2.2.2.1 = (x8.size : Int) then (some t345) else (some false)) else (some false)) else (some false)))))
end
def usherlaw8_ReplyLimits.f (k : Nat) (a0_0 : Int) (a0_1 : Int) (a0_2 : Bool) : Option (Bool) := usherlaw8_ReplyLimits.l0 k 0 a0_0 a0_1 a0_2 200 ([] : List (S26)) (⟨#[]⟩ : ByteArray) false
theorem usherlaw8_ReplyLimits.mono_l : ∀ k, (∀ y0 y1 y2 y3 y4 y5 y6 y7, LeO (usherlaw8_ReplyLimits.l0 k y0 y1 y2 y3 y4 y5 y6 y7) (usherlaw8_ReplyLimits.l0 (k + 1) y0 y1 y2 y3 y4 y5 y6 y7)) ∧ (∀ y0 y1 y2 y3 y4 y5 y6 y7, LeO (usherlaw8_ReplyLimits.j1 k y0 y1 y2 y3 y4 y5 y6 y7) (usherlaw8_ReplyLimits.j1 (k + 1) y0 y1 y2 y3 y4 y5 y6 y7)) ∧ (∀ y0 y1 y2 y3 y4 y5 y6 y7 y8 y9, LeO (usherlaw8_ReplyLimits.l1 k y0 y1 y2 y3 y4 y5 y6 y7 y8 y9) (usherlaw8_ReplyLimits.l1 (k + 1) y0 y1 y2 y3 y4 y5 y6 y7 y8 y9)) ∧ (∀ y0 y1 y2 y3 y4 y5 y6, LeO (usherlaw8_ReplyLimits.j3 k y0 y1 y2 y3 y4 y5 y6) (usherlaw8_ReplyLimits.j3 (k + 1) y0 y1 y2 y3 y4 y5 y6)) ∧ (∀ y0 y1 y2 y3 y4 y5 y6 y7 y8 y9, LeO (usherlaw8_ReplyLimits.j4 k y0 y1 y2 y3 y4 y5 y6 y7 y8 y9) (usherlaw8_ReplyLimits.j4 (k + 1) y0 y1 y2 y3 y4 y5 y6 y7 y8 y9))
 | 0 => ⟨fun _ _ _ _ _ _ _ _ r h => by simp [usherlaw8_ReplyLimits.l0] at h, fun _ _ _ _ _ _ _ _ r h => by simp [usherlaw8_ReplyLimits.j1] at h, fun _ _ _ _ _ _ _ _ _ _ r h => by simp [usherlaw8_ReplyLimits.l1] at h, fun _ _ _ _ _ _ _ r h => by simp [usherlaw8_ReplyLimits.j3] at h, fun _ _ _ _ _ _ _ _ _ _ r h => by simp [usherlaw8_ReplyLimits.j4] at h⟩
 | k + 1 => by
  obtain ⟨ih0, ih1, ih2, ih3, ih4⟩ := usherlaw8_ReplyLimits.mono_l k
  refine ⟨?_, ?_, ?_, ?_, ?_⟩
  ·intro y0 y1 y2 y3 y4 y5 y6 y7
   unfold usherlaw8_ReplyLimits.l0
   repeat' first
   | (with_reducible exact ih0 _ _ _ _ _ _ _ _)
   | (with_reducible exact ih1 _ _ _ _ _ _ _ _)
   | (with_reducible exact ih2 _ _ _ _ _ _ _ _ _ _)
   | (with_reducible exact ih3 _ _ _ _ _ _ _)
   | (with_reducible exact ih4 _ _ _ _ _ _ _ _ _ _)
   | (with_reducible exact reply_Read.mono _ _)
   | (with_reducible exact reply_Render.mono _ _ _ _ _ _)
   | (with_reducible exact usherref0_SameReply.mono _ _ _ _ _ _ _ _ _)
   | (with_reducible exact LeO.refl _)
   | (with_reducible exact LeO.none _)
   | (with_reducible refine LeO.ite ?_ ?_)
   | (with_reducible refine LeO.bind ?_ (fun _ => ?_))
   | exact ih0 _ _ _ _ _ _ _ _
   | exact ih1 _ _ _ _ _ _ _ _
   | exact ih2 _ _ _ _ _ _ _ _ _ _
   | exact ih3 _ _ _ _ _ _ _
   | exact ih4 _ _ _ _ _ _ _ _ _ _
   | exact reply_Read.mono _ _
   | exact reply_Render.mono _ _ _ _ _ _
   | exact usherref0_SameReply.mono _ _ _ _ _ _ _ _ _
   | exact LeO.none _
   | refine LeO.ite ?_ ?_
   | refine LeO.bind ?_ (fun _ => ?_)
  ·intro y0 y1 y2 y3 y4 y5 y6 y7
   unfold usherlaw8_ReplyLimits.j1
   repeat' first
   | (with_reducible exact ih0 _ _ _ _ _ _ _ _)
   | (with_reducible exact ih1 _ _ _ _ _ _ _ _)
   | (with_reducible exact ih2 _ _ _ _ _ _ _ _ _ _)
   | (with_reducible exact ih3 _ _ _ _ _ _ _)
   | (with_reducible exact ih4 _ _ _ _ _ _ _ _ _ _)
   | (with_reducible exact reply_Read.mono _ _)
   | (with_reducible exact reply_Render.mono _ _ _ _ _ _)
   | (with_reducible exact usherref0_SameReply.mono _ _ _ _ _ _ _ _ _)
   | (with_reducible exact LeO.refl _)
   | (with_reducible exact LeO.none _)
   | (with_reducible refine LeO.ite ?_ ?_)
   | (with_reducible refine LeO.bind ?_ (fun _ => ?_))
   | exact ih0 _ _ _ _ _ _ _ _
   | exact ih1 _ _ _ _ _ _ _ _
   | exact ih2 _ _ _ _ _ _ _ _ _ _
   | exact ih3 _ _ _ _ _ _ _
   | exact ih4 _ _ _ _ _ _ _ _ _ _
   | exact reply_Read.mono _ _
   | exact reply_Render.mono _ _ _ _ _ _
   | exact usherref0_SameReply.mono _ _ _ _ _ _ _ _ _
   | exact LeO.none _
   | refine LeO.ite ?_ ?_
   | refine LeO.bind ?_ (fun _ => ?_)
  ·intro y0 y1 y2 y3 y4 y5 y6 y7 y8 y9
   unfold usherlaw8_ReplyLimits.l1
   repeat' first
   | (with_reducible exact ih0 _ _ _ _ _ _ _ _)
   | (with_reducible exact ih1 _ _ _ _ _ _ _ _)
   | (with_reducible exact ih2 _ _ _ _ _ _ _ _ _ _)
   | (with_reducible exact ih3 _ _ _ _ _ _ _)
   | (with_reducible exact ih4 _ _ _ _ _ _ _ _ _ _)
   | (with_reducible exact reply_Read.mono _ _)
   | (with_reducible exact reply_Render.mono _ _ _ _ _ _)
   | (with_reducible exact usherref0_SameReply.mono _ _ _ _ _ _ _ _ _)
   | (with_reducible exact LeO.refl _)
   | (with_reducible exact LeO.none _)
   | (with_reducible refine LeO.ite ?_ ?_)
   | (with_reducible refine LeO.bind ?_ (fun _ => ?_))
   | exact ih0 _ _ _ _ _ _ _ _
   | exact ih1 _ _ _ _ _ _ _ _
   | exact ih2 _ _ _ _ _ _ _ _ _ _
   | exact ih3 _ _ _ _ _ _ _
   | exact ih4 _ _ _ _ _ _ _ _ _ _
   | exact reply_Read.mono _ _
   | exact reply_Render.mono _ _ _ _ _ _
   | exact usherref0_SameReply.mono _ _ _ _ _ _ _ _ _
   | exact LeO.none _
   | refine LeO.ite ?_ ?_
   | refine LeO.bind ?_ (fun _ => ?_)
  ·intro y0 y1 y2 y3 y4 y5 y6
   unfold usherlaw8_ReplyLimits.j3
   repeat' first
   | (with_reducible exact ih0 _ _ _ _ _ _ _ _)
   | (with_reducible exact ih1 _ _ _ _ _ _ _ _)
   | (with_reducible exact ih2 _ _ _ _ _ _ _ _ _ _)
   | (with_reducible exact ih3 _ _ _ _ _ _ _)
   | (with_reducible exact ih4 _ _ _ _ _ _ _ _ _ _)
   | (with_reducible exact reply_Read.mono _ _)
   | (with_reducible exact reply_Render.mono _ _ _ _ _ _)
   | (with_reducible exact usherref0_SameReply.mono _ _ _ _ _ _ _ _ _)
   | (with_reducible exact LeO.refl _)
   | (with_reducible exact LeO.none _)
   | (with_reducible refine LeO.ite ?_ ?_)
   | (with_reducible refine LeO.bind ?_ (fun _ => ?_))
   | exact ih0 _ _ _ _ _ _ _ _
   | exact ih1 _ _ _ _ _ _ _ _
   | exact ih2 _ _ _ _ _ _ _ _ _ _
   | exact ih3 _ _ _ _ _ _ _
   | exact ih4 _ _ _ _ _ _ _ _ _ _
   | exact reply_Read.mono _ _
   | exact reply_Render.mono _ _ _ _ _ _
   | exact usherref0_SameReply.mono _ _ _ _ _ _ _ _ _
   | exact LeO.none _
   | refine LeO.ite ?_ ?_
   | refine LeO.bind ?_ (fun _ => ?_)
  ·intro y0 y1 y2 y3 y4 y5 y6 y7 y8 y9
   unfold usherlaw8_ReplyLimits.j4
   repeat' first
   | (with_reducible exact ih0 _ _ _ _ _ _ _ _)
   | (with_reducible exact ih1 _ _ _ _ _ _ _ _)
   | (with_reducible exact ih2 _ _ _ _ _ _ _ _ _ _)
   | (with_reducible exact ih3 _ _ _ _ _ _ _)
   | (with_reducible exact ih4 _ _ _ _ _ _ _ _ _ _)
   | (with_reducible exact reply_Read.mono _ _)
   | (with_reducible exact reply_Render.mono _ _ _ _ _ _)
   | (with_reducible exact usherref0_SameReply.mono _ _ _ _ _ _ _ _ _)
   | (with_reducible exact LeO.refl _)
   | (with_reducible exact LeO.none _)
   | (with_reducible refine LeO.ite ?_ ?_)
   | (with_reducible refine LeO.bind ?_ (fun _ => ?_))
   | exact ih0 _ _ _ _ _ _ _ _
   | exact ih1 _ _ _ _ _ _ _ _
   | exact ih2 _ _ _ _ _ _ _ _ _ _
   | exact ih3 _ _ _ _ _ _ _
   | exact ih4 _ _ _ _ _ _ _ _ _ _
   | exact reply_Read.mono _ _
   | exact reply_Render.mono _ _ _ _ _ _
   | exact usherref0_SameReply.mono _ _ _ _ _ _ _ _ _
   | exact LeO.none _
   | refine LeO.ite ?_ ?_
   | refine LeO.bind ?_ (fun _ => ?_)
theorem usherlaw8_ReplyLimits.mono : ∀ a0 a1 a2 k, LeO (usherlaw8_ReplyLimits.f k a0 a1 a2) (usherlaw8_ReplyLimits.f (k + 1) a0 a1 a2) := by
 intro a0 a1 a2 k
 obtain ⟨ih0, ih1, ih2, ih3, ih4⟩ := usherlaw8_ReplyLimits.mono_l k
 unfold usherlaw8_ReplyLimits.f
 repeat' first
   | (with_reducible exact ih0 _ _ _ _ _ _ _ _)
   | (with_reducible exact ih1 _ _ _ _ _ _ _ _)
   | (with_reducible exact ih2 _ _ _ _ _ _ _ _ _ _)
   | (with_reducible exact ih3 _ _ _ _ _ _ _)
   | (with_reducible exact ih4 _ _ _ _ _ _ _ _ _ _)
   | (with_reducible exact reply_Read.mono _ _)
   | (with_reducible exact reply_Render.mono _ _ _ _ _ _)
   | (with_reducible exact usherref0_SameReply.mono _ _ _ _ _ _ _ _ _)
   | (with_reducible exact LeO.refl _)
   | (with_reducible exact LeO.none _)
   | (with_reducible refine LeO.ite ?_ ?_)
   | (with_reducible refine LeO.bind ?_ (fun _ => ?_))
   | exact ih0 _ _ _ _ _ _ _ _
   | exact ih1 _ _ _ _ _ _ _ _
   | exact ih2 _ _ _ _ _ _ _ _ _ _
   | exact ih3 _ _ _ _ _ _ _
   | exact ih4 _ _ _ _ _ _ _ _ _ _
   | exact reply_Read.mono _ _
   | exact reply_Render.mono _ _ _ _ _ _
   | exact usherref0_SameReply.mono _ _ _ _ _ _ _ _ _
   | exact LeO.none _
   | refine LeO.ite ?_ ?_
   | refine LeO.bind ?_ (fun _ => ?_)
set_option maxHeartbeats 8000000 in
set_option maxRecDepth 100000 in
theorem usherlaw8_ReplyLimits.calls [Sent] (k : Nat) (a0_0 : Int) (a0_1 : Int) (a0_2 : Bool) (r : Bool) (w : World) (h : usherlaw8_ReplyLimits.f k a0_0 a0_1 a0_2 = some r) (hG : Glob [0, 1, 2, 3, 4, 5, 6, 8, 9, 10, 11, 12, 13, 14, 15, 16, 18, 19, 999] w) :
  Calls Tryd.prog 8 #[.agg #[.int .i64 a0_0, .int .i64 a0_1, .bool a0_2]] w fun e w' => e = .returned (.bool r) ∧ Below w.heap.size w w' := by
 have HG := Aq15 hG
 clear hG
 have hu59 := Tryd.underlying59
 have hu24 := Tryd.underlying24
 have hu26 := Tryd.underlying26
 have hu28 := Tryd.underlying28
 have hu143 := Tryd.underlying143
 have HB := Aq15 (Below.refl w.heap.size w)
 have H : (usherlaw8_ReplyLimits.l0 k 0 a0_0 a0_1 a0_2 200 ([] : List (S26)) (⟨#[]⟩ : ByteArray) false) = some r := h
 clear h
 have H' := Aq15 H
 clear H
 go_enter Tryd.func8, Tryd.ntmps8
 go_wp2_with (first | ((with_reducible refine gate_dst (N := 1) rfl ?_); (try (refine gate_guard (by rfl) ?_; dsimp only)); refine box_event ?hg (N := 1) ?hd (cs := #[.int .i64 a0_0, .int .i64 a0_1, .bool a0_2]) (t := 59) ?hr ?_; (case hd => rfl); (case hg => rfl); (case hr => first | (go_simp; done) | (go_simp; rfl)); intro gb322 hg w2 hbox hb; have BK322 := Aq15 (hbox); have GW322 := Aq15 ((by rw [hg]; exact (below_size tq15_4) : w.heap.size ≤ gb322)); have GE322 := Aq15 ((by rw [hg]; exact (below_size tq15_4) : w.heap.size ≤ gb322)); replace HB := Aq15 (below_step tq15_4 hb); clear hb hbox hg) | ((with_reducible refine gate_dst (N := 3) rfl ?_); (try (refine gate_guard (by rfl) ?_; dsimp only)); refine box_event ?hg (N := 3) ?hd (cs := #[.int .i64 0, .slice none 0 0, .string (⟨#[]⟩ : ByteArray), .bool false]) (t := 24) ?hr ?_; (case hd => rfl); (case hg => rfl); (case hr => first | (go_simp; done) | (go_simp; rfl)); intro gb323 hg w3 hbox hb; have BK323 := Aq15 (hbox); have GW323 := Aq15 ((by rw [hg]; exact (below_size (tq15_7 GE322.out)) : w.heap.size ≤ gb323)); have GE323 := Aq15 ((by rw [hg]; exact (below_size (tq15_7 GE322.out)) : w.heap.size ≤ gb323)); have NB322_323 := Aq15 ((by rw [hg]; exact Nat.ne_of_lt (blk_lt (g := gb322) (o := .cells #[.int .i64 a0_0, .int .i64 a0_1, .bool a0_2] 59 (0, 0)) (tq15_3 BK322.out)) : gb322 ≠ gb323)); have NB323_322 := Aq15 ((by rw [hg]; exact Nat.ne_of_gt (blk_lt (g := gb322) (o := .cells #[.int .i64 a0_0, .int .i64 a0_1, .bool a0_2] 59 (0, 0)) (tq15_3 BK322.out)) : gb323 ≠ gb322)); replace BK322 := Aq15 (blk_below (g := gb322) (o := .cells #[.int .i64 a0_0, .int .i64 a0_1, .bool a0_2] 59 (0, 0)) (tq15_3 BK322.out) hb); replace HB := Aq15 (below_step (tq15_7 GE322.out) hb); clear hb hbox hg; have hnb4 := NB323_322.out; have hnc4 := NB322_323.out; have hcz5_0 : w3.cell? ⟨gb323, 0, none⟩ = some (.int .i64 0) := (blk_cell BK323.out 0).trans rfl; have hcz5_1 : w3.cell? ⟨gb323, 1, none⟩ = some (.slice none 0 0) := (blk_cell BK323.out 1).trans rfl; have hcz5_2 : w3.cell? ⟨gb323, 2, none⟩ = some (.string (⟨#[]⟩ : ByteArray)) := (blk_cell BK323.out 2).trans rfl; have hcz5_3 : w3.cell? ⟨gb323, 3, none⟩ = some (.bool false) := (blk_cell BK323.out 3).trans rfl; have hfz5_0 := blk_frozen BK323.out 0; have hfz5_1 := blk_frozen BK323.out 1; have hfz5_2 := blk_frozen BK323.out 2; have hfz5_3 := blk_frozen BK323.out 3))
 go_loopg [4] k (fun kq v4 w' => ∃ (x4_1 : Int) (x324001_1 : List (S26)) (u324001 : Value), v4 = .int .i64 x4_1 ∧ Aside0 (usherlaw8_ReplyLimits.l0 kq x4_1 a0_0 a0_1 a0_2 200 x324001_1 (⟨#[]⟩ : ByteArray) false = some r) ∧ Aside0 (kq ≤ k) ∧ Aside0 (Kd.R k26 26 w' w.heap.size (fun _ => True) u324001 x324001_1) ∧ Aside0 (w'.heap[gb322]? = some (.cells #[.int .i64 a0_0, .int .i64 a0_1, .bool a0_2] 59 (0, 0))) ∧ Aside0 (w'.heap[gb323]? = some (.cells #[.int .i64 200, u324001, .string (⟨#[]⟩ : ByteArray), .bool false] 24 (0, 0))) ∧ Aside0 (Below w.heap.size w w'))
 case atStart => exact ⟨(0), (([] : List (S26))), (.slice none 0 0), tq15_0, H', ⟨Nat.le_refl _⟩, ⟨tq15_6⟩, ⟨(tq15_b NB322_323.out BK322.out)⟩, ⟨by (with_reducible repeat (first | refine blk_drewN ?_ _ | refine blk_drew ?_ | refine blk_alloc ?_ _)); refine blk_put (cs := #[.int .i64 200, .slice none 0 0, .string (⟨#[]⟩ : ByteArray), .bool false]) ?_ 3 _ rfl; (with_reducible repeat (first | refine blk_drewN ?_ _ | refine blk_drew ?_ | refine blk_alloc ?_ _)); refine blk_put (cs := #[.int .i64 200, .slice none 0 0, .string (⟨#[]⟩ : ByteArray), .bool false]) ?_ 2 _ rfl; (with_reducible repeat (first | refine blk_drewN ?_ _ | refine blk_drew ?_ | refine blk_alloc ?_ _)); refine blk_put (cs := #[.int .i64 200, .slice none 0 0, .string (⟨#[]⟩ : ByteArray), .bool false]) ?_ 1 _ rfl; (with_reducible repeat (first | refine blk_drewN ?_ _ | refine blk_drew ?_ | refine blk_alloc ?_ _)); refine blk_put (cs := #[.int .i64 0, .slice none 0 0, .string (⟨#[]⟩ : ByteArray), .bool false]) ?_ 0 _ rfl; (with_reducible repeat (first | refine blk_drewN ?_ _ | refine blk_drew ?_ | refine blk_alloc ?_ _)); exact BK323.out⟩, ⟨(tq15_8 GE322.out GE323.out)⟩⟩
 case round =>
  clear H'
  try clear p2
  try clear c4
  try clear hcz5_0
  try clear hcz5_1
  try clear hcz5_2
  try clear hcz5_3
  try clear hfz5_0
  try clear hfz5_1
  try clear hfz5_2
  try clear hfz5_3
  obtain ⟨x4_1, x324001_1, u324001, rfl, HA, HK1, HO_324001, BK322, BK323, HB⟩ := hrel
  cases gk with
  | zero => exact absurd HA.out (by simp [usherlaw8_ReplyLimits.l0])
  | succ k1 =>
   have H := HA.out
   clear HA
   simp only [usherlaw8_ReplyLimits.l0] at H
   replace H := Option.bind_eq_some_iff.mp H
   obtain ⟨t324, A60, H⟩ := H
   replace H : (if x4_1 < (wrap64 (63 + t324)) then (if x324001_1.length < 4398046511104 then (usherlaw8_ReplyLimits.l0 k1 (wrap64 (x4_1 + 1)) a0_0 a0_1 a0_2 200 (x324001_1 ++ [(⟨(⟨#[97]⟩ : ByteArray), (⟨#[98]⟩ : ByteArray)⟩ : S26)]) (⟨#[]⟩ : ByteArray) false) else (none)) else ((usherkit_Pick.f a0_1 24).bind fun t328 => (if t328 < 3 then (usherlaw8_ReplyLimits.j1 k1 (wrap64 ((wrap64 (t328 + 1048576)) - 1)) a0_0 a0_1 a0_2 200 x324001_1 (⟨#[]⟩ : ByteArray) false) else (usherlaw8_ReplyLimits.j1 k1 t328 a0_0 a0_1 a0_2 200 x324001_1 (⟨#[]⟩ : ByteArray) false)))) = some r := H
   have A6 := Aq15 A60
   clear A60
   by_cases c7 : x4_1 < (wrap64 (63 + t324))
   ·rw [if_pos c7] at H
    have c7b0 : decide (x4_1 < (wrap64 (63 + t324))) = true := decide_eq_true c7
    clear c7
    by_cases c8 : x324001_1.length < 4398046511104
    ·rw [if_pos c8] at H
     have LMc8 := Aq15 c8
     clear c8
     obtain ⟨y325, hy325⟩ : ∃ y_ : List (S26), y_ = (x324001_1 ++ [(⟨(⟨#[97]⟩ : ByteArray), (⟨#[98]⟩ : ByteArray)⟩ : S26)]) := ⟨_, rfl⟩
     replace H : (usherlaw8_ReplyLimits.l0 k1 (wrap64 (x4_1 + 1)) a0_0 a0_1 a0_2 200 y325 (⟨#[]⟩ : ByteArray) false) = some r := by first | (rw [hy325]; with_reducible exact H) | (have H2_ := (Option.bind_some _ _).symm.trans H; rw [hy325]; with_reducible exact H2_) | (have H2_ := (Option.bind_some _ _).symm.trans H; with_reducible exact H2_) | with_reducible exact H | (rw [hy325]; exact H) | exact H
     have Ny325 := Aq15 hy325
     clear hy325
     have H' := Aq15 H
     clear H
     have hnb9 := NB322_323.out
     have hnc9 := NB323_322.out
     have hcz10_0 : wr.cell? ⟨gb322, 0, none⟩ = some (.int .i64 a0_0) := (blk_cell BK322.out 0).trans rfl
     have hcz10_1 : wr.cell? ⟨gb322, 1, none⟩ = some (.int .i64 a0_1) := (blk_cell BK322.out 1).trans rfl
     have hcz10_2 : wr.cell? ⟨gb322, 2, none⟩ = some (.bool a0_2) := (blk_cell BK322.out 2).trans rfl
     have hfz10_0 := blk_frozen BK322.out 0
     have hfz10_1 := blk_frozen BK322.out 1
     have hfz10_2 := blk_frozen BK322.out 2
     go_wp2_with (first | ((with_reducible refine gate_callee (f := 34) rfl ?_); refine goesL_ (some 18) rfl rfl Tryd.func34 (by kernel_rfl) rfl #[.int .i64 a0_0, .int .i64 3] rfl tq15_5 ?_; (with_reducible refine (usherkit_Pick.calls a0_0 3 t324 _ A6.out).mono ?_); rintro e w' ⟨rfl, ⟨nd, rfl⟩⟩; refine ⟨_, rfl, ?_⟩; (try (rw [drewN_self wr]; generalize hq_ : World.drewN wr _ = wr; have n0_ : Aside0 (Kd.R k26 26 wr w.heap.size (fun _ => True) u324001 x324001_1) := ⟨by rw [← hq_]; exact (tq15_2 HO_324001.out)⟩; have n1_ : Aside0 (wr.heap[gb322]? = some (.cells #[.int .i64 a0_0, .int .i64 a0_1, .bool a0_2] 59 (0, 0))) := ⟨by rw [← hq_]; exact (tq15_3 BK322.out)⟩; have n2_ : Aside0 (wr.heap[gb323]? = some (.cells #[.int .i64 200, u324001, .string (⟨#[]⟩ : ByteArray), .bool false] 24 (0, 0))) := ⟨by rw [← hq_]; exact (tq15_3 BK323.out)⟩; have n3_ : Aside0 (Below w.heap.size w wr) := ⟨by rw [← hq_]; exact (tq15_8 GE322.out GE323.out)⟩; clear HO_324001 BK322 BK323 HB hq_; have HO_324001 := n0_; have BK322 := n1_; have BK323 := n2_; have HB := n3_; clear n0_ n1_ n2_ n3_)); have hcz11_0 : wr.cell? ⟨gb323, 0, none⟩ = some (.int .i64 200) := (blk_cell BK323.out 0).trans rfl; have hcz11_1 : wr.cell? ⟨gb323, 1, none⟩ = some (u324001) := (blk_cell BK323.out 1).trans rfl; have hcz11_2 : wr.cell? ⟨gb323, 2, none⟩ = some (.string (⟨#[]⟩ : ByteArray)) := (blk_cell BK323.out 2).trans rfl; have hcz11_3 : wr.cell? ⟨gb323, 3, none⟩ = some (.bool false) := (blk_cell BK323.out 3).trans rfl; have hfz11_0 := blk_frozen BK323.out 0; have hfz11_1 := blk_frozen BK323.out 1; have hfz11_2 := blk_frozen BK323.out 2; have hfz11_3 := blk_frozen BK323.out 3) | ((with_reducible refine gate_builtin (b := .append) (xs := #[.tmp 24, .tmp 26]) rfl ?_); (try (refine gate_guard (by rfl) ?_; dsimp only)); at_builtin; refine Kd.R_append k26 (w0 := w) w.heap.size rfl (.tmp 24) (.tmp 26) 22 26 (.agg #[(.string ⟨#[]⟩), (.string ⟨#[]⟩)]) 32 rfl Tryd.underlying22 info26 rfl (by decide) (by omega) u324001 x324001_1 (⟨(⟨#[97]⟩ : ByteArray), (⟨#[98]⟩ : ByteArray)⟩ : S26) [.string (⟨#[97]⟩ : ByteArray), .string (⟨#[98]⟩ : ByteArray)] (fun _ => True) (fun _ => False) rfl rfl ?aP (fun _ hk => hk.elim) ?aF ?aO ?aB ?aS ?aL ?_; (case aP => exact k26_mkM _ _ _ (⟨(⟨#[97]⟩ : ByteArray), (⟨#[98]⟩ : ByteArray)⟩ : S26)); (case aB => exact (tq15_8 GE322.out GE323.out)); (case aF => exact (fun _ _ => trivial)); (case aO => exact (tq15_2 HO_324001.out)); (case aS => exact (below_size (tq15_8 GE322.out GE323.out))); (case aL => have := LMc8.out; omega); intro v326 w12 ho hb hg hat; rw [← Ny325.out] at ho; have n0_ := Aq15 (blk_grown (g := gb322) (o := .cells #[.int .i64 a0_0, .int .i64 a0_1, .bool a0_2] 59 (0, 0)) (tq15_3 BK322.out) hg (Kd.R_ne HO_324001.out BK322.out (by decide))); have n1_ := Aq15 (blk_grown (g := gb323) (o := .cells #[.int .i64 200, u324001, .string (⟨#[]⟩ : ByteArray), .bool false] 24 (0, 0)) (tq15_3 BK323.out) hg (Kd.R_ne HO_324001.out BK323.out (by decide))); have n2_ := Aq15 (hb); have n3_ := Aq15 (ho); clear BK322; clear BK323; clear HB; clear HO_324001; have BK322 := n0_; have BK323 := n1_; have HB := n2_; have HO327 := n3_; clear n0_ n1_ n2_ n3_; clear ho hb hg hat; obtain ⟨Ao13, co13, eo13⟩ := Kd.R_slice HO327.out; subst eo13; have hcz14_0 : w12.cell? ⟨gb323, 0, none⟩ = some (.int .i64 200) := (blk_cell BK323.out 0).trans rfl; have hcz14_1 : w12.cell? ⟨gb323, 1, none⟩ = some (u324001) := (blk_cell BK323.out 1).trans rfl; have hcz14_2 : w12.cell? ⟨gb323, 2, none⟩ = some (.string (⟨#[]⟩ : ByteArray)) := (blk_cell BK323.out 2).trans rfl; have hcz14_3 : w12.cell? ⟨gb323, 3, none⟩ = some (.bool false) := (blk_cell BK323.out 3).trans rfl; have hfz14_0 := blk_frozen BK323.out 0; have hfz14_1 := blk_frozen BK323.out 1; have hfz14_2 := blk_frozen BK323.out 2; have hfz14_3 := blk_frozen BK323.out 3))
     go_roundg k1
     case measure => have := HK1.out; omega
     case rel => exact ⟨(wrap64 (x4_1 + 1)), (y325), (.slice Ao13 y325.length co13), tq15_0, H', ⟨by have := HK1.out; omega⟩, ⟨by (with_reducible repeat (first | apply Kd.R_alloc | apply Kd.R_drewN | apply Kd.R_drew)); exact Kd.R_mono (Kd.R_far (p := ⟨gb323, 1, none⟩) (Kd.R_types HO327.out BK323.out (by decide)) (fun _ hk => hk.2) (.slice Ao13 y325.length co13)) (fun _ hk => trivial)⟩, ⟨(tq15_a NB322_323.out BK322.out)⟩, ⟨by (with_reducible repeat (first | refine blk_drewN ?_ _ | refine blk_drew ?_ | refine blk_alloc ?_ _)); refine blk_put (cs := #[.int .i64 200, u324001, .string (⟨#[]⟩ : ByteArray), .bool false]) ?_ 1 _ rfl; (with_reducible repeat (first | refine blk_drewN ?_ _ | refine blk_drew ?_ | refine blk_alloc ?_ _)); exact BK323.out⟩, ⟨(tq15_8 GE322.out GE323.out)⟩⟩
    ·rw [if_neg c8] at H
     exact absurd H (by simp)
   ·rw [if_neg c7] at H
    have c7b0 : decide (x4_1 < (wrap64 (63 + t324))) = false := decide_eq_false c7
    clear c7
    replace H := Option.bind_eq_some_iff.mp H
    obtain ⟨t328, A150, H⟩ := H
    replace H : (if t328 < 3 then (usherlaw8_ReplyLimits.j1 k1 (wrap64 ((wrap64 (t328 + 1048576)) - 1)) a0_0 a0_1 a0_2 200 x324001_1 (⟨#[]⟩ : ByteArray) false) else (usherlaw8_ReplyLimits.j1 k1 t328 a0_0 a0_1 a0_2 200 x324001_1 (⟨#[]⟩ : ByteArray) false)) = some r := H
    have A15 := Aq15 A150
    clear A150
    have HC16 := Aq15 H
    clear H
    have hnb17 := NB322_323.out
    have hnc17 := NB323_322.out
    have hcz18_0 : wr.cell? ⟨gb322, 0, none⟩ = some (.int .i64 a0_0) := (blk_cell BK322.out 0).trans rfl
    have hcz18_1 : wr.cell? ⟨gb322, 1, none⟩ = some (.int .i64 a0_1) := (blk_cell BK322.out 1).trans rfl
    have hcz18_2 : wr.cell? ⟨gb322, 2, none⟩ = some (.bool a0_2) := (blk_cell BK322.out 2).trans rfl
    have hfz18_0 := blk_frozen BK322.out 0
    have hfz18_1 := blk_frozen BK322.out 1
    have hfz18_2 := blk_frozen BK322.out 2
    go_upto_if 33 with (first | ((with_reducible refine gate_callee (f := 34) rfl ?_); refine goesL_ (some 18) rfl rfl Tryd.func34 (by kernel_rfl) rfl #[.int .i64 a0_0, .int .i64 3] rfl tq15_5 ?_; (with_reducible refine (usherkit_Pick.calls a0_0 3 t324 _ A6.out).mono ?_); rintro e w' ⟨rfl, ⟨nd, rfl⟩⟩; refine ⟨_, rfl, ?_⟩) | ((with_reducible refine gate_callee (f := 34) rfl ?_); refine goesL_ (some 31) rfl rfl Tryd.func34 (by kernel_rfl) rfl #[.int .i64 a0_1, .int .i64 24] rfl tq15_5 ?_; (with_reducible refine (usherkit_Pick.calls a0_1 24 t328 _ A15.out).mono ?_); rintro e w' ⟨rfl, ⟨nd, rfl⟩⟩; refine ⟨_, rfl, ?_⟩))
    (try simp only [Act.put, List.setIfInBounds_toArray, List.set_cons_zero, List.set_cons_succ])
    go_cut [5] (fun v5 wc => ∃ (kq : Nat) (x5_15 : Int), v5 = .int .i64 x5_15 ∧ Aside0 (usherlaw8_ReplyLimits.j1 kq x5_15 a0_0 a0_1 a0_2 200 x324001_1 (⟨#[]⟩ : ByteArray) false = some r) ∧ Aside0 (kq ≤ k1) ∧ Aside0 (Kd.R k26 26 wc w.heap.size (fun _ => True) u324001 x324001_1) ∧ Aside0 (wc.heap[gb322]? = some (.cells #[.int .i64 a0_0, .int .i64 a0_1, .bool a0_2] 59 (0, 0))) ∧ Aside0 (wc.heap[gb323]? = some (.cells #[.int .i64 200, u324001, .string (⟨#[]⟩ : ByteArray), .bool false] 24 (0, 0))) ∧ Aside0 (Below w.heap.size w wc))
    case first =>
     have H := HC16.out
     clear HC16
     by_cases c19 : t328 < 3
     ·rw [if_pos c19] at H
      have c19b0 : decide (t328 < 3) = true := decide_eq_true c19
      clear c19
      (first | rw [c19b0] | (simp only [i64_w, i32_w]; rw [c19b0]) | skip)
      have H' := Aq15 H
      clear H
      go_wp2
      go_meet
      case rel => exact ⟨_, (wrap64 ((wrap64 (t328 + 1048576)) - 1)), tq15_0, H', ⟨by have := HK1.out; first | omega | exact Nat.le_refl _⟩, ⟨(tq15_2 HO_324001.out)⟩, ⟨(tq15_3 BK322.out)⟩, ⟨(tq15_3 BK323.out)⟩, ⟨(tq15_8 GE322.out GE323.out)⟩⟩
     ·rw [if_neg c19] at H
      have c19b0 : decide (t328 < 3) = false := decide_eq_false c19
      clear c19
      (first | rw [c19b0] | (simp only [i64_w, i32_w]; rw [c19b0]) | skip)
      have H' := Aq15 H
      clear H
      go_wp2
      go_meet
      case rel => exact ⟨_, (t328), tq15_0, H', ⟨by have := HK1.out; first | omega | exact Nat.le_refl _⟩, ⟨(tq15_2 HO_324001.out)⟩, ⟨(tq15_3 BK322.out)⟩, ⟨(tq15_3 BK323.out)⟩, ⟨(tq15_8 GE322.out GE323.out)⟩⟩
    case rest =>
     clear HC16
     try clear c1
     try clear p2
     try clear c3
     try clear c4
     try clear p6
     try clear c7
     try clear c7b0
     try clear c8
     try clear c9
     try clear c17
     try clear c19
     try clear c19b0
     try clear hcz10_0
     try clear hcz10_1
     try clear hcz10_2
     try clear hcz11_0
     try clear hcz11_1
     try clear hcz11_2
     try clear hcz11_3
     try clear hcz14_0
     try clear hcz14_1
     try clear hcz14_2
     try clear hcz14_3
     try clear hcz18_0
     try clear hcz18_1
     try clear hcz18_2
     try clear hcz5_0
     try clear hcz5_1
     try clear hcz5_2
     try clear hcz5_3
     try clear hfz10_0
     try clear hfz10_1
     try clear hfz10_2
     try clear hfz11_0
     try clear hfz11_1
     try clear hfz11_2
     try clear hfz11_3
     try clear hfz14_0
     try clear hfz14_1
     try clear hfz14_2
     try clear hfz14_3
     try clear hfz18_0
     try clear hfz18_1
     try clear hfz18_2
     try clear hfz5_0
     try clear hfz5_1
     try clear hfz5_2
     try clear hfz5_3
     try clear p2
     obtain ⟨kq, x5_15, rfl, HA, HJ15, HO_324001, BK322, BK323, HB⟩ := hcut
     cases kq with
     | zero => exact absurd HA.out (by simp [usherlaw8_ReplyLimits.j1])
     | succ kj15 =>
      have H := HA.out
      clear HA
      simp only [usherlaw8_ReplyLimits.j1] at H
      have H' := Aq15 H
      clear H
      go_wp2
      go_loopg [6, 7] kj15 (fun kq v6 v7 w' => ∃ (x6_3 : List Int) (x7_3 : Int), v7 = .int .i64 x7_3 ∧ Aside0 (usherlaw8_ReplyLimits.l1 kq x5_15 x6_3 x7_3 a0_0 a0_1 a0_2 200 x324001_1 (⟨#[]⟩ : ByteArray) false = some r) ∧ Aside0 (kq ≤ kj15) ∧ Aside0 (Kd.R (Kd.int .u8) 5 w' w.heap.size (fun _ => True) v6 x6_3) ∧ Aside0 (Kd.R k26 26 w' w.heap.size (fun _ => True) u324001 x324001_1) ∧ Aside0 (w'.heap[gb322]? = some (.cells #[.int .i64 a0_0, .int .i64 a0_1, .bool a0_2] 59 (0, 0))) ∧ Aside0 (w'.heap[gb323]? = some (.cells #[.int .i64 200, u324001, .string (⟨#[]⟩ : ByteArray), .bool false] 24 (0, 0))) ∧ Aside0 (Below w.heap.size w w'))
      case atStart => exact ⟨(([] : List Int)), (0), tq15_0, H', ⟨Nat.le_refl _⟩, ⟨tq15_6⟩, ⟨(tq15_2 HO_324001.out)⟩, ⟨(tq15_3 BK322.out)⟩, ⟨(tq15_3 BK323.out)⟩, ⟨(tq15_8 GE322.out GE323.out)⟩⟩
      case round =>
       clear H'
       try clear c1
       try clear p2
       try clear c3
       try clear c4
       try clear p6
       try clear c7
       try clear c7b0
       try clear c8
       try clear c9
       try clear c17
       try clear c19
       try clear c19b0
       try clear hcz10_0
       try clear hcz10_1
       try clear hcz10_2
       try clear hcz11_0
       try clear hcz11_1
       try clear hcz11_2
       try clear hcz11_3
       try clear hcz14_0
       try clear hcz14_1
       try clear hcz14_2
       try clear hcz14_3
       try clear hcz18_0
       try clear hcz18_1
       try clear hcz18_2
       try clear hcz5_0
       try clear hcz5_1
       try clear hcz5_2
       try clear hcz5_3
       try clear hfz10_0
       try clear hfz10_1
       try clear hfz10_2
       try clear hfz11_0
       try clear hfz11_1
       try clear hfz11_2
       try clear hfz11_3
       try clear hfz14_0
       try clear hfz14_1
       try clear hfz14_2
       try clear hfz14_3
       try clear hfz18_0
       try clear hfz18_1
       try clear hfz18_2
       try clear hfz5_0
       try clear hfz5_1
       try clear hfz5_2
       try clear hfz5_3
       try clear p2
       try clear p6
       obtain ⟨x6_3, x7_3, rfl, HA, HK3, HO_6, HO_324001, BK322, BK323, HB⟩ := hrel
       cases gk with
       | zero => exact absurd HA.out (by simp [usherlaw8_ReplyLimits.l1])
       | succ k3 =>
        have H := HA.out
        clear HA
        simp only [usherlaw8_ReplyLimits.l1] at H
        by_cases c20 : x7_3 < x5_15
        ·rw [if_pos c20] at H
         have c20b0 : decide (x7_3 < x5_15) = true := decide_eq_true c20
         clear c20
         by_cases c21 : x6_3.length < 140737488355328
         ·rw [if_pos c21] at H
          have LMc21 := Aq15 c21
          clear c21
          obtain ⟨y329, hy329⟩ : ∃ y_ : List Int, y_ = (x6_3 ++ [120]) := ⟨_, rfl⟩
          replace H : (usherlaw8_ReplyLimits.l1 k3 x5_15 y329 (wrap64 (x7_3 + 1)) a0_0 a0_1 a0_2 200 x324001_1 (⟨#[]⟩ : ByteArray) false) = some r := by first | (rw [hy329]; with_reducible exact H) | (have H2_ := (Option.bind_some _ _).symm.trans H; rw [hy329]; with_reducible exact H2_) | (have H2_ := (Option.bind_some _ _).symm.trans H; with_reducible exact H2_) | with_reducible exact H | (rw [hy329]; exact H) | exact H
          have Ny329 := Aq15 hy329
          clear hy329
          have H' := Aq15 H
          clear H
          go_wp2_with (first | ((with_reducible refine gate_builtin (b := .append) (xs := #[.tmp 42, .tmp 43]) rfl ?_); (try (refine gate_guard (by rfl) ?_; dsimp only)); at_builtin; refine Kd.R_append (Kd.int .u8) (w0 := w) w.heap.size rfl (.tmp 42) (.tmp 43) 61 5 (.int .u8 0) 1 rfl Tryd.underlying61 info5 rfl (by decide) (by omega) u6 x6_3 120 [.int .u8 120] (fun _ => True) (fun _ => False) rfl rfl ?aP (fun _ hk => hk.elim) ?aF ?aO ?aB ?aS ?aL ?_; (case aP => exact rfl); (case aB => exact (tq15_8 GE322.out GE323.out)); (case aF => exact (fun _ _ => trivial)); (case aO => exact (tq15_2 HO_6.out)); (case aS => exact (below_size (tq15_8 GE322.out GE323.out))); (case aL => have := LMc21.out; omega); intro v330 w22 ho hb hg hat; rw [← Ny329.out] at ho; have n0_ := Aq15 (Kd.R_over' (tq15_2 HO_324001.out) (Kd.R_typed (tq15_2 HO_6.out)) (by decide) hg); have n1_ := Aq15 (blk_grown (g := gb322) (o := .cells #[.int .i64 a0_0, .int .i64 a0_1, .bool a0_2] 59 (0, 0)) (tq15_3 BK322.out) hg (Kd.R_ne HO_6.out BK322.out (by decide))); have n2_ := Aq15 (blk_grown (g := gb323) (o := .cells #[.int .i64 200, u324001, .string (⟨#[]⟩ : ByteArray), .bool false] 24 (0, 0)) (tq15_3 BK323.out) hg (Kd.R_ne HO_6.out BK323.out (by decide))); have n3_ := Aq15 (hb); have n4_ := Aq15 (ho); clear HO_324001; clear BK322; clear BK323; clear HB; clear HO_6; have HO_324001 := n0_; have BK322 := n1_; have BK323 := n2_; have HB := n3_; have HO331 := n4_; clear n0_ n1_ n2_ n3_ n4_; clear ho hb hg hat))
          go_roundg k3
          case measure => have := HK1.out; have := HJ15.out; have := HK3.out; omega
          case rel => exact ⟨(y329), (wrap64 (x7_3 + 1)), tq15_0, H', ⟨by have := HK1.out; have := HJ15.out; have := HK3.out; omega⟩, ⟨(tq15_2 HO331.out)⟩, ⟨(tq15_2 HO_324001.out)⟩, ⟨(tq15_3 BK322.out)⟩, ⟨(tq15_3 BK323.out)⟩, ⟨(tq15_8 GE322.out GE323.out)⟩⟩
         ·rw [if_neg c21] at H
          exact absurd H (by simp)
        ·rw [if_neg c20] at H
         have c20b0 : decide (x7_3 < x5_15) = false := decide_eq_false c20
         clear c20
         have HC23 := Aq15 H
         clear H
         have hcv24 := own_string (P := Tryd.prog) Tryd.underlying61 Tryd.underlying5 Tryd.underlying9 (Kd.own_of_R HO_6.out)
         have hnb25 := NB323_322.out
         have hnc25 := NB322_323.out
         have hcz26_0 : wr.cell? ⟨gb323, 0, none⟩ = some (.int .i64 200) := (blk_cell BK323.out 0).trans rfl
         have hcz26_1 : wr.cell? ⟨gb323, 1, none⟩ = some (u324001) := (blk_cell BK323.out 1).trans rfl
         have hcz26_2 : wr.cell? ⟨gb323, 2, none⟩ = some (.string (⟨#[]⟩ : ByteArray)) := (blk_cell BK323.out 2).trans rfl
         have hcz26_3 : wr.cell? ⟨gb323, 3, none⟩ = some (.bool false) := (blk_cell BK323.out 3).trans rfl
         have hfz26_0 := blk_frozen BK323.out 0
         have hfz26_1 := blk_frozen BK323.out 1
         have hfz26_2 := blk_frozen BK323.out 2
         have hfz26_3 := blk_frozen BK323.out 3
         have hcz27_0 : wr.cell? ⟨gb322, 0, none⟩ = some (.int .i64 a0_0) := (blk_cell BK322.out 0).trans rfl
         have hcz27_1 : wr.cell? ⟨gb322, 1, none⟩ = some (.int .i64 a0_1) := (blk_cell BK322.out 1).trans rfl
         have hcz27_2 : wr.cell? ⟨gb322, 2, none⟩ = some (.bool a0_2) := (blk_cell BK322.out 2).trans rfl
         have hfz27_0 := blk_frozen BK322.out 0
         have hfz27_1 := blk_frozen BK322.out 1
         have hfz27_2 := blk_frozen BK322.out 2
         go_upto_if 49 with (fail)
         go_cut [] (fun wc => ∃ (kq : Nat) (x324000_22 : Int), Aside0 (usherlaw8_ReplyLimits.j3 kq a0_0 a0_1 a0_2 x324000_22 x324001_1 (strOfNums x6_3) false = some r) ∧ Aside0 (kq ≤ k3) ∧ Aside0 (Kd.R k26 26 wc w.heap.size (fun _ => True) u324001 x324001_1) ∧ Aside0 (wc.heap[gb322]? = some (.cells #[.int .i64 a0_0, .int .i64 a0_1, .bool a0_2] 59 (0, 0))) ∧ Aside0 (wc.heap[gb323]? = some (.cells #[.int .i64 x324000_22, u324001, .string (strOfNums x6_3), .bool false] 24 (0, 0))) ∧ Aside0 (Below w.heap.size w wc))
         case first =>
          have H := HC23.out
          clear HC23
          by_cases c28 : a0_2 = true
          ·subst c28
           have H1 : (usherlaw8_ReplyLimits.j3 k3 a0_0 a0_1 true 204 x324001_1 (strOfNums x6_3) false) = some r := by rw [if_pos rfl] at H; exact H
           clear H
           have H := H1
           clear H1
           have H' := Aq15 H
           clear H
           have hnb29 := NB323_322.out
           have hnc29 := NB322_323.out
           have hcz30_0 : wr.cell? ⟨gb323, 0, none⟩ = some (.int .i64 200) := (blk_cell BK323.out 0).trans rfl
           have hcz30_1 : wr.cell? ⟨gb323, 1, none⟩ = some (u324001) := (blk_cell BK323.out 1).trans rfl
           have hcz30_2 : wr.cell? ⟨gb323, 2, none⟩ = some (.string (⟨#[]⟩ : ByteArray)) := (blk_cell BK323.out 2).trans rfl
           have hcz30_3 : wr.cell? ⟨gb323, 3, none⟩ = some (.bool false) := (blk_cell BK323.out 3).trans rfl
           have hfz30_0 := blk_frozen BK323.out 0
           have hfz30_1 := blk_frozen BK323.out 1
           have hfz30_2 := blk_frozen BK323.out 2
           have hfz30_3 := blk_frozen BK323.out 3
           go_wp2
           go_meet
           case rel => exact ⟨_, (204), H', ⟨by have := HK1.out; have := HJ15.out; have := HK3.out; first | omega | exact Nat.le_refl _⟩, ⟨by (with_reducible repeat (first | apply Kd.R_alloc | apply Kd.R_drewN | apply Kd.R_drew)); exact Kd.R_mono (Kd.R_far (p := ⟨gb323, 0, none⟩) (Kd.R_far (p := ⟨gb323, 2, none⟩) (Kd.R_types HO_324001.out BK323.out (by decide)) (fun _ hk => hk.2) (.string (strOfNums x6_3))) (fun _ hk => hk.2) (.int .i64 204)) (fun _ hk => trivial)⟩, ⟨by (iterate 2 ((with_reducible repeat (first | refine blk_drewN ?_ _ | refine blk_drew ?_ | refine blk_alloc ?_ _)); refine blk_far ?_ NB322_323.out _)); (with_reducible repeat (first | refine blk_drewN ?_ _ | refine blk_drew ?_ | refine blk_alloc ?_ _)); exact BK322.out⟩, ⟨by (with_reducible repeat (first | refine blk_drewN ?_ _ | refine blk_drew ?_ | refine blk_alloc ?_ _)); refine blk_put (cs := #[.int .i64 200, u324001, .string (strOfNums x6_3), .bool false]) ?_ 0 _ rfl; (with_reducible repeat (first | refine blk_drewN ?_ _ | refine blk_drew ?_ | refine blk_alloc ?_ _)); refine blk_put (cs := #[.int .i64 200, u324001, .string (⟨#[]⟩ : ByteArray), .bool false]) ?_ 2 _ rfl; (with_reducible repeat (first | refine blk_drewN ?_ _ | refine blk_drew ?_ | refine blk_alloc ?_ _)); exact BK323.out⟩, ⟨(tq15_8 GE322.out GE323.out)⟩⟩
          ·replace c28 := Bool.eq_false_iff.mpr c28
           subst c28
           have H1 : (usherlaw8_ReplyLimits.j3 k3 a0_0 a0_1 false 200 x324001_1 (strOfNums x6_3) false) = some r := by rw [if_neg (show ¬ (false = true) by decide)] at H; exact H
           clear H
           have H := H1
           clear H1
           have H' := Aq15 H
           clear H
           go_wp2
           go_meet
           case rel => exact ⟨_, (200), H', ⟨by have := HK1.out; have := HJ15.out; have := HK3.out; first | omega | exact Nat.le_refl _⟩, ⟨by (with_reducible repeat (first | apply Kd.R_alloc | apply Kd.R_drewN | apply Kd.R_drew)); exact Kd.R_mono (Kd.R_far (p := ⟨gb323, 2, none⟩) (Kd.R_types HO_324001.out BK323.out (by decide)) (fun _ hk => hk.2) (.string (strOfNums x6_3))) (fun _ hk => trivial)⟩, ⟨(tq15_a NB322_323.out BK322.out)⟩, ⟨by (with_reducible repeat (first | refine blk_drewN ?_ _ | refine blk_drew ?_ | refine blk_alloc ?_ _)); refine blk_put (cs := #[.int .i64 200, u324001, .string (⟨#[]⟩ : ByteArray), .bool false]) ?_ 2 _ rfl; (with_reducible repeat (first | refine blk_drewN ?_ _ | refine blk_drew ?_ | refine blk_alloc ?_ _)); exact BK323.out⟩, ⟨(tq15_8 GE322.out GE323.out)⟩⟩
         case rest =>
          clear HC23
          try clear c1
          try clear c2
          try clear p2
          try clear hcv2
          try clear c3
          try clear c4
          try clear p6
          try clear c7
          try clear c7b0
          try clear c8
          try clear c9
          try clear c17
          try clear c19
          try clear c19b0
          try clear c20
          try clear c20b0
          try clear c21
          try clear hcv24
          try clear c25
          try clear c28
          try clear c29
          try clear hcz10_0
          try clear hcz10_1
          try clear hcz10_2
          try clear hcz11_0
          try clear hcz11_1
          try clear hcz11_2
          try clear hcz11_3
          try clear hcz14_0
          try clear hcz14_1
          try clear hcz14_2
          try clear hcz14_3
          try clear hcz18_0
          try clear hcz18_1
          try clear hcz18_2
          try clear hcz26_0
          try clear hcz26_1
          try clear hcz26_2
          try clear hcz26_3
          try clear hcz27_0
          try clear hcz27_1
          try clear hcz27_2
          try clear hcz30_0
          try clear hcz30_1
          try clear hcz30_2
          try clear hcz30_3
          try clear hcz5_0
          try clear hcz5_1
          try clear hcz5_2
          try clear hcz5_3
          try clear hfz10_0
          try clear hfz10_1
          try clear hfz10_2
          try clear hfz11_0
          try clear hfz11_1
          try clear hfz11_2
          try clear hfz11_3
          try clear hfz14_0
          try clear hfz14_1
          try clear hfz14_2
          try clear hfz14_3
          try clear hfz18_0
          try clear hfz18_1
          try clear hfz18_2
          try clear hfz26_0
          try clear hfz26_1
          try clear hfz26_2
          try clear hfz26_3
          try clear hfz27_0
          try clear hfz27_1
          try clear hfz27_2
          try clear hfz30_0
          try clear hfz30_1
          try clear hfz30_2
          try clear hfz30_3
          try clear hfz5_0
          try clear hfz5_1
          try clear hfz5_2
          try clear hfz5_3
          try clear p2
          try clear p6
          obtain ⟨kq, x324000_22, HA, HJ22, HO_324001, BK322, BK323, HB⟩ := hcut
          cases kq with
          | zero => exact absurd HA.out (by simp [usherlaw8_ReplyLimits.j3])
          | succ kj22 =>
           have H := HA.out
           clear HA
           simp only [usherlaw8_ReplyLimits.j3] at H
           replace H := Option.bind_eq_some_iff.mp H
           obtain ⟨⟨t332, t333⟩, A310, H⟩ := H
           replace H : (if (x324001_1.length : Int) > 64 then (usherlaw8_ReplyLimits.j4 kj22 t332 t333 true a0_0 a0_1 a0_2 x324000_22 x324001_1 (strOfNums x6_3) false) else (usherlaw8_ReplyLimits.j4 kj22 t332 t333 (decide (((strOfNums x6_3).size : Int) > 1048576)) a0_0 a0_1 a0_2 x324000_22 x324001_1 (strOfNums x6_3) false)) = some r := H
           have A31 := Aq15 A310
           clear A310
           have HC32 := Aq15 H
           clear H
           have hnb33 := NB323_322.out
           have hnc33 := NB322_323.out
           have hcz34_0 : wc.cell? ⟨gb323, 0, none⟩ = some (.int .i64 x324000_22) := (blk_cell BK323.out 0).trans rfl
           have hcz34_1 : wc.cell? ⟨gb323, 1, none⟩ = some (u324001) := (blk_cell BK323.out 1).trans rfl
           have hcz34_2 : wc.cell? ⟨gb323, 2, none⟩ = some (.string (strOfNums x6_3)) := (blk_cell BK323.out 2).trans rfl
           have hcz34_3 : wc.cell? ⟨gb323, 3, none⟩ = some (.bool false) := (blk_cell BK323.out 3).trans rfl
           have hfz34_0 := blk_frozen BK323.out 0
           have hfz34_1 := blk_frozen BK323.out 1
           have hfz34_2 := blk_frozen BK323.out 2
           have hfz34_3 := blk_frozen BK323.out 3
           obtain ⟨Ao35, co35, eo35⟩ := Kd.R_slice HO_324001.out
           subst eo35
           go_upto_region 18 with (first | ((with_reducible refine gate_callee (f := 15) rfl ?_); refine goesL_ (some 53) rfl rfl Tryd.func15 (by kernel_rfl) rfl #[.agg #[.int .i64 x324000_22, .slice Ao35 x324001_1.length co35, .string (strOfNums x6_3), .bool false], .bool false] rfl tq15_5 ?_; (with_reducible refine (reply_Render.calls kj22 x324000_22 _ _ x324001_1 (strOfNums x6_3) false false t332 t333 _ ?side1 ?side2 A31.out ?side3).mono ?_); (case side1 => repeat (first | exact (Kd.R_reads' HO_324001.out).2.2 | (with_reducible refine Kd.C_alloc ?_ _) | (with_reducible refine Kd.C_drewN ?_ _) | (with_reducible refine Kd.C_drew ?_))); (case side2 => exact (Kd.R_reads' HO_324001.out).2.1); (case side3 => exact HG.out.step (tq15_8 GE322.out GE323.out) rfl); rintro e w36 ⟨rfl, hb⟩; refine ⟨_, rfl, ?_⟩; replace HO_324001 := Aq15 (Kd.R_below (tq15_2 HO_324001.out) hb); replace BK322 := Aq15 (blk_below (g := gb322) (o := .cells #[.int .i64 a0_0, .int .i64 a0_1, .bool a0_2] 59 (0, 0)) (tq15_3 BK322.out) hb); replace BK323 := Aq15 (blk_below (g := gb323) (o := .cells #[.int .i64 x324000_22, .slice Ao35 x324001_1.length co35, .string (strOfNums x6_3), .bool false] 24 (0, 0)) (tq15_3 BK323.out) hb); replace HB := Aq15 (below_step (tq15_8 GE322.out GE323.out) hb); (try clear hb); (try clear hb2); (try clear hk); (try clear hi); (try simp only [errW_none, errW_some])))
           (try simp only [Act.put, List.setIfInBounds_toArray, List.set_cons_zero, List.set_cons_succ])
           go_cut [65] (fun v65 wc => ∃ (kq : Nat) (x65_31 : Bool), v65 = .bool x65_31 ∧ Aside0 (usherlaw8_ReplyLimits.j4 kq t332 t333 x65_31 a0_0 a0_1 a0_2 x324000_22 x324001_1 (strOfNums x6_3) false = some r) ∧ Aside0 (kq ≤ kj22) ∧ Aside0 (Kd.R k26 26 wc w.heap.size (fun _ => True) (.slice Ao35 x324001_1.length co35) x324001_1) ∧ Aside0 (wc.heap[gb322]? = some (.cells #[.int .i64 a0_0, .int .i64 a0_1, .bool a0_2] 59 (0, 0))) ∧ Aside0 (wc.heap[gb323]? = some (.cells #[.int .i64 x324000_22, (.slice Ao35 x324001_1.length co35), .string (strOfNums x6_3), .bool false] 24 (0, 0))) ∧ Aside0 (Below w.heap.size w wc))
           case first =>
            have H := HC32.out
            clear HC32
            by_cases c37 : (x324001_1.length : Int) > 64
            ·rw [if_pos c37] at H
             have c37b0 : decide (64 < (x324001_1.length : Int)) = true := decide_eq_true c37
             have c37b1 : decide (64 < x324001_1.length) = true := decide_eq_true (by omega)
             clear c37
             (first | rw [c37b0] | (simp only [i64_w, i32_w]; rw [c37b0]) | skip)
             have H' := Aq15 H
             clear H
             have hnb38 := NB323_322.out
             have hnc38 := NB322_323.out
             have hcz39_0 : w36.cell? ⟨gb323, 0, none⟩ = some (.int .i64 x324000_22) := (blk_cell BK323.out 0).trans rfl
             have hcz39_1 : w36.cell? ⟨gb323, 1, none⟩ = some (.slice Ao35 x324001_1.length co35) := (blk_cell BK323.out 1).trans rfl
             have hcz39_2 : w36.cell? ⟨gb323, 2, none⟩ = some (.string (strOfNums x6_3)) := (blk_cell BK323.out 2).trans rfl
             have hcz39_3 : w36.cell? ⟨gb323, 3, none⟩ = some (.bool false) := (blk_cell BK323.out 3).trans rfl
             have hfz39_0 := blk_frozen BK323.out 0
             have hfz39_1 := blk_frozen BK323.out 1
             have hfz39_2 := blk_frozen BK323.out 2
             have hfz39_3 := blk_frozen BK323.out 3
             go_wp2
             go_meet
             case rel => exact ⟨_, (true), tq15_0, H', ⟨by have := HK1.out; have := HJ15.out; have := HK3.out; have := HJ22.out; first | omega | exact Nat.le_refl _⟩, ⟨(tq15_2 HO_324001.out)⟩, ⟨(tq15_3 BK322.out)⟩, ⟨(tq15_3 BK323.out)⟩, ⟨(tq15_8 GE322.out GE323.out)⟩⟩
            ·rw [if_neg c37] at H
             have c37b0 : decide (64 < (x324001_1.length : Int)) = false := decide_eq_false c37
             have c37b1 : decide (64 < x324001_1.length) = false := decide_eq_false (by omega)
             clear c37
             (first | rw [c37b0] | (simp only [i64_w, i32_w]; rw [c37b0]) | skip)
             have H' := Aq15 H
             clear H
             have hnb40 := NB323_322.out
             have hnc40 := NB322_323.out
             have hcz41_0 : w36.cell? ⟨gb323, 0, none⟩ = some (.int .i64 x324000_22) := (blk_cell BK323.out 0).trans rfl
             have hcz41_1 : w36.cell? ⟨gb323, 1, none⟩ = some (.slice Ao35 x324001_1.length co35) := (blk_cell BK323.out 1).trans rfl
             have hcz41_2 : w36.cell? ⟨gb323, 2, none⟩ = some (.string (strOfNums x6_3)) := (blk_cell BK323.out 2).trans rfl
             have hcz41_3 : w36.cell? ⟨gb323, 3, none⟩ = some (.bool false) := (blk_cell BK323.out 3).trans rfl
             have hfz41_0 := blk_frozen BK323.out 0
             have hfz41_1 := blk_frozen BK323.out 1
             have hfz41_2 := blk_frozen BK323.out 2
             have hfz41_3 := blk_frozen BK323.out 3
             go_wp2
             go_meet
             case rel => exact ⟨_, (decide (((strOfNums x6_3).size : Int) > 1048576)), tq15_0, H', ⟨by have := HK1.out; have := HJ15.out; have := HK3.out; have := HJ22.out; first | omega | exact Nat.le_refl _⟩, ⟨(tq15_2 HO_324001.out)⟩, ⟨(tq15_3 BK322.out)⟩, ⟨(tq15_3 BK323.out)⟩, ⟨(tq15_8 GE322.out GE323.out)⟩⟩
           case rest =>
            clear HC32
            try clear c1
            try clear c2
            try clear p2
            try clear hcv2
            try clear c3
            try clear c4
            try clear p6
            try clear c7
            try clear c7b0
            try clear c8
            try clear c9
            try clear c15
            try clear c17
            try clear c19
            try clear c19b0
            try clear c20
            try clear c20b0
            try clear c21
            try clear hcv24
            try clear c25
            try clear c28
            try clear c29
            try clear c33
            try clear c34
            try clear c37
            try clear c37b0
            try clear c37b1
            try clear c38
            try clear c40
            try clear hcz10_0
            try clear hcz10_1
            try clear hcz10_2
            try clear hcz11_0
            try clear hcz11_1
            try clear hcz11_2
            try clear hcz11_3
            try clear hcz14_0
            try clear hcz14_1
            try clear hcz14_2
            try clear hcz14_3
            try clear hcz18_0
            try clear hcz18_1
            try clear hcz18_2
            try clear hcz26_0
            try clear hcz26_1
            try clear hcz26_2
            try clear hcz26_3
            try clear hcz27_0
            try clear hcz27_1
            try clear hcz27_2
            try clear hcz30_0
            try clear hcz30_1
            try clear hcz30_2
            try clear hcz30_3
            try clear hcz34_0
            try clear hcz34_1
            try clear hcz34_2
            try clear hcz34_3
            try clear hcz39_0
            try clear hcz39_1
            try clear hcz39_2
            try clear hcz39_3
            try clear hcz41_0
            try clear hcz41_1
            try clear hcz41_2
            try clear hcz41_3
            try clear hcz5_0
            try clear hcz5_1
            try clear hcz5_2
            try clear hcz5_3
            try clear hfz10_0
            try clear hfz10_1
            try clear hfz10_2
            try clear hfz11_0
            try clear hfz11_1
            try clear hfz11_2
            try clear hfz11_3
            try clear hfz14_0
            try clear hfz14_1
            try clear hfz14_2
            try clear hfz14_3
            try clear hfz18_0
            try clear hfz18_1
            try clear hfz18_2
            try clear hfz26_0
            try clear hfz26_1
            try clear hfz26_2
            try clear hfz26_3
            try clear hfz27_0
            try clear hfz27_1
            try clear hfz27_2
            try clear hfz30_0
            try clear hfz30_1
            try clear hfz30_2
            try clear hfz30_3
            try clear hfz34_0
            try clear hfz34_1
            try clear hfz34_2
            try clear hfz34_3
            try clear hfz39_0
            try clear hfz39_1
            try clear hfz39_2
            try clear hfz39_3
            try clear hfz41_0
            try clear hfz41_1
            try clear hfz41_2
            try clear hfz41_3
            try clear hfz5_0
            try clear hfz5_1
            try clear hfz5_2
            try clear hfz5_3
            try clear p2
            try clear p6
            obtain ⟨kq, x65_31, rfl, HA, HJ31, HO_324001, BK322, BK323, HB⟩ := hcut
            cases kq with
            | zero => exact absurd HA.out (by simp [usherlaw8_ReplyLimits.j4])
            | succ kj31 =>
             have H := HA.out
             clear HA
             simp only [usherlaw8_ReplyLimits.j4] at H
             by_cases c42 : x65_31 = true
             ·subst c42
              have H1 : (if t332.toList = ([] : List UInt8) then ((usherkit_Num.f t333).bind fun t334 => (some (t334 == 3))) else (some false)) = some r := by rw [if_pos rfl] at H; exact H
              clear H
              have H := H1
              clear H1
              by_cases c43 : t332.toList = ([] : List UInt8)
              ·rw [if_pos c43] at H
               have c43b0 : (t332.toList == ([] : List UInt8)) = true := beq_iff_eq.mpr c43
               have c43b1 : (t332.toList != ([] : List UInt8)) = false := bne_eq_false_iff_eq.mpr c43
               clear c43
               replace H := Option.bind_eq_some_iff.mp H
               obtain ⟨t334, A440, H⟩ := H
               replace H : (some (t334 == 3)) = some r := H
               have A44 := Aq15 A440
               clear A440
               obtain rfl := Option.some.inj H
               have CA44 := fun W (hG_ : Glob [0, 1, 2, 3, 4, 5, 6, 10, 11, 12, 13, 14, 15, 999] W) => usherkit_Num.calls t333 t334 W A44.out (hG_.sub rfl)
               try simp only [errW_none, errW_some] at CA44
               go_wp2_with (first | (go_at_call 17; (with_reducible refine (CA44 _ ?side1).mono ?_); (case side1 => exact HG.out.step (tq15_8 GE322.out GE323.out) rfl); rintro e w' ⟨rfl, ⟨nd, rfl⟩⟩))
               go_ret
               exact ⟨tq15_1, (tq15_8 GE322.out GE323.out)⟩
              ·rw [if_neg c43] at H
               have c43b0 : (t332.toList == ([] : List UInt8)) = false := beq_eq_false_iff_ne.mpr c43
               have c43b1 : (t332.toList != ([] : List UInt8)) = true := bne_iff_ne.mpr c43
               obtain rfl := Option.some.inj H
               go_wp2
               go_ret
               exact ⟨tq15_1, (tq15_8 GE322.out GE323.out)⟩
             ·replace c42 := Bool.eq_false_iff.mpr c42
              subst c42
              have H1 : (if a0_2 = true then (if t332.toList = ([] : List UInt8) then ((usherkit_Num.f t333).bind fun t335 => (some (t335 == 1))) else (some false)) else ((reply_Read.f kj31 t332).bind fun bt336 => ((usherref0_SameReply.f kj31 x324000_22 x324001_1 (strOfNums x6_3) false bt336.1 bt336.2.1 bt336.2.2.1 bt336.2.2.2.1).bind fun t345 => (if t333.isNone = true then (if bt336.2.2.2.2.2.isNone = true then (if bt336.2.2.2.2.1 = (t332.size : Int) then (some t345) else (some false)) else (some false)) else (some false))))) = some r := by rw [if_neg (show ¬ (false = true) by decide)] at H; exact H
              clear H
              have H := H1
              clear H1
              by_cases c45 : a0_2 = true
              ·subst c45
               have H1 : (if t332.toList = ([] : List UInt8) then ((usherkit_Num.f t333).bind fun t335 => (some (t335 == 1))) else (some false)) = some r := by rw [if_pos rfl] at H; exact H
               clear H
               have H := H1
               clear H1
               by_cases c46 : t332.toList = ([] : List UInt8)
               ·rw [if_pos c46] at H
                have c46b0 : (t332.toList == ([] : List UInt8)) = true := beq_iff_eq.mpr c46
                have c46b1 : (t332.toList != ([] : List UInt8)) = false := bne_eq_false_iff_eq.mpr c46
                clear c46
                replace H := Option.bind_eq_some_iff.mp H
                obtain ⟨t335, A470, H⟩ := H
                replace H : (some (t335 == 1)) = some r := H
                have A47 := Aq15 A470
                clear A470
                obtain rfl := Option.some.inj H
                have hnb48 := NB322_323.out
                have hnc48 := NB323_322.out
                have hcz49_0 : wc.cell? ⟨gb322, 0, none⟩ = some (.int .i64 a0_0) := (blk_cell BK322.out 0).trans rfl
                have hcz49_1 : wc.cell? ⟨gb322, 1, none⟩ = some (.int .i64 a0_1) := (blk_cell BK322.out 1).trans rfl
                have hcz49_2 : wc.cell? ⟨gb322, 2, none⟩ = some (.bool true) := (blk_cell BK322.out 2).trans rfl
                have hfz49_0 := blk_frozen BK322.out 0
                have hfz49_1 := blk_frozen BK322.out 1
                have hfz49_2 := blk_frozen BK322.out 2
                have CA47 := fun W (hG_ : Glob [0, 1, 2, 3, 4, 5, 6, 10, 11, 12, 13, 14, 15, 999] W) => usherkit_Num.calls t333 t335 W A47.out (hG_.sub rfl)
                try simp only [errW_none, errW_some] at CA47
                go_wp2_with (first | (go_at_call 17; (with_reducible refine (CA47 _ ?side1).mono ?_); (case side1 => exact HG.out.step (tq15_8 GE322.out GE323.out) rfl); rintro e w' ⟨rfl, ⟨nd, rfl⟩⟩))
                go_ret
                exact ⟨tq15_1, (tq15_8 GE322.out GE323.out)⟩
               ·rw [if_neg c46] at H
                have c46b0 : (t332.toList == ([] : List UInt8)) = false := beq_eq_false_iff_ne.mpr c46
                have c46b1 : (t332.toList != ([] : List UInt8)) = true := bne_iff_ne.mpr c46
                obtain rfl := Option.some.inj H
                have hnb50 := NB322_323.out
                have hnc50 := NB323_322.out
                have hcz51_0 : wc.cell? ⟨gb322, 0, none⟩ = some (.int .i64 a0_0) := (blk_cell BK322.out 0).trans rfl
                have hcz51_1 : wc.cell? ⟨gb322, 1, none⟩ = some (.int .i64 a0_1) := (blk_cell BK322.out 1).trans rfl
                have hcz51_2 : wc.cell? ⟨gb322, 2, none⟩ = some (.bool true) := (blk_cell BK322.out 2).trans rfl
                have hfz51_0 := blk_frozen BK322.out 0
                have hfz51_1 := blk_frozen BK322.out 1
                have hfz51_2 := blk_frozen BK322.out 2
                go_wp2
                go_ret
                exact ⟨tq15_1, (tq15_8 GE322.out GE323.out)⟩
              ·replace c45 := Bool.eq_false_iff.mpr c45
               subst c45
               have H1 : ((reply_Read.f kj31 t332).bind fun bt336 => ((usherref0_SameReply.f kj31 x324000_22 x324001_1 (strOfNums x6_3) false bt336.1 bt336.2.1 bt336.2.2.1 bt336.2.2.2.1).bind fun t345 => (if t333.isNone = true then (if bt336.2.2.2.2.2.isNone = true then (if bt336.2.2.2.2.1 = (t332.size : Int) then (some t345) else (some false)) else (some false)) else (some false)))) = some r := by rw [if_neg (show ¬ (false = true) by decide)] at H; exact H
               clear H
               have H := H1
               clear H1
               replace H := Option.bind_eq_some_iff.mp H
               obtain ⟨⟨t336, t337, t340, t341, t342, t343⟩, A520, H⟩ := H
               replace H : ((usherref0_SameReply.f kj31 x324000_22 x324001_1 (strOfNums x6_3) false t336 t337 t340 t341).bind fun t345 => (if t333.isNone = true then (if t343.isNone = true then (if t342 = (t332.size : Int) then (some t345) else (some false)) else (some false)) else (some false))) = some r := H
               have A52 := Aq15 A520
               clear A520
               replace H := Option.bind_eq_some_iff.mp H
               obtain ⟨t345, A530, H⟩ := H
               replace H : (if t333.isNone = true then (if t343.isNone = true then (if t342 = (t332.size : Int) then (some t345) else (some false)) else (some false)) else (some false)) = some r := H
               have A53 := Aq15 A530
               clear A530
               rcases t333 with _ | q346
               ·have H1 : (if t343.isNone = true then (if t342 = (t332.size : Int) then (some t345) else (some false)) else (some false)) = some r := by rw [if_pos (show (none : Option Int).isNone = true by rfl)] at H; exact H
                clear H
                have H := H1
                clear H1
                try simp only [errW_none, errW_some]
                rcases t343 with _ | q347
                ·have H1 : (if t342 = (t332.size : Int) then (some t345) else (some false)) = some r := by rw [if_pos (show (none : Option Int).isNone = true by rfl)] at H; exact H
                 clear H
                 have H := H1
                 clear H1
                 try simp only [errW_none, errW_some]
                 by_cases c54 : t342 = (t332.size : Int)
                 ·rw [if_pos c54] at H
                  have c54b0 : (t342 == (t332.size : Int)) = true := beq_iff_eq.mpr c54
                  have c54b1 : (t342 != (t332.size : Int)) = false := bne_eq_false_iff_eq.mpr c54
                  clear c54
                  obtain rfl := Option.some.inj H
                  have hnb55 := NB322_323.out
                  have hnc55 := NB323_322.out
                  have hcz56_0 : wc.cell? ⟨gb322, 0, none⟩ = some (.int .i64 a0_0) := (blk_cell BK322.out 0).trans rfl
                  have hcz56_1 : wc.cell? ⟨gb322, 1, none⟩ = some (.int .i64 a0_1) := (blk_cell BK322.out 1).trans rfl
                  have hcz56_2 : wc.cell? ⟨gb322, 2, none⟩ = some (.bool false) := (blk_cell BK322.out 2).trans rfl
                  have hfz56_0 := blk_frozen BK322.out 0
                  have hfz56_1 := blk_frozen BK322.out 1
                  have hfz56_2 := blk_frozen BK322.out 2
                  go_wp2_with (first | ((with_reducible refine gate_callee (f := 32) rfl ?_); refine goesL_ (some 84) rfl rfl Tryd.func32 (by kernel_rfl) rfl #[.string t332] rfl tq15_5 ?_; (with_reducible refine (reply_Read.calls kj31 t332 t336 t337 t340 t341 t342 none _ A52.out ?side1).mono ?_); (case side1 => exact HG.out.step (tq15_8 GE322.out GE323.out) rfl); rintro e w57 ⟨v338, rfl, ho0, hb⟩; refine ⟨_, rfl, ?_⟩; have HO339 := Aq15 (Kd.R_lower (Kd.R_new' ho0 (Kd.R_lt (tq15_2 HO_324001.out))) (below_size (tq15_8 GE322.out GE323.out))); replace HO_324001 := Aq15 (Kd.R_elder' (tq15_2 HO_324001.out) (Kd.R_base ho0) hb); replace BK322 := Aq15 (blk_below (g := gb322) (o := .cells #[.int .i64 a0_0, .int .i64 a0_1, .bool false] 59 (0, 0)) (tq15_3 BK322.out) hb); replace BK323 := Aq15 (blk_below (g := gb323) (o := .cells #[.int .i64 x324000_22, .slice Ao35 x324001_1.length co35, .string (strOfNums x6_3), .bool false] 24 (0, 0)) (tq15_3 BK323.out) hb); replace HB := Aq15 (below_step (tq15_8 GE322.out GE323.out) hb); (try clear hb); (try clear hb2); (try clear hk); (try clear hi); (try clear ho0); (try simp only [errW_none, errW_some])) | ((with_reducible refine gate_dst (N := 10) rfl ?_); (try (refine gate_guard (by rfl) ?_; dsimp only)); refine box_event ?hg (N := 10) ?hd (cs := #[.int .i64 0, .slice none 0 0, .string (⟨#[]⟩ : ByteArray), .bool false]) (t := 24) ?hr ?_; (case hd => rfl); (case hg => rfl); (case hr => first | (go_simp; done) | (go_simp; rfl)); intro gb344 hg w58 hbox hb; replace HO_324001 := Aq15 (Kd.R_below (tq15_2 HO_324001.out) hb); replace HO339 := Aq15 (Kd.R_below (tq15_2 HO339.out) hb); have BK344 := Aq15 (hbox); have GW344 := Aq15 ((by rw [hg]; exact (below_size (tq15_8 GE322.out GE323.out)) : w.heap.size ≤ gb344)); have GE344 := Aq15 ((by rw [hg]; exact (below_size (tq15_8 GE322.out GE323.out)) : w.heap.size ≤ gb344)); have NB322_344 := Aq15 ((by rw [hg]; exact Nat.ne_of_lt (blk_lt (g := gb322) (o := .cells #[.int .i64 a0_0, .int .i64 a0_1, .bool false] 59 (0, 0)) (tq15_3 BK322.out)) : gb322 ≠ gb344)); have NB344_322 := Aq15 ((by rw [hg]; exact Nat.ne_of_gt (blk_lt (g := gb322) (o := .cells #[.int .i64 a0_0, .int .i64 a0_1, .bool false] 59 (0, 0)) (tq15_3 BK322.out)) : gb344 ≠ gb322)); replace BK322 := Aq15 (blk_below (g := gb322) (o := .cells #[.int .i64 a0_0, .int .i64 a0_1, .bool false] 59 (0, 0)) (tq15_3 BK322.out) hb); have NB323_344 := Aq15 ((by rw [hg]; exact Nat.ne_of_lt (blk_lt (g := gb323) (o := .cells #[.int .i64 x324000_22, .slice Ao35 x324001_1.length co35, .string (strOfNums x6_3), .bool false] 24 (0, 0)) (tq15_3 BK323.out)) : gb323 ≠ gb344)); have NB344_323 := Aq15 ((by rw [hg]; exact Nat.ne_of_gt (blk_lt (g := gb323) (o := .cells #[.int .i64 x324000_22, .slice Ao35 x324001_1.length co35, .string (strOfNums x6_3), .bool false] 24 (0, 0)) (tq15_3 BK323.out)) : gb344 ≠ gb323)); replace BK323 := Aq15 (blk_below (g := gb323) (o := .cells #[.int .i64 x324000_22, .slice Ao35 x324001_1.length co35, .string (strOfNums x6_3), .bool false] 24 (0, 0)) (tq15_3 BK323.out) hb); replace HB := Aq15 (below_step (tq15_8 GE322.out GE323.out) hb); clear hb hbox hg; have hnb59 := NB344_322.out; have hnc59 := NB322_344.out; have hnb60 := NB344_323.out; have hnc60 := NB323_344.out; have hcz61_0 : w58.cell? ⟨gb344, 0, none⟩ = some (.int .i64 0) := (blk_cell BK344.out 0).trans rfl; have hcz61_1 : w58.cell? ⟨gb344, 1, none⟩ = some (.slice none 0 0) := (blk_cell BK344.out 1).trans rfl; have hcz61_2 : w58.cell? ⟨gb344, 2, none⟩ = some (.string (⟨#[]⟩ : ByteArray)) := (blk_cell BK344.out 2).trans rfl; have hcz61_3 : w58.cell? ⟨gb344, 3, none⟩ = some (.bool false) := (blk_cell BK344.out 3).trans rfl; have hfz61_0 := blk_frozen BK344.out 0; have hfz61_1 := blk_frozen BK344.out 1; have hfz61_2 := blk_frozen BK344.out 2; have hfz61_3 := blk_frozen BK344.out 3; obtain ⟨Ao62, co62, eo62⟩ := Kd.R_slice HO339.out; subst eo62; have hcz63_0 : w58.cell? ⟨gb323, 0, none⟩ = some (.int .i64 x324000_22) := (blk_cell BK323.out 0).trans rfl; have hcz63_1 : w58.cell? ⟨gb323, 1, none⟩ = some (.slice Ao35 x324001_1.length co35) := (blk_cell BK323.out 1).trans rfl; have hcz63_2 : w58.cell? ⟨gb323, 2, none⟩ = some (.string (strOfNums x6_3)) := (blk_cell BK323.out 2).trans rfl; have hcz63_3 : w58.cell? ⟨gb323, 3, none⟩ = some (.bool false) := (blk_cell BK323.out 3).trans rfl; have hfz63_0 := blk_frozen BK323.out 0; have hfz63_1 := blk_frozen BK323.out 1; have hfz63_2 := blk_frozen BK323.out 2; have hfz63_3 := blk_frozen BK323.out 3) | ((with_reducible refine gate_callee (f := 18) rfl ?_); refine goesL_ (some 90) rfl rfl Tryd.func18 (by kernel_rfl) rfl #[.agg #[.int .i64 x324000_22, .slice Ao35 x324001_1.length co35, .string (strOfNums x6_3), .bool false], .agg #[.int .i64 t336, .slice Ao62 t337.length co62, .string t340, .bool t341]] rfl tq15_5 ?_; (with_reducible refine (usherref0_SameReply.calls kj31 x324000_22 _ _ x324001_1 (strOfNums x6_3) false t336 _ _ t337 t340 t341 t345 _ ?side1 ?side2 ?side3 ?side4 A53.out).mono ?_); (case side1 => refine (Kd.R_reads' (e := 26) (base := w.heap.size) (ok := fun k_ => (True ∧ some k_ ≠ (.slice Ao62 t337.length co62 : Value).ownBlock)) (n := x324001_1.length) (c := co35) ?_).2.2; exact (tq15_c HO_324001.out BK344.out)); (case side2 => exact (Kd.R_reads' HO_324001.out).2.1); (case side3 => refine (Kd.R_reads' (e := 26) (base := w.heap.size) (ok := fun k_ => (True ∧ some k_ ≠ (.slice Ao35 x324001_1.length co35 : Value).ownBlock)) (n := t337.length) (c := co62) ?_).2.2; exact (tq15_c HO339.out BK344.out)); (case side4 => exact (Kd.R_reads' HO339.out).2.1); rintro e w64 ⟨rfl, hb⟩; refine ⟨_, rfl, ?_⟩; replace HO_324001 := Aq15 (Kd.R_below (tq15_c HO_324001.out BK344.out) hb); replace HO339 := Aq15 (Kd.R_below (tq15_c HO339.out BK344.out) hb); replace BK322 := Aq15 (blk_below (g := gb322) (o := .cells #[.int .i64 a0_0, .int .i64 a0_1, .bool false] 59 (0, 0)) (tq15_b NB322_344.out BK322.out) hb); replace BK323 := Aq15 (blk_below (g := gb323) (o := .cells #[.int .i64 x324000_22, .slice Ao35 x324001_1.length co35, .string (strOfNums x6_3), .bool false] 24 (0, 0)) (tq15_b NB323_344.out BK323.out) hb); replace BK344 := Aq15 (blk_below (g := gb344) (o := .cells #[.int .i64 t336, .slice Ao62 t337.length co62, .string t340, .bool t341] 24 (0, 0)) (by (with_reducible repeat (first | refine blk_drewN ?_ _ | refine blk_drew ?_ | refine blk_alloc ?_ _)); refine blk_put (cs := #[.int .i64 t336, .slice Ao62 t337.length co62, .string t340, .bool false]) ?_ 3 _ rfl; (with_reducible repeat (first | refine blk_drewN ?_ _ | refine blk_drew ?_ | refine blk_alloc ?_ _)); refine blk_put (cs := #[.int .i64 t336, .slice Ao62 t337.length co62, .string (⟨#[]⟩ : ByteArray), .bool false]) ?_ 2 _ rfl; (with_reducible repeat (first | refine blk_drewN ?_ _ | refine blk_drew ?_ | refine blk_alloc ?_ _)); refine blk_put (cs := #[.int .i64 t336, .slice none 0 0, .string (⟨#[]⟩ : ByteArray), .bool false]) ?_ 1 _ rfl; (with_reducible repeat (first | refine blk_drewN ?_ _ | refine blk_drew ?_ | refine blk_alloc ?_ _)); refine blk_put (cs := #[.int .i64 0, .slice none 0 0, .string (⟨#[]⟩ : ByteArray), .bool false]) ?_ 0 _ rfl; (with_reducible repeat (first | refine blk_drewN ?_ _ | refine blk_drew ?_ | refine blk_alloc ?_ _)); exact BK344.out) hb); replace HB := Aq15 (below_step (tq15_9 GE322.out GE323.out GE344.out) hb); (try clear hb); (try clear hb2); (try clear hk); (try clear hi)))
                  go_ret
                  exact ⟨tq15_1, (tq15_9 GE322.out GE323.out GE344.out)⟩
                 ·rw [if_neg c54] at H
                  have c54b0 : (t342 == (t332.size : Int)) = false := beq_eq_false_iff_ne.mpr c54
                  have c54b1 : (t342 != (t332.size : Int)) = true := bne_iff_ne.mpr c54
                  obtain rfl := Option.some.inj H
                  have hnb65 := NB322_323.out
                  have hnc65 := NB323_322.out
                  have hcz66_0 : wc.cell? ⟨gb322, 0, none⟩ = some (.int .i64 a0_0) := (blk_cell BK322.out 0).trans rfl
                  have hcz66_1 : wc.cell? ⟨gb322, 1, none⟩ = some (.int .i64 a0_1) := (blk_cell BK322.out 1).trans rfl
                  have hcz66_2 : wc.cell? ⟨gb322, 2, none⟩ = some (.bool false) := (blk_cell BK322.out 2).trans rfl
                  have hfz66_0 := blk_frozen BK322.out 0
                  have hfz66_1 := blk_frozen BK322.out 1
                  have hfz66_2 := blk_frozen BK322.out 2
                  go_wp2_with (first | ((with_reducible refine gate_callee (f := 32) rfl ?_); refine goesL_ (some 84) rfl rfl Tryd.func32 (by kernel_rfl) rfl #[.string t332] rfl tq15_5 ?_; (with_reducible refine (reply_Read.calls kj31 t332 t336 t337 t340 t341 t342 none _ A52.out ?side1).mono ?_); (case side1 => exact HG.out.step (tq15_8 GE322.out GE323.out) rfl); rintro e w67 ⟨v338, rfl, ho0, hb⟩; refine ⟨_, rfl, ?_⟩; have HO339 := Aq15 (Kd.R_lower (Kd.R_new' ho0 (Kd.R_lt (tq15_2 HO_324001.out))) (below_size (tq15_8 GE322.out GE323.out))); replace HO_324001 := Aq15 (Kd.R_elder' (tq15_2 HO_324001.out) (Kd.R_base ho0) hb); replace BK322 := Aq15 (blk_below (g := gb322) (o := .cells #[.int .i64 a0_0, .int .i64 a0_1, .bool false] 59 (0, 0)) (tq15_3 BK322.out) hb); replace BK323 := Aq15 (blk_below (g := gb323) (o := .cells #[.int .i64 x324000_22, .slice Ao35 x324001_1.length co35, .string (strOfNums x6_3), .bool false] 24 (0, 0)) (tq15_3 BK323.out) hb); replace HB := Aq15 (below_step (tq15_8 GE322.out GE323.out) hb); (try clear hb); (try clear hb2); (try clear hk); (try clear hi); (try clear ho0); (try simp only [errW_none, errW_some])) | ((with_reducible refine gate_dst (N := 10) rfl ?_); (try (refine gate_guard (by rfl) ?_; dsimp only)); refine box_event ?hg (N := 10) ?hd (cs := #[.int .i64 0, .slice none 0 0, .string (⟨#[]⟩ : ByteArray), .bool false]) (t := 24) ?hr ?_; (case hd => rfl); (case hg => rfl); (case hr => first | (go_simp; done) | (go_simp; rfl)); intro gb344 hg w68 hbox hb; replace HO_324001 := Aq15 (Kd.R_below (tq15_2 HO_324001.out) hb); replace HO339 := Aq15 (Kd.R_below (tq15_2 HO339.out) hb); have BK344 := Aq15 (hbox); have GW344 := Aq15 ((by rw [hg]; exact (below_size (tq15_8 GE322.out GE323.out)) : w.heap.size ≤ gb344)); have GE344 := Aq15 ((by rw [hg]; exact (below_size (tq15_8 GE322.out GE323.out)) : w.heap.size ≤ gb344)); have NB322_344 := Aq15 ((by rw [hg]; exact Nat.ne_of_lt (blk_lt (g := gb322) (o := .cells #[.int .i64 a0_0, .int .i64 a0_1, .bool false] 59 (0, 0)) (tq15_3 BK322.out)) : gb322 ≠ gb344)); have NB344_322 := Aq15 ((by rw [hg]; exact Nat.ne_of_gt (blk_lt (g := gb322) (o := .cells #[.int .i64 a0_0, .int .i64 a0_1, .bool false] 59 (0, 0)) (tq15_3 BK322.out)) : gb344 ≠ gb322)); replace BK322 := Aq15 (blk_below (g := gb322) (o := .cells #[.int .i64 a0_0, .int .i64 a0_1, .bool false] 59 (0, 0)) (tq15_3 BK322.out) hb); have NB323_344 := Aq15 ((by rw [hg]; exact Nat.ne_of_lt (blk_lt (g := gb323) (o := .cells #[.int .i64 x324000_22, .slice Ao35 x324001_1.length co35, .string (strOfNums x6_3), .bool false] 24 (0, 0)) (tq15_3 BK323.out)) : gb323 ≠ gb344)); have NB344_323 := Aq15 ((by rw [hg]; exact Nat.ne_of_gt (blk_lt (g := gb323) (o := .cells #[.int .i64 x324000_22, .slice Ao35 x324001_1.length co35, .string (strOfNums x6_3), .bool false] 24 (0, 0)) (tq15_3 BK323.out)) : gb344 ≠ gb323)); replace BK323 := Aq15 (blk_below (g := gb323) (o := .cells #[.int .i64 x324000_22, .slice Ao35 x324001_1.length co35, .string (strOfNums x6_3), .bool false] 24 (0, 0)) (tq15_3 BK323.out) hb); replace HB := Aq15 (below_step (tq15_8 GE322.out GE323.out) hb); clear hb hbox hg; have hnb69 := NB344_322.out; have hnc69 := NB322_344.out; have hnb70 := NB344_323.out; have hnc70 := NB323_344.out; have hcz71_0 : w68.cell? ⟨gb344, 0, none⟩ = some (.int .i64 0) := (blk_cell BK344.out 0).trans rfl; have hcz71_1 : w68.cell? ⟨gb344, 1, none⟩ = some (.slice none 0 0) := (blk_cell BK344.out 1).trans rfl; have hcz71_2 : w68.cell? ⟨gb344, 2, none⟩ = some (.string (⟨#[]⟩ : ByteArray)) := (blk_cell BK344.out 2).trans rfl; have hcz71_3 : w68.cell? ⟨gb344, 3, none⟩ = some (.bool false) := (blk_cell BK344.out 3).trans rfl; have hfz71_0 := blk_frozen BK344.out 0; have hfz71_1 := blk_frozen BK344.out 1; have hfz71_2 := blk_frozen BK344.out 2; have hfz71_3 := blk_frozen BK344.out 3; obtain ⟨Ao72, co72, eo72⟩ := Kd.R_slice HO339.out; subst eo72; have hcz73_0 : w68.cell? ⟨gb323, 0, none⟩ = some (.int .i64 x324000_22) := (blk_cell BK323.out 0).trans rfl; have hcz73_1 : w68.cell? ⟨gb323, 1, none⟩ = some (.slice Ao35 x324001_1.length co35) := (blk_cell BK323.out 1).trans rfl; have hcz73_2 : w68.cell? ⟨gb323, 2, none⟩ = some (.string (strOfNums x6_3)) := (blk_cell BK323.out 2).trans rfl; have hcz73_3 : w68.cell? ⟨gb323, 3, none⟩ = some (.bool false) := (blk_cell BK323.out 3).trans rfl; have hfz73_0 := blk_frozen BK323.out 0; have hfz73_1 := blk_frozen BK323.out 1; have hfz73_2 := blk_frozen BK323.out 2; have hfz73_3 := blk_frozen BK323.out 3) | ((with_reducible refine gate_callee (f := 18) rfl ?_); refine goesL_ (some 90) rfl rfl Tryd.func18 (by kernel_rfl) rfl #[.agg #[.int .i64 x324000_22, .slice Ao35 x324001_1.length co35, .string (strOfNums x6_3), .bool false], .agg #[.int .i64 t336, .slice Ao72 t337.length co72, .string t340, .bool t341]] rfl tq15_5 ?_; (with_reducible refine (usherref0_SameReply.calls kj31 x324000_22 _ _ x324001_1 (strOfNums x6_3) false t336 _ _ t337 t340 t341 t345 _ ?side1 ?side2 ?side3 ?side4 A53.out).mono ?_); (case side1 => refine (Kd.R_reads' (e := 26) (base := w.heap.size) (ok := fun k_ => (True ∧ some k_ ≠ (.slice Ao72 t337.length co72 : Value).ownBlock)) (n := x324001_1.length) (c := co35) ?_).2.2; exact (tq15_d HO_324001.out BK344.out)); (case side2 => exact (Kd.R_reads' HO_324001.out).2.1); (case side3 => refine (Kd.R_reads' (e := 26) (base := w.heap.size) (ok := fun k_ => (True ∧ some k_ ≠ (.slice Ao35 x324001_1.length co35 : Value).ownBlock)) (n := t337.length) (c := co72) ?_).2.2; exact (tq15_d HO339.out BK344.out)); (case side4 => exact (Kd.R_reads' HO339.out).2.1); rintro e w74 ⟨rfl, hb⟩; refine ⟨_, rfl, ?_⟩; replace HO_324001 := Aq15 (Kd.R_below (tq15_d HO_324001.out BK344.out) hb); replace HO339 := Aq15 (Kd.R_below (tq15_d HO339.out BK344.out) hb); replace BK322 := Aq15 (blk_below (g := gb322) (o := .cells #[.int .i64 a0_0, .int .i64 a0_1, .bool false] 59 (0, 0)) (tq15_b NB322_344.out BK322.out) hb); replace BK323 := Aq15 (blk_below (g := gb323) (o := .cells #[.int .i64 x324000_22, .slice Ao35 x324001_1.length co35, .string (strOfNums x6_3), .bool false] 24 (0, 0)) (tq15_b NB323_344.out BK323.out) hb); replace BK344 := Aq15 (blk_below (g := gb344) (o := .cells #[.int .i64 t336, .slice Ao72 t337.length co72, .string t340, .bool t341] 24 (0, 0)) (by (with_reducible repeat (first | refine blk_drewN ?_ _ | refine blk_drew ?_ | refine blk_alloc ?_ _)); refine blk_put (cs := #[.int .i64 t336, .slice Ao72 t337.length co72, .string t340, .bool false]) ?_ 3 _ rfl; (with_reducible repeat (first | refine blk_drewN ?_ _ | refine blk_drew ?_ | refine blk_alloc ?_ _)); refine blk_put (cs := #[.int .i64 t336, .slice Ao72 t337.length co72, .string (⟨#[]⟩ : ByteArray), .bool false]) ?_ 2 _ rfl; (with_reducible repeat (first | refine blk_drewN ?_ _ | refine blk_drew ?_ | refine blk_alloc ?_ _)); refine blk_put (cs := #[.int .i64 t336, .slice none 0 0, .string (⟨#[]⟩ : ByteArray), .bool false]) ?_ 1 _ rfl; (with_reducible repeat (first | refine blk_drewN ?_ _ | refine blk_drew ?_ | refine blk_alloc ?_ _)); refine blk_put (cs := #[.int .i64 0, .slice none 0 0, .string (⟨#[]⟩ : ByteArray), .bool false]) ?_ 0 _ rfl; (with_reducible repeat (first | refine blk_drewN ?_ _ | refine blk_drew ?_ | refine blk_alloc ?_ _)); exact BK344.out) hb); replace HB := Aq15 (below_step (tq15_9 GE322.out GE323.out GE344.out) hb); (try clear hb); (try clear hb2); (try clear hk); (try clear hi)))
                  go_ret
                  exact ⟨tq15_1, (tq15_9 GE322.out GE323.out GE344.out)⟩
                ·have H1 : (some false) = some r := by rw [if_neg (show ¬ (some q347).isNone = true by simp)] at H; exact H
                 clear H
                 have H := H1
                 clear H1
                 try simp only [errW_none, errW_some]
                 obtain rfl := Option.some.inj H
                 have hnb75 := NB322_323.out
                 have hnc75 := NB323_322.out
                 have hcz76_0 : wc.cell? ⟨gb322, 0, none⟩ = some (.int .i64 a0_0) := (blk_cell BK322.out 0).trans rfl
                 have hcz76_1 : wc.cell? ⟨gb322, 1, none⟩ = some (.int .i64 a0_1) := (blk_cell BK322.out 1).trans rfl
                 have hcz76_2 : wc.cell? ⟨gb322, 2, none⟩ = some (.bool false) := (blk_cell BK322.out 2).trans rfl
                 have hfz76_0 := blk_frozen BK322.out 0
                 have hfz76_1 := blk_frozen BK322.out 1
                 have hfz76_2 := blk_frozen BK322.out 2
                 go_wp2_with (first | ((with_reducible refine gate_callee (f := 32) rfl ?_); refine goesL_ (some 84) rfl rfl Tryd.func32 (by kernel_rfl) rfl #[.string t332] rfl tq15_5 ?_; (with_reducible refine (reply_Read.calls kj31 t332 t336 t337 t340 t341 t342 (some q347) _ A52.out ?side1).mono ?_); (case side1 => exact HG.out.step (tq15_8 GE322.out GE323.out) rfl); rintro e w77 ⟨v338, rfl, ho0, hb⟩; refine ⟨_, rfl, ?_⟩; have HO339 := Aq15 (Kd.R_lower (Kd.R_new' ho0 (Kd.R_lt (tq15_2 HO_324001.out))) (below_size (tq15_8 GE322.out GE323.out))); replace HO_324001 := Aq15 (Kd.R_elder' (tq15_2 HO_324001.out) (Kd.R_base ho0) hb); replace BK322 := Aq15 (blk_below (g := gb322) (o := .cells #[.int .i64 a0_0, .int .i64 a0_1, .bool false] 59 (0, 0)) (tq15_3 BK322.out) hb); replace BK323 := Aq15 (blk_below (g := gb323) (o := .cells #[.int .i64 x324000_22, .slice Ao35 x324001_1.length co35, .string (strOfNums x6_3), .bool false] 24 (0, 0)) (tq15_3 BK323.out) hb); replace HB := Aq15 (below_step (tq15_8 GE322.out GE323.out) hb); (try clear hb); (try clear hb2); (try clear hk); (try clear hi); (try clear ho0); (try simp only [errW_none, errW_some])) | ((with_reducible refine gate_dst (N := 10) rfl ?_); (try (refine gate_guard (by rfl) ?_; dsimp only)); refine box_event ?hg (N := 10) ?hd (cs := #[.int .i64 0, .slice none 0 0, .string (⟨#[]⟩ : ByteArray), .bool false]) (t := 24) ?hr ?_; (case hd => rfl); (case hg => rfl); (case hr => first | (go_simp; done) | (go_simp; rfl)); intro gb344 hg w78 hbox hb; replace HO_324001 := Aq15 (Kd.R_below (tq15_2 HO_324001.out) hb); replace HO339 := Aq15 (Kd.R_below (tq15_2 HO339.out) hb); have BK344 := Aq15 (hbox); have GW344 := Aq15 ((by rw [hg]; exact (below_size (tq15_8 GE322.out GE323.out)) : w.heap.size ≤ gb344)); have GE344 := Aq15 ((by rw [hg]; exact (below_size (tq15_8 GE322.out GE323.out)) : w.heap.size ≤ gb344)); have NB322_344 := Aq15 ((by rw [hg]; exact Nat.ne_of_lt (blk_lt (g := gb322) (o := .cells #[.int .i64 a0_0, .int .i64 a0_1, .bool false] 59 (0, 0)) (tq15_3 BK322.out)) : gb322 ≠ gb344)); have NB344_322 := Aq15 ((by rw [hg]; exact Nat.ne_of_gt (blk_lt (g := gb322) (o := .cells #[.int .i64 a0_0, .int .i64 a0_1, .bool false] 59 (0, 0)) (tq15_3 BK322.out)) : gb344 ≠ gb322)); replace BK322 := Aq15 (blk_below (g := gb322) (o := .cells #[.int .i64 a0_0, .int .i64 a0_1, .bool false] 59 (0, 0)) (tq15_3 BK322.out) hb); have NB323_344 := Aq15 ((by rw [hg]; exact Nat.ne_of_lt (blk_lt (g := gb323) (o := .cells #[.int .i64 x324000_22, .slice Ao35 x324001_1.length co35, .string (strOfNums x6_3), .bool false] 24 (0, 0)) (tq15_3 BK323.out)) : gb323 ≠ gb344)); have NB344_323 := Aq15 ((by rw [hg]; exact Nat.ne_of_gt (blk_lt (g := gb323) (o := .cells #[.int .i64 x324000_22, .slice Ao35 x324001_1.length co35, .string (strOfNums x6_3), .bool false] 24 (0, 0)) (tq15_3 BK323.out)) : gb344 ≠ gb323)); replace BK323 := Aq15 (blk_below (g := gb323) (o := .cells #[.int .i64 x324000_22, .slice Ao35 x324001_1.length co35, .string (strOfNums x6_3), .bool false] 24 (0, 0)) (tq15_3 BK323.out) hb); replace HB := Aq15 (below_step (tq15_8 GE322.out GE323.out) hb); clear hb hbox hg; have hnb79 := NB344_322.out; have hnc79 := NB322_344.out; have hnb80 := NB344_323.out; have hnc80 := NB323_344.out; have hcz81_0 : w78.cell? ⟨gb344, 0, none⟩ = some (.int .i64 0) := (blk_cell BK344.out 0).trans rfl; have hcz81_1 : w78.cell? ⟨gb344, 1, none⟩ = some (.slice none 0 0) := (blk_cell BK344.out 1).trans rfl; have hcz81_2 : w78.cell? ⟨gb344, 2, none⟩ = some (.string (⟨#[]⟩ : ByteArray)) := (blk_cell BK344.out 2).trans rfl; have hcz81_3 : w78.cell? ⟨gb344, 3, none⟩ = some (.bool false) := (blk_cell BK344.out 3).trans rfl; have hfz81_0 := blk_frozen BK344.out 0; have hfz81_1 := blk_frozen BK344.out 1; have hfz81_2 := blk_frozen BK344.out 2; have hfz81_3 := blk_frozen BK344.out 3; obtain ⟨Ao82, co82, eo82⟩ := Kd.R_slice HO339.out; subst eo82; have hcz83_0 : w78.cell? ⟨gb323, 0, none⟩ = some (.int .i64 x324000_22) := (blk_cell BK323.out 0).trans rfl; have hcz83_1 : w78.cell? ⟨gb323, 1, none⟩ = some (.slice Ao35 x324001_1.length co35) := (blk_cell BK323.out 1).trans rfl; have hcz83_2 : w78.cell? ⟨gb323, 2, none⟩ = some (.string (strOfNums x6_3)) := (blk_cell BK323.out 2).trans rfl; have hcz83_3 : w78.cell? ⟨gb323, 3, none⟩ = some (.bool false) := (blk_cell BK323.out 3).trans rfl; have hfz83_0 := blk_frozen BK323.out 0; have hfz83_1 := blk_frozen BK323.out 1; have hfz83_2 := blk_frozen BK323.out 2; have hfz83_3 := blk_frozen BK323.out 3) | ((with_reducible refine gate_callee (f := 18) rfl ?_); refine goesL_ (some 90) rfl rfl Tryd.func18 (by kernel_rfl) rfl #[.agg #[.int .i64 x324000_22, .slice Ao35 x324001_1.length co35, .string (strOfNums x6_3), .bool false], .agg #[.int .i64 t336, .slice Ao82 t337.length co82, .string t340, .bool t341]] rfl tq15_5 ?_; (with_reducible refine (usherref0_SameReply.calls kj31 x324000_22 _ _ x324001_1 (strOfNums x6_3) false t336 _ _ t337 t340 t341 t345 _ ?side1 ?side2 ?side3 ?side4 A53.out).mono ?_); (case side1 => refine (Kd.R_reads' (e := 26) (base := w.heap.size) (ok := fun k_ => (True ∧ some k_ ≠ (.slice Ao82 t337.length co82 : Value).ownBlock)) (n := x324001_1.length) (c := co35) ?_).2.2; exact (tq15_e HO_324001.out BK344.out)); (case side2 => exact (Kd.R_reads' HO_324001.out).2.1); (case side3 => refine (Kd.R_reads' (e := 26) (base := w.heap.size) (ok := fun k_ => (True ∧ some k_ ≠ (.slice Ao35 x324001_1.length co35 : Value).ownBlock)) (n := t337.length) (c := co82) ?_).2.2; exact (tq15_e HO339.out BK344.out)); (case side4 => exact (Kd.R_reads' HO339.out).2.1); rintro e w84 ⟨rfl, hb⟩; refine ⟨_, rfl, ?_⟩; replace HO_324001 := Aq15 (Kd.R_below (tq15_e HO_324001.out BK344.out) hb); replace HO339 := Aq15 (Kd.R_below (tq15_e HO339.out BK344.out) hb); replace BK322 := Aq15 (blk_below (g := gb322) (o := .cells #[.int .i64 a0_0, .int .i64 a0_1, .bool false] 59 (0, 0)) (tq15_b NB322_344.out BK322.out) hb); replace BK323 := Aq15 (blk_below (g := gb323) (o := .cells #[.int .i64 x324000_22, .slice Ao35 x324001_1.length co35, .string (strOfNums x6_3), .bool false] 24 (0, 0)) (tq15_b NB323_344.out BK323.out) hb); replace BK344 := Aq15 (blk_below (g := gb344) (o := .cells #[.int .i64 t336, .slice Ao82 t337.length co82, .string t340, .bool t341] 24 (0, 0)) (by (with_reducible repeat (first | refine blk_drewN ?_ _ | refine blk_drew ?_ | refine blk_alloc ?_ _)); refine blk_put (cs := #[.int .i64 t336, .slice Ao82 t337.length co82, .string t340, .bool false]) ?_ 3 _ rfl; (with_reducible repeat (first | refine blk_drewN ?_ _ | refine blk_drew ?_ | refine blk_alloc ?_ _)); refine blk_put (cs := #[.int .i64 t336, .slice Ao82 t337.length co82, .string (⟨#[]⟩ : ByteArray), .bool false]) ?_ 2 _ rfl; (with_reducible repeat (first | refine blk_drewN ?_ _ | refine blk_drew ?_ | refine blk_alloc ?_ _)); refine blk_put (cs := #[.int .i64 t336, .slice none 0 0, .string (⟨#[]⟩ : ByteArray), .bool false]) ?_ 1 _ rfl; (with_reducible repeat (first | refine blk_drewN ?_ _ | refine blk_drew ?_ | refine blk_alloc ?_ _)); refine blk_put (cs := #[.int .i64 0, .slice none 0 0, .string (⟨#[]⟩ : ByteArray), .bool false]) ?_ 0 _ rfl; (with_reducible repeat (first | refine blk_drewN ?_ _ | refine blk_drew ?_ | refine blk_alloc ?_ _)); exact BK344.out) hb); replace HB := Aq15 (below_step (tq15_9 GE322.out GE323.out GE344.out) hb); (try clear hb); (try clear hb2); (try clear hk); (try clear hi)))
                 go_ret
                 exact ⟨tq15_1, (tq15_9 GE322.out GE323.out GE344.out)⟩
               ·have H1 : (some false) = some r := by rw [if_neg (show ¬ (some q346).isNone = true by simp)] at H; exact H
                clear H
                have H := H1
                clear H1
                try simp only [errW_none, errW_some]
                obtain rfl := Option.some.inj H
                have hnb85 := NB322_323.out
                have hnc85 := NB323_322.out
                have hcz86_0 : wc.cell? ⟨gb322, 0, none⟩ = some (.int .i64 a0_0) := (blk_cell BK322.out 0).trans rfl
                have hcz86_1 : wc.cell? ⟨gb322, 1, none⟩ = some (.int .i64 a0_1) := (blk_cell BK322.out 1).trans rfl
                have hcz86_2 : wc.cell? ⟨gb322, 2, none⟩ = some (.bool false) := (blk_cell BK322.out 2).trans rfl
                have hfz86_0 := blk_frozen BK322.out 0
                have hfz86_1 := blk_frozen BK322.out 1
                have hfz86_2 := blk_frozen BK322.out 2
                go_wp2_with (first | ((with_reducible refine gate_callee (f := 32) rfl ?_); refine goesL_ (some 84) rfl rfl Tryd.func32 (by kernel_rfl) rfl #[.string t332] rfl tq15_5 ?_; (with_reducible refine (reply_Read.calls kj31 t332 t336 t337 t340 t341 t342 t343 _ A52.out ?side1).mono ?_); (case side1 => exact HG.out.step (tq15_8 GE322.out GE323.out) rfl); rintro e w87 ⟨v338, rfl, ho0, hb⟩; refine ⟨_, rfl, ?_⟩; have HO339 := Aq15 (Kd.R_lower (Kd.R_new' ho0 (Kd.R_lt (tq15_2 HO_324001.out))) (below_size (tq15_8 GE322.out GE323.out))); replace HO_324001 := Aq15 (Kd.R_elder' (tq15_2 HO_324001.out) (Kd.R_base ho0) hb); replace BK322 := Aq15 (blk_below (g := gb322) (o := .cells #[.int .i64 a0_0, .int .i64 a0_1, .bool false] 59 (0, 0)) (tq15_3 BK322.out) hb); replace BK323 := Aq15 (blk_below (g := gb323) (o := .cells #[.int .i64 x324000_22, .slice Ao35 x324001_1.length co35, .string (strOfNums x6_3), .bool false] 24 (0, 0)) (tq15_3 BK323.out) hb); replace HB := Aq15 (below_step (tq15_8 GE322.out GE323.out) hb); (try clear hb); (try clear hb2); (try clear hk); (try clear hi); (try clear ho0); (try simp only [errW_none, errW_some])) | ((with_reducible refine gate_dst (N := 10) rfl ?_); (try (refine gate_guard (by rfl) ?_; dsimp only)); refine box_event ?hg (N := 10) ?hd (cs := #[.int .i64 0, .slice none 0 0, .string (⟨#[]⟩ : ByteArray), .bool false]) (t := 24) ?hr ?_; (case hd => rfl); (case hg => rfl); (case hr => first | (go_simp; done) | (go_simp; rfl)); intro gb344 hg w88 hbox hb; replace HO_324001 := Aq15 (Kd.R_below (tq15_2 HO_324001.out) hb); replace HO339 := Aq15 (Kd.R_below (tq15_2 HO339.out) hb); have BK344 := Aq15 (hbox); have GW344 := Aq15 ((by rw [hg]; exact (below_size (tq15_8 GE322.out GE323.out)) : w.heap.size ≤ gb344)); have GE344 := Aq15 ((by rw [hg]; exact (below_size (tq15_8 GE322.out GE323.out)) : w.heap.size ≤ gb344)); have NB322_344 := Aq15 ((by rw [hg]; exact Nat.ne_of_lt (blk_lt (g := gb322) (o := .cells #[.int .i64 a0_0, .int .i64 a0_1, .bool false] 59 (0, 0)) (tq15_3 BK322.out)) : gb322 ≠ gb344)); have NB344_322 := Aq15 ((by rw [hg]; exact Nat.ne_of_gt (blk_lt (g := gb322) (o := .cells #[.int .i64 a0_0, .int .i64 a0_1, .bool false] 59 (0, 0)) (tq15_3 BK322.out)) : gb344 ≠ gb322)); replace BK322 := Aq15 (blk_below (g := gb322) (o := .cells #[.int .i64 a0_0, .int .i64 a0_1, .bool false] 59 (0, 0)) (tq15_3 BK322.out) hb); have NB323_344 := Aq15 ((by rw [hg]; exact Nat.ne_of_lt (blk_lt (g := gb323) (o := .cells #[.int .i64 x324000_22, .slice Ao35 x324001_1.length co35, .string (strOfNums x6_3), .bool false] 24 (0, 0)) (tq15_3 BK323.out)) : gb323 ≠ gb344)); have NB344_323 := Aq15 ((by rw [hg]; exact Nat.ne_of_gt (blk_lt (g := gb323) (o := .cells #[.int .i64 x324000_22, .slice Ao35 x324001_1.length co35, .string (strOfNums x6_3), .bool false] 24 (0, 0)) (tq15_3 BK323.out)) : gb344 ≠ gb323)); replace BK323 := Aq15 (blk_below (g := gb323) (o := .cells #[.int .i64 x324000_22, .slice Ao35 x324001_1.length co35, .string (strOfNums x6_3), .bool false] 24 (0, 0)) (tq15_3 BK323.out) hb); replace HB := Aq15 (below_step (tq15_8 GE322.out GE323.out) hb); clear hb hbox hg; have hnb89 := NB344_322.out; have hnc89 := NB322_344.out; have hnb90 := NB344_323.out; have hnc90 := NB323_344.out; have hcz91_0 : w88.cell? ⟨gb344, 0, none⟩ = some (.int .i64 0) := (blk_cell BK344.out 0).trans rfl; have hcz91_1 : w88.cell? ⟨gb344, 1, none⟩ = some (.slice none 0 0) := (blk_cell BK344.out 1).trans rfl; have hcz91_2 : w88.cell? ⟨gb344, 2, none⟩ = some (.string (⟨#[]⟩ : ByteArray)) := (blk_cell BK344.out 2).trans rfl; have hcz91_3 : w88.cell? ⟨gb344, 3, none⟩ = some (.bool false) := (blk_cell BK344.out 3).trans rfl; have hfz91_0 := blk_frozen BK344.out 0; have hfz91_1 := blk_frozen BK344.out 1; have hfz91_2 := blk_frozen BK344.out 2; have hfz91_3 := blk_frozen BK344.out 3; obtain ⟨Ao92, co92, eo92⟩ := Kd.R_slice HO339.out; subst eo92; have hcz93_0 : w88.cell? ⟨gb323, 0, none⟩ = some (.int .i64 x324000_22) := (blk_cell BK323.out 0).trans rfl; have hcz93_1 : w88.cell? ⟨gb323, 1, none⟩ = some (.slice Ao35 x324001_1.length co35) := (blk_cell BK323.out 1).trans rfl; have hcz93_2 : w88.cell? ⟨gb323, 2, none⟩ = some (.string (strOfNums x6_3)) := (blk_cell BK323.out 2).trans rfl; have hcz93_3 : w88.cell? ⟨gb323, 3, none⟩ = some (.bool false) := (blk_cell BK323.out 3).trans rfl; have hfz93_0 := blk_frozen BK323.out 0; have hfz93_1 := blk_frozen BK323.out 1; have hfz93_2 := blk_frozen BK323.out 2; have hfz93_3 := blk_frozen BK323.out 3) | ((with_reducible refine gate_callee (f := 18) rfl ?_); refine goesL_ (some 90) rfl rfl Tryd.func18 (by kernel_rfl) rfl #[.agg #[.int .i64 x324000_22, .slice Ao35 x324001_1.length co35, .string (strOfNums x6_3), .bool false], .agg #[.int .i64 t336, .slice Ao92 t337.length co92, .string t340, .bool t341]] rfl tq15_5 ?_; (with_reducible refine (usherref0_SameReply.calls kj31 x324000_22 _ _ x324001_1 (strOfNums x6_3) false t336 _ _ t337 t340 t341 t345 _ ?side1 ?side2 ?side3 ?side4 A53.out).mono ?_); (case side1 => refine (Kd.R_reads' (e := 26) (base := w.heap.size) (ok := fun k_ => (True ∧ some k_ ≠ (.slice Ao92 t337.length co92 : Value).ownBlock)) (n := x324001_1.length) (c := co35) ?_).2.2; exact (tq15_f HO_324001.out BK344.out)); (case side2 => exact (Kd.R_reads' HO_324001.out).2.1); (case side3 => refine (Kd.R_reads' (e := 26) (base := w.heap.size) (ok := fun k_ => (True ∧ some k_ ≠ (.slice Ao35 x324001_1.length co35 : Value).ownBlock)) (n := t337.length) (c := co92) ?_).2.2; exact (tq15_f HO339.out BK344.out)); (case side4 => exact (Kd.R_reads' HO339.out).2.1); rintro e w94 ⟨rfl, hb⟩; refine ⟨_, rfl, ?_⟩; replace HO_324001 := Aq15 (Kd.R_below (tq15_f HO_324001.out BK344.out) hb); replace HO339 := Aq15 (Kd.R_below (tq15_f HO339.out BK344.out) hb); replace BK322 := Aq15 (blk_below (g := gb322) (o := .cells #[.int .i64 a0_0, .int .i64 a0_1, .bool false] 59 (0, 0)) (tq15_b NB322_344.out BK322.out) hb); replace BK323 := Aq15 (blk_below (g := gb323) (o := .cells #[.int .i64 x324000_22, .slice Ao35 x324001_1.length co35, .string (strOfNums x6_3), .bool false] 24 (0, 0)) (tq15_b NB323_344.out BK323.out) hb); replace BK344 := Aq15 (blk_below (g := gb344) (o := .cells #[.int .i64 t336, .slice Ao92 t337.length co92, .string t340, .bool t341] 24 (0, 0)) (by (with_reducible repeat (first | refine blk_drewN ?_ _ | refine blk_drew ?_ | refine blk_alloc ?_ _)); refine blk_put (cs := #[.int .i64 t336, .slice Ao92 t337.length co92, .string t340, .bool false]) ?_ 3 _ rfl; (with_reducible repeat (first | refine blk_drewN ?_ _ | refine blk_drew ?_ | refine blk_alloc ?_ _)); refine blk_put (cs := #[.int .i64 t336, .slice Ao92 t337.length co92, .string (⟨#[]⟩ : ByteArray), .bool false]) ?_ 2 _ rfl; (with_reducible repeat (first | refine blk_drewN ?_ _ | refine blk_drew ?_ | refine blk_alloc ?_ _)); refine blk_put (cs := #[.int .i64 t336, .slice none 0 0, .string (⟨#[]⟩ : ByteArray), .bool false]) ?_ 1 _ rfl; (with_reducible repeat (first | refine blk_drewN ?_ _ | refine blk_drew ?_ | refine blk_alloc ?_ _)); refine blk_put (cs := #[.int .i64 0, .slice none 0 0, .string (⟨#[]⟩ : ByteArray), .bool false]) ?_ 0 _ rfl; (with_reducible repeat (first | refine blk_drewN ?_ _ | refine blk_drew ?_ | refine blk_alloc ?_ _)); exact BK344.out) hb); replace HB := Aq15 (below_step (tq15_9 GE322.out GE323.out GE344.out) hb); (try clear hb); (try clear hb2); (try clear hk); (try clear hi)))
                go_ret
                exact ⟨tq15_1, (tq15_9 GE322.out GE323.out GE344.out)⟩

end Go.Proofs.YtdlfdmbaejhaaaaDoor.Q
