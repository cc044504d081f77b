/- The plain Lean functions that calls of the program answer, and proofs that they do. Printed by program out of the translation; Lean checks it. -/
import Derived.Test.YtdlfdmbaejhaaaaDoorQ0
import Derived.Test.YtdlfdmbaejhaaaaDoorQ3
import Derived.Test.YtdlfdmbaejhaaaaDoorBld
import Derived.Test.YtdlfdmbaejhaaaaDoorItoa
import Derived.Test.YtdlfdmbaejhaaaaDoorReason
namespace Go.Proofs.YtdlfdmbaejhaaaaDoor.Q
open Go.RowKit Go.Proofs.YtdlfdmbaejhaaaaDoorW.PrintWords Go.Proofs.YtdlfdmbaejhaaaaDoorW.PrintLast Go.Proofs.YtdlfdmbaejhaaaaDoorW.PrintMore
attribute [local go_sem] max2_int min2_int max_two min_two max_three min_three max_four min_four   -- for this text's walks alone
set_option linter.unusedVariables false
set_option linter.unusedSimpArgs false

theorem Aq5 {p : Prop} (h : p) : Aside0 p := ⟨h⟩
theorem tq5_0 {P : Prop} (h : P := by first | rfl | (simp; done) | (simp [*]; done)) : P := h
theorem tq5_1 {P : Prop} (h : P := by first | (with_reducible assumption) | assumption) : P := h
theorem tq5_2 {P : Prop} (h : P := by first | rfl | (simp [errW_none, errW_some] <;> rfl) | (simp [*, errW_none, errW_some] <;> rfl)) : P := h
theorem tq5_3 {P Q0 : Prop} (y0 : Q0) (h : Q0 → P := by intro y0_; (with_reducible repeat (first | apply Kd.B_alloc | apply Kd.B_drewN | apply Kd.B_drew)); exact y0_) : P := h y0
theorem tq5_4 {P : Prop} (h : P := by (try simp only [List.map_toArray, List.map_cons, List.map_nil]); first | done | rfl | (simp; done)) : P := h
theorem tq5_5 {P Q0 : Prop} (y0 : Q0) (h : Q0 → P := by intro y0_; (with_reducible repeat (first | refine blk_drewN ?_ _ | refine blk_drew ?_ | refine blk_alloc ?_ _)); exact y0_) : P := h y0
theorem tq5_6 {P : Prop} (h : P := by repeat (first | (with_reducible first | exact HB.out | apply below_alloc | apply pw_below_drewN | apply below_drew1) | exact HB.out)) : P := h
theorem tq5_7 {P Q0 : Prop} (y0 : Q0) (h : Q0 → P := by intro y0_; repeat (first | (with_reducible first | exact HB.out | apply below_alloc | apply pw_below_drewN | apply below_drew1 | refine below_set ?_ y0_) | exact HB.out)) : P := h y0
theorem tq5_8 {P Q0 Q1 : Prop} (y0 : Q0) (y1 : Q1) (h : Q0 → Q1 → P := by intro y0_ y1_; repeat (first | (with_reducible first | exact HB.out | apply below_alloc | apply pw_below_drewN | apply below_drew1 | refine below_set ?_ y0_ | refine below_set ?_ y1_) | exact HB.out)) : P := h y0 y1
theorem tq5_9 {P Q0 : Prop} (y0 : Q0) (h : Q0 → P := by intro y0_; have := y0_; first | omega | (simp only [ByteArray.size_append, ByteArray.size_append', ByteArray.size_mk', List.size_toArray, List.length_cons, List.length_nil] at *; omega) | (show _ + _ < _; simpa using this)) : P := h y0
theorem tq5_a {P Q0 Q1 : Prop} (y0 : Q0) (y1 : Q1) (h : Q0 → Q1 → P := by intro y0_ y1_; (iterate 2 ((with_reducible repeat (first | refine blk_drewN ?_ _ | refine blk_drew ?_ | refine blk_alloc ?_ _)); refine blk_far ?_ y0_ _)); (with_reducible repeat (first | refine blk_drewN ?_ _ | refine blk_drew ?_ | refine blk_alloc ?_ _)); exact y1_) : P := h y0 y1
theorem tq5_b {P Q0 Q1 : Prop} (y0 : Q0) (y1 : Q1) (h : Q0 → Q1 → P := by intro y0_ y1_; (with_reducible repeat (first | apply Kd.B_alloc | apply Kd.B_drewN | apply Kd.B_drew)); exact (Kd.B_mono (Kd.B_far (p := ⟨gb135, 1, none⟩) (Kd.B_far (p := ⟨gb135, 0, none⟩) (Kd.B_types y0_ y1_ (by decide)) (fun _ hk => hk.2) (.string ((rd_T26 l0_1 x39_2).f0))) (fun _ hk => hk.2) (.string ((rd_T26 l0_1 x39_2).f1))) (fun _ h_ => h_.1))) : P := h y0 y1
theorem tq5_c {P Q0 : Prop} (y0 : Q0) (h : Q0 → P := by intro y0_; (with_reducible repeat (first | refine blk_drewN ?_ _ | refine blk_drew ?_ | refine blk_alloc ?_ _)); refine blk_put (cs := #[.string ((rd_T26 l0_1 x39_2).f0), .string (⟨#[]⟩ : ByteArray)]) ?_ 1 _ rfl; (with_reducible repeat (first | refine blk_drewN ?_ _ | refine blk_drew ?_ | refine blk_alloc ?_ _)); refine blk_put (cs := #[.string (⟨#[]⟩ : ByteArray), .string (⟨#[]⟩ : ByteArray)]) ?_ 0 _ rfl; (with_reducible repeat (first | refine blk_drewN ?_ _ | refine blk_drew ?_ | refine blk_alloc ?_ _)); exact y0_) : P := h y0
/-! ### reply_Render: function 15 -/
mutual
def reply_Render.j0 : Nat → Bool → Bool → Int → List (S26) → ByteArray → Bool → Option (ByteArray × Option Int)
 | 0, _, _, _, _, _, _ => none
 | k + 1, x1, x19, x126000, x126001, x126002, x126003 => if x19 = true then (some ((⟨#[]⟩ : ByteArray), some 3)) else ((reply_Reason.f x126000).bind fun t127 => (if t127.toList = ([] : List UInt8) then (some ((⟨#[]⟩ : ByteArray), some 1)) else ((strconv_Itoa_39.f x126000).bind fun t131 => (if 9 + t131.size ≤ 9223372036854775807 then (if ((⟨#[72, 84, 84, 80, 47, 49, 46, 49, 32]⟩ : ByteArray) ++ t131).size + 1 ≤ 9223372036854775807 then (if (((⟨#[72, 84, 84, 80, 47, 49, 46, 49, 32]⟩ : ByteArray) ++ t131) ++ (⟨#[32]⟩ : ByteArray)).size + t127.size ≤ 9223372036854775807 then (if ((((⟨#[72, 84, 84, 80, 47, 49, 46, 49, 32]⟩ : ByteArray) ++ t131) ++ (⟨#[32]⟩ : ByteArray)) ++ t127).size + 2 ≤ 9223372036854775807 then (if ([] : List Int).length + (((((⟨#[72, 84, 84, 80, 47, 49, 46, 49, 32]⟩ : ByteArray) ++ t131) ++ (⟨#[32]⟩ : ByteArray)) ++ t127) ++ (⟨#[13, 10]⟩ : ByteArray)).size < 140737488355328 then (reply_Render.l0 k x1 (([] : List Int) ++ bytesOf (((((⟨#[72, 84, 84, 80, 47, 49, 46, 49, 32]⟩ : ByteArray) ++ t131) ++ (⟨#[32]⟩ : ByteArray)) ++ t127) ++ (⟨#[13, 10]⟩ : ByteArray))) x126001 (x126001.length : Int) 0 x126000 x126001 x126002 x126003) else (none)) else (none)) else (none)) else (none)) else (none)))))
def reply_Render.l0 : Nat → Bool → List Int → List (S26) → Int → Int → Int → List (S26) → ByteArray → Bool → Option (ByteArray × Option Int)
 | 0, _, _, _, _, _, _, _, _, _ => none
 | k + 1, x1, x7, x37, x38, x39, x126000, x126001, x126002, x126003 => if x39 < x38 then (if 0 ≤ x39 then (if x39 < (x37.length : Int) then ((reply_may.f k ((rd_T26 x37 x39).f0) ((rd_T26 x37 x39).f1)).bind fun t136 => (if t136 = true then (if ((rd_T26 x37 x39).f0).size + 2 ≤ 9223372036854775807 then (if (((rd_T26 x37 x39).f0) ++ (⟨#[58, 32]⟩ : ByteArray)).size + ((rd_T26 x37 x39).f1).size ≤ 9223372036854775807 then (if ((((rd_T26 x37 x39).f0) ++ (⟨#[58, 32]⟩ : ByteArray)) ++ ((rd_T26 x37 x39).f1)).size + 2 ≤ 9223372036854775807 then (if x7.length + (((((rd_T26 x37 x39).f0) ++ (⟨#[58, 32]⟩ : ByteArray)) ++ ((rd_T26 x37 x39).f1)) ++ (⟨#[13, 10]⟩ : ByteArray)).size < 140737488355328 then (reply_Render.l0 k x1 (x7 ++ bytesOf (((((rd_T26 x37 x39).f0) ++ (⟨#[58, 32]⟩ : ByteArray)) ++ ((rd_T26 x37 x39).f1)) ++ (⟨#[13, 10]⟩ : ByteArray))) x37 x38 (wrap64 (x39 + 1)) x126000 x126001 x126002 x126003) else (none)) else (none)) else (none)) else (none)) else (some ((⟨#[]⟩ : ByteArray), some 1)))) else (none)) else (none)) else ((strconv_Itoa_39.f (x126002.size : Int)).bind fun t140 => (if 16 + t140.size ≤ 9223372036854775807 then (if ((⟨#[67, 111, 110, 116, 101, 110, 116, 45, 76, 101, 110, 103, 116, 104, 58, 32]⟩ : ByteArray) ++ t140).size + 2 ≤ 9223372036854775807 then (if x7.length + (((⟨#[67, 111, 110, 116, 101, 110, 116, 45, 76, 101, 110, 103, 116, 104, 58, 32]⟩ : ByteArray) ++ t140) ++ (⟨#[13, 10]⟩ : ByteArray)).size < 140737488355328 then ((some (x7 ++ bytesOf (((⟨#[67, 111, 110, 116, 101, 110, 116, 45, 76, 101, 110, 103, 116, 104, 58, 32]⟩ : ByteArray) ++ t140) ++ (⟨#[13, 10]⟩ : ByteArray)) : List Int)).bind fun y141 => (if x126003 = true then (if y141.length + 19 < 140737488355328 then (reply_Render.j2 k x1 (y141 ++ bytesOf (⟨#[67, 111, 110, 110, 101, 99, 116, 105, 111, 110, 58, 32, 99, 108, 111, 115, 101, 13, 10]⟩ : ByteArray)) x126000 x126001 x126002 x126003) else (none)) else (if y141.length + 24 < 140737488355328 then (reply_Render.j2 k x1 (y141 ++ bytesOf (⟨#[67, 111, 110, 110, 101, 99, 116, 105, 111, 110, 58, 32, 107, 101, 101, 112, 45, 97, 108, 105, 118, 101, 13, 10]⟩ : ByteArray)) x126000 x126001 x126002 x126003) else (none)))) else (none)) else (none)) else (none)))
def reply_Render.j2 : Nat → Bool → List Int → Int → List (S26) → ByteArray → Bool → Option (ByteArray × Option Int)
 | 0, _, _, _, _, _, _ => none
 | k + 1, x1, x7, x126000, x126001, x126002, x126003 => if x7.length + 2 < 140737488355328 then ((some (x7 ++ bytesOf (⟨#[13, 10]⟩ : ByteArray) : List Int)).bind fun y147 => (if x1 = true then (some (strOfNums y147, none)) else (if y147.length + x126002.size < 140737488355328 then (some (strOfNums (y147 ++ bytesOf x126002), none)) else (none)))) else (none)
end
def reply_Render.f (k : Nat) (a0_0 : Int) (l0_1 : List (S26)) (a0_2 : ByteArray) (a0_3 : Bool) (a1 : Bool) : Option (ByteArray × Option Int) := if (l0_1.length : Int) > 64 then (reply_Render.j0 k a1 true a0_0 l0_1 a0_2 a0_3) else (reply_Render.j0 k a1 (decide ((a0_2.size : Int) > 1048576)) a0_0 l0_1 a0_2 a0_3)
theorem reply_Render.mono_l : ∀ k, (∀ y0 y1 y2 y3 y4 y5, LeO (reply_Render.j0 k y0 y1 y2 y3 y4 y5) (reply_Render.j0 (k + 1) y0 y1 y2 y3 y4 y5)) ∧ (∀ y0 y1 y2 y3 y4 y5 y6 y7 y8, LeO (reply_Render.l0 k y0 y1 y2 y3 y4 y5 y6 y7 y8) (reply_Render.l0 (k + 1) y0 y1 y2 y3 y4 y5 y6 y7 y8)) ∧ (∀ y0 y1 y2 y3 y4 y5, LeO (reply_Render.j2 k y0 y1 y2 y3 y4 y5) (reply_Render.j2 (k + 1) y0 y1 y2 y3 y4 y5))
 | 0 => ⟨fun _ _ _ _ _ _ r h => by simp [reply_Render.j0] at h, fun _ _ _ _ _ _ _ _ _ r h => by simp [reply_Render.l0] at h, fun _ _ _ _ _ _ r h => by simp [reply_Render.j2] at h⟩
 | k + 1 => by
  obtain ⟨ih0, ih1, ih2⟩ := reply_Render.mono_l k
  refine ⟨?_, ?_, ?_⟩
  ·intro y0 y1 y2 y3 y4 y5
   unfold reply_Render.j0
   repeat' first
   | (with_reducible exact ih0 _ _ _ _ _ _)
   | (with_reducible exact ih1 _ _ _ _ _ _ _ _ _)
   | (with_reducible exact ih2 _ _ _ _ _ _)
   | (with_reducible exact reply_may.mono _ _ _)
   | (with_reducible exact LeO.refl _)
   | (with_reducible exact LeO.none _)
   | (with_reducible refine LeO.ite ?_ ?_)
   | (with_reducible refine LeO.bind ?_ (fun _ => ?_))
   | exact ih0 _ _ _ _ _ _
   | exact ih1 _ _ _ _ _ _ _ _ _
   | exact ih2 _ _ _ _ _ _
   | exact reply_may.mono _ _ _
   | exact LeO.none _
   | refine LeO.ite ?_ ?_
   | refine LeO.bind ?_ (fun _ => ?_)
  ·intro y0 y1 y2 y3 y4 y5 y6 y7 y8
   unfold reply_Render.l0
   repeat' first
   | (with_reducible exact ih0 _ _ _ _ _ _)
   | (with_reducible exact ih1 _ _ _ _ _ _ _ _ _)
   | (with_reducible exact ih2 _ _ _ _ _ _)
   | (with_reducible exact reply_may.mono _ _ _)
   | (with_reducible exact LeO.refl _)
   | (with_reducible exact LeO.none _)
   | (with_reducible refine LeO.ite ?_ ?_)
   | (with_reducible refine LeO.bind ?_ (fun _ => ?_))
   | exact ih0 _ _ _ _ _ _
   | exact ih1 _ _ _ _ _ _ _ _ _
   | exact ih2 _ _ _ _ _ _
   | exact reply_may.mono _ _ _
   | exact LeO.none _
   | refine LeO.ite ?_ ?_
   | refine LeO.bind ?_ (fun _ => ?_)
  ·intro y0 y1 y2 y3 y4 y5
   unfold reply_Render.j2
   repeat' first
   | (with_reducible exact ih0 _ _ _ _ _ _)
   | (with_reducible exact ih1 _ _ _ _ _ _ _ _ _)
   | (with_reducible exact ih2 _ _ _ _ _ _)
   | (with_reducible exact reply_may.mono _ _ _)
   | (with_reducible exact LeO.refl _)
   | (with_reducible exact LeO.none _)
   | (with_reducible refine LeO.ite ?_ ?_)
   | (with_reducible refine LeO.bind ?_ (fun _ => ?_))
   | exact ih0 _ _ _ _ _ _
   | exact ih1 _ _ _ _ _ _ _ _ _
   | exact ih2 _ _ _ _ _ _
   | exact reply_may.mono _ _ _
   | exact LeO.none _
   | refine LeO.ite ?_ ?_
   | refine LeO.bind ?_ (fun _ => ?_)
theorem reply_Render.mono : ∀ a0 a1 a2 a3 a4 k, LeO (reply_Render.f k a0 a1 a2 a3 a4) (reply_Render.f (k + 1) a0 a1 a2 a3 a4) := by
 intro a0 a1 a2 a3 a4 k
 obtain ⟨ih0, ih1, ih2⟩ := reply_Render.mono_l k
 unfold reply_Render.f
 repeat' first
   | (with_reducible exact ih0 _ _ _ _ _ _)
   | (with_reducible exact ih1 _ _ _ _ _ _ _ _ _)
   | (with_reducible exact ih2 _ _ _ _ _ _)
   | (with_reducible exact reply_may.mono _ _ _)
   | (with_reducible exact LeO.refl _)
   | (with_reducible exact LeO.none _)
   | (with_reducible refine LeO.ite ?_ ?_)
   | (with_reducible refine LeO.bind ?_ (fun _ => ?_))
   | exact ih0 _ _ _ _ _ _
   | exact ih1 _ _ _ _ _ _ _ _ _
   | exact ih2 _ _ _ _ _ _
   | exact reply_may.mono _ _ _
   | exact LeO.none _
   | refine LeO.ite ?_ ?_
   | refine LeO.bind ?_ (fun _ => ?_)
set_option maxHeartbeats 8000000 in
set_option maxRecDepth 100000 in
theorem reply_Render.calls [Sent] (k : Nat) (a0_0 : Int) (A0_1 : Option Addr) (c0_1 : Nat) (l0_1 : List (S26)) (a0_2 : ByteArray) (a0_3 : Bool) (a1 : Bool) (r1 : ByteArray) (r2 : Option Int) (w : World) (hr0_1 : Kd.C k26 w A0_1 l0_1.length l0_1) (hc0_1 : l0_1.length ≤ c0_1) (h : reply_Render.f k a0_0 l0_1 a0_2 a0_3 a1 = some (r1, r2)) (hG : Glob [0, 2, 8, 9, 16, 19] w) :
  Calls Tryd.prog 15 #[.agg #[.int .i64 a0_0, .slice A0_1 l0_1.length c0_1, .string a0_2, .bool a0_3], .bool a1] w fun e w' => e = .returned (.tuple #[.string r1, errW r2]) ∧ Below w.heap.size w w' := by
 have HG := Aq5 hG
 clear hG
 have hu24 := Tryd.underlying24
 have hu26 := Tryd.underlying26
 have HR0_1 := Aq5 hr0_1
 have HC0_1 := Aq5 hc0_1
 clear hr0_1 hc0_1
 have HB := Aq5 (Below.refl w.heap.size w)
 have H : (if (l0_1.length : Int) > 64 then (reply_Render.j0 k a1 true a0_0 l0_1 a0_2 a0_3) else (reply_Render.j0 k a1 (decide ((a0_2.size : Int) > 1048576)) a0_0 l0_1 a0_2 a0_3)) = some (r1, r2) := h
 clear h
 have HC3 := Aq5 H
 clear H
 go_enter Tryd.func15, Tryd.ntmps15
 go_upto_region 1 with (first | ((with_reducible refine gate_dst (N := 2) rfl ?_); (try (refine gate_guard (by rfl) ?_; dsimp only)); refine box_event ?hg (N := 2) ?hd (cs := #[.int .i64 a0_0, .slice A0_1 l0_1.length c0_1, .string a0_2, .bool a0_3]) (t := 24) ?hr ?_; (case hd => rfl); (case hg => rfl); (case hr => first | (go_simp; done) | (go_simp; rfl)); intro gb125 hg w4 hbox hb; have BK125 := Aq5 (hbox); have GW125 := Aq5 ((by rw [hg]; exact (below_size tq5_6) : w.heap.size ≤ gb125)); have GE125 := Aq5 ((by rw [hg]; exact (below_size tq5_6) : w.heap.size ≤ gb125)); replace HB := Aq5 (below_step tq5_6 hb); clear hb hbox hg))
 repeat (go_quiet (first | ((with_reducible refine gate_dst (N := 2) rfl ?_); (try (refine gate_guard (by rfl) ?_; dsimp only)); refine box_event ?hg (N := 2) ?hd (cs := #[.int .i64 a0_0, .slice A0_1 l0_1.length c0_1, .string a0_2, .bool a0_3]) (t := 24) ?hr ?_; (case hd => rfl); (case hg => rfl); (case hr => first | (go_simp; done) | (go_simp; rfl)); intro gb125 hg w4 hbox hb; have BK125 := Aq5 (hbox); have GW125 := Aq5 ((by rw [hg]; exact (below_size tq5_6) : w.heap.size ≤ gb125)); have GE125 := Aq5 ((by rw [hg]; exact (below_size tq5_6) : w.heap.size ≤ gb125)); replace HB := Aq5 (below_step tq5_6 hb); clear hb hbox hg)); go_upto_region 1 with (first | ((with_reducible refine gate_dst (N := 2) rfl ?_); (try (refine gate_guard (by rfl) ?_; dsimp only)); refine box_event ?hg (N := 2) ?hd (cs := #[.int .i64 a0_0, .slice A0_1 l0_1.length c0_1, .string a0_2, .bool a0_3]) (t := 24) ?hr ?_; (case hd => rfl); (case hg => rfl); (case hr => first | (go_simp; done) | (go_simp; rfl)); intro gb125 hg w4 hbox hb; have BK125 := Aq5 (hbox); have GW125 := Aq5 ((by rw [hg]; exact (below_size tq5_6) : w.heap.size ≤ gb125)); have GE125 := Aq5 ((by rw [hg]; exact (below_size tq5_6) : w.heap.size ≤ gb125)); replace HB := Aq5 (below_step tq5_6 hb); clear hb hbox hg)))
 (try simp only [Act.put, List.setIfInBounds_toArray, List.set_cons_zero, List.set_cons_succ])
 go_cut [19] (fun v19 wc => ∃ (kq : Nat) (x19_2 : Bool), v19 = .bool x19_2 ∧ Aside0 (reply_Render.j0 kq a1 x19_2 a0_0 l0_1 a0_2 a0_3 = some (r1, r2)) ∧ Aside0 (kq ≤ k) ∧ Aside0 (wc.heap[gb125]? = some (.cells #[.int .i64 a0_0, (.slice A0_1 l0_1.length c0_1), .string a0_2, .bool a0_3] 24 (0, 0))) ∧ Aside0 (Below w.heap.size w wc))
 case first =>
  have H := HC3.out
  clear HC3
  by_cases c5 : (l0_1.length : Int) > 64
  ·rw [if_pos c5] at H
   have c5b0 : decide (64 < (l0_1.length : Int)) = true := decide_eq_true c5
   have c5b1 : decide (64 < l0_1.length) = true := decide_eq_true (by omega)
   clear c5
   (first | rw [c5b0] | (simp only [i64_w, i32_w]; rw [c5b0]) | skip)
   have H' := Aq5 H
   clear H
   have hcz6_0 : w4.cell? ⟨gb125, 0, none⟩ = some (.int .i64 a0_0) := (blk_cell BK125.out 0).trans rfl
   have hcz6_1 : w4.cell? ⟨gb125, 1, none⟩ = some (.slice A0_1 l0_1.length c0_1) := (blk_cell BK125.out 1).trans rfl
   have hcz6_2 : w4.cell? ⟨gb125, 2, none⟩ = some (.string a0_2) := (blk_cell BK125.out 2).trans rfl
   have hcz6_3 : w4.cell? ⟨gb125, 3, none⟩ = some (.bool a0_3) := (blk_cell BK125.out 3).trans rfl
   have hfz6_0 := blk_frozen BK125.out 0
   have hfz6_1 := blk_frozen BK125.out 1
   have hfz6_2 := blk_frozen BK125.out 2
   have hfz6_3 := blk_frozen BK125.out 3
   go_wp2
   repeat (go_quiet (fail); try go_wp2)
   go_meet
   case rel => exact ⟨_, (true), tq5_0, H', ⟨by first | omega | exact Nat.le_refl _⟩, ⟨(tq5_5 BK125.out)⟩, ⟨(tq5_7 GE125.out)⟩⟩
  ·rw [if_neg c5] at H
   have c5b0 : decide (64 < (l0_1.length : Int)) = false := decide_eq_false c5
   have c5b1 : decide (64 < l0_1.length) = false := decide_eq_false (by omega)
   clear c5
   (first | rw [c5b0] | (simp only [i64_w, i32_w]; rw [c5b0]) | skip)
   have H' := Aq5 H
   clear H
   have hcz7_0 : w4.cell? ⟨gb125, 0, none⟩ = some (.int .i64 a0_0) := (blk_cell BK125.out 0).trans rfl
   have hcz7_1 : w4.cell? ⟨gb125, 1, none⟩ = some (.slice A0_1 l0_1.length c0_1) := (blk_cell BK125.out 1).trans rfl
   have hcz7_2 : w4.cell? ⟨gb125, 2, none⟩ = some (.string a0_2) := (blk_cell BK125.out 2).trans rfl
   have hcz7_3 : w4.cell? ⟨gb125, 3, none⟩ = some (.bool a0_3) := (blk_cell BK125.out 3).trans rfl
   have hfz7_0 := blk_frozen BK125.out 0
   have hfz7_1 := blk_frozen BK125.out 1
   have hfz7_2 := blk_frozen BK125.out 2
   have hfz7_3 := blk_frozen BK125.out 3
   go_wp2
   repeat (go_quiet (fail); try go_wp2)
   go_meet
   case rel => exact ⟨_, (decide ((a0_2.size : Int) > 1048576)), tq5_0, H', ⟨by first | omega | exact Nat.le_refl _⟩, ⟨(tq5_5 BK125.out)⟩, ⟨(tq5_7 GE125.out)⟩⟩
 case rest =>
  clear HC3
  try clear c1
  try clear p2
  try clear c5
  try clear c5b0
  try clear c5b1
  try clear hcz6_0
  try clear hcz6_1
  try clear hcz6_2
  try clear hcz6_3
  try clear hcz7_0
  try clear hcz7_1
  try clear hcz7_2
  try clear hcz7_3
  try clear hfz6_0
  try clear hfz6_1
  try clear hfz6_2
  try clear hfz6_3
  try clear hfz7_0
  try clear hfz7_1
  try clear hfz7_2
  try clear hfz7_3
  obtain ⟨kq, x19_2, rfl, HA, HJ2, BK125, HB⟩ := hcut
  cases kq with
  | zero => exact absurd HA.out (by simp [reply_Render.j0])
  | succ kj2 =>
   have H := HA.out
   clear HA
   simp only [reply_Render.j0] at H
   by_cases c8 : x19_2 = true
   ·subst c8
    have H1 : (some ((⟨#[]⟩ : ByteArray), some 3)) = some (r1, r2) := by rw [if_pos rfl] at H; exact H
    clear H
    have H := H1
    clear H1
    simp only [Option.some.injEq, Prod.mk.injEq] at H
    obtain ⟨rfl, rfl⟩ := H
    have hgeq126 := Glob.err3 (HG.out.step HB.out (T := [0, 2, 8, 9, 16, 19]) rfl) (by rfl)
    go_wp2
    repeat (go_quiet (fail); try go_wp2)
    go_ret2
    exact ⟨tq5_2, (tq5_7 GE125.out)⟩
   ·replace c8 := Bool.eq_false_iff.mpr c8
    subst c8
    have H1 : ((reply_Reason.f a0_0).bind fun t127 => (if t127.toList = ([] : List UInt8) then (some ((⟨#[]⟩ : ByteArray), some 1)) else ((strconv_Itoa_39.f a0_0).bind fun t131 => (if 9 + t131.size ≤ 9223372036854775807 then (if ((⟨#[72, 84, 84, 80, 47, 49, 46, 49, 32]⟩ : ByteArray) ++ t131).size + 1 ≤ 9223372036854775807 then (if (((⟨#[72, 84, 84, 80, 47, 49, 46, 49, 32]⟩ : ByteArray) ++ t131) ++ (⟨#[32]⟩ : ByteArray)).size + t127.size ≤ 9223372036854775807 then (if ((((⟨#[72, 84, 84, 80, 47, 49, 46, 49, 32]⟩ : ByteArray) ++ t131) ++ (⟨#[32]⟩ : ByteArray)) ++ t127).size + 2 ≤ 9223372036854775807 then (if ([] : List Int).length + (((((⟨#[72, 84, 84, 80, 47, 49, 46, 49, 32]⟩ : ByteArray) ++ t131) ++ (⟨#[32]⟩ : ByteArray)) ++ t127) ++ (⟨#[13, 10]⟩ : ByteArray)).size < 140737488355328 then (reply_Render.l0 kj2 a1 (([] : List Int) ++ bytesOf (((((⟨#[72, 84, 84, 80, 47, 49, 46, 49, 32]⟩ : ByteArray) ++ t131) ++ (⟨#[32]⟩ : ByteArray)) ++ t127) ++ (⟨#[13, 10]⟩ : ByteArray))) l0_1 (l0_1.length : Int) 0 a0_0 l0_1 a0_2 a0_3) else (none)) else (none)) else (none)) else (none)) else (none))))) = some (r1, r2) := by rw [if_neg (show ¬ (false = true) by decide)] at H; exact H
    clear H
    have H := H1
    clear H1
    replace H := Option.bind_eq_some_iff.mp H
    obtain ⟨t127, A90, H⟩ := H
    replace H : (if t127.toList = ([] : List UInt8) then (some ((⟨#[]⟩ : ByteArray), some 1)) else ((strconv_Itoa_39.f a0_0).bind fun t131 => (if 9 + t131.size ≤ 9223372036854775807 then (if ((⟨#[72, 84, 84, 80, 47, 49, 46, 49, 32]⟩ : ByteArray) ++ t131).size + 1 ≤ 9223372036854775807 then (if (((⟨#[72, 84, 84, 80, 47, 49, 46, 49, 32]⟩ : ByteArray) ++ t131) ++ (⟨#[32]⟩ : ByteArray)).size + t127.size ≤ 9223372036854775807 then (if ((((⟨#[72, 84, 84, 80, 47, 49, 46, 49, 32]⟩ : ByteArray) ++ t131) ++ (⟨#[32]⟩ : ByteArray)) ++ t127).size + 2 ≤ 9223372036854775807 then (if ([] : List Int).length + (((((⟨#[72, 84, 84, 80, 47, 49, 46, 49, 32]⟩ : ByteArray) ++ t131) ++ (⟨#[32]⟩ : ByteArray)) ++ t127) ++ (⟨#[13, 10]⟩ : ByteArray)).size < 140737488355328 then (reply_Render.l0 kj2 a1 (([] : List Int) ++ bytesOf (((((⟨#[72, 84, 84, 80, 47, 49, 46, 49, 32]⟩ : ByteArray) ++ t131) ++ (⟨#[32]⟩ : ByteArray)) ++ t127) ++ (⟨#[13, 10]⟩ : ByteArray))) l0_1 (l0_1.length : Int) 0 a0_0 l0_1 a0_2 a0_3) else (none)) else (none)) else (none)) else (none)) else (none)))) = some (r1, r2) := H
    have A9 := Aq5 A90
    clear A90
    by_cases c10 : t127.toList = ([] : List UInt8)
    ·rw [if_pos c10] at H
     have c10b0 : (t127.toList == ([] : List UInt8)) = true := beq_iff_eq.mpr c10
     have c10b1 : (t127.toList != ([] : List UInt8)) = false := bne_eq_false_iff_eq.mpr c10
     clear c10
     simp only [Option.some.injEq, Prod.mk.injEq] at H
     obtain ⟨rfl, rfl⟩ := H
     have hcz11_0 : wc.cell? ⟨gb125, 0, none⟩ = some (.int .i64 a0_0) := (blk_cell BK125.out 0).trans rfl
     have hcz11_1 : wc.cell? ⟨gb125, 1, none⟩ = some (.slice A0_1 l0_1.length c0_1) := (blk_cell BK125.out 1).trans rfl
     have hcz11_2 : wc.cell? ⟨gb125, 2, none⟩ = some (.string a0_2) := (blk_cell BK125.out 2).trans rfl
     have hcz11_3 : wc.cell? ⟨gb125, 3, none⟩ = some (.bool a0_3) := (blk_cell BK125.out 3).trans rfl
     have hfz11_0 := blk_frozen BK125.out 0
     have hfz11_1 := blk_frozen BK125.out 1
     have hfz11_2 := blk_frozen BK125.out 2
     have hfz11_3 := blk_frozen BK125.out 3
     go_wp2_with (first | (go_at_call 37; (with_reducible refine (reply_Reason.calls a0_0 t127 _ A9.out ?side1).mono ?_); (case side1 => exact HG.out.step (tq5_7 GE125.out) rfl); rintro e w12 ⟨rfl, hb⟩; replace BK125 := Aq5 (blk_below (g := gb125) (o := .cells #[.int .i64 a0_0, .slice A0_1 l0_1.length c0_1, .string a0_2, .bool a0_3] 24 (0, 0)) (tq5_5 BK125.out) hb); replace HB := Aq5 (below_step (tq5_7 GE125.out) hb); (try clear hb); (try clear hb2); (try clear hk); (try clear hi); have hgeq128 := Glob.err1 (HG.out.step HB.out (T := [0, 2, 8, 9, 16, 19]) rfl) (by rfl)))
     repeat (go_quiet (first | (go_at_call 37; (with_reducible refine (reply_Reason.calls a0_0 t127 _ A9.out ?side1).mono ?_); (case side1 => exact HG.out.step (tq5_7 GE125.out) rfl); rintro e w12 ⟨rfl, hb⟩; replace BK125 := Aq5 (blk_below (g := gb125) (o := .cells #[.int .i64 a0_0, .slice A0_1 l0_1.length c0_1, .string a0_2, .bool a0_3] 24 (0, 0)) (tq5_5 BK125.out) hb); replace HB := Aq5 (below_step (tq5_7 GE125.out) hb); (try clear hb); (try clear hb2); (try clear hk); (try clear hi); have hgeq128 := Glob.err1 (HG.out.step HB.out (T := [0, 2, 8, 9, 16, 19]) rfl) (by rfl))); try go_wp2_with (first | (go_at_call 37; (with_reducible refine (reply_Reason.calls a0_0 t127 _ A9.out ?side1).mono ?_); (case side1 => exact HG.out.step (tq5_7 GE125.out) rfl); rintro e w12 ⟨rfl, hb⟩; replace BK125 := Aq5 (blk_below (g := gb125) (o := .cells #[.int .i64 a0_0, .slice A0_1 l0_1.length c0_1, .string a0_2, .bool a0_3] 24 (0, 0)) (tq5_5 BK125.out) hb); replace HB := Aq5 (below_step (tq5_7 GE125.out) hb); (try clear hb); (try clear hb2); (try clear hk); (try clear hi); have hgeq128 := Glob.err1 (HG.out.step HB.out (T := [0, 2, 8, 9, 16, 19]) rfl) (by rfl))))
     go_ret2
     exact ⟨tq5_2, (tq5_7 GE125.out)⟩
    ·rw [if_neg c10] at H
     have c10b0 : (t127.toList == ([] : List UInt8)) = false := beq_eq_false_iff_ne.mpr c10
     have c10b1 : (t127.toList != ([] : List UInt8)) = true := bne_iff_ne.mpr c10
     replace H := Option.bind_eq_some_iff.mp H
     obtain ⟨t131, A130, H⟩ := H
     replace H : (if 9 + t131.size ≤ 9223372036854775807 then (if ((⟨#[72, 84, 84, 80, 47, 49, 46, 49, 32]⟩ : ByteArray) ++ t131).size + 1 ≤ 9223372036854775807 then (if (((⟨#[72, 84, 84, 80, 47, 49, 46, 49, 32]⟩ : ByteArray) ++ t131) ++ (⟨#[32]⟩ : ByteArray)).size + t127.size ≤ 9223372036854775807 then (if ((((⟨#[72, 84, 84, 80, 47, 49, 46, 49, 32]⟩ : ByteArray) ++ t131) ++ (⟨#[32]⟩ : ByteArray)) ++ t127).size + 2 ≤ 9223372036854775807 then (if ([] : List Int).length + (((((⟨#[72, 84, 84, 80, 47, 49, 46, 49, 32]⟩ : ByteArray) ++ t131) ++ (⟨#[32]⟩ : ByteArray)) ++ t127) ++ (⟨#[13, 10]⟩ : ByteArray)).size < 140737488355328 then (reply_Render.l0 kj2 a1 (([] : List Int) ++ bytesOf (((((⟨#[72, 84, 84, 80, 47, 49, 46, 49, 32]⟩ : ByteArray) ++ t131) ++ (⟨#[32]⟩ : ByteArray)) ++ t127) ++ (⟨#[13, 10]⟩ : ByteArray))) l0_1 (l0_1.length : Int) 0 a0_0 l0_1 a0_2 a0_3) else (none)) else (none)) else (none)) else (none)) else (none)) = some (r1, r2) := H
     have A13 := Aq5 A130
     clear A130
     by_cases c14 : 9 + t131.size ≤ 9223372036854775807
     ·rw [if_pos c14] at H
      have c14b0 := eq_true c14
      have c14b1 : decide (9 + t131.size ≤ 9223372036854775807) = true := decide_eq_true c14
      try have c14b2 : (9223372036854775807 < 9 + t131.size) = False := eq_false (Nat.not_lt.2 c14)
      by_cases c15 : ((⟨#[72, 84, 84, 80, 47, 49, 46, 49, 32]⟩ : ByteArray) ++ t131).size + 1 ≤ 9223372036854775807
      ·rw [if_pos c15] at H
       have c15b0 := eq_true c15
       have c15b1 : decide (((⟨#[72, 84, 84, 80, 47, 49, 46, 49, 32]⟩ : ByteArray) ++ t131).size + 1 ≤ 9223372036854775807) = true := decide_eq_true c15
       try have c15b2 : (9223372036854775807 < ((⟨#[72, 84, 84, 80, 47, 49, 46, 49, 32]⟩ : ByteArray) ++ t131).size + 1) = False := eq_false (Nat.not_lt.2 c15)
       (try (have c15b3 := c15b0; simp only [ByteArray.size_append', ByteArray.size_mk', List.size_toArray, List.length_cons, List.length_nil, Nat.reduceAdd] at c15b3))
       (try (have c15b4 := c15b1; simp only [ByteArray.size_append', ByteArray.size_mk', List.size_toArray, List.length_cons, List.length_nil, Nat.reduceAdd] at c15b4))
       (try (have c15b5 := c15b2; simp only [ByteArray.size_append', ByteArray.size_mk', List.size_toArray, List.length_cons, List.length_nil, Nat.reduceAdd] at c15b5))
       by_cases c16 : (((⟨#[72, 84, 84, 80, 47, 49, 46, 49, 32]⟩ : ByteArray) ++ t131) ++ (⟨#[32]⟩ : ByteArray)).size + t127.size ≤ 9223372036854775807
       ·rw [if_pos c16] at H
        have c16b0 := eq_true c16
        have c16b1 : decide ((((⟨#[72, 84, 84, 80, 47, 49, 46, 49, 32]⟩ : ByteArray) ++ t131) ++ (⟨#[32]⟩ : ByteArray)).size + t127.size ≤ 9223372036854775807) = true := decide_eq_true c16
        try have c16b2 : (9223372036854775807 < (((⟨#[72, 84, 84, 80, 47, 49, 46, 49, 32]⟩ : ByteArray) ++ t131) ++ (⟨#[32]⟩ : ByteArray)).size + t127.size) = False := eq_false (Nat.not_lt.2 c16)
        (try (have c16b3 := c16b0; simp only [ByteArray.size_append', ByteArray.size_mk', List.size_toArray, List.length_cons, List.length_nil, Nat.reduceAdd] at c16b3))
        (try (have c16b4 := c16b1; simp only [ByteArray.size_append', ByteArray.size_mk', List.size_toArray, List.length_cons, List.length_nil, Nat.reduceAdd] at c16b4))
        (try (have c16b5 := c16b2; simp only [ByteArray.size_append', ByteArray.size_mk', List.size_toArray, List.length_cons, List.length_nil, Nat.reduceAdd] at c16b5))
        by_cases c17 : ((((⟨#[72, 84, 84, 80, 47, 49, 46, 49, 32]⟩ : ByteArray) ++ t131) ++ (⟨#[32]⟩ : ByteArray)) ++ t127).size + 2 ≤ 9223372036854775807
        ·rw [if_pos c17] at H
         have c17b0 := eq_true c17
         have c17b1 : decide (((((⟨#[72, 84, 84, 80, 47, 49, 46, 49, 32]⟩ : ByteArray) ++ t131) ++ (⟨#[32]⟩ : ByteArray)) ++ t127).size + 2 ≤ 9223372036854775807) = true := decide_eq_true c17
         try have c17b2 : (9223372036854775807 < ((((⟨#[72, 84, 84, 80, 47, 49, 46, 49, 32]⟩ : ByteArray) ++ t131) ++ (⟨#[32]⟩ : ByteArray)) ++ t127).size + 2) = False := eq_false (Nat.not_lt.2 c17)
         (try (have c17b3 := c17b0; simp only [ByteArray.size_append', ByteArray.size_mk', List.size_toArray, List.length_cons, List.length_nil, Nat.reduceAdd] at c17b3))
         (try (have c17b4 := c17b1; simp only [ByteArray.size_append', ByteArray.size_mk', List.size_toArray, List.length_cons, List.length_nil, Nat.reduceAdd] at c17b4))
         (try (have c17b5 := c17b2; simp only [ByteArray.size_append', ByteArray.size_mk', List.size_toArray, List.length_cons, List.length_nil, Nat.reduceAdd] at c17b5))
         by_cases c18 : ([] : List Int).length + (((((⟨#[72, 84, 84, 80, 47, 49, 46, 49, 32]⟩ : ByteArray) ++ t131) ++ (⟨#[32]⟩ : ByteArray)) ++ t127) ++ (⟨#[13, 10]⟩ : ByteArray)).size < 140737488355328
         ·rw [if_pos c18] at H
          have LMc18 := Aq5 c18
          clear c18
          obtain ⟨y132, hy132⟩ : ∃ y_ : List Int, y_ = (([] : List Int) ++ bytesOf (((((⟨#[72, 84, 84, 80, 47, 49, 46, 49, 32]⟩ : ByteArray) ++ t131) ++ (⟨#[32]⟩ : ByteArray)) ++ t127) ++ (⟨#[13, 10]⟩ : ByteArray))) := ⟨_, rfl⟩
          replace H : (reply_Render.l0 kj2 a1 y132 l0_1 (l0_1.length : Int) 0 a0_0 l0_1 a0_2 a0_3) = some (r1, r2) := by first | (rw [hy132]; with_reducible exact H) | (have H2_ := (Option.bind_some _ _).symm.trans H; rw [hy132]; with_reducible exact H2_) | (have H2_ := (Option.bind_some _ _).symm.trans H; with_reducible exact H2_) | with_reducible exact H | (rw [hy132]; exact H) | exact H
          have Ny132 := Aq5 hy132
          clear hy132
          have H' := Aq5 H
          clear H
          have hcz19_0 : wc.cell? ⟨gb125, 0, none⟩ = some (.int .i64 a0_0) := (blk_cell BK125.out 0).trans rfl
          have hcz19_1 : wc.cell? ⟨gb125, 1, none⟩ = some (.slice A0_1 l0_1.length c0_1) := (blk_cell BK125.out 1).trans rfl
          have hcz19_2 : wc.cell? ⟨gb125, 2, none⟩ = some (.string a0_2) := (blk_cell BK125.out 2).trans rfl
          have hcz19_3 : wc.cell? ⟨gb125, 3, none⟩ = some (.bool a0_3) := (blk_cell BK125.out 3).trans rfl
          have hfz19_0 := blk_frozen BK125.out 0
          have hfz19_1 := blk_frozen BK125.out 1
          have hfz19_2 := blk_frozen BK125.out 2
          have hfz19_3 := blk_frozen BK125.out 3
          go_wp2_with (first | (go_at_call 37; (with_reducible refine (reply_Reason.calls a0_0 t127 _ A9.out ?side1).mono ?_); (case side1 => exact HG.out.step (tq5_7 GE125.out) rfl); rintro e w20 ⟨rfl, hb⟩; replace BK125 := Aq5 (blk_below (g := gb125) (o := .cells #[.int .i64 a0_0, .slice A0_1 l0_1.length c0_1, .string a0_2, .bool a0_3] 24 (0, 0)) (tq5_5 BK125.out) hb); replace HB := Aq5 (below_step (tq5_7 GE125.out) hb); (try clear hb); (try clear hb2); (try clear hk); (try clear hi)) | ((with_reducible refine gate_dst (N := 7) rfl ?_); (try (refine gate_guard (by rfl) ?_; dsimp only)); refine box_event ?hg (N := 7) ?hd (cs := #[.pointer none, .slice none 0 0]) (t := 72) ?hr ?_; (case hd => rfl); (case hg => rfl); (case hr => first | (go_simp; done) | (go_simp; rfl)); intro gb129 hg w21 hbox hb; replace BK125 := Aq5 (blk_below (g := gb125) (o := .cells #[.int .i64 a0_0, .slice A0_1 l0_1.length c0_1, .string a0_2, .bool a0_3] 24 (0, 0)) (tq5_5 BK125.out) hb); have HO130 := Aq5 ((Kd.B_new (d := Kd.int .u8) (e := 72) (base := w.heap.size) hg hbox ((below_size (tq5_7 GE125.out))))); replace HB := Aq5 (below_step (tq5_7 GE125.out) hb); clear hg hbox hb; have hcz22_0 : w21.cell? ⟨gb125, 0, none⟩ = some (.int .i64 a0_0) := (blk_cell BK125.out 0).trans rfl; have hcz22_1 : w21.cell? ⟨gb125, 1, none⟩ = some (.slice A0_1 l0_1.length c0_1) := (blk_cell BK125.out 1).trans rfl; have hcz22_2 : w21.cell? ⟨gb125, 2, none⟩ = some (.string a0_2) := (blk_cell BK125.out 2).trans rfl; have hcz22_3 : w21.cell? ⟨gb125, 3, none⟩ = some (.bool a0_3) := (blk_cell BK125.out 3).trans rfl; have hfz22_0 := blk_frozen BK125.out 0; have hfz22_1 := blk_frozen BK125.out 1; have hfz22_2 := blk_frozen BK125.out 2; have hfz22_3 := blk_frozen BK125.out 3) | (go_at_call 39; (with_reducible refine (strconv_Itoa_39.calls a0_0 t131 _ A13.out ?side1).mono ?_); (case side1 => exact HG.out.step (tq5_7 GE125.out) rfl); rintro e w23 ⟨rfl, hb⟩; replace HO130 := Aq5 (Kd.B_below (tq5_3 HO130.out) hb); replace BK125 := Aq5 (blk_below (g := gb125) (o := .cells #[.int .i64 a0_0, .slice A0_1 l0_1.length c0_1, .string a0_2, .bool a0_3] 24 (0, 0)) (tq5_5 BK125.out) hb); replace HB := Aq5 (below_step (tq5_7 GE125.out) hb); (try clear hb); (try clear hb2); (try clear hk); (try clear hi)) | ((with_reducible refine gate_callee (f := 38) rfl ?_); refine goesL_ (some 35) rfl rfl Tryd.func38 (by kernel_rfl) rfl #[.pointer (some ⟨gb129, 0, none⟩), .string (((((⟨#[72, 84, 84, 80, 47, 49, 46, 49, 32]⟩ : ByteArray) ++ t131) ++ (⟨#[32]⟩ : ByteArray)) ++ t127) ++ (⟨#[13, 10]⟩ : ByteArray))] rfl tq5_4 ?_; (refine (Kd.B_WriteString (tq5_3 HO130.out) (((((⟨#[72, 84, 84, 80, 47, 49, 46, 49, 32]⟩ : ByteArray) ++ t131) ++ (⟨#[32]⟩ : ByteArray)) ++ t127) ++ (⟨#[13, 10]⟩ : ByteArray)) (tq5_9 LMc18.out)).mono ?_); rintro e w24 ⟨rfl, ho, hk⟩; refine ⟨_, rfl, ?_⟩; rw [← Ny132.out] at ho; have n0_ := Aq5 (BKeep.blk' hk (g := gb125) (o := .cells #[.int .i64 a0_0, .slice A0_1 l0_1.length c0_1, .string a0_2, .bool a0_3] 24 (0, 0)) (tq5_5 BK125.out) ⟨by decide, by decide⟩); have n1_ := Aq5 (Below.trans (tq5_7 GE125.out) hk.below); have n2_ := Aq5 (ho); clear BK125; clear HB; clear HO130; have BK125 := n0_; have HB := n1_; have HO133 := n2_; clear n0_ n1_ n2_; clear ho hk; have hcz25_0 : w24.cell? ⟨gb125, 0, none⟩ = some (.int .i64 a0_0) := (blk_cell BK125.out 0).trans rfl; have hcz25_1 : w24.cell? ⟨gb125, 1, none⟩ = some (.slice A0_1 l0_1.length c0_1) := (blk_cell BK125.out 1).trans rfl; have hcz25_2 : w24.cell? ⟨gb125, 2, none⟩ = some (.string a0_2) := (blk_cell BK125.out 2).trans rfl; have hcz25_3 : w24.cell? ⟨gb125, 3, none⟩ = some (.bool a0_3) := (blk_cell BK125.out 3).trans rfl; have hfz25_0 := blk_frozen BK125.out 0; have hfz25_1 := blk_frozen BK125.out 1; have hfz25_2 := blk_frozen BK125.out 2; have hfz25_3 := blk_frozen BK125.out 3))
          repeat (go_quiet (first | (go_at_call 37; (with_reducible refine (reply_Reason.calls a0_0 t127 _ A9.out ?side1).mono ?_); (case side1 => exact HG.out.step (tq5_7 GE125.out) rfl); rintro e w20 ⟨rfl, hb⟩; replace BK125 := Aq5 (blk_below (g := gb125) (o := .cells #[.int .i64 a0_0, .slice A0_1 l0_1.length c0_1, .string a0_2, .bool a0_3] 24 (0, 0)) (tq5_5 BK125.out) hb); replace HB := Aq5 (below_step (tq5_7 GE125.out) hb); (try clear hb); (try clear hb2); (try clear hk); (try clear hi)) | ((with_reducible refine gate_dst (N := 7) rfl ?_); (try (refine gate_guard (by rfl) ?_; dsimp only)); refine box_event ?hg (N := 7) ?hd (cs := #[.pointer none, .slice none 0 0]) (t := 72) ?hr ?_; (case hd => rfl); (case hg => rfl); (case hr => first | (go_simp; done) | (go_simp; rfl)); intro gb129 hg w21 hbox hb; replace BK125 := Aq5 (blk_below (g := gb125) (o := .cells #[.int .i64 a0_0, .slice A0_1 l0_1.length c0_1, .string a0_2, .bool a0_3] 24 (0, 0)) (tq5_5 BK125.out) hb); have HO130 := Aq5 ((Kd.B_new (d := Kd.int .u8) (e := 72) (base := w.heap.size) hg hbox ((below_size (tq5_7 GE125.out))))); replace HB := Aq5 (below_step (tq5_7 GE125.out) hb); clear hg hbox hb; have hcz22_0 : w21.cell? ⟨gb125, 0, none⟩ = some (.int .i64 a0_0) := (blk_cell BK125.out 0).trans rfl; have hcz22_1 : w21.cell? ⟨gb125, 1, none⟩ = some (.slice A0_1 l0_1.length c0_1) := (blk_cell BK125.out 1).trans rfl; have hcz22_2 : w21.cell? ⟨gb125, 2, none⟩ = some (.string a0_2) := (blk_cell BK125.out 2).trans rfl; have hcz22_3 : w21.cell? ⟨gb125, 3, none⟩ = some (.bool a0_3) := (blk_cell BK125.out 3).trans rfl; have hfz22_0 := blk_frozen BK125.out 0; have hfz22_1 := blk_frozen BK125.out 1; have hfz22_2 := blk_frozen BK125.out 2; have hfz22_3 := blk_frozen BK125.out 3) | (go_at_call 39; (with_reducible refine (strconv_Itoa_39.calls a0_0 t131 _ A13.out ?side1).mono ?_); (case side1 => exact HG.out.step (tq5_7 GE125.out) rfl); rintro e w23 ⟨rfl, hb⟩; replace HO130 := Aq5 (Kd.B_below (tq5_3 HO130.out) hb); replace BK125 := Aq5 (blk_below (g := gb125) (o := .cells #[.int .i64 a0_0, .slice A0_1 l0_1.length c0_1, .string a0_2, .bool a0_3] 24 (0, 0)) (tq5_5 BK125.out) hb); replace HB := Aq5 (below_step (tq5_7 GE125.out) hb); (try clear hb); (try clear hb2); (try clear hk); (try clear hi)) | ((with_reducible refine gate_callee (f := 38) rfl ?_); refine goesL_ (some 35) rfl rfl Tryd.func38 (by kernel_rfl) rfl #[.pointer (some ⟨gb129, 0, none⟩), .string (((((⟨#[72, 84, 84, 80, 47, 49, 46, 49, 32]⟩ : ByteArray) ++ t131) ++ (⟨#[32]⟩ : ByteArray)) ++ t127) ++ (⟨#[13, 10]⟩ : ByteArray))] rfl tq5_4 ?_; (refine (Kd.B_WriteString (tq5_3 HO130.out) (((((⟨#[72, 84, 84, 80, 47, 49, 46, 49, 32]⟩ : ByteArray) ++ t131) ++ (⟨#[32]⟩ : ByteArray)) ++ t127) ++ (⟨#[13, 10]⟩ : ByteArray)) (tq5_9 LMc18.out)).mono ?_); rintro e w24 ⟨rfl, ho, hk⟩; refine ⟨_, rfl, ?_⟩; rw [← Ny132.out] at ho; have n0_ := Aq5 (BKeep.blk' hk (g := gb125) (o := .cells #[.int .i64 a0_0, .slice A0_1 l0_1.length c0_1, .string a0_2, .bool a0_3] 24 (0, 0)) (tq5_5 BK125.out) ⟨by decide, by decide⟩); have n1_ := Aq5 (Below.trans (tq5_7 GE125.out) hk.below); have n2_ := Aq5 (ho); clear BK125; clear HB; clear HO130; have BK125 := n0_; have HB := n1_; have HO133 := n2_; clear n0_ n1_ n2_; clear ho hk; have hcz25_0 : w24.cell? ⟨gb125, 0, none⟩ = some (.int .i64 a0_0) := (blk_cell BK125.out 0).trans rfl; have hcz25_1 : w24.cell? ⟨gb125, 1, none⟩ = some (.slice A0_1 l0_1.length c0_1) := (blk_cell BK125.out 1).trans rfl; have hcz25_2 : w24.cell? ⟨gb125, 2, none⟩ = some (.string a0_2) := (blk_cell BK125.out 2).trans rfl; have hcz25_3 : w24.cell? ⟨gb125, 3, none⟩ = some (.bool a0_3) := (blk_cell BK125.out 3).trans rfl; have hfz25_0 := blk_frozen BK125.out 0; have hfz25_1 := blk_frozen BK125.out 1; have hfz25_2 := blk_frozen BK125.out 2; have hfz25_3 := blk_frozen BK125.out 3)); try go_wp2_with (first | (go_at_call 37; (with_reducible refine (reply_Reason.calls a0_0 t127 _ A9.out ?side1).mono ?_); (case side1 => exact HG.out.step (tq5_7 GE125.out) rfl); rintro e w20 ⟨rfl, hb⟩; replace BK125 := Aq5 (blk_below (g := gb125) (o := .cells #[.int .i64 a0_0, .slice A0_1 l0_1.length c0_1, .string a0_2, .bool a0_3] 24 (0, 0)) (tq5_5 BK125.out) hb); replace HB := Aq5 (below_step (tq5_7 GE125.out) hb); (try clear hb); (try clear hb2); (try clear hk); (try clear hi)) | ((with_reducible refine gate_dst (N := 7) rfl ?_); (try (refine gate_guard (by rfl) ?_; dsimp only)); refine box_event ?hg (N := 7) ?hd (cs := #[.pointer none, .slice none 0 0]) (t := 72) ?hr ?_; (case hd => rfl); (case hg => rfl); (case hr => first | (go_simp; done) | (go_simp; rfl)); intro gb129 hg w21 hbox hb; replace BK125 := Aq5 (blk_below (g := gb125) (o := .cells #[.int .i64 a0_0, .slice A0_1 l0_1.length c0_1, .string a0_2, .bool a0_3] 24 (0, 0)) (tq5_5 BK125.out) hb); have HO130 := Aq5 ((Kd.B_new (d := Kd.int .u8) (e := 72) (base := w.heap.size) hg hbox ((below_size (tq5_7 GE125.out))))); replace HB := Aq5 (below_step (tq5_7 GE125.out) hb); clear hg hbox hb; have hcz22_0 : w21.cell? ⟨gb125, 0, none⟩ = some (.int .i64 a0_0) := (blk_cell BK125.out 0).trans rfl; have hcz22_1 : w21.cell? ⟨gb125, 1, none⟩ = some (.slice A0_1 l0_1.length c0_1) := (blk_cell BK125.out 1).trans rfl; have hcz22_2 : w21.cell? ⟨gb125, 2, none⟩ = some (.string a0_2) := (blk_cell BK125.out 2).trans rfl; have hcz22_3 : w21.cell? ⟨gb125, 3, none⟩ = some (.bool a0_3) := (blk_cell BK125.out 3).trans rfl; have hfz22_0 := blk_frozen BK125.out 0; have hfz22_1 := blk_frozen BK125.out 1; have hfz22_2 := blk_frozen BK125.out 2; have hfz22_3 := blk_frozen BK125.out 3) | (go_at_call 39; (with_reducible refine (strconv_Itoa_39.calls a0_0 t131 _ A13.out ?side1).mono ?_); (case side1 => exact HG.out.step (tq5_7 GE125.out) rfl); rintro e w23 ⟨rfl, hb⟩; replace HO130 := Aq5 (Kd.B_below (tq5_3 HO130.out) hb); replace BK125 := Aq5 (blk_below (g := gb125) (o := .cells #[.int .i64 a0_0, .slice A0_1 l0_1.length c0_1, .string a0_2, .bool a0_3] 24 (0, 0)) (tq5_5 BK125.out) hb); replace HB := Aq5 (below_step (tq5_7 GE125.out) hb); (try clear hb); (try clear hb2); (try clear hk); (try clear hi)) | ((with_reducible refine gate_callee (f := 38) rfl ?_); refine goesL_ (some 35) rfl rfl Tryd.func38 (by kernel_rfl) rfl #[.pointer (some ⟨gb129, 0, none⟩), .string (((((⟨#[72, 84, 84, 80, 47, 49, 46, 49, 32]⟩ : ByteArray) ++ t131) ++ (⟨#[32]⟩ : ByteArray)) ++ t127) ++ (⟨#[13, 10]⟩ : ByteArray))] rfl tq5_4 ?_; (refine (Kd.B_WriteString (tq5_3 HO130.out) (((((⟨#[72, 84, 84, 80, 47, 49, 46, 49, 32]⟩ : ByteArray) ++ t131) ++ (⟨#[32]⟩ : ByteArray)) ++ t127) ++ (⟨#[13, 10]⟩ : ByteArray)) (tq5_9 LMc18.out)).mono ?_); rintro e w24 ⟨rfl, ho, hk⟩; refine ⟨_, rfl, ?_⟩; rw [← Ny132.out] at ho; have n0_ := Aq5 (BKeep.blk' hk (g := gb125) (o := .cells #[.int .i64 a0_0, .slice A0_1 l0_1.length c0_1, .string a0_2, .bool a0_3] 24 (0, 0)) (tq5_5 BK125.out) ⟨by decide, by decide⟩); have n1_ := Aq5 (Below.trans (tq5_7 GE125.out) hk.below); have n2_ := Aq5 (ho); clear BK125; clear HB; clear HO130; have BK125 := n0_; have HB := n1_; have HO133 := n2_; clear n0_ n1_ n2_; clear ho hk; have hcz25_0 : w24.cell? ⟨gb125, 0, none⟩ = some (.int .i64 a0_0) := (blk_cell BK125.out 0).trans rfl; have hcz25_1 : w24.cell? ⟨gb125, 1, none⟩ = some (.slice A0_1 l0_1.length c0_1) := (blk_cell BK125.out 1).trans rfl; have hcz25_2 : w24.cell? ⟨gb125, 2, none⟩ = some (.string a0_2) := (blk_cell BK125.out 2).trans rfl; have hcz25_3 : w24.cell? ⟨gb125, 3, none⟩ = some (.bool a0_3) := (blk_cell BK125.out 3).trans rfl; have hfz25_0 := blk_frozen BK125.out 0; have hfz25_1 := blk_frozen BK125.out 1; have hfz25_2 := blk_frozen BK125.out 2; have hfz25_3 := blk_frozen BK125.out 3)))
          go_loopg [39] kj2 (fun kq v39 w' => ∃ (x7_2 : List Int) (x39_2 : Int), v39 = .int .i64 x39_2 ∧ Aside0 (reply_Render.l0 kq a1 x7_2 l0_1 (l0_1.length : Int) x39_2 a0_0 l0_1 a0_2 a0_3 = some (r1, r2)) ∧ Aside0 (kq ≤ kj2) ∧ Aside0 (Kd.B (Kd.int .u8) 72 w' w.heap.size (fun _ => True) (.pointer (some ⟨gb129, 0, none⟩)) x7_2) ∧ Aside0 (w'.heap[gb125]? = some (.cells #[.int .i64 a0_0, (.slice A0_1 l0_1.length c0_1), .string a0_2, .bool a0_3] 24 (0, 0))) ∧ Aside0 (Below w.heap.size w w'))
          case atStart => exact ⟨(y132), (0), tq5_0, H', ⟨Nat.le_refl _⟩, ⟨(tq5_3 HO133.out)⟩, ⟨(tq5_5 BK125.out)⟩, ⟨(tq5_7 GE125.out)⟩⟩
          case round =>
           clear H'
           try clear c1
           try clear q1
           try clear p2
           try clear c3
           try clear c5
           try clear c5b0
           try clear c5b1
           try clear c8
           try clear c10
           try clear c10b0
           try clear c10b1
           try clear q12
           try clear c14
           try clear c14b0
           try clear c14b1
           try clear c14b2
           try clear c15
           try clear c15b0
           try clear c15b1
           try clear c15b2
           try clear c16
           try clear c16b0
           try clear c16b1
           try clear c16b2
           try clear c17
           try clear c17b0
           try clear c17b1
           try clear c17b2
           try clear c18
           try clear hcz11_0
           try clear hcz11_1
           try clear hcz11_2
           try clear hcz11_3
           try clear hcz19_0
           try clear hcz19_1
           try clear hcz19_2
           try clear hcz19_3
           try clear hcz22_0
           try clear hcz22_1
           try clear hcz22_2
           try clear hcz22_3
           try clear hcz25_0
           try clear hcz25_1
           try clear hcz25_2
           try clear hcz25_3
           try clear hcz6_0
           try clear hcz6_1
           try clear hcz6_2
           try clear hcz6_3
           try clear hcz7_0
           try clear hcz7_1
           try clear hcz7_2
           try clear hcz7_3
           try clear hfz11_0
           try clear hfz11_1
           try clear hfz11_2
           try clear hfz11_3
           try clear hfz19_0
           try clear hfz19_1
           try clear hfz19_2
           try clear hfz19_3
           try clear hfz22_0
           try clear hfz22_1
           try clear hfz22_2
           try clear hfz22_3
           try clear hfz25_0
           try clear hfz25_1
           try clear hfz25_2
           try clear hfz25_3
           try clear hfz6_0
           try clear hfz6_1
           try clear hfz6_2
           try clear hfz6_3
           try clear hfz7_0
           try clear hfz7_1
           try clear hfz7_2
           try clear hfz7_3
           try clear p2
           obtain ⟨x7_2, x39_2, rfl, HA, HK2, HO_7, BK125, HB⟩ := hrel
           cases gk with
           | zero => exact absurd HA.out (by simp [reply_Render.l0])
           | succ k2 =>
            have H := HA.out
            clear HA
            simp only [reply_Render.l0] at H
            by_cases c26 : x39_2 < (l0_1.length : Int)
            ·rw [if_pos c26] at H
             have c26b0 : decide (x39_2 < (l0_1.length : Int)) = true := decide_eq_true c26
             clear c26
             by_cases c27 : 0 ≤ x39_2
             ·rw [if_pos c27] at H
              have c27b0 : decide (0 ≤ x39_2) = true := decide_eq_true c27
              clear c27
              by_cases c28 : x39_2 < (l0_1.length : Int)
              ·rw [if_pos c28] at H
               have c28b0 : decide (x39_2 < (l0_1.length : Int)) = true := decide_eq_true c28
               clear c28
               replace H := Option.bind_eq_some_iff.mp H
               obtain ⟨t136, A290, H⟩ := H
               replace H : (if t136 = true then (if ((rd_T26 l0_1 x39_2).f0).size + 2 ≤ 9223372036854775807 then (if (((rd_T26 l0_1 x39_2).f0) ++ (⟨#[58, 32]⟩ : ByteArray)).size + ((rd_T26 l0_1 x39_2).f1).size ≤ 9223372036854775807 then (if ((((rd_T26 l0_1 x39_2).f0) ++ (⟨#[58, 32]⟩ : ByteArray)) ++ ((rd_T26 l0_1 x39_2).f1)).size + 2 ≤ 9223372036854775807 then (if x7_2.length + (((((rd_T26 l0_1 x39_2).f0) ++ (⟨#[58, 32]⟩ : ByteArray)) ++ ((rd_T26 l0_1 x39_2).f1)) ++ (⟨#[13, 10]⟩ : ByteArray)).size < 140737488355328 then (reply_Render.l0 k2 a1 (x7_2 ++ bytesOf (((((rd_T26 l0_1 x39_2).f0) ++ (⟨#[58, 32]⟩ : ByteArray)) ++ ((rd_T26 l0_1 x39_2).f1)) ++ (⟨#[13, 10]⟩ : ByteArray))) l0_1 (l0_1.length : Int) (wrap64 (x39_2 + 1)) a0_0 l0_1 a0_2 a0_3) else (none)) else (none)) else (none)) else (none)) else (some ((⟨#[]⟩ : ByteArray), some 1))) = some (r1, r2) := H
               have A29 := Aq5 A290
               clear A290
               by_cases c30 : t136 = true
               ·subst c30
                have H1 : (if ((rd_T26 l0_1 x39_2).f0).size + 2 ≤ 9223372036854775807 then (if (((rd_T26 l0_1 x39_2).f0) ++ (⟨#[58, 32]⟩ : ByteArray)).size + ((rd_T26 l0_1 x39_2).f1).size ≤ 9223372036854775807 then (if ((((rd_T26 l0_1 x39_2).f0) ++ (⟨#[58, 32]⟩ : ByteArray)) ++ ((rd_T26 l0_1 x39_2).f1)).size + 2 ≤ 9223372036854775807 then (if x7_2.length + (((((rd_T26 l0_1 x39_2).f0) ++ (⟨#[58, 32]⟩ : ByteArray)) ++ ((rd_T26 l0_1 x39_2).f1)) ++ (⟨#[13, 10]⟩ : ByteArray)).size < 140737488355328 then (reply_Render.l0 k2 a1 (x7_2 ++ bytesOf (((((rd_T26 l0_1 x39_2).f0) ++ (⟨#[58, 32]⟩ : ByteArray)) ++ ((rd_T26 l0_1 x39_2).f1)) ++ (⟨#[13, 10]⟩ : ByteArray))) l0_1 (l0_1.length : Int) (wrap64 (x39_2 + 1)) a0_0 l0_1 a0_2 a0_3) else (none)) else (none)) else (none)) else (none)) = some (r1, r2) := by rw [if_pos rfl] at H; exact H
                clear H
                have H := H1
                clear H1
                by_cases c31 : ((rd_T26 l0_1 x39_2).f0).size + 2 ≤ 9223372036854775807
                ·rw [if_pos c31] at H
                 have c31b0 := eq_true c31
                 have c31b1 : decide (((rd_T26 l0_1 x39_2).f0).size + 2 ≤ 9223372036854775807) = true := decide_eq_true c31
                 try have c31b2 : (9223372036854775807 < ((rd_T26 l0_1 x39_2).f0).size + 2) = False := eq_false (Nat.not_lt.2 c31)
                 by_cases c32 : (((rd_T26 l0_1 x39_2).f0) ++ (⟨#[58, 32]⟩ : ByteArray)).size + ((rd_T26 l0_1 x39_2).f1).size ≤ 9223372036854775807
                 ·rw [if_pos c32] at H
                  have c32b0 := eq_true c32
                  have c32b1 : decide ((((rd_T26 l0_1 x39_2).f0) ++ (⟨#[58, 32]⟩ : ByteArray)).size + ((rd_T26 l0_1 x39_2).f1).size ≤ 9223372036854775807) = true := decide_eq_true c32
                  try have c32b2 : (9223372036854775807 < (((rd_T26 l0_1 x39_2).f0) ++ (⟨#[58, 32]⟩ : ByteArray)).size + ((rd_T26 l0_1 x39_2).f1).size) = False := eq_false (Nat.not_lt.2 c32)
                  (try (have c32b3 := c32b0; simp only [ByteArray.size_append', ByteArray.size_mk', List.size_toArray, List.length_cons, List.length_nil, Nat.reduceAdd] at c32b3))
                  (try (have c32b4 := c32b1; simp only [ByteArray.size_append', ByteArray.size_mk', List.size_toArray, List.length_cons, List.length_nil, Nat.reduceAdd] at c32b4))
                  (try (have c32b5 := c32b2; simp only [ByteArray.size_append', ByteArray.size_mk', List.size_toArray, List.length_cons, List.length_nil, Nat.reduceAdd] at c32b5))
                  by_cases c33 : ((((rd_T26 l0_1 x39_2).f0) ++ (⟨#[58, 32]⟩ : ByteArray)) ++ ((rd_T26 l0_1 x39_2).f1)).size + 2 ≤ 9223372036854775807
                  ·rw [if_pos c33] at H
                   have c33b0 := eq_true c33
                   have c33b1 : decide (((((rd_T26 l0_1 x39_2).f0) ++ (⟨#[58, 32]⟩ : ByteArray)) ++ ((rd_T26 l0_1 x39_2).f1)).size + 2 ≤ 9223372036854775807) = true := decide_eq_true c33
                   try have c33b2 : (9223372036854775807 < ((((rd_T26 l0_1 x39_2).f0) ++ (⟨#[58, 32]⟩ : ByteArray)) ++ ((rd_T26 l0_1 x39_2).f1)).size + 2) = False := eq_false (Nat.not_lt.2 c33)
                   (try (have c33b3 := c33b0; simp only [ByteArray.size_append', ByteArray.size_mk', List.size_toArray, List.length_cons, List.length_nil, Nat.reduceAdd] at c33b3))
                   (try (have c33b4 := c33b1; simp only [ByteArray.size_append', ByteArray.size_mk', List.size_toArray, List.length_cons, List.length_nil, Nat.reduceAdd] at c33b4))
                   (try (have c33b5 := c33b2; simp only [ByteArray.size_append', ByteArray.size_mk', List.size_toArray, List.length_cons, List.length_nil, Nat.reduceAdd] at c33b5))
                   by_cases c34 : x7_2.length + (((((rd_T26 l0_1 x39_2).f0) ++ (⟨#[58, 32]⟩ : ByteArray)) ++ ((rd_T26 l0_1 x39_2).f1)) ++ (⟨#[13, 10]⟩ : ByteArray)).size < 140737488355328
                   ·rw [if_pos c34] at H
                    have LMc34 := Aq5 c34
                    clear c34
                    obtain ⟨y137, hy137⟩ : ∃ y_ : List Int, y_ = (x7_2 ++ bytesOf (((((rd_T26 l0_1 x39_2).f0) ++ (⟨#[58, 32]⟩ : ByteArray)) ++ ((rd_T26 l0_1 x39_2).f1)) ++ (⟨#[13, 10]⟩ : ByteArray))) := ⟨_, rfl⟩
                    replace H : (reply_Render.l0 k2 a1 y137 l0_1 (l0_1.length : Int) (wrap64 (x39_2 + 1)) a0_0 l0_1 a0_2 a0_3) = some (r1, r2) := by first | (rw [hy137]; with_reducible exact H) | (have H2_ := (Option.bind_some _ _).symm.trans H; rw [hy137]; with_reducible exact H2_) | (have H2_ := (Option.bind_some _ _).symm.trans H; with_reducible exact H2_) | with_reducible exact H | (rw [hy137]; exact H) | exact H
                    have Ny137 := Aq5 hy137
                    clear hy137
                    have H' := Aq5 H
                    clear H
                    have p134 : 0 ≤ (x39_2 : Int) := of_decide_eq_true tq5_1
                    have q134 : x39_2 < (l0_1.length : Int) := of_decide_eq_true tq5_1
                    obtain ⟨ad134, e134, hx134_0, hx134_1⟩ := at_T26 HR0_1.out x39_2 p134 q134
                    cases e134
                    replace hx134_0 := (HB.out.cell (World.block_lt_of_cell? w _ hx134_0)).trans hx134_0
                    replace hx134_1 := (HB.out.cell (World.block_lt_of_cell? w _ hx134_1)).trans hx134_1
                    replace p134 := eq_true p134
                    replace q134 := eq_true q134
                    go_wp2_with (first | ((with_reducible refine gate_dst (N := 9) rfl ?_); (try (refine gate_guard (by rfl) ?_; dsimp only)); refine box_event ?hg (N := 9) ?hd (cs := #[.string (⟨#[]⟩ : ByteArray), .string (⟨#[]⟩ : ByteArray)]) (t := 26) ?hr ?_; (case hd => rfl); (case hg => rfl); (case hr => first | (go_simp; done) | (go_simp; rfl)); intro gb135 hg w35 hbox hb; replace HO_7 := Aq5 (Kd.B_below (tq5_3 HO_7.out) hb); have BK135 := Aq5 (hbox); have GW135 := Aq5 ((by rw [hg]; exact (below_size (tq5_7 GE125.out)) : w.heap.size ≤ gb135)); have GE135 := Aq5 ((by rw [hg]; exact (below_size (tq5_7 GE125.out)) : w.heap.size ≤ gb135)); have NB125_135 := Aq5 ((by rw [hg]; exact Nat.ne_of_lt (blk_lt (g := gb125) (o := .cells #[.int .i64 a0_0, .slice (some ad134) l0_1.length c0_1, .string a0_2, .bool a0_3] 24 (0, 0)) (tq5_5 BK125.out)) : gb125 ≠ gb135)); have NB135_125 := Aq5 ((by rw [hg]; exact Nat.ne_of_gt (blk_lt (g := gb125) (o := .cells #[.int .i64 a0_0, .slice (some ad134) l0_1.length c0_1, .string a0_2, .bool a0_3] 24 (0, 0)) (tq5_5 BK125.out)) : gb135 ≠ gb125)); replace BK125 := Aq5 (blk_below (g := gb125) (o := .cells #[.int .i64 a0_0, .slice (some ad134) l0_1.length c0_1, .string a0_2, .bool a0_3] 24 (0, 0)) (tq5_5 BK125.out) hb); replace HB := Aq5 (below_step (tq5_7 GE125.out) hb); clear hb hbox hg; have hnb36 := NB135_125.out; have hnc36 := NB125_135.out; have hcz37_0 : w35.cell? ⟨gb135, 0, none⟩ = some (.string (⟨#[]⟩ : ByteArray)) := (blk_cell BK135.out 0).trans rfl; have hcz37_1 : w35.cell? ⟨gb135, 1, none⟩ = some (.string (⟨#[]⟩ : ByteArray)) := (blk_cell BK135.out 1).trans rfl; have hfz37_0 := blk_frozen BK135.out 0; have hfz37_1 := blk_frozen BK135.out 1) | (go_at_call 40; (with_reducible refine (reply_may.calls k2 ((rd_T26 l0_1 x39_2).f0) ((rd_T26 l0_1 x39_2).f1) true _ A29.out ?side1).mono ?_); (case side1 => exact HG.out.step (tq5_8 GE125.out GE135.out) rfl); rintro e w38 ⟨rfl, hb⟩; replace HO_7 := Aq5 (Kd.B_below (tq5_b HO_7.out BK135.out) hb); replace BK125 := Aq5 (blk_below (g := gb125) (o := .cells #[.int .i64 a0_0, .slice (some ad134) l0_1.length c0_1, .string a0_2, .bool a0_3] 24 (0, 0)) (tq5_a NB125_135.out BK125.out) hb); replace BK135 := Aq5 (blk_below (g := gb135) (o := .cells #[.string ((rd_T26 l0_1 x39_2).f0), .string ((rd_T26 l0_1 x39_2).f1)] 26 (0, 0)) (tq5_c BK135.out) hb); replace HB := Aq5 (below_step (tq5_8 GE125.out GE135.out) hb); (try clear hb); (try clear hb2); (try clear hk); (try clear hi); have hcz39_0 : w38.cell? ⟨gb135, 0, none⟩ = some (.string ((rd_T26 l0_1 x39_2).f0)) := (blk_cell BK135.out 0).trans rfl; have hcz39_1 : w38.cell? ⟨gb135, 1, none⟩ = some (.string ((rd_T26 l0_1 x39_2).f1)) := (blk_cell BK135.out 1).trans rfl; have hfz39_0 := blk_frozen BK135.out 0; have hfz39_1 := blk_frozen BK135.out 1) | ((with_reducible refine gate_callee (f := 38) rfl ?_); refine goesL_ (some 54) rfl rfl Tryd.func38 (by kernel_rfl) rfl #[.pointer (some ⟨gb129, 0, none⟩), .string (((((rd_T26 l0_1 x39_2).f0) ++ (⟨#[58, 32]⟩ : ByteArray)) ++ ((rd_T26 l0_1 x39_2).f1)) ++ (⟨#[13, 10]⟩ : ByteArray))] rfl tq5_4 ?_; (refine (Kd.B_WriteString (tq5_3 HO_7.out) (((((rd_T26 l0_1 x39_2).f0) ++ (⟨#[58, 32]⟩ : ByteArray)) ++ ((rd_T26 l0_1 x39_2).f1)) ++ (⟨#[13, 10]⟩ : ByteArray)) (tq5_9 LMc34.out)).mono ?_); rintro e w40 ⟨rfl, ho, hk⟩; refine ⟨_, rfl, ?_⟩; rw [← Ny137.out] at ho; have n0_ := Aq5 (BKeep.blk' hk (g := gb125) (o := .cells #[.int .i64 a0_0, .slice (some ad134) l0_1.length c0_1, .string a0_2, .bool a0_3] 24 (0, 0)) (tq5_5 BK125.out) ⟨by decide, by decide⟩); have n1_ := Aq5 (BKeep.blk' hk (g := gb135) (o := .cells #[.string ((rd_T26 l0_1 x39_2).f0), .string ((rd_T26 l0_1 x39_2).f1)] 26 (0, 0)) (tq5_5 BK135.out) ⟨by decide, by decide⟩); have n2_ := Aq5 (Below.trans (tq5_8 GE125.out GE135.out) hk.below); have n3_ := Aq5 (ho); clear BK125; clear BK135; clear HB; clear HO_7; have BK125 := n0_; have BK135 := n1_; have HB := n2_; have HO138 := n3_; clear n0_ n1_ n2_ n3_; clear ho hk))
                    repeat (go_quiet (first | ((with_reducible refine gate_dst (N := 9) rfl ?_); (try (refine gate_guard (by rfl) ?_; dsimp only)); refine box_event ?hg (N := 9) ?hd (cs := #[.string (⟨#[]⟩ : ByteArray), .string (⟨#[]⟩ : ByteArray)]) (t := 26) ?hr ?_; (case hd => rfl); (case hg => rfl); (case hr => first | (go_simp; done) | (go_simp; rfl)); intro gb135 hg w35 hbox hb; replace HO_7 := Aq5 (Kd.B_below (tq5_3 HO_7.out) hb); have BK135 := Aq5 (hbox); have GW135 := Aq5 ((by rw [hg]; exact (below_size (tq5_7 GE125.out)) : w.heap.size ≤ gb135)); have GE135 := Aq5 ((by rw [hg]; exact (below_size (tq5_7 GE125.out)) : w.heap.size ≤ gb135)); have NB125_135 := Aq5 ((by rw [hg]; exact Nat.ne_of_lt (blk_lt (g := gb125) (o := .cells #[.int .i64 a0_0, .slice (some ad134) l0_1.length c0_1, .string a0_2, .bool a0_3] 24 (0, 0)) (tq5_5 BK125.out)) : gb125 ≠ gb135)); have NB135_125 := Aq5 ((by rw [hg]; exact Nat.ne_of_gt (blk_lt (g := gb125) (o := .cells #[.int .i64 a0_0, .slice (some ad134) l0_1.length c0_1, .string a0_2, .bool a0_3] 24 (0, 0)) (tq5_5 BK125.out)) : gb135 ≠ gb125)); replace BK125 := Aq5 (blk_below (g := gb125) (o := .cells #[.int .i64 a0_0, .slice (some ad134) l0_1.length c0_1, .string a0_2, .bool a0_3] 24 (0, 0)) (tq5_5 BK125.out) hb); replace HB := Aq5 (below_step (tq5_7 GE125.out) hb); clear hb hbox hg; have hnb36 := NB135_125.out; have hnc36 := NB125_135.out; have hcz37_0 : w35.cell? ⟨gb135, 0, none⟩ = some (.string (⟨#[]⟩ : ByteArray)) := (blk_cell BK135.out 0).trans rfl; have hcz37_1 : w35.cell? ⟨gb135, 1, none⟩ = some (.string (⟨#[]⟩ : ByteArray)) := (blk_cell BK135.out 1).trans rfl; have hfz37_0 := blk_frozen BK135.out 0; have hfz37_1 := blk_frozen BK135.out 1) | (go_at_call 40; (with_reducible refine (reply_may.calls k2 ((rd_T26 l0_1 x39_2).f0) ((rd_T26 l0_1 x39_2).f1) true _ A29.out ?side1).mono ?_); (case side1 => exact HG.out.step (tq5_8 GE125.out GE135.out) rfl); rintro e w38 ⟨rfl, hb⟩; replace HO_7 := Aq5 (Kd.B_below (tq5_b HO_7.out BK135.out) hb); replace BK125 := Aq5 (blk_below (g := gb125) (o := .cells #[.int .i64 a0_0, .slice (some ad134) l0_1.length c0_1, .string a0_2, .bool a0_3] 24 (0, 0)) (tq5_a NB125_135.out BK125.out) hb); replace BK135 := Aq5 (blk_below (g := gb135) (o := .cells #[.string ((rd_T26 l0_1 x39_2).f0), .string ((rd_T26 l0_1 x39_2).f1)] 26 (0, 0)) (tq5_c BK135.out) hb); replace HB := Aq5 (below_step (tq5_8 GE125.out GE135.out) hb); (try clear hb); (try clear hb2); (try clear hk); (try clear hi); have hcz39_0 : w38.cell? ⟨gb135, 0, none⟩ = some (.string ((rd_T26 l0_1 x39_2).f0)) := (blk_cell BK135.out 0).trans rfl; have hcz39_1 : w38.cell? ⟨gb135, 1, none⟩ = some (.string ((rd_T26 l0_1 x39_2).f1)) := (blk_cell BK135.out 1).trans rfl; have hfz39_0 := blk_frozen BK135.out 0; have hfz39_1 := blk_frozen BK135.out 1) | ((with_reducible refine gate_callee (f := 38) rfl ?_); refine goesL_ (some 54) rfl rfl Tryd.func38 (by kernel_rfl) rfl #[.pointer (some ⟨gb129, 0, none⟩), .string (((((rd_T26 l0_1 x39_2).f0) ++ (⟨#[58, 32]⟩ : ByteArray)) ++ ((rd_T26 l0_1 x39_2).f1)) ++ (⟨#[13, 10]⟩ : ByteArray))] rfl tq5_4 ?_; (refine (Kd.B_WriteString (tq5_3 HO_7.out) (((((rd_T26 l0_1 x39_2).f0) ++ (⟨#[58, 32]⟩ : ByteArray)) ++ ((rd_T26 l0_1 x39_2).f1)) ++ (⟨#[13, 10]⟩ : ByteArray)) (tq5_9 LMc34.out)).mono ?_); rintro e w40 ⟨rfl, ho, hk⟩; refine ⟨_, rfl, ?_⟩; rw [← Ny137.out] at ho; have n0_ := Aq5 (BKeep.blk' hk (g := gb125) (o := .cells #[.int .i64 a0_0, .slice (some ad134) l0_1.length c0_1, .string a0_2, .bool a0_3] 24 (0, 0)) (tq5_5 BK125.out) ⟨by decide, by decide⟩); have n1_ := Aq5 (BKeep.blk' hk (g := gb135) (o := .cells #[.string ((rd_T26 l0_1 x39_2).f0), .string ((rd_T26 l0_1 x39_2).f1)] 26 (0, 0)) (tq5_5 BK135.out) ⟨by decide, by decide⟩); have n2_ := Aq5 (Below.trans (tq5_8 GE125.out GE135.out) hk.below); have n3_ := Aq5 (ho); clear BK125; clear BK135; clear HB; clear HO_7; have BK125 := n0_; have BK135 := n1_; have HB := n2_; have HO138 := n3_; clear n0_ n1_ n2_ n3_; clear ho hk)); try go_wp2_with (first | ((with_reducible refine gate_dst (N := 9) rfl ?_); (try (refine gate_guard (by rfl) ?_; dsimp only)); refine box_event ?hg (N := 9) ?hd (cs := #[.string (⟨#[]⟩ : ByteArray), .string (⟨#[]⟩ : ByteArray)]) (t := 26) ?hr ?_; (case hd => rfl); (case hg => rfl); (case hr => first | (go_simp; done) | (go_simp; rfl)); intro gb135 hg w35 hbox hb; replace HO_7 := Aq5 (Kd.B_below (tq5_3 HO_7.out) hb); have BK135 := Aq5 (hbox); have GW135 := Aq5 ((by rw [hg]; exact (below_size (tq5_7 GE125.out)) : w.heap.size ≤ gb135)); have GE135 := Aq5 ((by rw [hg]; exact (below_size (tq5_7 GE125.out)) : w.heap.size ≤ gb135)); have NB125_135 := Aq5 ((by rw [hg]; exact Nat.ne_of_lt (blk_lt (g := gb125) (o := .cells #[.int .i64 a0_0, .slice (some ad134) l0_1.length c0_1, .string a0_2, .bool a0_3] 24 (0, 0)) (tq5_5 BK125.out)) : gb125 ≠ gb135)); have NB135_125 := Aq5 ((by rw [hg]; exact Nat.ne_of_gt (blk_lt (g := gb125) (o := .cells #[.int .i64 a0_0, .slice (some ad134) l0_1.length c0_1, .string a0_2, .bool a0_3] 24 (0, 0)) (tq5_5 BK125.out)) : gb135 ≠ gb125)); replace BK125 := Aq5 (blk_below (g := gb125) (o := .cells #[.int .i64 a0_0, .slice (some ad134) l0_1.length c0_1, .string a0_2, .bool a0_3] 24 (0, 0)) (tq5_5 BK125.out) hb); replace HB := Aq5 (below_step (tq5_7 GE125.out) hb); clear hb hbox hg; have hnb36 := NB135_125.out; have hnc36 := NB125_135.out; have hcz37_0 : w35.cell? ⟨gb135, 0, none⟩ = some (.string (⟨#[]⟩ : ByteArray)) := (blk_cell BK135.out 0).trans rfl; have hcz37_1 : w35.cell? ⟨gb135, 1, none⟩ = some (.string (⟨#[]⟩ : ByteArray)) := (blk_cell BK135.out 1).trans rfl; have hfz37_0 := blk_frozen BK135.out 0; have hfz37_1 := blk_frozen BK135.out 1) | (go_at_call 40; (with_reducible refine (reply_may.calls k2 ((rd_T26 l0_1 x39_2).f0) ((rd_T26 l0_1 x39_2).f1) true _ A29.out ?side1).mono ?_); (case side1 => exact HG.out.step (tq5_8 GE125.out GE135.out) rfl); rintro e w38 ⟨rfl, hb⟩; replace HO_7 := Aq5 (Kd.B_below (tq5_b HO_7.out BK135.out) hb); replace BK125 := Aq5 (blk_below (g := gb125) (o := .cells #[.int .i64 a0_0, .slice (some ad134) l0_1.length c0_1, .string a0_2, .bool a0_3] 24 (0, 0)) (tq5_a NB125_135.out BK125.out) hb); replace BK135 := Aq5 (blk_below (g := gb135) (o := .cells #[.string ((rd_T26 l0_1 x39_2).f0), .string ((rd_T26 l0_1 x39_2).f1)] 26 (0, 0)) (tq5_c BK135.out) hb); replace HB := Aq5 (below_step (tq5_8 GE125.out GE135.out) hb); (try clear hb); (try clear hb2); (try clear hk); (try clear hi); have hcz39_0 : w38.cell? ⟨gb135, 0, none⟩ = some (.string ((rd_T26 l0_1 x39_2).f0)) := (blk_cell BK135.out 0).trans rfl; have hcz39_1 : w38.cell? ⟨gb135, 1, none⟩ = some (.string ((rd_T26 l0_1 x39_2).f1)) := (blk_cell BK135.out 1).trans rfl; have hfz39_0 := blk_frozen BK135.out 0; have hfz39_1 := blk_frozen BK135.out 1) | ((with_reducible refine gate_callee (f := 38) rfl ?_); refine goesL_ (some 54) rfl rfl Tryd.func38 (by kernel_rfl) rfl #[.pointer (some ⟨gb129, 0, none⟩), .string (((((rd_T26 l0_1 x39_2).f0) ++ (⟨#[58, 32]⟩ : ByteArray)) ++ ((rd_T26 l0_1 x39_2).f1)) ++ (⟨#[13, 10]⟩ : ByteArray))] rfl tq5_4 ?_; (refine (Kd.B_WriteString (tq5_3 HO_7.out) (((((rd_T26 l0_1 x39_2).f0) ++ (⟨#[58, 32]⟩ : ByteArray)) ++ ((rd_T26 l0_1 x39_2).f1)) ++ (⟨#[13, 10]⟩ : ByteArray)) (tq5_9 LMc34.out)).mono ?_); rintro e w40 ⟨rfl, ho, hk⟩; refine ⟨_, rfl, ?_⟩; rw [← Ny137.out] at ho; have n0_ := Aq5 (BKeep.blk' hk (g := gb125) (o := .cells #[.int .i64 a0_0, .slice (some ad134) l0_1.length c0_1, .string a0_2, .bool a0_3] 24 (0, 0)) (tq5_5 BK125.out) ⟨by decide, by decide⟩); have n1_ := Aq5 (BKeep.blk' hk (g := gb135) (o := .cells #[.string ((rd_T26 l0_1 x39_2).f0), .string ((rd_T26 l0_1 x39_2).f1)] 26 (0, 0)) (tq5_5 BK135.out) ⟨by decide, by decide⟩); have n2_ := Aq5 (Below.trans (tq5_8 GE125.out GE135.out) hk.below); have n3_ := Aq5 (ho); clear BK125; clear BK135; clear HB; clear HO_7; have BK125 := n0_; have BK135 := n1_; have HB := n2_; have HO138 := n3_; clear n0_ n1_ n2_ n3_; clear ho hk)))
                    go_roundg k2
                    case measure => have := HJ2.out; have := HK2.out; omega
                    case rel => exact ⟨(y137), (wrap64 (x39_2 + 1)), tq5_0, H', ⟨by have := HJ2.out; have := HK2.out; omega⟩, ⟨(tq5_3 HO138.out)⟩, ⟨(tq5_5 BK125.out)⟩, ⟨(tq5_8 GE125.out GE135.out)⟩⟩
                   ·rw [if_neg c34] at H
                    exact absurd H (by simp)
                  ·rw [if_neg c33] at H
                   exact absurd H (by simp)
                 ·rw [if_neg c32] at H
                  exact absurd H (by simp)
                ·rw [if_neg c31] at H
                 exact absurd H (by simp)
               ·replace c30 := Bool.eq_false_iff.mpr c30
                subst c30
                have H1 : (some ((⟨#[]⟩ : ByteArray), some 1)) = some (r1, r2) := by rw [if_neg (show ¬ (false = true) by decide)] at H; exact H
                clear H
                have H := H1
                clear H1
                simp only [Option.some.injEq, Prod.mk.injEq] at H
                obtain ⟨rfl, rfl⟩ := H
                have p134 : 0 ≤ (x39_2 : Int) := of_decide_eq_true tq5_1
                have q134 : x39_2 < (l0_1.length : Int) := of_decide_eq_true tq5_1
                obtain ⟨ad134, e134, hx134_0, hx134_1⟩ := at_T26 HR0_1.out x39_2 p134 q134
                cases e134
                replace hx134_0 := (HB.out.cell (World.block_lt_of_cell? w _ hx134_0)).trans hx134_0
                replace hx134_1 := (HB.out.cell (World.block_lt_of_cell? w _ hx134_1)).trans hx134_1
                replace p134 := eq_true p134
                replace q134 := eq_true q134
                go_wp2_with (first | ((with_reducible refine gate_dst (N := 9) rfl ?_); (try (refine gate_guard (by rfl) ?_; dsimp only)); refine box_event ?hg (N := 9) ?hd (cs := #[.string (⟨#[]⟩ : ByteArray), .string (⟨#[]⟩ : ByteArray)]) (t := 26) ?hr ?_; (case hd => rfl); (case hg => rfl); (case hr => first | (go_simp; done) | (go_simp; rfl)); intro gb135 hg w41 hbox hb; replace HO_7 := Aq5 (Kd.B_below (tq5_3 HO_7.out) hb); have BK135 := Aq5 (hbox); have GW135 := Aq5 ((by rw [hg]; exact (below_size (tq5_7 GE125.out)) : w.heap.size ≤ gb135)); have GE135 := Aq5 ((by rw [hg]; exact (below_size (tq5_7 GE125.out)) : w.heap.size ≤ gb135)); have NB125_135 := Aq5 ((by rw [hg]; exact Nat.ne_of_lt (blk_lt (g := gb125) (o := .cells #[.int .i64 a0_0, .slice (some ad134) l0_1.length c0_1, .string a0_2, .bool a0_3] 24 (0, 0)) (tq5_5 BK125.out)) : gb125 ≠ gb135)); have NB135_125 := Aq5 ((by rw [hg]; exact Nat.ne_of_gt (blk_lt (g := gb125) (o := .cells #[.int .i64 a0_0, .slice (some ad134) l0_1.length c0_1, .string a0_2, .bool a0_3] 24 (0, 0)) (tq5_5 BK125.out)) : gb135 ≠ gb125)); replace BK125 := Aq5 (blk_below (g := gb125) (o := .cells #[.int .i64 a0_0, .slice (some ad134) l0_1.length c0_1, .string a0_2, .bool a0_3] 24 (0, 0)) (tq5_5 BK125.out) hb); replace HB := Aq5 (below_step (tq5_7 GE125.out) hb); clear hb hbox hg; have hnb42 := NB135_125.out; have hnc42 := NB125_135.out; have hcz43_0 : w41.cell? ⟨gb135, 0, none⟩ = some (.string (⟨#[]⟩ : ByteArray)) := (blk_cell BK135.out 0).trans rfl; have hcz43_1 : w41.cell? ⟨gb135, 1, none⟩ = some (.string (⟨#[]⟩ : ByteArray)) := (blk_cell BK135.out 1).trans rfl; have hfz43_0 := blk_frozen BK135.out 0; have hfz43_1 := blk_frozen BK135.out 1) | (go_at_call 40; (with_reducible refine (reply_may.calls k2 ((rd_T26 l0_1 x39_2).f0) ((rd_T26 l0_1 x39_2).f1) false _ A29.out ?side1).mono ?_); (case side1 => exact HG.out.step (tq5_8 GE125.out GE135.out) rfl); rintro e w44 ⟨rfl, hb⟩; replace HO_7 := Aq5 (Kd.B_below (tq5_b HO_7.out BK135.out) hb); replace BK125 := Aq5 (blk_below (g := gb125) (o := .cells #[.int .i64 a0_0, .slice (some ad134) l0_1.length c0_1, .string a0_2, .bool a0_3] 24 (0, 0)) (tq5_a NB125_135.out BK125.out) hb); replace BK135 := Aq5 (blk_below (g := gb135) (o := .cells #[.string ((rd_T26 l0_1 x39_2).f0), .string ((rd_T26 l0_1 x39_2).f1)] 26 (0, 0)) (tq5_c BK135.out) hb); replace HB := Aq5 (below_step (tq5_8 GE125.out GE135.out) hb); (try clear hb); (try clear hb2); (try clear hk); (try clear hi); have hgeq139 := Glob.err1 (HG.out.step HB.out (T := [0, 2, 8, 9, 16, 19]) rfl) (by rfl)))
                repeat (go_quiet (first | ((with_reducible refine gate_dst (N := 9) rfl ?_); (try (refine gate_guard (by rfl) ?_; dsimp only)); refine box_event ?hg (N := 9) ?hd (cs := #[.string (⟨#[]⟩ : ByteArray), .string (⟨#[]⟩ : ByteArray)]) (t := 26) ?hr ?_; (case hd => rfl); (case hg => rfl); (case hr => first | (go_simp; done) | (go_simp; rfl)); intro gb135 hg w41 hbox hb; replace HO_7 := Aq5 (Kd.B_below (tq5_3 HO_7.out) hb); have BK135 := Aq5 (hbox); have GW135 := Aq5 ((by rw [hg]; exact (below_size (tq5_7 GE125.out)) : w.heap.size ≤ gb135)); have GE135 := Aq5 ((by rw [hg]; exact (below_size (tq5_7 GE125.out)) : w.heap.size ≤ gb135)); have NB125_135 := Aq5 ((by rw [hg]; exact Nat.ne_of_lt (blk_lt (g := gb125) (o := .cells #[.int .i64 a0_0, .slice (some ad134) l0_1.length c0_1, .string a0_2, .bool a0_3] 24 (0, 0)) (tq5_5 BK125.out)) : gb125 ≠ gb135)); have NB135_125 := Aq5 ((by rw [hg]; exact Nat.ne_of_gt (blk_lt (g := gb125) (o := .cells #[.int .i64 a0_0, .slice (some ad134) l0_1.length c0_1, .string a0_2, .bool a0_3] 24 (0, 0)) (tq5_5 BK125.out)) : gb135 ≠ gb125)); replace BK125 := Aq5 (blk_below (g := gb125) (o := .cells #[.int .i64 a0_0, .slice (some ad134) l0_1.length c0_1, .string a0_2, .bool a0_3] 24 (0, 0)) (tq5_5 BK125.out) hb); replace HB := Aq5 (below_step (tq5_7 GE125.out) hb); clear hb hbox hg; have hnb42 := NB135_125.out; have hnc42 := NB125_135.out; have hcz43_0 : w41.cell? ⟨gb135, 0, none⟩ = some (.string (⟨#[]⟩ : ByteArray)) := (blk_cell BK135.out 0).trans rfl; have hcz43_1 : w41.cell? ⟨gb135, 1, none⟩ = some (.string (⟨#[]⟩ : ByteArray)) := (blk_cell BK135.out 1).trans rfl; have hfz43_0 := blk_frozen BK135.out 0; have hfz43_1 := blk_frozen BK135.out 1) | (go_at_call 40; (with_reducible refine (reply_may.calls k2 ((rd_T26 l0_1 x39_2).f0) ((rd_T26 l0_1 x39_2).f1) false _ A29.out ?side1).mono ?_); (case side1 => exact HG.out.step (tq5_8 GE125.out GE135.out) rfl); rintro e w44 ⟨rfl, hb⟩; replace HO_7 := Aq5 (Kd.B_below (tq5_b HO_7.out BK135.out) hb); replace BK125 := Aq5 (blk_below (g := gb125) (o := .cells #[.int .i64 a0_0, .slice (some ad134) l0_1.length c0_1, .string a0_2, .bool a0_3] 24 (0, 0)) (tq5_a NB125_135.out BK125.out) hb); replace BK135 := Aq5 (blk_below (g := gb135) (o := .cells #[.string ((rd_T26 l0_1 x39_2).f0), .string ((rd_T26 l0_1 x39_2).f1)] 26 (0, 0)) (tq5_c BK135.out) hb); replace HB := Aq5 (below_step (tq5_8 GE125.out GE135.out) hb); (try clear hb); (try clear hb2); (try clear hk); (try clear hi); have hgeq139 := Glob.err1 (HG.out.step HB.out (T := [0, 2, 8, 9, 16, 19]) rfl) (by rfl))); try go_wp2_with (first | ((with_reducible refine gate_dst (N := 9) rfl ?_); (try (refine gate_guard (by rfl) ?_; dsimp only)); refine box_event ?hg (N := 9) ?hd (cs := #[.string (⟨#[]⟩ : ByteArray), .string (⟨#[]⟩ : ByteArray)]) (t := 26) ?hr ?_; (case hd => rfl); (case hg => rfl); (case hr => first | (go_simp; done) | (go_simp; rfl)); intro gb135 hg w41 hbox hb; replace HO_7 := Aq5 (Kd.B_below (tq5_3 HO_7.out) hb); have BK135 := Aq5 (hbox); have GW135 := Aq5 ((by rw [hg]; exact (below_size (tq5_7 GE125.out)) : w.heap.size ≤ gb135)); have GE135 := Aq5 ((by rw [hg]; exact (below_size (tq5_7 GE125.out)) : w.heap.size ≤ gb135)); have NB125_135 := Aq5 ((by rw [hg]; exact Nat.ne_of_lt (blk_lt (g := gb125) (o := .cells #[.int .i64 a0_0, .slice (some ad134) l0_1.length c0_1, .string a0_2, .bool a0_3] 24 (0, 0)) (tq5_5 BK125.out)) : gb125 ≠ gb135)); have NB135_125 := Aq5 ((by rw [hg]; exact Nat.ne_of_gt (blk_lt (g := gb125) (o := .cells #[.int .i64 a0_0, .slice (some ad134) l0_1.length c0_1, .string a0_2, .bool a0_3] 24 (0, 0)) (tq5_5 BK125.out)) : gb135 ≠ gb125)); replace BK125 := Aq5 (blk_below (g := gb125) (o := .cells #[.int .i64 a0_0, .slice (some ad134) l0_1.length c0_1, .string a0_2, .bool a0_3] 24 (0, 0)) (tq5_5 BK125.out) hb); replace HB := Aq5 (below_step (tq5_7 GE125.out) hb); clear hb hbox hg; have hnb42 := NB135_125.out; have hnc42 := NB125_135.out; have hcz43_0 : w41.cell? ⟨gb135, 0, none⟩ = some (.string (⟨#[]⟩ : ByteArray)) := (blk_cell BK135.out 0).trans rfl; have hcz43_1 : w41.cell? ⟨gb135, 1, none⟩ = some (.string (⟨#[]⟩ : ByteArray)) := (blk_cell BK135.out 1).trans rfl; have hfz43_0 := blk_frozen BK135.out 0; have hfz43_1 := blk_frozen BK135.out 1) | (go_at_call 40; (with_reducible refine (reply_may.calls k2 ((rd_T26 l0_1 x39_2).f0) ((rd_T26 l0_1 x39_2).f1) false _ A29.out ?side1).mono ?_); (case side1 => exact HG.out.step (tq5_8 GE125.out GE135.out) rfl); rintro e w44 ⟨rfl, hb⟩; replace HO_7 := Aq5 (Kd.B_below (tq5_b HO_7.out BK135.out) hb); replace BK125 := Aq5 (blk_below (g := gb125) (o := .cells #[.int .i64 a0_0, .slice (some ad134) l0_1.length c0_1, .string a0_2, .bool a0_3] 24 (0, 0)) (tq5_a NB125_135.out BK125.out) hb); replace BK135 := Aq5 (blk_below (g := gb135) (o := .cells #[.string ((rd_T26 l0_1 x39_2).f0), .string ((rd_T26 l0_1 x39_2).f1)] 26 (0, 0)) (tq5_c BK135.out) hb); replace HB := Aq5 (below_step (tq5_8 GE125.out GE135.out) hb); (try clear hb); (try clear hb2); (try clear hk); (try clear hi); have hgeq139 := Glob.err1 (HG.out.step HB.out (T := [0, 2, 8, 9, 16, 19]) rfl) (by rfl))))
                go_ret2
                exact ⟨tq5_2, (tq5_8 GE125.out GE135.out)⟩
              ·rw [if_neg c28] at H
               exact absurd H (by simp)
             ·rw [if_neg c27] at H
              exact absurd H (by simp)
            ·rw [if_neg c26] at H
             have c26b0 : decide (x39_2 < (l0_1.length : Int)) = false := decide_eq_false c26
             clear c26
             replace H := Option.bind_eq_some_iff.mp H
             obtain ⟨t140, A450, H⟩ := H
             replace H : (if 16 + t140.size ≤ 9223372036854775807 then (if ((⟨#[67, 111, 110, 116, 101, 110, 116, 45, 76, 101, 110, 103, 116, 104, 58, 32]⟩ : ByteArray) ++ t140).size + 2 ≤ 9223372036854775807 then (if x7_2.length + (((⟨#[67, 111, 110, 116, 101, 110, 116, 45, 76, 101, 110, 103, 116, 104, 58, 32]⟩ : ByteArray) ++ t140) ++ (⟨#[13, 10]⟩ : ByteArray)).size < 140737488355328 then ((some (x7_2 ++ bytesOf (((⟨#[67, 111, 110, 116, 101, 110, 116, 45, 76, 101, 110, 103, 116, 104, 58, 32]⟩ : ByteArray) ++ t140) ++ (⟨#[13, 10]⟩ : ByteArray)) : List Int)).bind fun y141 => (if a0_3 = true then (if y141.length + 19 < 140737488355328 then (reply_Render.j2 k2 a1 (y141 ++ bytesOf (⟨#[67, 111, 110, 110, 101, 99, 116, 105, 111, 110, 58, 32, 99, 108, 111, 115, 101, 13, 10]⟩ : ByteArray)) a0_0 l0_1 a0_2 a0_3) else (none)) else (if y141.length + 24 < 140737488355328 then (reply_Render.j2 k2 a1 (y141 ++ bytesOf (⟨#[67, 111, 110, 110, 101, 99, 116, 105, 111, 110, 58, 32, 107, 101, 101, 112, 45, 97, 108, 105, 118, 101, 13, 10]⟩ : ByteArray)) a0_0 l0_1 a0_2 a0_3) else (none)))) else (none)) else (none)) else (none)) = some (r1, r2) := H
             have A45 := Aq5 A450
             clear A450
             by_cases c46 : 16 + t140.size ≤ 9223372036854775807
             ·rw [if_pos c46] at H
              have c46b0 := eq_true c46
              have c46b1 : decide (16 + t140.size ≤ 9223372036854775807) = true := decide_eq_true c46
              try have c46b2 : (9223372036854775807 < 16 + t140.size) = False := eq_false (Nat.not_lt.2 c46)
              by_cases c47 : ((⟨#[67, 111, 110, 116, 101, 110, 116, 45, 76, 101, 110, 103, 116, 104, 58, 32]⟩ : ByteArray) ++ t140).size + 2 ≤ 9223372036854775807
              ·rw [if_pos c47] at H
               have c47b0 := eq_true c47
               have c47b1 : decide (((⟨#[67, 111, 110, 116, 101, 110, 116, 45, 76, 101, 110, 103, 116, 104, 58, 32]⟩ : ByteArray) ++ t140).size + 2 ≤ 9223372036854775807) = true := decide_eq_true c47
               try have c47b2 : (9223372036854775807 < ((⟨#[67, 111, 110, 116, 101, 110, 116, 45, 76, 101, 110, 103, 116, 104, 58, 32]⟩ : ByteArray) ++ t140).size + 2) = False := eq_false (Nat.not_lt.2 c47)
               (try (have c47b3 := c47b0; simp only [ByteArray.size_append', ByteArray.size_mk', List.size_toArray, List.length_cons, List.length_nil, Nat.reduceAdd] at c47b3))
               (try (have c47b4 := c47b1; simp only [ByteArray.size_append', ByteArray.size_mk', List.size_toArray, List.length_cons, List.length_nil, Nat.reduceAdd] at c47b4))
               (try (have c47b5 := c47b2; simp only [ByteArray.size_append', ByteArray.size_mk', List.size_toArray, List.length_cons, List.length_nil, Nat.reduceAdd] at c47b5))
               by_cases c48 : x7_2.length + (((⟨#[67, 111, 110, 116, 101, 110, 116, 45, 76, 101, 110, 103, 116, 104, 58, 32]⟩ : ByteArray) ++ t140) ++ (⟨#[13, 10]⟩ : ByteArray)).size < 140737488355328
               ·rw [if_pos c48] at H
                have LMc48 := Aq5 c48
                clear c48
                obtain ⟨y141, hy141⟩ : ∃ y_ : List Int, y_ = (x7_2 ++ bytesOf (((⟨#[67, 111, 110, 116, 101, 110, 116, 45, 76, 101, 110, 103, 116, 104, 58, 32]⟩ : ByteArray) ++ t140) ++ (⟨#[13, 10]⟩ : ByteArray))) := ⟨_, rfl⟩
                replace H : (if a0_3 = true then (if y141.length + 19 < 140737488355328 then (reply_Render.j2 k2 a1 (y141 ++ bytesOf (⟨#[67, 111, 110, 110, 101, 99, 116, 105, 111, 110, 58, 32, 99, 108, 111, 115, 101, 13, 10]⟩ : ByteArray)) a0_0 l0_1 a0_2 a0_3) else (none)) else (if y141.length + 24 < 140737488355328 then (reply_Render.j2 k2 a1 (y141 ++ bytesOf (⟨#[67, 111, 110, 110, 101, 99, 116, 105, 111, 110, 58, 32, 107, 101, 101, 112, 45, 97, 108, 105, 118, 101, 13, 10]⟩ : ByteArray)) a0_0 l0_1 a0_2 a0_3) else (none))) = some (r1, r2) := by first | (rw [hy141]; with_reducible exact H) | (have H2_ := (Option.bind_some _ _).symm.trans H; rw [hy141]; with_reducible exact H2_) | (have H2_ := (Option.bind_some _ _).symm.trans H; with_reducible exact H2_) | with_reducible exact H | (rw [hy141]; exact H) | exact H
                have Ny141 := Aq5 hy141
                clear hy141
                have HC49 := Aq5 H
                clear H
                have hcz50_0 : wr.cell? ⟨gb125, 0, none⟩ = some (.int .i64 a0_0) := (blk_cell BK125.out 0).trans rfl
                have hcz50_1 : wr.cell? ⟨gb125, 1, none⟩ = some (.slice A0_1 l0_1.length c0_1) := (blk_cell BK125.out 1).trans rfl
                have hcz50_2 : wr.cell? ⟨gb125, 2, none⟩ = some (.string a0_2) := (blk_cell BK125.out 2).trans rfl
                have hcz50_3 : wr.cell? ⟨gb125, 3, none⟩ = some (.bool a0_3) := (blk_cell BK125.out 3).trans rfl
                have hfz50_0 := blk_frozen BK125.out 0
                have hfz50_1 := blk_frozen BK125.out 1
                have hfz50_2 := blk_frozen BK125.out 2
                have hfz50_3 := blk_frozen BK125.out 3
                go_upto_if 64 with (first | (go_at_call 39; (with_reducible refine (strconv_Itoa_39.calls (a0_2.size : Int) t140 _ A45.out ?side1).mono ?_); (case side1 => exact HG.out.step (tq5_7 GE125.out) rfl); rintro e w51 ⟨rfl, hb⟩; replace HO_7 := Aq5 (Kd.B_below (tq5_3 HO_7.out) hb); replace BK125 := Aq5 (blk_below (g := gb125) (o := .cells #[.int .i64 a0_0, .slice A0_1 l0_1.length c0_1, .string a0_2, .bool a0_3] 24 (0, 0)) (tq5_5 BK125.out) hb); replace HB := Aq5 (below_step (tq5_7 GE125.out) hb); (try clear hb); (try clear hb2); (try clear hk); (try clear hi)) | ((with_reducible refine gate_callee (f := 38) rfl ?_); refine goesL_ (some 62) rfl rfl Tryd.func38 (by kernel_rfl) rfl #[.pointer (some ⟨gb129, 0, none⟩), .string (((⟨#[67, 111, 110, 116, 101, 110, 116, 45, 76, 101, 110, 103, 116, 104, 58, 32]⟩ : ByteArray) ++ t140) ++ (⟨#[13, 10]⟩ : ByteArray))] rfl tq5_4 ?_; (refine (Kd.B_WriteString (tq5_3 HO_7.out) (((⟨#[67, 111, 110, 116, 101, 110, 116, 45, 76, 101, 110, 103, 116, 104, 58, 32]⟩ : ByteArray) ++ t140) ++ (⟨#[13, 10]⟩ : ByteArray)) (tq5_9 LMc48.out)).mono ?_); rintro e w52 ⟨rfl, ho, hk⟩; refine ⟨_, rfl, ?_⟩; rw [← Ny141.out] at ho; have n0_ := Aq5 (BKeep.blk' hk (g := gb125) (o := .cells #[.int .i64 a0_0, .slice A0_1 l0_1.length c0_1, .string a0_2, .bool a0_3] 24 (0, 0)) (tq5_5 BK125.out) ⟨by decide, by decide⟩); have n1_ := Aq5 (Below.trans (tq5_7 GE125.out) hk.below); have n2_ := Aq5 (ho); clear BK125; clear HB; clear HO_7; have BK125 := n0_; have HB := n1_; have HO142 := n2_; clear n0_ n1_ n2_; clear ho hk; have hcz53_0 : w52.cell? ⟨gb125, 0, none⟩ = some (.int .i64 a0_0) := (blk_cell BK125.out 0).trans rfl; have hcz53_1 : w52.cell? ⟨gb125, 1, none⟩ = some (.slice A0_1 l0_1.length c0_1) := (blk_cell BK125.out 1).trans rfl; have hcz53_2 : w52.cell? ⟨gb125, 2, none⟩ = some (.string a0_2) := (blk_cell BK125.out 2).trans rfl; have hcz53_3 : w52.cell? ⟨gb125, 3, none⟩ = some (.bool a0_3) := (blk_cell BK125.out 3).trans rfl; have hfz53_0 := blk_frozen BK125.out 0; have hfz53_1 := blk_frozen BK125.out 1; have hfz53_2 := blk_frozen BK125.out 2; have hfz53_3 := blk_frozen BK125.out 3))
                repeat (go_quiet (first | (go_at_call 39; (with_reducible refine (strconv_Itoa_39.calls (a0_2.size : Int) t140 _ A45.out ?side1).mono ?_); (case side1 => exact HG.out.step (tq5_7 GE125.out) rfl); rintro e w51 ⟨rfl, hb⟩; replace HO_7 := Aq5 (Kd.B_below (tq5_3 HO_7.out) hb); replace BK125 := Aq5 (blk_below (g := gb125) (o := .cells #[.int .i64 a0_0, .slice A0_1 l0_1.length c0_1, .string a0_2, .bool a0_3] 24 (0, 0)) (tq5_5 BK125.out) hb); replace HB := Aq5 (below_step (tq5_7 GE125.out) hb); (try clear hb); (try clear hb2); (try clear hk); (try clear hi)) | ((with_reducible refine gate_callee (f := 38) rfl ?_); refine goesL_ (some 62) rfl rfl Tryd.func38 (by kernel_rfl) rfl #[.pointer (some ⟨gb129, 0, none⟩), .string (((⟨#[67, 111, 110, 116, 101, 110, 116, 45, 76, 101, 110, 103, 116, 104, 58, 32]⟩ : ByteArray) ++ t140) ++ (⟨#[13, 10]⟩ : ByteArray))] rfl tq5_4 ?_; (refine (Kd.B_WriteString (tq5_3 HO_7.out) (((⟨#[67, 111, 110, 116, 101, 110, 116, 45, 76, 101, 110, 103, 116, 104, 58, 32]⟩ : ByteArray) ++ t140) ++ (⟨#[13, 10]⟩ : ByteArray)) (tq5_9 LMc48.out)).mono ?_); rintro e w52 ⟨rfl, ho, hk⟩; refine ⟨_, rfl, ?_⟩; rw [← Ny141.out] at ho; have n0_ := Aq5 (BKeep.blk' hk (g := gb125) (o := .cells #[.int .i64 a0_0, .slice A0_1 l0_1.length c0_1, .string a0_2, .bool a0_3] 24 (0, 0)) (tq5_5 BK125.out) ⟨by decide, by decide⟩); have n1_ := Aq5 (Below.trans (tq5_7 GE125.out) hk.below); have n2_ := Aq5 (ho); clear BK125; clear HB; clear HO_7; have BK125 := n0_; have HB := n1_; have HO142 := n2_; clear n0_ n1_ n2_; clear ho hk; have hcz53_0 : w52.cell? ⟨gb125, 0, none⟩ = some (.int .i64 a0_0) := (blk_cell BK125.out 0).trans rfl; have hcz53_1 : w52.cell? ⟨gb125, 1, none⟩ = some (.slice A0_1 l0_1.length c0_1) := (blk_cell BK125.out 1).trans rfl; have hcz53_2 : w52.cell? ⟨gb125, 2, none⟩ = some (.string a0_2) := (blk_cell BK125.out 2).trans rfl; have hcz53_3 : w52.cell? ⟨gb125, 3, none⟩ = some (.bool a0_3) := (blk_cell BK125.out 3).trans rfl; have hfz53_0 := blk_frozen BK125.out 0; have hfz53_1 := blk_frozen BK125.out 1; have hfz53_2 := blk_frozen BK125.out 2; have hfz53_3 := blk_frozen BK125.out 3)); go_upto_if 64 with (first | (go_at_call 39; (with_reducible refine (strconv_Itoa_39.calls (a0_2.size : Int) t140 _ A45.out ?side1).mono ?_); (case side1 => exact HG.out.step (tq5_7 GE125.out) rfl); rintro e w51 ⟨rfl, hb⟩; replace HO_7 := Aq5 (Kd.B_below (tq5_3 HO_7.out) hb); replace BK125 := Aq5 (blk_below (g := gb125) (o := .cells #[.int .i64 a0_0, .slice A0_1 l0_1.length c0_1, .string a0_2, .bool a0_3] 24 (0, 0)) (tq5_5 BK125.out) hb); replace HB := Aq5 (below_step (tq5_7 GE125.out) hb); (try clear hb); (try clear hb2); (try clear hk); (try clear hi)) | ((with_reducible refine gate_callee (f := 38) rfl ?_); refine goesL_ (some 62) rfl rfl Tryd.func38 (by kernel_rfl) rfl #[.pointer (some ⟨gb129, 0, none⟩), .string (((⟨#[67, 111, 110, 116, 101, 110, 116, 45, 76, 101, 110, 103, 116, 104, 58, 32]⟩ : ByteArray) ++ t140) ++ (⟨#[13, 10]⟩ : ByteArray))] rfl tq5_4 ?_; (refine (Kd.B_WriteString (tq5_3 HO_7.out) (((⟨#[67, 111, 110, 116, 101, 110, 116, 45, 76, 101, 110, 103, 116, 104, 58, 32]⟩ : ByteArray) ++ t140) ++ (⟨#[13, 10]⟩ : ByteArray)) (tq5_9 LMc48.out)).mono ?_); rintro e w52 ⟨rfl, ho, hk⟩; refine ⟨_, rfl, ?_⟩; rw [← Ny141.out] at ho; have n0_ := Aq5 (BKeep.blk' hk (g := gb125) (o := .cells #[.int .i64 a0_0, .slice A0_1 l0_1.length c0_1, .string a0_2, .bool a0_3] 24 (0, 0)) (tq5_5 BK125.out) ⟨by decide, by decide⟩); have n1_ := Aq5 (Below.trans (tq5_7 GE125.out) hk.below); have n2_ := Aq5 (ho); clear BK125; clear HB; clear HO_7; have BK125 := n0_; have HB := n1_; have HO142 := n2_; clear n0_ n1_ n2_; clear ho hk; have hcz53_0 : w52.cell? ⟨gb125, 0, none⟩ = some (.int .i64 a0_0) := (blk_cell BK125.out 0).trans rfl; have hcz53_1 : w52.cell? ⟨gb125, 1, none⟩ = some (.slice A0_1 l0_1.length c0_1) := (blk_cell BK125.out 1).trans rfl; have hcz53_2 : w52.cell? ⟨gb125, 2, none⟩ = some (.string a0_2) := (blk_cell BK125.out 2).trans rfl; have hcz53_3 : w52.cell? ⟨gb125, 3, none⟩ = some (.bool a0_3) := (blk_cell BK125.out 3).trans rfl; have hfz53_0 := blk_frozen BK125.out 0; have hfz53_1 := blk_frozen BK125.out 1; have hfz53_2 := blk_frozen BK125.out 2; have hfz53_3 := blk_frozen BK125.out 3)))
                (try simp only [Act.put, List.setIfInBounds_toArray, List.set_cons_zero, List.set_cons_succ])
                go_cut [] (fun wc => ∃ (kq : Nat) (x7_48 : List Int), Aside0 (reply_Render.j2 kq a1 x7_48 a0_0 l0_1 a0_2 a0_3 = some (r1, r2)) ∧ Aside0 (kq ≤ k2) ∧ Aside0 (Kd.B (Kd.int .u8) 72 wc w.heap.size (fun _ => True) (.pointer (some ⟨gb129, 0, none⟩)) x7_48) ∧ Aside0 (wc.heap[gb125]? = some (.cells #[.int .i64 a0_0, (.slice A0_1 l0_1.length c0_1), .string a0_2, .bool a0_3] 24 (0, 0))) ∧ Aside0 (Below w.heap.size w wc))
                case first =>
                 have H := HC49.out
                 clear HC49
                 by_cases c54 : a0_3 = true
                 ·subst c54
                  have H1 : (if y141.length + 19 < 140737488355328 then (reply_Render.j2 k2 a1 (y141 ++ bytesOf (⟨#[67, 111, 110, 110, 101, 99, 116, 105, 111, 110, 58, 32, 99, 108, 111, 115, 101, 13, 10]⟩ : ByteArray)) a0_0 l0_1 a0_2 true) else (none)) = some (r1, r2) := by rw [if_pos rfl] at H; exact H
                  clear H
                  have H := H1
                  clear H1
                  by_cases c55 : y141.length + 19 < 140737488355328
                  ·rw [if_pos c55] at H
                   have LMc55 := Aq5 c55
                   clear c55
                   obtain ⟨y143, hy143⟩ : ∃ y_ : List Int, y_ = (y141 ++ bytesOf (⟨#[67, 111, 110, 110, 101, 99, 116, 105, 111, 110, 58, 32, 99, 108, 111, 115, 101, 13, 10]⟩ : ByteArray)) := ⟨_, rfl⟩
                   replace H : (reply_Render.j2 k2 a1 y143 a0_0 l0_1 a0_2 true) = some (r1, r2) := by first | (rw [hy143]; with_reducible exact H) | (have H2_ := (Option.bind_some _ _).symm.trans H; rw [hy143]; with_reducible exact H2_) | (have H2_ := (Option.bind_some _ _).symm.trans H; with_reducible exact H2_) | with_reducible exact H | (rw [hy143]; exact H) | exact H
                   have Ny143 := Aq5 hy143
                   clear hy143
                   have H' := Aq5 H
                   clear H
                   go_wp2_with (first | ((with_reducible refine gate_callee (f := 38) rfl ?_); refine goesL_ (some 65) rfl rfl Tryd.func38 (by kernel_rfl) rfl #[.pointer (some ⟨gb129, 0, none⟩), .string (⟨#[67, 111, 110, 110, 101, 99, 116, 105, 111, 110, 58, 32, 99, 108, 111, 115, 101, 13, 10]⟩ : ByteArray)] rfl tq5_4 ?_; (refine (Kd.B_WriteString (tq5_3 HO142.out) (⟨#[67, 111, 110, 110, 101, 99, 116, 105, 111, 110, 58, 32, 99, 108, 111, 115, 101, 13, 10]⟩ : ByteArray) (tq5_9 LMc55.out)).mono ?_); rintro e w56 ⟨rfl, ho, hk⟩; refine ⟨_, rfl, ?_⟩; rw [← Ny143.out] at ho; have n0_ := Aq5 (BKeep.blk' hk (g := gb125) (o := .cells #[.int .i64 a0_0, .slice A0_1 l0_1.length c0_1, .string a0_2, .bool true] 24 (0, 0)) (tq5_5 BK125.out) ⟨by decide, by decide⟩); have n1_ := Aq5 (Below.trans (tq5_7 GE125.out) hk.below); have n2_ := Aq5 (ho); clear BK125; clear HB; clear HO142; have BK125 := n0_; have HB := n1_; have HO144 := n2_; clear n0_ n1_ n2_; clear ho hk))
                   repeat (go_quiet (first | ((with_reducible refine gate_callee (f := 38) rfl ?_); refine goesL_ (some 65) rfl rfl Tryd.func38 (by kernel_rfl) rfl #[.pointer (some ⟨gb129, 0, none⟩), .string (⟨#[67, 111, 110, 110, 101, 99, 116, 105, 111, 110, 58, 32, 99, 108, 111, 115, 101, 13, 10]⟩ : ByteArray)] rfl tq5_4 ?_; (refine (Kd.B_WriteString (tq5_3 HO142.out) (⟨#[67, 111, 110, 110, 101, 99, 116, 105, 111, 110, 58, 32, 99, 108, 111, 115, 101, 13, 10]⟩ : ByteArray) (tq5_9 LMc55.out)).mono ?_); rintro e w56 ⟨rfl, ho, hk⟩; refine ⟨_, rfl, ?_⟩; rw [← Ny143.out] at ho; have n0_ := Aq5 (BKeep.blk' hk (g := gb125) (o := .cells #[.int .i64 a0_0, .slice A0_1 l0_1.length c0_1, .string a0_2, .bool true] 24 (0, 0)) (tq5_5 BK125.out) ⟨by decide, by decide⟩); have n1_ := Aq5 (Below.trans (tq5_7 GE125.out) hk.below); have n2_ := Aq5 (ho); clear BK125; clear HB; clear HO142; have BK125 := n0_; have HB := n1_; have HO144 := n2_; clear n0_ n1_ n2_; clear ho hk)); try go_wp2_with (first | ((with_reducible refine gate_callee (f := 38) rfl ?_); refine goesL_ (some 65) rfl rfl Tryd.func38 (by kernel_rfl) rfl #[.pointer (some ⟨gb129, 0, none⟩), .string (⟨#[67, 111, 110, 110, 101, 99, 116, 105, 111, 110, 58, 32, 99, 108, 111, 115, 101, 13, 10]⟩ : ByteArray)] rfl tq5_4 ?_; (refine (Kd.B_WriteString (tq5_3 HO142.out) (⟨#[67, 111, 110, 110, 101, 99, 116, 105, 111, 110, 58, 32, 99, 108, 111, 115, 101, 13, 10]⟩ : ByteArray) (tq5_9 LMc55.out)).mono ?_); rintro e w56 ⟨rfl, ho, hk⟩; refine ⟨_, rfl, ?_⟩; rw [← Ny143.out] at ho; have n0_ := Aq5 (BKeep.blk' hk (g := gb125) (o := .cells #[.int .i64 a0_0, .slice A0_1 l0_1.length c0_1, .string a0_2, .bool true] 24 (0, 0)) (tq5_5 BK125.out) ⟨by decide, by decide⟩); have n1_ := Aq5 (Below.trans (tq5_7 GE125.out) hk.below); have n2_ := Aq5 (ho); clear BK125; clear HB; clear HO142; have BK125 := n0_; have HB := n1_; have HO144 := n2_; clear n0_ n1_ n2_; clear ho hk)))
                   go_meet
                   case rel => exact ⟨_, (y143), H', ⟨by have := HJ2.out; have := HK2.out; first | omega | exact Nat.le_refl _⟩, ⟨(tq5_3 HO144.out)⟩, ⟨(tq5_5 BK125.out)⟩, ⟨(tq5_7 GE125.out)⟩⟩
                  ·rw [if_neg c55] at H
                   exact absurd H (by simp)
                 ·replace c54 := Bool.eq_false_iff.mpr c54
                  subst c54
                  have H1 : (if y141.length + 24 < 140737488355328 then (reply_Render.j2 k2 a1 (y141 ++ bytesOf (⟨#[67, 111, 110, 110, 101, 99, 116, 105, 111, 110, 58, 32, 107, 101, 101, 112, 45, 97, 108, 105, 118, 101, 13, 10]⟩ : ByteArray)) a0_0 l0_1 a0_2 false) else (none)) = some (r1, r2) := by rw [if_neg (show ¬ (false = true) by decide)] at H; exact H
                  clear H
                  have H := H1
                  clear H1
                  by_cases c57 : y141.length + 24 < 140737488355328
                  ·rw [if_pos c57] at H
                   have LMc57 := Aq5 c57
                   clear c57
                   obtain ⟨y145, hy145⟩ : ∃ y_ : List Int, y_ = (y141 ++ bytesOf (⟨#[67, 111, 110, 110, 101, 99, 116, 105, 111, 110, 58, 32, 107, 101, 101, 112, 45, 97, 108, 105, 118, 101, 13, 10]⟩ : ByteArray)) := ⟨_, rfl⟩
                   replace H : (reply_Render.j2 k2 a1 y145 a0_0 l0_1 a0_2 false) = some (r1, r2) := by first | (rw [hy145]; with_reducible exact H) | (have H2_ := (Option.bind_some _ _).symm.trans H; rw [hy145]; with_reducible exact H2_) | (have H2_ := (Option.bind_some _ _).symm.trans H; with_reducible exact H2_) | with_reducible exact H | (rw [hy145]; exact H) | exact H
                   have Ny145 := Aq5 hy145
                   clear hy145
                   have H' := Aq5 H
                   clear H
                   go_wp2_with (first | ((with_reducible refine gate_callee (f := 38) rfl ?_); refine goesL_ (some 66) rfl rfl Tryd.func38 (by kernel_rfl) rfl #[.pointer (some ⟨gb129, 0, none⟩), .string (⟨#[67, 111, 110, 110, 101, 99, 116, 105, 111, 110, 58, 32, 107, 101, 101, 112, 45, 97, 108, 105, 118, 101, 13, 10]⟩ : ByteArray)] rfl tq5_4 ?_; (refine (Kd.B_WriteString (tq5_3 HO142.out) (⟨#[67, 111, 110, 110, 101, 99, 116, 105, 111, 110, 58, 32, 107, 101, 101, 112, 45, 97, 108, 105, 118, 101, 13, 10]⟩ : ByteArray) (tq5_9 LMc57.out)).mono ?_); rintro e w58 ⟨rfl, ho, hk⟩; refine ⟨_, rfl, ?_⟩; rw [← Ny145.out] at ho; have n0_ := Aq5 (BKeep.blk' hk (g := gb125) (o := .cells #[.int .i64 a0_0, .slice A0_1 l0_1.length c0_1, .string a0_2, .bool false] 24 (0, 0)) (tq5_5 BK125.out) ⟨by decide, by decide⟩); have n1_ := Aq5 (Below.trans (tq5_7 GE125.out) hk.below); have n2_ := Aq5 (ho); clear BK125; clear HB; clear HO142; have BK125 := n0_; have HB := n1_; have HO146 := n2_; clear n0_ n1_ n2_; clear ho hk))
                   repeat (go_quiet (first | ((with_reducible refine gate_callee (f := 38) rfl ?_); refine goesL_ (some 66) rfl rfl Tryd.func38 (by kernel_rfl) rfl #[.pointer (some ⟨gb129, 0, none⟩), .string (⟨#[67, 111, 110, 110, 101, 99, 116, 105, 111, 110, 58, 32, 107, 101, 101, 112, 45, 97, 108, 105, 118, 101, 13, 10]⟩ : ByteArray)] rfl tq5_4 ?_; (refine (Kd.B_WriteString (tq5_3 HO142.out) (⟨#[67, 111, 110, 110, 101, 99, 116, 105, 111, 110, 58, 32, 107, 101, 101, 112, 45, 97, 108, 105, 118, 101, 13, 10]⟩ : ByteArray) (tq5_9 LMc57.out)).mono ?_); rintro e w58 ⟨rfl, ho, hk⟩; refine ⟨_, rfl, ?_⟩; rw [← Ny145.out] at ho; have n0_ := Aq5 (BKeep.blk' hk (g := gb125) (o := .cells #[.int .i64 a0_0, .slice A0_1 l0_1.length c0_1, .string a0_2, .bool false] 24 (0, 0)) (tq5_5 BK125.out) ⟨by decide, by decide⟩); have n1_ := Aq5 (Below.trans (tq5_7 GE125.out) hk.below); have n2_ := Aq5 (ho); clear BK125; clear HB; clear HO142; have BK125 := n0_; have HB := n1_; have HO146 := n2_; clear n0_ n1_ n2_; clear ho hk)); try go_wp2_with (first | ((with_reducible refine gate_callee (f := 38) rfl ?_); refine goesL_ (some 66) rfl rfl Tryd.func38 (by kernel_rfl) rfl #[.pointer (some ⟨gb129, 0, none⟩), .string (⟨#[67, 111, 110, 110, 101, 99, 116, 105, 111, 110, 58, 32, 107, 101, 101, 112, 45, 97, 108, 105, 118, 101, 13, 10]⟩ : ByteArray)] rfl tq5_4 ?_; (refine (Kd.B_WriteString (tq5_3 HO142.out) (⟨#[67, 111, 110, 110, 101, 99, 116, 105, 111, 110, 58, 32, 107, 101, 101, 112, 45, 97, 108, 105, 118, 101, 13, 10]⟩ : ByteArray) (tq5_9 LMc57.out)).mono ?_); rintro e w58 ⟨rfl, ho, hk⟩; refine ⟨_, rfl, ?_⟩; rw [← Ny145.out] at ho; have n0_ := Aq5 (BKeep.blk' hk (g := gb125) (o := .cells #[.int .i64 a0_0, .slice A0_1 l0_1.length c0_1, .string a0_2, .bool false] 24 (0, 0)) (tq5_5 BK125.out) ⟨by decide, by decide⟩); have n1_ := Aq5 (Below.trans (tq5_7 GE125.out) hk.below); have n2_ := Aq5 (ho); clear BK125; clear HB; clear HO142; have BK125 := n0_; have HB := n1_; have HO146 := n2_; clear n0_ n1_ n2_; clear ho hk)))
                   go_meet
                   case rel => exact ⟨_, (y145), H', ⟨by have := HJ2.out; have := HK2.out; first | omega | exact Nat.le_refl _⟩, ⟨(tq5_3 HO146.out)⟩, ⟨(tq5_5 BK125.out)⟩, ⟨(tq5_7 GE125.out)⟩⟩
                  ·rw [if_neg c57] at H
                   exact absurd H (by simp)
                case rest =>
                 clear HC49
                 try clear c1
                 try clear p1
                 try clear q1
                 try clear hx1
                 try clear c2
                 try clear p2
                 try clear c3
                 try clear c4
                 try clear c5
                 try clear c5b0
                 try clear c5b1
                 try clear p6
                 try clear c8
                 try clear c10
                 try clear c10b0
                 try clear c10b1
                 try clear q12
                 try clear p13
                 try clear q13
                 try clear hx13
                 try clear c14
                 try clear c14b0
                 try clear c14b1
                 try clear c14b2
                 try clear c15
                 try clear c15b0
                 try clear c15b1
                 try clear c15b2
                 try clear c16
                 try clear c16b0
                 try clear c16b1
                 try clear c16b2
                 try clear c17
                 try clear c17b0
                 try clear c17b1
                 try clear c17b2
                 try clear c18
                 try clear c26
                 try clear c26b0
                 try clear c27
                 try clear c27b0
                 try clear c28
                 try clear c28b0
                 try clear c30
                 try clear c31
                 try clear c31b0
                 try clear c31b1
                 try clear c31b2
                 try clear c32
                 try clear c32b0
                 try clear c32b1
                 try clear c32b2
                 try clear c33
                 try clear c33b0
                 try clear c33b1
                 try clear c33b2
                 try clear c34
                 try clear c36
                 try clear c38
                 try clear c42
                 try clear c46
                 try clear c46b0
                 try clear c46b1
                 try clear c46b2
                 try clear c47
                 try clear c47b0
                 try clear c47b1
                 try clear c47b2
                 try clear c48
                 try clear c54
                 try clear c55
                 try clear c57
                 try clear hcz11_0
                 try clear hcz11_1
                 try clear hcz11_2
                 try clear hcz11_3
                 try clear hcz19_0
                 try clear hcz19_1
                 try clear hcz19_2
                 try clear hcz19_3
                 try clear hcz22_0
                 try clear hcz22_1
                 try clear hcz22_2
                 try clear hcz22_3
                 try clear hcz25_0
                 try clear hcz25_1
                 try clear hcz25_2
                 try clear hcz25_3
                 try clear hcz37_0
                 try clear hcz37_1
                 try clear hcz39_0
                 try clear hcz39_1
                 try clear hcz43_0
                 try clear hcz43_1
                 try clear hcz50_0
                 try clear hcz50_1
                 try clear hcz50_2
                 try clear hcz50_3
                 try clear hcz53_0
                 try clear hcz53_1
                 try clear hcz53_2
                 try clear hcz53_3
                 try clear hcz6_0
                 try clear hcz6_1
                 try clear hcz6_2
                 try clear hcz6_3
                 try clear hcz7_0
                 try clear hcz7_1
                 try clear hcz7_2
                 try clear hcz7_3
                 try clear hfz11_0
                 try clear hfz11_1
                 try clear hfz11_2
                 try clear hfz11_3
                 try clear hfz19_0
                 try clear hfz19_1
                 try clear hfz19_2
                 try clear hfz19_3
                 try clear hfz22_0
                 try clear hfz22_1
                 try clear hfz22_2
                 try clear hfz22_3
                 try clear hfz25_0
                 try clear hfz25_1
                 try clear hfz25_2
                 try clear hfz25_3
                 try clear hfz37_0
                 try clear hfz37_1
                 try clear hfz39_0
                 try clear hfz39_1
                 try clear hfz43_0
                 try clear hfz43_1
                 try clear hfz50_0
                 try clear hfz50_1
                 try clear hfz50_2
                 try clear hfz50_3
                 try clear hfz53_0
                 try clear hfz53_1
                 try clear hfz53_2
                 try clear hfz53_3
                 try clear hfz6_0
                 try clear hfz6_1
                 try clear hfz6_2
                 try clear hfz6_3
                 try clear hfz7_0
                 try clear hfz7_1
                 try clear hfz7_2
                 try clear hfz7_3
                 try clear hx134_0
                 try clear hx134_1
                 try clear p134
                 try clear p2
                 try clear q1
                 try clear q12
                 try clear q134
                 obtain ⟨kq, x7_48, HA, HJ48, HO_7, BK125, HB⟩ := hcut
                 cases kq with
                 | zero => exact absurd HA.out (by simp [reply_Render.j2])
                 | succ kj48 =>
                  have H := HA.out
                  clear HA
                  simp only [reply_Render.j2] at H
                  by_cases c59 : x7_48.length + 2 < 140737488355328
                  ·rw [if_pos c59] at H
                   have LMc59 := Aq5 c59
                   clear c59
                   obtain ⟨y147, hy147⟩ : ∃ y_ : List Int, y_ = (x7_48 ++ bytesOf (⟨#[13, 10]⟩ : ByteArray)) := ⟨_, rfl⟩
                   replace H : (if a1 = true then (some (strOfNums y147, none)) else (if y147.length + a0_2.size < 140737488355328 then (some (strOfNums (y147 ++ bytesOf a0_2), none)) else (none))) = some (r1, r2) := by first | (rw [hy147]; with_reducible exact H) | (have H2_ := (Option.bind_some _ _).symm.trans H; rw [hy147]; with_reducible exact H2_) | (have H2_ := (Option.bind_some _ _).symm.trans H; with_reducible exact H2_) | with_reducible exact H | (rw [hy147]; exact H) | exact H
                   have Ny147 := Aq5 hy147
                   clear hy147
                   by_cases c60 : a1 = true
                   ·subst c60
                    have H1 : (some (strOfNums y147, none)) = some (r1, r2) := by rw [if_pos rfl] at H; exact H
                    clear H
                    have H := H1
                    clear H1
                    simp only [Option.some.injEq, Prod.mk.injEq] at H
                    obtain ⟨rfl, rfl⟩ := H
                    go_wp2_with (first | ((with_reducible refine gate_callee (f := 38) rfl ?_); refine goesL_ (some 67) rfl rfl Tryd.func38 (by kernel_rfl) rfl #[.pointer (some ⟨gb129, 0, none⟩), .string (⟨#[13, 10]⟩ : ByteArray)] rfl tq5_4 ?_; (refine (Kd.B_WriteString (tq5_3 HO_7.out) (⟨#[13, 10]⟩ : ByteArray) (tq5_9 LMc59.out)).mono ?_); rintro e w61 ⟨rfl, ho, hk⟩; refine ⟨_, rfl, ?_⟩; rw [← Ny147.out] at ho; have n0_ := Aq5 (BKeep.blk' hk (g := gb125) (o := .cells #[.int .i64 a0_0, .slice A0_1 l0_1.length c0_1, .string a0_2, .bool a0_3] 24 (0, 0)) (tq5_5 BK125.out) ⟨by decide, by decide⟩); have n1_ := Aq5 (Below.trans (tq5_7 GE125.out) hk.below); have n2_ := Aq5 (ho); clear BK125; clear HB; clear HO_7; have BK125 := n0_; have HB := n1_; have HO148 := n2_; clear n0_ n1_ n2_; clear ho hk) | ((with_reducible refine gate_callee (f := 41) rfl ?_); refine goesL_ (some 73) rfl rfl Tryd.func41 (by kernel_rfl) rfl #[.pointer (some ⟨gb129, 0, none⟩)] rfl tq5_4 ?_; (refine (Kd.B_String (tq5_3 HO148.out)).mono ?_); rintro e w62 ⟨rfl, hb⟩; refine ⟨_, rfl, ?_⟩; have n0_ := Aq5 (Below.trans (tq5_7 GE125.out) hb); clear HB; clear BK125; clear HO148; have HB := n0_; clear n0_; clear hb))
                    repeat (go_quiet (first | ((with_reducible refine gate_callee (f := 38) rfl ?_); refine goesL_ (some 67) rfl rfl Tryd.func38 (by kernel_rfl) rfl #[.pointer (some ⟨gb129, 0, none⟩), .string (⟨#[13, 10]⟩ : ByteArray)] rfl tq5_4 ?_; (refine (Kd.B_WriteString (tq5_3 HO_7.out) (⟨#[13, 10]⟩ : ByteArray) (tq5_9 LMc59.out)).mono ?_); rintro e w61 ⟨rfl, ho, hk⟩; refine ⟨_, rfl, ?_⟩; rw [← Ny147.out] at ho; have n0_ := Aq5 (BKeep.blk' hk (g := gb125) (o := .cells #[.int .i64 a0_0, .slice A0_1 l0_1.length c0_1, .string a0_2, .bool a0_3] 24 (0, 0)) (tq5_5 BK125.out) ⟨by decide, by decide⟩); have n1_ := Aq5 (Below.trans (tq5_7 GE125.out) hk.below); have n2_ := Aq5 (ho); clear BK125; clear HB; clear HO_7; have BK125 := n0_; have HB := n1_; have HO148 := n2_; clear n0_ n1_ n2_; clear ho hk) | ((with_reducible refine gate_callee (f := 41) rfl ?_); refine goesL_ (some 73) rfl rfl Tryd.func41 (by kernel_rfl) rfl #[.pointer (some ⟨gb129, 0, none⟩)] rfl tq5_4 ?_; (refine (Kd.B_String (tq5_3 HO148.out)).mono ?_); rintro e w62 ⟨rfl, hb⟩; refine ⟨_, rfl, ?_⟩; have n0_ := Aq5 (Below.trans (tq5_7 GE125.out) hb); clear HB; clear BK125; clear HO148; have HB := n0_; clear n0_; clear hb)); try go_wp2_with (first | ((with_reducible refine gate_callee (f := 38) rfl ?_); refine goesL_ (some 67) rfl rfl Tryd.func38 (by kernel_rfl) rfl #[.pointer (some ⟨gb129, 0, none⟩), .string (⟨#[13, 10]⟩ : ByteArray)] rfl tq5_4 ?_; (refine (Kd.B_WriteString (tq5_3 HO_7.out) (⟨#[13, 10]⟩ : ByteArray) (tq5_9 LMc59.out)).mono ?_); rintro e w61 ⟨rfl, ho, hk⟩; refine ⟨_, rfl, ?_⟩; rw [← Ny147.out] at ho; have n0_ := Aq5 (BKeep.blk' hk (g := gb125) (o := .cells #[.int .i64 a0_0, .slice A0_1 l0_1.length c0_1, .string a0_2, .bool a0_3] 24 (0, 0)) (tq5_5 BK125.out) ⟨by decide, by decide⟩); have n1_ := Aq5 (Below.trans (tq5_7 GE125.out) hk.below); have n2_ := Aq5 (ho); clear BK125; clear HB; clear HO_7; have BK125 := n0_; have HB := n1_; have HO148 := n2_; clear n0_ n1_ n2_; clear ho hk) | ((with_reducible refine gate_callee (f := 41) rfl ?_); refine goesL_ (some 73) rfl rfl Tryd.func41 (by kernel_rfl) rfl #[.pointer (some ⟨gb129, 0, none⟩)] rfl tq5_4 ?_; (refine (Kd.B_String (tq5_3 HO148.out)).mono ?_); rintro e w62 ⟨rfl, hb⟩; refine ⟨_, rfl, ?_⟩; have n0_ := Aq5 (Below.trans (tq5_7 GE125.out) hb); clear HB; clear BK125; clear HO148; have HB := n0_; clear n0_; clear hb)))
                    go_ret2
                    exact ⟨tq5_2, tq5_6⟩
                   ·replace c60 := Bool.eq_false_iff.mpr c60
                    subst c60
                    have H1 : (if y147.length + a0_2.size < 140737488355328 then (some (strOfNums (y147 ++ bytesOf a0_2), none)) else (none)) = some (r1, r2) := by rw [if_neg (show ¬ (false = true) by decide)] at H; exact H
                    clear H
                    have H := H1
                    clear H1
                    by_cases c63 : y147.length + a0_2.size < 140737488355328
                    ·rw [if_pos c63] at H
                     have LMc63 := Aq5 c63
                     clear c63
                     obtain ⟨y149, hy149⟩ : ∃ y_ : List Int, y_ = (y147 ++ bytesOf a0_2) := ⟨_, rfl⟩
                     replace H : (some (strOfNums y149, none)) = some (r1, r2) := by first | (rw [hy149]; with_reducible exact H) | (have H2_ := (Option.bind_some _ _).symm.trans H; rw [hy149]; with_reducible exact H2_) | (have H2_ := (Option.bind_some _ _).symm.trans H; with_reducible exact H2_) | with_reducible exact H | (rw [hy149]; exact H) | exact H
                     have Ny149 := Aq5 hy149
                     clear hy149
                     simp only [Option.some.injEq, Prod.mk.injEq] at H
                     obtain ⟨rfl, rfl⟩ := H
                     go_wp2_with (first | ((with_reducible refine gate_callee (f := 38) rfl ?_); refine goesL_ (some 67) rfl rfl Tryd.func38 (by kernel_rfl) rfl #[.pointer (some ⟨gb129, 0, none⟩), .string (⟨#[13, 10]⟩ : ByteArray)] rfl tq5_4 ?_; (refine (Kd.B_WriteString (tq5_3 HO_7.out) (⟨#[13, 10]⟩ : ByteArray) (tq5_9 LMc59.out)).mono ?_); rintro e w64 ⟨rfl, ho, hk⟩; refine ⟨_, rfl, ?_⟩; rw [← Ny147.out] at ho; have n0_ := Aq5 (BKeep.blk' hk (g := gb125) (o := .cells #[.int .i64 a0_0, .slice A0_1 l0_1.length c0_1, .string a0_2, .bool a0_3] 24 (0, 0)) (tq5_5 BK125.out) ⟨by decide, by decide⟩); have n1_ := Aq5 (Below.trans (tq5_7 GE125.out) hk.below); have n2_ := Aq5 (ho); clear BK125; clear HB; clear HO_7; have BK125 := n0_; have HB := n1_; have HO148 := n2_; clear n0_ n1_ n2_; clear ho hk; have hcz65_0 : w64.cell? ⟨gb125, 0, none⟩ = some (.int .i64 a0_0) := (blk_cell BK125.out 0).trans rfl; have hcz65_1 : w64.cell? ⟨gb125, 1, none⟩ = some (.slice A0_1 l0_1.length c0_1) := (blk_cell BK125.out 1).trans rfl; have hcz65_2 : w64.cell? ⟨gb125, 2, none⟩ = some (.string a0_2) := (blk_cell BK125.out 2).trans rfl; have hcz65_3 : w64.cell? ⟨gb125, 3, none⟩ = some (.bool a0_3) := (blk_cell BK125.out 3).trans rfl; have hfz65_0 := blk_frozen BK125.out 0; have hfz65_1 := blk_frozen BK125.out 1; have hfz65_2 := blk_frozen BK125.out 2; have hfz65_3 := blk_frozen BK125.out 3) | ((with_reducible refine gate_callee (f := 38) rfl ?_); refine goesL_ (some 72) rfl rfl Tryd.func38 (by kernel_rfl) rfl #[.pointer (some ⟨gb129, 0, none⟩), .string a0_2] rfl tq5_4 ?_; (refine (Kd.B_WriteString (tq5_3 HO148.out) a0_2 (tq5_9 LMc63.out)).mono ?_); rintro e w66 ⟨rfl, ho, hk⟩; refine ⟨_, rfl, ?_⟩; rw [← Ny149.out] at ho; have n0_ := Aq5 (BKeep.blk' hk (g := gb125) (o := .cells #[.int .i64 a0_0, .slice A0_1 l0_1.length c0_1, .string a0_2, .bool a0_3] 24 (0, 0)) (tq5_5 BK125.out) ⟨by decide, by decide⟩); have n1_ := Aq5 (Below.trans (tq5_7 GE125.out) hk.below); have n2_ := Aq5 (ho); clear BK125; clear HB; clear HO148; have BK125 := n0_; have HB := n1_; have HO150 := n2_; clear n0_ n1_ n2_; clear ho hk) | ((with_reducible refine gate_callee (f := 41) rfl ?_); refine goesL_ (some 73) rfl rfl Tryd.func41 (by kernel_rfl) rfl #[.pointer (some ⟨gb129, 0, none⟩)] rfl tq5_4 ?_; (refine (Kd.B_String (tq5_3 HO150.out)).mono ?_); rintro e w67 ⟨rfl, hb⟩; refine ⟨_, rfl, ?_⟩; have n0_ := Aq5 (Below.trans (tq5_7 GE125.out) hb); clear HB; clear BK125; clear HO150; have HB := n0_; clear n0_; clear hb))
                     repeat (go_quiet (first | ((with_reducible refine gate_callee (f := 38) rfl ?_); refine goesL_ (some 67) rfl rfl Tryd.func38 (by kernel_rfl) rfl #[.pointer (some ⟨gb129, 0, none⟩), .string (⟨#[13, 10]⟩ : ByteArray)] rfl tq5_4 ?_; (refine (Kd.B_WriteString (tq5_3 HO_7.out) (⟨#[13, 10]⟩ : ByteArray) (tq5_9 LMc59.out)).mono ?_); rintro e w64 ⟨rfl, ho, hk⟩; refine ⟨_, rfl, ?_⟩; rw [← Ny147.out] at ho; have n0_ := Aq5 (BKeep.blk' hk (g := gb125) (o := .cells #[.int .i64 a0_0, .slice A0_1 l0_1.length c0_1, .string a0_2, .bool a0_3] 24 (0, 0)) (tq5_5 BK125.out) ⟨by decide, by decide⟩); have n1_ := Aq5 (Below.trans (tq5_7 GE125.out) hk.below); have n2_ := Aq5 (ho); clear BK125; clear HB; clear HO_7; have BK125 := n0_; have HB := n1_; have HO148 := n2_; clear n0_ n1_ n2_; clear ho hk; have hcz65_0 : w64.cell? ⟨gb125, 0, none⟩ = some (.int .i64 a0_0) := (blk_cell BK125.out 0).trans rfl; have hcz65_1 : w64.cell? ⟨gb125, 1, none⟩ = some (.slice A0_1 l0_1.length c0_1) := (blk_cell BK125.out 1).trans rfl; have hcz65_2 : w64.cell? ⟨gb125, 2, none⟩ = some (.string a0_2) := (blk_cell BK125.out 2).trans rfl; have hcz65_3 : w64.cell? ⟨gb125, 3, none⟩ = some (.bool a0_3) := (blk_cell BK125.out 3).trans rfl; have hfz65_0 := blk_frozen BK125.out 0; have hfz65_1 := blk_frozen BK125.out 1; have hfz65_2 := blk_frozen BK125.out 2; have hfz65_3 := blk_frozen BK125.out 3) | ((with_reducible refine gate_callee (f := 38) rfl ?_); refine goesL_ (some 72) rfl rfl Tryd.func38 (by kernel_rfl) rfl #[.pointer (some ⟨gb129, 0, none⟩), .string a0_2] rfl tq5_4 ?_; (refine (Kd.B_WriteString (tq5_3 HO148.out) a0_2 (tq5_9 LMc63.out)).mono ?_); rintro e w66 ⟨rfl, ho, hk⟩; refine ⟨_, rfl, ?_⟩; rw [← Ny149.out] at ho; have n0_ := Aq5 (BKeep.blk' hk (g := gb125) (o := .cells #[.int .i64 a0_0, .slice A0_1 l0_1.length c0_1, .string a0_2, .bool a0_3] 24 (0, 0)) (tq5_5 BK125.out) ⟨by decide, by decide⟩); have n1_ := Aq5 (Below.trans (tq5_7 GE125.out) hk.below); have n2_ := Aq5 (ho); clear BK125; clear HB; clear HO148; have BK125 := n0_; have HB := n1_; have HO150 := n2_; clear n0_ n1_ n2_; clear ho hk) | ((with_reducible refine gate_callee (f := 41) rfl ?_); refine goesL_ (some 73) rfl rfl Tryd.func41 (by kernel_rfl) rfl #[.pointer (some ⟨gb129, 0, none⟩)] rfl tq5_4 ?_; (refine (Kd.B_String (tq5_3 HO150.out)).mono ?_); rintro e w67 ⟨rfl, hb⟩; refine ⟨_, rfl, ?_⟩; have n0_ := Aq5 (Below.trans (tq5_7 GE125.out) hb); clear HB; clear BK125; clear HO150; have HB := n0_; clear n0_; clear hb)); try go_wp2_with (first | ((with_reducible refine gate_callee (f := 38) rfl ?_); refine goesL_ (some 67) rfl rfl Tryd.func38 (by kernel_rfl) rfl #[.pointer (some ⟨gb129, 0, none⟩), .string (⟨#[13, 10]⟩ : ByteArray)] rfl tq5_4 ?_; (refine (Kd.B_WriteString (tq5_3 HO_7.out) (⟨#[13, 10]⟩ : ByteArray) (tq5_9 LMc59.out)).mono ?_); rintro e w64 ⟨rfl, ho, hk⟩; refine ⟨_, rfl, ?_⟩; rw [← Ny147.out] at ho; have n0_ := Aq5 (BKeep.blk' hk (g := gb125) (o := .cells #[.int .i64 a0_0, .slice A0_1 l0_1.length c0_1, .string a0_2, .bool a0_3] 24 (0, 0)) (tq5_5 BK125.out) ⟨by decide, by decide⟩); have n1_ := Aq5 (Below.trans (tq5_7 GE125.out) hk.below); have n2_ := Aq5 (ho); clear BK125; clear HB; clear HO_7; have BK125 := n0_; have HB := n1_; have HO148 := n2_; clear n0_ n1_ n2_; clear ho hk; have hcz65_0 : w64.cell? ⟨gb125, 0, none⟩ = some (.int .i64 a0_0) := (blk_cell BK125.out 0).trans rfl; have hcz65_1 : w64.cell? ⟨gb125, 1, none⟩ = some (.slice A0_1 l0_1.length c0_1) := (blk_cell BK125.out 1).trans rfl; have hcz65_2 : w64.cell? ⟨gb125, 2, none⟩ = some (.string a0_2) := (blk_cell BK125.out 2).trans rfl; have hcz65_3 : w64.cell? ⟨gb125, 3, none⟩ = some (.bool a0_3) := (blk_cell BK125.out 3).trans rfl; have hfz65_0 := blk_frozen BK125.out 0; have hfz65_1 := blk_frozen BK125.out 1; have hfz65_2 := blk_frozen BK125.out 2; have hfz65_3 := blk_frozen BK125.out 3) | ((with_reducible refine gate_callee (f := 38) rfl ?_); refine goesL_ (some 72) rfl rfl Tryd.func38 (by kernel_rfl) rfl #[.pointer (some ⟨gb129, 0, none⟩), .string a0_2] rfl tq5_4 ?_; (refine (Kd.B_WriteString (tq5_3 HO148.out) a0_2 (tq5_9 LMc63.out)).mono ?_); rintro e w66 ⟨rfl, ho, hk⟩; refine ⟨_, rfl, ?_⟩; rw [← Ny149.out] at ho; have n0_ := Aq5 (BKeep.blk' hk (g := gb125) (o := .cells #[.int .i64 a0_0, .slice A0_1 l0_1.length c0_1, .string a0_2, .bool a0_3] 24 (0, 0)) (tq5_5 BK125.out) ⟨by decide, by decide⟩); have n1_ := Aq5 (Below.trans (tq5_7 GE125.out) hk.below); have n2_ := Aq5 (ho); clear BK125; clear HB; clear HO148; have BK125 := n0_; have HB := n1_; have HO150 := n2_; clear n0_ n1_ n2_; clear ho hk) | ((with_reducible refine gate_callee (f := 41) rfl ?_); refine goesL_ (some 73) rfl rfl Tryd.func41 (by kernel_rfl) rfl #[.pointer (some ⟨gb129, 0, none⟩)] rfl tq5_4 ?_; (refine (Kd.B_String (tq5_3 HO150.out)).mono ?_); rintro e w67 ⟨rfl, hb⟩; refine ⟨_, rfl, ?_⟩; have n0_ := Aq5 (Below.trans (tq5_7 GE125.out) hb); clear HB; clear BK125; clear HO150; have HB := n0_; clear n0_; clear hb)))
                     go_ret2
                     exact ⟨tq5_2, tq5_6⟩
                    ·rw [if_neg c63] at H
                     exact absurd H (by simp)
                  ·rw [if_neg c59] at H
                   exact absurd H (by simp)
               ·rw [if_neg c48] at H
                exact absurd H (by simp)
              ·rw [if_neg c47] at H
               exact absurd H (by simp)
             ·rw [if_neg c46] at H
              exact absurd H (by simp)
         ·rw [if_neg c18] at H
          exact absurd H (by simp)
        ·rw [if_neg c17] at H
         exact absurd H (by simp)
       ·rw [if_neg c16] at H
        exact absurd H (by simp)
      ·rw [if_neg c15] at H
       exact absurd H (by simp)
     ·rw [if_neg c14] at H
      exact absurd H (by simp)

end Go.Proofs.YtdlfdmbaejhaaaaDoor.Q
