/- The plain Lean functions that calls of the program answer, and proofs that they do. Printed by program out of the translation; Lean checks it. -/
import Derived.Test.YtdlfdmbaejhaaaaDoorQ0
import Derived.Test.YtdlfdmbaejhaaaaDoorQ3
import Derived.Test.YtdlfdmbaejhaaaaDoorQ4
import Derived.Test.YtdlfdmbaejhaaaaDoorQ6
import Derived.Test.YtdlfdmbaejhaaaaDoorLib
namespace Go.Proofs.YtdlfdmbaejhaaaaDoor.Q
open Go.RowKit Go.Proofs.YtdlfdmbaejhaaaaDoorW.PrintWords Go.Proofs.YtdlfdmbaejhaaaaDoorW.PrintLast Go.Proofs.YtdlfdmbaejhaaaaDoorW.PrintMore
attribute [local go_sem] max2_int min2_int max_two min_two max_three min_three max_four min_four   -- for this text's walks alone
set_option linter.unusedVariables false
set_option linter.unusedSimpArgs false

theorem Aq7 {p : Prop} (h : p) : Aside0 p := ⟨h⟩
theorem tq7_0 {P : Prop} (h : P := by first | rfl | (simp; done) | (simp [*]; done)) : P := h
theorem tq7_1 {P : Prop} (h : P := by first | (with_reducible assumption) | assumption) : P := h
theorem tq7_2 {P : Prop} (h : P := by first | rfl | (simp [errW_none, errW_some] <;> rfl) | (simp [*, errW_none, errW_some] <;> rfl)) : P := h
theorem tq7_3 {P Q0 : Prop} (y0 : Q0) (h : Q0 → P := by intro y0_; (with_reducible repeat (first | apply Kd.R_alloc | apply Kd.R_drewN | apply Kd.R_drew)); exact y0_) : P := h y0
theorem tq7_4 {P Q0 : Prop} (y0 : Q0) (h : Q0 → P := by intro y0_; rw [← hq_]; exact (tq7_3 y0_)) : P := h y0
theorem tq7_5 {P Q0 : Prop} (y0 : Q0) (h : Q0 → P := by intro y0_; (with_reducible repeat (first | refine blk_drewN ?_ _ | refine blk_drew ?_ | refine blk_alloc ?_ _)); exact y0_) : P := h y0
theorem tq7_6 {P Q0 : Prop} (y0 : Q0) (h : Q0 → P := by intro y0_; rw [← hq_]; exact (tq7_5 y0_)) : P := h y0
theorem tq7_7 {P : Prop} (h : P := by repeat (first | (with_reducible first | exact HB.out | apply below_alloc | apply pw_below_drewN | apply below_drew1) | exact HB.out)) : P := h
theorem tq7_8 {P : Prop} (h : P := by (try simp only [List.map_toArray, List.map_cons, List.map_nil]); first | done | rfl | (simp only [List.length_drop, List.length_take]; rfl)) : P := h
theorem tq7_9 {P : Prop} (h : P := by first | exact Kd.R_nil _ _ _ _ _ | exact Kd.N_nil _ _ _ _ _ | exact Kd.V_nil _ _ _ _ _ | exact Kd.Q_nil _ _ _ _ _ | exact Kd.S_nil _ _ _ _ _) : P := h
theorem tq7_a {P Q0 : Prop} (y0 : Q0) (h : Q0 → P := by intro y0_; repeat (first | (with_reducible first | exact HB.out | apply below_alloc | apply pw_below_drewN | apply below_drew1 | refine below_set ?_ y0_) | exact HB.out)) : P := h y0
theorem tq7_b {P Q0 Q1 : Prop} (y0 : Q0) (y1 : Q1) (h : Q0 → Q1 → P := by intro y0_ y1_; repeat (first | (with_reducible first | exact HB.out | apply below_alloc | apply pw_below_drewN | apply below_drew1 | refine below_set ?_ y0_ | refine below_set ?_ y1_) | exact HB.out)) : P := h y0 y1
theorem tq7_c {P Q0 Q1 Q2 : Prop} (y0 : Q0) (y1 : Q1) (y2 : Q2) (h : Q0 → Q1 → Q2 → P := by intro y0_ y1_ y2_; repeat (first | (with_reducible first | exact HB.out | apply below_alloc | apply pw_below_drewN | apply below_drew1 | refine below_set ?_ y0_ | refine below_set ?_ y1_ | refine below_set ?_ y2_) | exact HB.out)) : P := h y0 y1 y2
theorem tq7_d {P Q0 Q1 : Prop} (y0 : Q0) (y1 : Q1) (h : Q0 → Q1 → P := by intro y0_ y1_; (with_reducible repeat (first | apply Kd.R_alloc | apply Kd.R_drewN | apply Kd.R_drew)); exact Kd.R_mono (Kd.R_far (p := ⟨gb161, 3, none⟩) (Kd.R_types y0_ y1_ (by decide)) (fun _ hk => hk.2) (.bool true)) (fun _ hk => trivial)) : P := h y0 y1
theorem tq7_e {P Q0 Q1 : Prop} (y0 : Q0) (y1 : Q1) (h : Q0 → Q1 → P := by intro y0_ y1_; (with_reducible repeat (first | apply Kd.R_alloc | apply Kd.R_drewN | apply Kd.R_drew)); exact Kd.R_mono (Kd.R_far (p := ⟨gb161, 3, none⟩) (Kd.R_types y0_ y1_ (by decide)) (fun _ hk => hk.2) (.bool false)) (fun _ hk => trivial)) : P := h y0 y1
theorem tq7_f {P Q0 Q1 : Prop} (y0 : Q0) (y1 : Q1) (h : Q0 → Q1 → P := by intro y0_ y1_; (with_reducible repeat (first | apply Kd.R_alloc | apply Kd.R_drewN | apply Kd.R_drew)); exact Kd.R_mono (Kd.R_far (p := ⟨gb161, 0, none⟩) (Kd.R_types y0_ y1_ (by decide)) (fun _ hk => hk.2) (.int .i64 t166)) (fun _ hk => trivial)) : P := h y0 y1
theorem tq7_g {P Q0 Q1 : Prop} (y0 : Q0) (y1 : Q1) (h : Q0 → Q1 → P := by intro y0_ y1_; (with_reducible repeat (first | refine blk_drewN ?_ _ | refine blk_drew ?_ | refine blk_alloc ?_ _)); refine blk_far ?_ y0_ _; (with_reducible repeat (first | refine blk_drewN ?_ _ | refine blk_drew ?_ | refine blk_alloc ?_ _)); exact y1_) : P := h y0 y1
theorem tq7_h {P Q0 Q1 : Prop} (y0 : Q0) (y1 : Q1) (h : Q0 → Q1 → P := by intro y0_ y1_; (with_reducible repeat (first | apply Kd.R_alloc | apply Kd.R_drewN | apply Kd.R_drew)); exact Kd.R_mono (Kd.R_far (p := ⟨gb161, 1, none⟩) (Kd.R_types y0_ y1_ (by decide)) (fun _ hk => hk.2) (.slice Ao67 y175.length co67)) (fun _ hk => trivial)) : P := h y0 y1
theorem tq7_i {P Q0 Q1 : Prop} (y0 : Q0) (y1 : Q1) (h : Q0 → Q1 → P := by intro y0_ y1_; (iterate 2 ((with_reducible repeat (first | refine blk_drewN ?_ _ | refine blk_drew ?_ | refine blk_alloc ?_ _)); refine blk_far ?_ y0_ _)); (with_reducible repeat (first | refine blk_drewN ?_ _ | refine blk_drew ?_ | refine blk_alloc ?_ _)); exact y1_) : P := h y0 y1
theorem tq7_j {P Q0 Q1 : Prop} (y0 : Q0) (y1 : Q1) (h : Q0 → Q1 → P := by intro y0_ y1_; (with_reducible repeat (first | apply Kd.R_alloc | apply Kd.R_drewN | apply Kd.R_drew)); exact (Kd.R_mono (Kd.R_far (p := ⟨gb173, 1, none⟩) (Kd.R_far (p := ⟨gb173, 0, none⟩) (Kd.R_types y0_ y1_ (by decide)) (fun _ hk => hk.2) (.string t169)) (fun _ hk => hk.2) (.string t170)) (fun _ h_ => h_.1))) : P := h y0 y1
theorem tq7_k {P Q0 : Prop} (y0 : Q0) (h : Q0 → P := by intro y0_; (with_reducible repeat (first | apply Kd.R_alloc | apply Kd.R_drewN | apply Kd.R_drew)); exact (Kd.R_mono (Kd.R_far (p := ⟨gb173, 1, none⟩) (Kd.R_far (p := ⟨gb173, 0, none⟩) (Kd.R_mono y0_ (fun k_ hk => (⟨hk, hk.2⟩ : _ ∧ k_ ≠ gb173))) (fun _ hk => hk.2) (.string t169)) (fun _ hk => hk.2) (.string t170)) (fun _ h_ => h_.1))) : P := h y0
theorem tq7_l {P Q0 : Prop} (y0 : Q0) (h : Q0 → P := by intro y0_; (with_reducible repeat (first | refine blk_drewN ?_ _ | refine blk_drew ?_ | refine blk_alloc ?_ _)); refine blk_put (cs := #[.int .i64 x162000_1, u162001, .string (⟨#[]⟩ : ByteArray), .bool x162003_1]) ?_ 3 _ rfl; (with_reducible repeat (first | refine blk_drewN ?_ _ | refine blk_drew ?_ | refine blk_alloc ?_ _)); exact y0_) : P := h y0
theorem tq7_m {P Q0 : Prop} (y0 : Q0) (h : Q0 → P := by intro y0_; (with_reducible repeat (first | refine blk_drewN ?_ _ | refine blk_drew ?_ | refine blk_alloc ?_ _)); refine blk_put (cs := #[.string t169, .string (⟨#[]⟩ : ByteArray)]) ?_ 1 _ rfl; (with_reducible repeat (first | refine blk_drewN ?_ _ | refine blk_drew ?_ | refine blk_alloc ?_ _)); refine blk_put (cs := #[.string (⟨#[]⟩ : ByteArray), .string (⟨#[]⟩ : ByteArray)]) ?_ 0 _ rfl; (with_reducible repeat (first | refine blk_drewN ?_ _ | refine blk_drew ?_ | refine blk_alloc ?_ _)); exact y0_) : P := h y0
theorem tq7_n {P Q0 : Prop} (y0 : Q0) (h : Q0 → P := by intro y0_; (with_reducible repeat (first | refine blk_drewN ?_ _ | refine blk_drew ?_ | refine blk_alloc ?_ _)); refine blk_put (cs := #[.int .i64 0, .slice none 0 0, .string (⟨#[]⟩ : ByteArray), .bool x161003_1]) ?_ 3 _ rfl; (with_reducible repeat (first | refine blk_drewN ?_ _ | refine blk_drew ?_ | refine blk_alloc ?_ _)); refine blk_put (cs := #[.int .i64 0, .slice none 0 0, .string x161002_1, .bool x161003_1]) ?_ 2 _ rfl; (with_reducible repeat (first | refine blk_drewN ?_ _ | refine blk_drew ?_ | refine blk_alloc ?_ _)); refine blk_put (cs := #[.int .i64 0, .slice none 0 0, .string x161002_1, .bool x161003_1]) ?_ 1 _ rfl; (with_reducible repeat (first | refine blk_drewN ?_ _ | refine blk_drew ?_ | refine blk_alloc ?_ _)); refine blk_put (cs := #[.int .i64 x161000_1, .slice none 0 0, .string x161002_1, .bool x161003_1]) ?_ 0 _ rfl; (with_reducible repeat (first | refine blk_drewN ?_ _ | refine blk_drew ?_ | refine blk_alloc ?_ _)); exact y0_) : P := h y0
theorem tq7_o {P Q0 Q1 : Prop} (y0 : Q0) (y1 : Q1) (h : Q0 → Q1 → P := by intro y0_ y1_; (with_reducible repeat (first | refine blk_drewN ?_ _ | refine blk_drew ?_ | refine blk_alloc ?_ _)); refine blk_put (cs := #[.int .i64 0, .slice none 0 0, .string (⟨#[]⟩ : ByteArray), .bool x161003_1]) ?_ 3 _ rfl; (with_reducible repeat (first | refine blk_drewN ?_ _ | refine blk_drew ?_ | refine blk_alloc ?_ _)); refine blk_put (cs := #[.int .i64 0, .slice none 0 0, .string x161002_1, .bool x161003_1]) ?_ 2 _ rfl; (with_reducible repeat (first | refine blk_drewN ?_ _ | refine blk_drew ?_ | refine blk_alloc ?_ _)); refine blk_put (cs := #[.int .i64 0, .slice none 0 0, .string x161002_1, .bool x161003_1]) ?_ 1 _ rfl; (with_reducible repeat (first | refine blk_drewN ?_ _ | refine blk_drew ?_ | refine blk_alloc ?_ _)); refine blk_put (cs := #[.int .i64 x161000_1, .slice none 0 0, .string x161002_1, .bool x161003_1]) ?_ 0 _ rfl; (with_reducible repeat (first | refine blk_drewN ?_ _ | refine blk_drew ?_ | refine blk_alloc ?_ _)); refine blk_far ?_ y0_ _; (with_reducible repeat (first | refine blk_drewN ?_ _ | refine blk_drew ?_ | refine blk_alloc ?_ _)); exact y1_) : P := h y0 y1
/-! ### reply_heading: function 55 -/
def reply_heading.l0 : Nat → ByteArray → Int → Int → List ByteArray → Int → Int → Int → List (S26) → ByteArray → Bool → Option (Int × (List (S26)) × ByteArray × Bool × Int × Bool)
 | 0, _, _, _, _, _, _, _, _, _, _ => none
 | k + 1, x0, x6, x7, x15, x16, x17, x162000, x162001, x162002, x162003 => if x17 < x16 then (if 0 ≤ x17 then (if x17 < (x15.length : Int) then (if (wrap64 (x7 + 1)) > 68 then (some (0, ([] : List (S26)), (⟨#[]⟩ : ByteArray), false, 0, false)) else (if (wrap64 (x7 + 1)) = 1 then ((reply_status.f k (rdOf ByteArray.empty x15 x17)).bind fun t166 => (if t166 = 0 then (some (0, ([] : List (S26)), (⟨#[]⟩ : ByteArray), false, 0, false)) else (reply_heading.l0 k x0 x6 (wrap64 (x7 + 1)) x15 x16 (wrap64 (x17 + 1)) t166 x162001 x162002 x162003))) else (if x6 ≥ 0 then (if (rdOf ByteArray.empty x15 x17).toList = ([67, 111, 110, 110, 101, 99, 116, 105, 111, 110, 58, 32, 99, 108, 111, 115, 101] : List UInt8) then ((reply_head.f k x162000 x162001 x162002 true x6).bind fun t167 => (some (x162000, x162001, x162002, true, x6, (x0.toList == t167.toList)))) else (if (rdOf ByteArray.empty x15 x17).toList = ([67, 111, 110, 110, 101, 99, 116, 105, 111, 110, 58, 32, 107, 101, 101, 112, 45, 97, 108, 105, 118, 101] : List UInt8) then ((reply_head.f k x162000 x162001 x162002 false x6).bind fun t168 => (some (x162000, x162001, x162002, false, x6, (x0.toList == t168.toList)))) else (some (0, ([] : List (S26)), (⟨#[]⟩ : ByteArray), false, 0, false)))) else ((strings_Cut.f (rdOf ByteArray.empty x15 x17) (⟨#[58, 32]⟩ : ByteArray)).bind fun bt169 => (if bt169.2.2 = true then ((reply_size.f k (rdOf ByteArray.empty x15 x17)).bind fun t172 => (if t172 ≥ 0 then (reply_heading.l0 k x0 t172 (wrap64 (x7 + 1)) x15 x16 (wrap64 (x17 + 1)) x162000 x162001 x162002 x162003) else ((reply_may.f k bt169.1 bt169.2.1).bind fun t174 => (if t174 = true then (if x162001.length < 4398046511104 then (reply_heading.l0 k x0 t172 (wrap64 (x7 + 1)) x15 x16 (wrap64 (x17 + 1)) x162000 (x162001 ++ [(⟨bt169.1, bt169.2.1⟩ : S26)]) x162002 x162003) else (none)) else (some (0, ([] : List (S26)), (⟨#[]⟩ : ByteArray), false, 0, false)))))) else (some (0, ([] : List (S26)), (⟨#[]⟩ : ByteArray), false, 0, false))))))) else (none)) else (none)) else (some (0, ([] : List (S26)), (⟨#[]⟩ : ByteArray), false, 0, false))
def reply_heading.f (k : Nat) (a0 : ByteArray) : Option (Int × (List (S26)) × ByteArray × Bool × Int × Bool) := (strings_Split.f a0 (⟨#[13, 10]⟩ : ByteArray)).bind fun t162 => (reply_heading.l0 k a0 (-1) 0 t162 (t162.length : Int) 0 0 ([] : List (S26)) (⟨#[]⟩ : ByteArray) false)
theorem reply_heading.mono_l : ∀ k, (∀ y0 y1 y2 y3 y4 y5 y6 y7 y8 y9, LeO (reply_heading.l0 k y0 y1 y2 y3 y4 y5 y6 y7 y8 y9) (reply_heading.l0 (k + 1) y0 y1 y2 y3 y4 y5 y6 y7 y8 y9))
 | 0 => fun _ _ _ _ _ _ _ _ _ _ r h => by simp [reply_heading.l0] at h
 | k + 1 => by
  have ih0 := reply_heading.mono_l k
  ·intro y0 y1 y2 y3 y4 y5 y6 y7 y8 y9
   unfold reply_heading.l0
   repeat' first
   | (with_reducible exact ih0 _ _ _ _ _ _ _ _ _ _)
   | (with_reducible exact reply_head.mono _ _ _ _ _ _)
   | (with_reducible exact reply_may.mono _ _ _)
   | (with_reducible exact reply_size.mono _ _)
   | (with_reducible exact reply_status.mono _ _)
   | (with_reducible exact LeO.refl _)
   | (with_reducible exact LeO.none _)
   | (with_reducible refine LeO.ite ?_ ?_)
   | (with_reducible refine LeO.bind ?_ (fun _ => ?_))
   | exact ih0 _ _ _ _ _ _ _ _ _ _
   | exact reply_head.mono _ _ _ _ _ _
   | exact reply_may.mono _ _ _
   | exact reply_size.mono _ _
   | exact reply_status.mono _ _
   | exact LeO.none _
   | refine LeO.ite ?_ ?_
   | refine LeO.bind ?_ (fun _ => ?_)
theorem reply_heading.mono : ∀ a0 k, LeO (reply_heading.f k a0) (reply_heading.f (k + 1) a0) := by
 intro a0 k
 have ih0 := reply_heading.mono_l k
 unfold reply_heading.f
 repeat' first
   | (with_reducible exact ih0 _ _ _ _ _ _ _ _ _ _)
   | (with_reducible exact reply_head.mono _ _ _ _ _ _)
   | (with_reducible exact reply_may.mono _ _ _)
   | (with_reducible exact reply_size.mono _ _)
   | (with_reducible exact reply_status.mono _ _)
   | (with_reducible exact LeO.refl _)
   | (with_reducible exact LeO.none _)
   | (with_reducible refine LeO.ite ?_ ?_)
   | (with_reducible refine LeO.bind ?_ (fun _ => ?_))
   | exact ih0 _ _ _ _ _ _ _ _ _ _
   | exact reply_head.mono _ _ _ _ _ _
   | exact reply_may.mono _ _ _
   | exact reply_size.mono _ _
   | exact reply_status.mono _ _
   | exact LeO.none _
   | refine LeO.ite ?_ ?_
   | refine LeO.bind ?_ (fun _ => ?_)
def reply_heading.T14 : Bool × List (List Nat × List Nat) := (true, [([], []), ([], []), ([], []), ([], []), ([], []), ([3, 4], [3, 4]), ([2, 5], [2, 5]), ([0, 5, 0], [0]), ([1, 7, 0, 1, 7], [1]), ([6, 8, 0, 1, 2, 3, 4, 5, 6, 7, 8], [6])])
def reply_heading.B14 : List Nat := [0, 0, 0, 0, 0, 24, 60, 57, 187, 511]
theorem reply_heading.tab14 : rtab .any (opsOf Tryd.f55 14) = reply_heading.T14 := by kernel_rfl
theorem reply_heading.bits14 : waitsOk reply_heading.T14.2 reply_heading.B14 = true := by kernel_rfl
set_option maxHeartbeats 8000000 in
set_option maxRecDepth 100000 in
theorem reply_heading.calls [Sent] (k : Nat) (a0 : ByteArray) (r1 : Int) (r2 : List (S26)) (r3 : ByteArray) (r4 : Bool) (r5 : Int) (r6 : Bool) (w : World) (h : reply_heading.f k a0 = some (r1, r2, r3, r4, r5, r6)) (hG : Glob [0, 2, 8, 9, 16, 18, 19] w) :
  Calls Tryd.prog 55 #[.string a0] w fun e w' => ∃ v1_ : Value, e = .returned (.tuple #[.agg #[.int .i64 r1, v1_, .string r3, .bool r4], .int .i64 r5, .bool r6]) ∧ Kd.R k26 26 w' w.heap.size (fun _ => True) v1_ r2 ∧ Below w.heap.size w w' := by
 have HG := Aq7 hG
 clear hG
 have hu24 := Tryd.underlying24
 have hu26 := Tryd.underlying26
 have HB := Aq7 (Below.refl w.heap.size w)
 have H : ((strings_Split.f a0 (⟨#[13, 10]⟩ : ByteArray)).bind fun t162 => (reply_heading.l0 k a0 (-1) 0 t162 (t162.length : Int) 0 0 ([] : List (S26)) (⟨#[]⟩ : ByteArray) false)) = some (r1, r2, r3, r4, r5, r6) := h
 clear h
 replace H := Option.bind_eq_some_iff.mp H
 obtain ⟨t162, A20, H⟩ := H
 replace H : (reply_heading.l0 k a0 (-1) 0 t162 (t162.length : Int) 0 0 ([] : List (S26)) (⟨#[]⟩ : ByteArray) false) = some (r1, r2, r3, r4, r5, r6) := H
 have A2 := Aq7 A20
 clear A20
 have H' := Aq7 H
 clear H
 go_enter Tryd.func55, Tryd.ntmps55
 iterate 2
   go_wp2_with (first | ((with_reducible refine gate_dst (N := 2) rfl ?_); refine box_event ?hg (N := 2) ?hd (cs := #[.int .i64 0, .slice none 0 0, .string (⟨#[]⟩ : ByteArray), .bool false]) (t := 24) ?hr ?_; (case hd => rfl); (case hg => rfl); (case hr => first | (go_simp; done) | (go_simp; rfl)); intro gb160 hg w3 hbox hb; have BK160 := Aq7 (hbox); have GW160 := Aq7 ((by rw [hg]; exact (below_size tq7_7) : w.heap.size ≤ gb160)); have GE160 := Aq7 ((by rw [hg]; exact (below_size tq7_7) : w.heap.size ≤ gb160)); replace HB := Aq7 (below_step tq7_7 hb); clear hb hbox hg) | ((with_reducible refine gate_dst (N := 5) rfl ?_); refine box_event ?hg (N := 5) ?hd (cs := #[.int .i64 0, .slice none 0 0, .string (⟨#[]⟩ : ByteArray), .bool false]) (t := 24) ?hr ?_; (case hd => rfl); (case hg => rfl); (case hr => first | (go_simp; done) | (go_simp; rfl)); intro gb161 hg w4 hbox hb; have BK161 := Aq7 (hbox); have GW161 := Aq7 ((by rw [hg]; exact (below_size (tq7_a GE160.out)) : w.heap.size ≤ gb161)); have GE161 := Aq7 ((by rw [hg]; exact (below_size (tq7_a GE160.out)) : w.heap.size ≤ gb161)); have NB160_161 := Aq7 ((by rw [hg]; exact Nat.ne_of_lt (blk_lt (g := gb160) (o := .cells #[.int .i64 0, .slice none 0 0, .string (⟨#[]⟩ : ByteArray), .bool false] 24 (0, 0)) (tq7_5 BK160.out)) : gb160 ≠ gb161)); have NB161_160 := Aq7 ((by rw [hg]; exact Nat.ne_of_gt (blk_lt (g := gb160) (o := .cells #[.int .i64 0, .slice none 0 0, .string (⟨#[]⟩ : ByteArray), .bool false] 24 (0, 0)) (tq7_5 BK160.out)) : gb161 ≠ gb160)); replace BK160 := Aq7 (blk_below (g := gb160) (o := .cells #[.int .i64 0, .slice none 0 0, .string (⟨#[]⟩ : ByteArray), .bool false] 24 (0, 0)) (tq7_5 BK160.out) hb); replace HB := Aq7 (below_step (tq7_a GE160.out) hb); clear hb hbox hg) | ((with_reducible refine gate_callee (f := 48) rfl ?_); refine goesL_ (some 15) rfl rfl Tryd.func48 (by kernel_rfl) rfl #[.string a0, .string (⟨#[13, 10]⟩ : ByteArray)] rfl tq7_8 ?_; (with_reducible refine (strings_Split.calls a0 (⟨#[13, 10]⟩ : ByteArray) t162 _ A2.out ?side1).mono ?_); (case side1 => exact HG.out.step (tq7_b GE160.out GE161.out) rfl); rintro e w5 ⟨v163, rfl, ho0, hb⟩; refine ⟨_, rfl, ?_⟩; have HO164 := Aq7 (Kd.R_lower ho0 (below_size (tq7_b GE160.out GE161.out))); replace BK160 := Aq7 (blk_below (g := gb160) (o := .cells #[.int .i64 0, .slice none 0 0, .string (⟨#[]⟩ : ByteArray), .bool false] 24 (0, 0)) (tq7_5 BK160.out) hb); replace BK161 := Aq7 (blk_below (g := gb161) (o := .cells #[.int .i64 0, .slice none 0 0, .string (⟨#[]⟩ : ByteArray), .bool false] 24 (0, 0)) (tq7_5 BK161.out) hb); replace HB := Aq7 (below_step (tq7_b GE160.out GE161.out) hb); (try clear hb); (try clear hb2); (try clear hk); (try clear hi); (try clear ho0); obtain ⟨Ao6, co6, eo6⟩ := Kd.R_slice HO164.out; subst eo6))
   go_step3
 go_wp2_with (first | ((with_reducible refine gate_dst (N := 2) rfl ?_); refine box_event ?hg (N := 2) ?hd (cs := #[.int .i64 0, .slice none 0 0, .string (⟨#[]⟩ : ByteArray), .bool false]) (t := 24) ?hr ?_; (case hd => rfl); (case hg => rfl); (case hr => first | (go_simp; done) | (go_simp; rfl)); intro gb160 hg w3 hbox hb; have BK160 := Aq7 (hbox); have GW160 := Aq7 ((by rw [hg]; exact (below_size tq7_7) : w.heap.size ≤ gb160)); have GE160 := Aq7 ((by rw [hg]; exact (below_size tq7_7) : w.heap.size ≤ gb160)); replace HB := Aq7 (below_step tq7_7 hb); clear hb hbox hg) | ((with_reducible refine gate_dst (N := 5) rfl ?_); refine box_event ?hg (N := 5) ?hd (cs := #[.int .i64 0, .slice none 0 0, .string (⟨#[]⟩ : ByteArray), .bool false]) (t := 24) ?hr ?_; (case hd => rfl); (case hg => rfl); (case hr => first | (go_simp; done) | (go_simp; rfl)); intro gb161 hg w4 hbox hb; have BK161 := Aq7 (hbox); have GW161 := Aq7 ((by rw [hg]; exact (below_size (tq7_a GE160.out)) : w.heap.size ≤ gb161)); have GE161 := Aq7 ((by rw [hg]; exact (below_size (tq7_a GE160.out)) : w.heap.size ≤ gb161)); have NB160_161 := Aq7 ((by rw [hg]; exact Nat.ne_of_lt (blk_lt (g := gb160) (o := .cells #[.int .i64 0, .slice none 0 0, .string (⟨#[]⟩ : ByteArray), .bool false] 24 (0, 0)) (tq7_5 BK160.out)) : gb160 ≠ gb161)); have NB161_160 := Aq7 ((by rw [hg]; exact Nat.ne_of_gt (blk_lt (g := gb160) (o := .cells #[.int .i64 0, .slice none 0 0, .string (⟨#[]⟩ : ByteArray), .bool false] 24 (0, 0)) (tq7_5 BK160.out)) : gb161 ≠ gb160)); replace BK160 := Aq7 (blk_below (g := gb160) (o := .cells #[.int .i64 0, .slice none 0 0, .string (⟨#[]⟩ : ByteArray), .bool false] 24 (0, 0)) (tq7_5 BK160.out) hb); replace HB := Aq7 (below_step (tq7_a GE160.out) hb); clear hb hbox hg) | ((with_reducible refine gate_callee (f := 48) rfl ?_); refine goesL_ (some 15) rfl rfl Tryd.func48 (by kernel_rfl) rfl #[.string a0, .string (⟨#[13, 10]⟩ : ByteArray)] rfl tq7_8 ?_; (with_reducible refine (strings_Split.calls a0 (⟨#[13, 10]⟩ : ByteArray) t162 _ A2.out ?side1).mono ?_); (case side1 => exact HG.out.step (tq7_b GE160.out GE161.out) rfl); rintro e w5 ⟨v163, rfl, ho0, hb⟩; refine ⟨_, rfl, ?_⟩; have HO164 := Aq7 (Kd.R_lower ho0 (below_size (tq7_b GE160.out GE161.out))); replace BK160 := Aq7 (blk_below (g := gb160) (o := .cells #[.int .i64 0, .slice none 0 0, .string (⟨#[]⟩ : ByteArray), .bool false] 24 (0, 0)) (tq7_5 BK160.out) hb); replace BK161 := Aq7 (blk_below (g := gb161) (o := .cells #[.int .i64 0, .slice none 0 0, .string (⟨#[]⟩ : ByteArray), .bool false] 24 (0, 0)) (tq7_5 BK161.out) hb); replace HB := Aq7 (below_step (tq7_b GE160.out GE161.out) hb); (try clear hb); (try clear hb2); (try clear hk); (try clear hi); (try clear ho0); obtain ⟨Ao6, co6, eo6⟩ := Kd.R_slice HO164.out; subst eo6))
 go_loopg [6, 7, 17] k (fun kq v6 v7 v17 w' => ∃ (x6_1 : Int) (x7_1 : Int) (x17_1 : Int) (x161000_1 : Int) (x161002_1 : ByteArray) (x161003_1 : Bool) (x162000_1 : Int) (x162001_1 : List (S26)) (x162003_1 : Bool) (u162001 : Value), v6 = .int .i64 x6_1 ∧ v7 = .int .i64 x7_1 ∧ v17 = .int .i64 x17_1 ∧ Aside0 (reply_heading.l0 kq a0 x6_1 x7_1 t162 (t162.length : Int) x17_1 x162000_1 x162001_1 (⟨#[]⟩ : ByteArray) x162003_1 = some (r1, r2, r3, r4, r5, r6)) ∧ Aside0 (kq ≤ k) ∧ Aside0 (Kd.R Kd.string 9 w' w.heap.size (fun _ => True) (.slice Ao6 t162.length co6) t162) ∧ Aside0 (Kd.R k26 26 w' w.heap.size (fun _ => True) u162001 x162001_1) ∧ Aside0 (w'.heap[gb160]? = some (.cells #[.int .i64 x161000_1, (.slice none 0 0), .string x161002_1, .bool x161003_1] 24 (0, 0))) ∧ Aside0 (w'.heap[gb161]? = some (.cells #[.int .i64 x162000_1, u162001, .string (⟨#[]⟩ : ByteArray), .bool x162003_1] 24 (0, 0))) ∧ Aside0 (Below w.heap.size w w'))
 case atStart => exact ⟨((-1)), (0), (0), (0), ((⟨#[]⟩ : ByteArray)), (false), (0), (([] : List (S26))), (false), (.slice none 0 0), tq7_0, tq7_0, tq7_0, H', ⟨Nat.le_refl _⟩, ⟨(tq7_3 HO164.out)⟩, ⟨tq7_9⟩, ⟨(tq7_5 BK160.out)⟩, ⟨(tq7_5 BK161.out)⟩, ⟨(tq7_b GE160.out GE161.out)⟩⟩
 case round =>
  clear H'
  try clear p2
  try clear p3
  try clear c4
  try clear c5
  obtain ⟨x6_1, x7_1, x17_1, x161000_1, x161002_1, x161003_1, x162000_1, x162001_1, x162003_1, u162001, rfl, rfl, rfl, HA, HK1, HO_15, HO_162001, BK160, BK161, HB⟩ := hrel
  cases gk with
  | zero => exact absurd HA.out (by simp [reply_heading.l0])
  | succ k1 =>
   have H := HA.out
   clear HA
   simp only [reply_heading.l0] at H
   by_cases c7 : x17_1 < (t162.length : Int)
   ·rw [if_pos c7] at H
    have c7b0 : decide (x17_1 < (t162.length : Int)) = true := decide_eq_true c7
    clear c7
    by_cases c8 : 0 ≤ x17_1
    ·rw [if_pos c8] at H
     have c8b0 : decide (0 ≤ x17_1) = true := decide_eq_true c8
     clear c8
     by_cases c9 : x17_1 < (t162.length : Int)
     ·rw [if_pos c9] at H
      have c9b0 : decide (x17_1 < (t162.length : Int)) = true := decide_eq_true c9
      clear c9
      by_cases c10 : (wrap64 (x7_1 + 1)) > 68
      ·rw [if_pos c10] at H
       have c10b0 : decide (68 < (wrap64 (x7_1 + 1))) = true := decide_eq_true c10
       clear c10
       simp only [Option.some.injEq, Prod.mk.injEq] at H
       obtain ⟨rfl, rfl, rfl, rfl, rfl, rfl⟩ := H
       have p165 : 0 ≤ (x17_1 : Int) := of_decide_eq_true tq7_1
       have q165 : x17_1 < (t162.length : Int) := of_decide_eq_true tq7_1
       obtain ⟨ad165, e165, hx165_0⟩ := Kd.at_string (Kd.R_reads' HO_15.out).2.2 x17_1 p165 q165
       cases e165
       replace p165 := eq_true p165
       replace q165 := eq_true q165
       have hnb11 := NB160_161.out
       have hnc11 := NB161_160.out
       have hcz12_0 : wr.cell? ⟨gb160, 0, none⟩ = some (.int .i64 x161000_1) := (blk_cell BK160.out 0).trans rfl
       have hcz12_1 : wr.cell? ⟨gb160, 1, none⟩ = some (.slice none 0 0) := (blk_cell BK160.out 1).trans rfl
       have hcz12_2 : wr.cell? ⟨gb160, 2, none⟩ = some (.string x161002_1) := (blk_cell BK160.out 2).trans rfl
       have hcz12_3 : wr.cell? ⟨gb160, 3, none⟩ = some (.bool x161003_1) := (blk_cell BK160.out 3).trans rfl
       have hfz12_0 := blk_frozen BK160.out 0
       have hfz12_1 := blk_frozen BK160.out 1
       have hfz12_2 := blk_frozen BK160.out 2
       have hfz12_3 := blk_frozen BK160.out 3
       go_wp2
       (try rw [Exit.noGoto_ret])
       refine bodyPost_ret (results_ctt rfl _ _ gb160 24 #[.int .i64 0, .slice none 0 0, .string (⟨#[]⟩ : ByteArray), .bool false] (0, 0) _ rfl (tq7_n BK160.out) Tryd.underlying24 rfl (by kernel_rfl)) rfl ?_
       exact ⟨_, tq7_2, tq7_9, (tq7_b GE160.out GE161.out)⟩
      ·rw [if_neg c10] at H
       have c10b0 : decide (68 < (wrap64 (x7_1 + 1))) = false := decide_eq_false c10
       clear c10
       by_cases c13 : (wrap64 (x7_1 + 1)) = 1
       ·rw [if_pos c13] at H
        have c13b0 : ((wrap64 (x7_1 + 1)) == 1) = true := beq_iff_eq.mpr c13
        have c13b1 : ((wrap64 (x7_1 + 1)) != 1) = false := bne_eq_false_iff_eq.mpr c13
        clear c13
        replace H := Option.bind_eq_some_iff.mp H
        obtain ⟨t166, A140, H⟩ := H
        replace H : (if t166 = 0 then (some (0, ([] : List (S26)), (⟨#[]⟩ : ByteArray), false, 0, false)) else (reply_heading.l0 k1 a0 x6_1 (wrap64 (x7_1 + 1)) t162 (t162.length : Int) (wrap64 (x17_1 + 1)) t166 x162001_1 (⟨#[]⟩ : ByteArray) x162003_1)) = some (r1, r2, r3, r4, r5, r6) := H
        have A14 := Aq7 A140
        clear A140
        by_cases c15 : t166 = 0
        ·rw [if_pos c15] at H
         have c15b0 : (t166 == 0) = true := beq_iff_eq.mpr c15
         have c15b1 : (t166 != 0) = false := bne_eq_false_iff_eq.mpr c15
         clear c15
         simp only [Option.some.injEq, Prod.mk.injEq] at H
         obtain ⟨rfl, rfl, rfl, rfl, rfl, rfl⟩ := H
         have p165 : 0 ≤ (x17_1 : Int) := of_decide_eq_true tq7_1
         have q165 : x17_1 < (t162.length : Int) := of_decide_eq_true tq7_1
         obtain ⟨ad165, e165, hx165_0⟩ := Kd.at_string (Kd.R_reads' HO_15.out).2.2 x17_1 p165 q165
         cases e165
         replace p165 := eq_true p165
         replace q165 := eq_true q165
         go_wp2_with (first | ((with_reducible refine gate_callee (f := 75) rfl ?_); refine goesL_ (some 30) rfl rfl Tryd.func75 (by kernel_rfl) rfl #[.string (rdOf ByteArray.empty t162 x17_1)] rfl tq7_8 ?_; (with_reducible refine (reply_status.calls k1 (rdOf ByteArray.empty t162 x17_1) t166 _ A14.out ?side1).mono ?_); (case side1 => exact HG.out.step (tq7_b GE160.out GE161.out) rfl); rintro e w16 ⟨rfl, hb⟩; refine ⟨_, rfl, ?_⟩; replace HO_15 := Aq7 (Kd.R_below (tq7_3 HO_15.out) hb); replace HO_162001 := Aq7 (Kd.R_below (tq7_3 HO_162001.out) hb); replace BK160 := Aq7 (blk_below (g := gb160) (o := .cells #[.int .i64 x161000_1, .slice none 0 0, .string x161002_1, .bool x161003_1] 24 (0, 0)) (tq7_5 BK160.out) hb); replace BK161 := Aq7 (blk_below (g := gb161) (o := .cells #[.int .i64 x162000_1, u162001, .string (⟨#[]⟩ : ByteArray), .bool x162003_1] 24 (0, 0)) (tq7_5 BK161.out) hb); replace HB := Aq7 (below_step (tq7_b GE160.out GE161.out) hb); (try clear hb); (try clear hb2); (try clear hk); (try clear hi); have hnb17 := NB161_160.out; have hnc17 := NB160_161.out; have hcz18_0 : w16.cell? ⟨gb161, 0, none⟩ = some (.int .i64 x162000_1) := (blk_cell BK161.out 0).trans rfl; have hcz18_1 : w16.cell? ⟨gb161, 1, none⟩ = some (u162001) := (blk_cell BK161.out 1).trans rfl; have hcz18_2 : w16.cell? ⟨gb161, 2, none⟩ = some (.string (⟨#[]⟩ : ByteArray)) := (blk_cell BK161.out 2).trans rfl; have hcz18_3 : w16.cell? ⟨gb161, 3, none⟩ = some (.bool x162003_1) := (blk_cell BK161.out 3).trans rfl; have hfz18_0 := blk_frozen BK161.out 0; have hfz18_1 := blk_frozen BK161.out 1; have hfz18_2 := blk_frozen BK161.out 2; have hfz18_3 := blk_frozen BK161.out 3; have hcz19_0 : w16.cell? ⟨gb160, 0, none⟩ = some (.int .i64 x161000_1) := (blk_cell BK160.out 0).trans rfl; have hcz19_1 : w16.cell? ⟨gb160, 1, none⟩ = some (.slice none 0 0) := (blk_cell BK160.out 1).trans rfl; have hcz19_2 : w16.cell? ⟨gb160, 2, none⟩ = some (.string x161002_1) := (blk_cell BK160.out 2).trans rfl; have hcz19_3 : w16.cell? ⟨gb160, 3, none⟩ = some (.bool x161003_1) := (blk_cell BK160.out 3).trans rfl; have hfz19_0 := blk_frozen BK160.out 0; have hfz19_1 := blk_frozen BK160.out 1; have hfz19_2 := blk_frozen BK160.out 2; have hfz19_3 := blk_frozen BK160.out 3))
         (try rw [Exit.noGoto_ret])
         refine bodyPost_ret (results_ctt rfl _ _ gb160 24 #[.int .i64 0, .slice none 0 0, .string (⟨#[]⟩ : ByteArray), .bool false] (0, 0) _ rfl (tq7_o NB160_161.out BK160.out) Tryd.underlying24 rfl (by kernel_rfl)) rfl ?_
         exact ⟨_, tq7_2, tq7_9, (tq7_b GE160.out GE161.out)⟩
        ·rw [if_neg c15] at H
         have c15b0 : (t166 == 0) = false := beq_eq_false_iff_ne.mpr c15
         have c15b1 : (t166 != 0) = true := bne_iff_ne.mpr c15
         have H' := Aq7 H
         clear H
         have p165 : 0 ≤ (x17_1 : Int) := of_decide_eq_true tq7_1
         have q165 : x17_1 < (t162.length : Int) := of_decide_eq_true tq7_1
         obtain ⟨ad165, e165, hx165_0⟩ := Kd.at_string (Kd.R_reads' HO_15.out).2.2 x17_1 p165 q165
         cases e165
         replace p165 := eq_true p165
         replace q165 := eq_true q165
         go_wp2_with (first | ((with_reducible refine gate_callee (f := 75) rfl ?_); refine goesL_ (some 30) rfl rfl Tryd.func75 (by kernel_rfl) rfl #[.string (rdOf ByteArray.empty t162 x17_1)] rfl tq7_8 ?_; (with_reducible refine (reply_status.calls k1 (rdOf ByteArray.empty t162 x17_1) t166 _ A14.out ?side1).mono ?_); (case side1 => exact HG.out.step (tq7_b GE160.out GE161.out) rfl); rintro e w20 ⟨rfl, hb⟩; refine ⟨_, rfl, ?_⟩; replace HO_15 := Aq7 (Kd.R_below (tq7_3 HO_15.out) hb); replace HO_162001 := Aq7 (Kd.R_below (tq7_3 HO_162001.out) hb); replace BK160 := Aq7 (blk_below (g := gb160) (o := .cells #[.int .i64 x161000_1, .slice none 0 0, .string x161002_1, .bool x161003_1] 24 (0, 0)) (tq7_5 BK160.out) hb); replace BK161 := Aq7 (blk_below (g := gb161) (o := .cells #[.int .i64 x162000_1, u162001, .string (⟨#[]⟩ : ByteArray), .bool x162003_1] 24 (0, 0)) (tq7_5 BK161.out) hb); replace HB := Aq7 (below_step (tq7_b GE160.out GE161.out) hb); (try clear hb); (try clear hb2); (try clear hk); (try clear hi); have hnb21 := NB161_160.out; have hnc21 := NB160_161.out; have hcz22_0 : w20.cell? ⟨gb161, 0, none⟩ = some (.int .i64 x162000_1) := (blk_cell BK161.out 0).trans rfl; have hcz22_1 : w20.cell? ⟨gb161, 1, none⟩ = some (u162001) := (blk_cell BK161.out 1).trans rfl; have hcz22_2 : w20.cell? ⟨gb161, 2, none⟩ = some (.string (⟨#[]⟩ : ByteArray)) := (blk_cell BK161.out 2).trans rfl; have hcz22_3 : w20.cell? ⟨gb161, 3, none⟩ = some (.bool x162003_1) := (blk_cell BK161.out 3).trans rfl; have hfz22_0 := blk_frozen BK161.out 0; have hfz22_1 := blk_frozen BK161.out 1; have hfz22_2 := blk_frozen BK161.out 2; have hfz22_3 := blk_frozen BK161.out 3))
         go_roundg k1
         case measure => have := HK1.out; omega
         case rel => exact ⟨(x6_1), (wrap64 (x7_1 + 1)), (wrap64 (x17_1 + 1)), (x161000_1), (x161002_1), (x161003_1), (t166), (x162001_1), (x162003_1), (u162001), tq7_0, tq7_0, tq7_0, H', ⟨by have := HK1.out; omega⟩, ⟨(tq7_f HO_15.out BK161.out)⟩, ⟨(tq7_f HO_162001.out BK161.out)⟩, ⟨(tq7_g NB160_161.out BK160.out)⟩, ⟨by (with_reducible repeat (first | refine blk_drewN ?_ _ | refine blk_drew ?_ | refine blk_alloc ?_ _)); refine blk_put (cs := #[.int .i64 x162000_1, u162001, .string (⟨#[]⟩ : ByteArray), .bool x162003_1]) ?_ 0 _ rfl; (with_reducible repeat (first | refine blk_drewN ?_ _ | refine blk_drew ?_ | refine blk_alloc ?_ _)); exact BK161.out⟩, ⟨(tq7_b GE160.out GE161.out)⟩⟩
       ·rw [if_neg c13] at H
        have c13b0 : ((wrap64 (x7_1 + 1)) == 1) = false := beq_eq_false_iff_ne.mpr c13
        have c13b1 : ((wrap64 (x7_1 + 1)) != 1) = true := bne_iff_ne.mpr c13
        by_cases c23 : x6_1 ≥ 0
        ·rw [if_pos c23] at H
         have c23b0 : decide (0 ≤ x6_1) = true := decide_eq_true c23
         clear c23
         by_cases c24 : (rdOf ByteArray.empty t162 x17_1).toList = ([67, 111, 110, 110, 101, 99, 116, 105, 111, 110, 58, 32, 99, 108, 111, 115, 101] : List UInt8)
         ·rw [if_pos c24] at H
          have c24b0 : ((rdOf ByteArray.empty t162 x17_1).toList == ([67, 111, 110, 110, 101, 99, 116, 105, 111, 110, 58, 32, 99, 108, 111, 115, 101] : List UInt8)) = true := beq_iff_eq.mpr c24
          have c24b1 : ((rdOf ByteArray.empty t162 x17_1).toList != ([67, 111, 110, 110, 101, 99, 116, 105, 111, 110, 58, 32, 99, 108, 111, 115, 101] : List UInt8)) = false := bne_eq_false_iff_eq.mpr c24
          clear c24
          replace H := Option.bind_eq_some_iff.mp H
          obtain ⟨t167, A250, H⟩ := H
          replace H : (some (x162000_1, x162001_1, (⟨#[]⟩ : ByteArray), true, x6_1, (a0.toList == t167.toList))) = some (r1, r2, r3, r4, r5, r6) := H
          have A25 := Aq7 A250
          clear A250
          simp only [Option.some.injEq, Prod.mk.injEq] at H
          obtain ⟨rfl, rfl, rfl, rfl, rfl, rfl⟩ := H
          have p165 : 0 ≤ (x17_1 : Int) := of_decide_eq_true tq7_1
          have q165 : x17_1 < (t162.length : Int) := of_decide_eq_true tq7_1
          obtain ⟨ad165, e165, hx165_0⟩ := Kd.at_string (Kd.R_reads' HO_15.out).2.2 x17_1 p165 q165
          cases e165
          replace p165 := eq_true p165
          replace q165 := eq_true q165
          have hnb26 := NB161_160.out
          have hnc26 := NB160_161.out
          have hcz27_0 : wr.cell? ⟨gb161, 0, none⟩ = some (.int .i64 x162000_1) := (blk_cell BK161.out 0).trans rfl
          have hcz27_1 : wr.cell? ⟨gb161, 1, none⟩ = some (u162001) := (blk_cell BK161.out 1).trans rfl
          have hcz27_2 : wr.cell? ⟨gb161, 2, none⟩ = some (.string (⟨#[]⟩ : ByteArray)) := (blk_cell BK161.out 2).trans rfl
          have hcz27_3 : wr.cell? ⟨gb161, 3, none⟩ = some (.bool x162003_1) := (blk_cell BK161.out 3).trans rfl
          have hfz27_0 := blk_frozen BK161.out 0
          have hfz27_1 := blk_frozen BK161.out 1
          have hfz27_2 := blk_frozen BK161.out 2
          have hfz27_3 := blk_frozen BK161.out 3
          try go_wp2
          have n0_ : Aside0 (Kd.R Kd.string 9 (wr.setCell ⟨gb161, 3, none⟩ (.bool true)) w.heap.size (fun _ => True) (.slice (some ad165) t162.length co6) t162) := ⟨(tq7_d HO_15.out BK161.out)⟩
          have n1_ : Aside0 (Kd.R k26 26 (wr.setCell ⟨gb161, 3, none⟩ (.bool true)) w.heap.size (fun _ => True) u162001 x162001_1) := ⟨(tq7_d HO_162001.out BK161.out)⟩
          have n2_ : Aside0 ((wr.setCell ⟨gb161, 3, none⟩ (.bool true)).heap[gb160]? = some (.cells #[.int .i64 x161000_1, .slice none 0 0, .string x161002_1, .bool x161003_1] 24 (0, 0))) := ⟨(tq7_g NB160_161.out BK160.out)⟩
          have n3_ : Aside0 ((wr.setCell ⟨gb161, 3, none⟩ (.bool true)).heap[gb161]? = some (.cells #[.int .i64 x162000_1, u162001, .string (⟨#[]⟩ : ByteArray), .bool true] 24 (0, 0))) := ⟨(tq7_l BK161.out)⟩
          have n4_ : Aside0 (Below w.heap.size w (wr.setCell ⟨gb161, 3, none⟩ (.bool true))) := ⟨(tq7_b GE160.out GE161.out)⟩
          (try clear HO_15)
          (try clear HO_162001)
          (try clear BK160)
          (try clear BK161)
          (try clear HB)
          generalize (wr.setCell ⟨gb161, 3, none⟩ (.bool true)) = w28 at n0_ n1_ n2_ n3_ n4_ ⊢
          have HO_15 := n0_
          have HO_162001 := n1_
          have BK160 := n2_
          have BK161 := n3_
          have HB := n4_
          clear n0_ n1_ n2_ n3_ n4_
          have n0_ := Aq7 (Kd.R_drew HO_15.out)
          have n1_ := Aq7 (Kd.R_drew HO_162001.out)
          have n2_ := Aq7 (blk_drew BK160.out)
          have n3_ := Aq7 (blk_drew BK161.out)
          have n4_ := Aq7 (below_drew1 HB.out)
          clear HO_15
          clear HO_162001
          clear BK160
          clear BK161
          clear HB
          have HO_15 := n0_
          have HO_162001 := n1_
          have BK160 := n2_
          have BK161 := n3_
          have HB := n4_
          clear n0_ n1_ n2_ n3_ n4_
          obtain ⟨Ao30, co30, eo30⟩ := Kd.R_slice HO_162001.out
          (first | subst eo30 | (injection eo30 with f1_ f2_ f3_; have f4_ := f1_.symm; have f5_ := f3_.symm; clear f1_ f2_ f3_; subst f4_; subst f5_))
          refine start_ (n := 10) (S := fun w' => w'.cell? ⟨gb161, 0, none⟩ = some (.int .i64 x162000_1) ∧ w'.cell? ⟨gb161, 1, none⟩ = some (.slice Ao30 x162001_1.length co30) ∧ w'.cell? ⟨gb161, 2, none⟩ = some (.string (⟨#[]⟩ : ByteArray)) ∧ w'.cell? ⟨gb161, 3, none⟩ = some (.bool true)) (ds := []) #[false, false, false, false, false, false, false, false, false, false] (by kernel_rfl) rfl rfl ⟨(blk_cell BK161.out 0).trans rfl, (blk_cell BK161.out 1).trans rfl, (blk_cell BK161.out 2).trans rfl, (blk_cell BK161.out 3).trans rfl⟩ (fun hHeld => ?_); refine with_tabW reply_heading.tab14 reply_heading.bits14 (fun HT_ HW_ => ?_)
          generalize w28.drew = w29 at HO_15 HO_162001 BK160 BK161 HB hHeld ⊢
          refine pure_ (i := 1) (N := some 48) (v := ?_) (a' := ?_) #[false, true, false, false, false, false, false, false, false, false] rfl rfl (any_of HT_.out (by kernel_rfl)) (fun _ _ _ h => h) (Or.inl ⟨by rfl, ?_⟩) ?_ ?_
          rotate_left
          ·intro w'
           go_simp
           with_reducible rfl
          rotate_left
          ·simp only [Act.put, List.setIfInBounds_toArray, List.set_cons_zero, List.set_cons_succ, i64_w, i32_w]
           rfl
          refine pure_ (i := 2) (N := some 49) (v := ?_) (a' := ?_) #[false, true, true, false, false, false, false, false, false, false] rfl rfl (any_of HT_.out (by kernel_rfl)) (fun _ _ _ h => h) (Or.inl ⟨by rfl, ?_⟩) ?_ ?_
          rotate_left
          ·intro w'
           go_simp
           with_reducible rfl
          rotate_left
          ·simp only [Act.put, List.setIfInBounds_toArray, List.set_cons_zero, List.set_cons_succ, i64_w, i32_w]
           rfl
          refine pure_ (i := 4) (N := some 51) (v := ?_) (a' := ?_) #[false, true, true, false, true, false, false, false, false, false] rfl rfl (any_of HT_.out (by kernel_rfl)) (fun _ _ _ h => h) (Or.inl ⟨by rfl, ?_⟩) ?_ ?_
          rotate_left
          ·intro w'
           go_simp
           with_reducible rfl
          rotate_left
          ·simp only [Act.put, List.setIfInBounds_toArray, List.set_cons_zero, List.set_cons_succ, i64_w, i32_w]
           rfl
          refine take_ (i := 0) (N := some 47) (v := ?_) (a' := ?_) #[true, true, true, false, true, false, false, false, false, false] rfl rfl (take_ofW HT_.out HW_.out (by kernel_rfl)) (fun _ _ _ h => h) (Or.inl ⟨by rfl, ?_⟩) hHeld ?_ ?_
          rotate_left
          ·rintro w' ⟨s0, s1, s2, s3⟩
           go_simp
           with_reducible rfl
          rotate_left
          ·simp only [Act.put, List.setIfInBounds_toArray, List.set_cons_zero, List.set_cons_succ, i64_w, i32_w]
           rfl
          refine take_ (i := 3) (N := some 50) (v := ?_) (a' := ?_) #[true, true, true, true, true, false, false, false, false, false] rfl rfl (take_ofW HT_.out HW_.out (by kernel_rfl)) (fun _ _ _ h => h) (Or.inl ⟨by rfl, ?_⟩) hHeld ?_ ?_
          rotate_left
          ·rintro w' ⟨s0, s1, s2, s3⟩
           go_simp
           with_reducible rfl
          rotate_left
          ·simp only [Act.put, List.setIfInBounds_toArray, List.set_cons_zero, List.set_cons_succ, i64_w, i32_w]
           rfl
          refine one_ (i := 5) (N := some 52) #[true, true, true, true, true, true, false, false, false, false] rfl rfl (one_of HT_.out (by kernel_rfl)) (by decide) (fun K hK => ?_)
          refine goes_ Tryd.func76 (by kernel_rfl) rfl #[.agg #[.int .i64 x162000_1, .slice Ao30 x162001_1.length co30, .string (⟨#[]⟩ : ByteArray), .bool true], .int .i64 x6_1] (by rfl) rfl rfl tq7_8 ?_
          with_reducible refine (reply_head.calls k1 x162000_1 _ _ x162001_1 (⟨#[]⟩ : ByteArray) true x6_1 t167 _ ?side1 ?side2 A25.out ?side3).mono ?_
          (case side1 => repeat (first | exact (Kd.R_reads' HO_162001.out).2.2 | (with_reducible refine Kd.C_alloc ?_ _) | (with_reducible refine Kd.C_drewN ?_ _) | (with_reducible refine Kd.C_drew ?_)))
          (case side2 => exact (Kd.R_reads' HO_162001.out).2.1)
          (case side3 => exact HG.out.step (tq7_b GE160.out GE161.out) rfl)
          rintro e w31 ⟨rfl, hb⟩
          refine ⟨_, rfl, ?_⟩
          have n0_ := Aq7 (Kd.R_below (tq7_3 HO_15.out) hb)
          have n1_ := Aq7 (Kd.R_below (tq7_3 HO_162001.out) hb)
          have n2_ := Aq7 (blk_below (g := gb160) (o := .cells #[.int .i64 x161000_1, .slice none 0 0, .string x161002_1, .bool x161003_1] 24 (0, 0)) (tq7_5 BK160.out) hb)
          have n3_ := Aq7 (blk_below (g := gb161) (o := .cells #[.int .i64 x162000_1, .slice Ao30 x162001_1.length co30, .string (⟨#[]⟩ : ByteArray), .bool true] 24 (0, 0)) (tq7_5 BK161.out) hb)
          have n4_ := Aq7 (below_step (tq7_b GE160.out GE161.out) hb)
          clear HO_15
          clear HO_162001
          clear BK160
          clear BK161
          clear HB
          have HO_15 := n0_
          have HO_162001 := n1_
          have BK160 := n2_
          have BK161 := n3_
          have HB := n4_
          clear n0_ n1_ n2_ n3_ n4_
          (try clear hb)
          (try clear hb2)
          (try clear hk)
          (try clear hi)
          refine hK.out _ _ ⟨(blk_cell BK161.out 0).trans rfl, (blk_cell BK161.out 1).trans rfl, (blk_cell BK161.out 2).trans rfl, (blk_cell BK161.out 3).trans rfl⟩ (fun hHeld => ?_)
          clear hK K
          refine norm_ (a' := ?_) ?_ ?_
          rotate_left
          ·show Act.put _ (some 52) _ = _
           simp only [Act.put, List.setIfInBounds_toArray, List.set_cons_zero, List.set_cons_succ, i64_w, i32_w]
           rfl
          refine pure_ (i := 6) (N := some 53) (v := ?_) (a' := ?_) #[true, true, true, true, true, true, true, false, false, false] rfl rfl (any_of HT_.out (by kernel_rfl)) (fun _ _ _ h => h) (Or.inl ⟨by rfl, ?_⟩) ?_ ?_
          rotate_left
          ·intro w'
           go_simp
           with_reducible rfl
          rotate_left
          ·simp only [Act.put, List.setIfInBounds_toArray, List.set_cons_zero, List.set_cons_succ, i64_w, i32_w]
           rfl
          refine one_ (i := 7) (N := none) #[true, true, true, true, true, true, true, true, false, false] rfl rfl (one_of HT_.out (by kernel_rfl)) (by decide) (fun K hK => ?_)
          have hs32 : w31.cell? ⟨gb160, 0, none⟩ = some (.int .i64 x161000_1) := (blk_cell BK160.out 0).trans rfl
          have hfs32 := blk_frozen BK160.out 0
          have hns32_1 := NB161_160.out
          have hms32_1 := NB160_161.out
          have hs33 : w31.cell? ⟨gb160, 1, none⟩ = some (.slice none 0 0) := (blk_cell BK160.out 1).trans rfl
          have hfs33 := blk_frozen BK160.out 1
          have hns33_1 := NB161_160.out
          have hms33_1 := NB160_161.out
          have hs34 : w31.cell? ⟨gb160, 2, none⟩ = some (.string x161002_1) := (blk_cell BK160.out 2).trans rfl
          have hfs34 := blk_frozen BK160.out 2
          have hns34_1 := NB161_160.out
          have hms34_1 := NB160_161.out
          have hs35 : w31.cell? ⟨gb160, 3, none⟩ = some (.bool x161003_1) := (blk_cell BK160.out 3).trans rfl
          have hfs35 := blk_frozen BK160.out 3
          have hns35_1 := NB161_160.out
          have hms35_1 := NB160_161.out
          refine skip_ (w1 := ?_) (by rfl) rfl ?_ ?_
          rotate_left
          ·go_simp
           rfl
          refine hK.out _ _ ⟨((cell_far (p := ⟨gb160, _, none⟩) NB161_160.out _).trans (((cell_far (p := ⟨gb160, _, none⟩) NB161_160.out _).trans (((cell_far (p := ⟨gb160, _, none⟩) NB161_160.out _).trans (((cell_far (p := ⟨gb160, _, none⟩) NB161_160.out _).trans (hHeld.1)))))))), ((cell_far (p := ⟨gb160, _, none⟩) NB161_160.out _).trans (((cell_far (p := ⟨gb160, _, none⟩) NB161_160.out _).trans (((cell_far (p := ⟨gb160, _, none⟩) NB161_160.out _).trans (((cell_far (p := ⟨gb160, _, none⟩) NB161_160.out _).trans (hHeld.2.1)))))))), ((cell_far (p := ⟨gb160, _, none⟩) NB161_160.out _).trans (((cell_far (p := ⟨gb160, _, none⟩) NB161_160.out _).trans (((cell_far (p := ⟨gb160, _, none⟩) NB161_160.out _).trans (((cell_far (p := ⟨gb160, _, none⟩) NB161_160.out _).trans (hHeld.2.2.1)))))))), ((cell_far (p := ⟨gb160, _, none⟩) NB161_160.out _).trans (((cell_far (p := ⟨gb160, _, none⟩) NB161_160.out _).trans (((cell_far (p := ⟨gb160, _, none⟩) NB161_160.out _).trans (((cell_far (p := ⟨gb160, _, none⟩) NB161_160.out _).trans (hHeld.2.2.2))))))))⟩ (fun hHeld => ?_)
          clear hK K
          refine pure_ (i := 8) (N := some 3) (v := ?_) (a' := ?_) #[true, true, true, true, true, true, true, true, true, false] rfl rfl (any_of HT_.out (by kernel_rfl)) (fun _ _ _ h => h) (Or.inl ⟨by rfl, ?_⟩) ?_ ?_
          rotate_left
          ·intro w'
           go_simp
           with_reducible rfl
          rotate_left
          ·simp only [Act.put, List.setIfInBounds_toArray, List.set_cons_zero, List.set_cons_succ, i64_w, i32_w]
           rfl
          refine pure_ (i := 9) (N := some 4) (v := ?_) (a' := ?_) #[true, true, true, true, true, true, true, true, true, true] rfl rfl (any_of HT_.out (by kernel_rfl)) (fun _ _ _ h => h) (Or.inl ⟨by rfl, ?_⟩) ?_ ?_
          rotate_left
          ·intro w'
           go_simp
           with_reducible rfl
          rotate_left
          ·simp only [Act.put, List.setIfInBounds_toArray, List.set_cons_zero, List.set_cons_succ, i64_w, i32_w]
           rfl
          refine done_ (done_of HT_.out (by kernel_rfl)) ?_
          try go_wp2
          (try rw [Exit.noGoto_ret])
          refine bodyPost_ret (results_ctt rfl _ _ gb160 24 #[.int .i64 x162000_1, .slice Ao30 x162001_1.length co30, .string (⟨#[]⟩ : ByteArray), .bool true] (0, 0) _ rfl (by (with_reducible repeat (first | refine blk_drewN ?_ _ | refine blk_drew ?_ | refine blk_alloc ?_ _)); refine blk_put (cs := #[.int .i64 x162000_1, .slice Ao30 x162001_1.length co30, .string (⟨#[]⟩ : ByteArray), .bool x161003_1]) ?_ 3 _ rfl; (with_reducible repeat (first | refine blk_drewN ?_ _ | refine blk_drew ?_ | refine blk_alloc ?_ _)); refine blk_put (cs := #[.int .i64 x162000_1, .slice Ao30 x162001_1.length co30, .string x161002_1, .bool x161003_1]) ?_ 2 _ rfl; (with_reducible repeat (first | refine blk_drewN ?_ _ | refine blk_drew ?_ | refine blk_alloc ?_ _)); refine blk_put (cs := #[.int .i64 x162000_1, .slice none 0 0, .string x161002_1, .bool x161003_1]) ?_ 1 _ rfl; (with_reducible repeat (first | refine blk_drewN ?_ _ | refine blk_drew ?_ | refine blk_alloc ?_ _)); refine blk_put (cs := #[.int .i64 x161000_1, .slice none 0 0, .string x161002_1, .bool x161003_1]) ?_ 0 _ rfl; (with_reducible repeat (first | refine blk_drewN ?_ _ | refine blk_drew ?_ | refine blk_alloc ?_ _)); exact BK160.out) Tryd.underlying24 rfl (by kernel_rfl)) rfl ?_
          exact ⟨_, tq7_2, by (with_reducible repeat (first | apply Kd.R_alloc | apply Kd.R_drewN | apply Kd.R_drew)); exact Kd.R_mono (Kd.R_far (p := ⟨gb160, 3, none⟩) (Kd.R_far (p := ⟨gb160, 2, none⟩) (Kd.R_far (p := ⟨gb160, 1, none⟩) (Kd.R_far (p := ⟨gb160, 0, none⟩) (Kd.R_types HO_162001.out BK160.out (by decide)) (fun _ hk => hk.2) (.int .i64 x162000_1)) (fun _ hk => hk.2) (.slice Ao30 x162001_1.length co30)) (fun _ hk => hk.2) (.string (⟨#[]⟩ : ByteArray))) (fun _ hk => hk.2) (.bool true)) (fun _ hk => trivial), (tq7_b GE160.out GE161.out)⟩
         ·rw [if_neg c24] at H
          have c24b0 : ((rdOf ByteArray.empty t162 x17_1).toList == ([67, 111, 110, 110, 101, 99, 116, 105, 111, 110, 58, 32, 99, 108, 111, 115, 101] : List UInt8)) = false := beq_eq_false_iff_ne.mpr c24
          have c24b1 : ((rdOf ByteArray.empty t162 x17_1).toList != ([67, 111, 110, 110, 101, 99, 116, 105, 111, 110, 58, 32, 99, 108, 111, 115, 101] : List UInt8)) = true := bne_iff_ne.mpr c24
          by_cases c36 : (rdOf ByteArray.empty t162 x17_1).toList = ([67, 111, 110, 110, 101, 99, 116, 105, 111, 110, 58, 32, 107, 101, 101, 112, 45, 97, 108, 105, 118, 101] : List UInt8)
          ·rw [if_pos c36] at H
           have c36b0 : ((rdOf ByteArray.empty t162 x17_1).toList == ([67, 111, 110, 110, 101, 99, 116, 105, 111, 110, 58, 32, 107, 101, 101, 112, 45, 97, 108, 105, 118, 101] : List UInt8)) = true := beq_iff_eq.mpr c36
           have c36b1 : ((rdOf ByteArray.empty t162 x17_1).toList != ([67, 111, 110, 110, 101, 99, 116, 105, 111, 110, 58, 32, 107, 101, 101, 112, 45, 97, 108, 105, 118, 101] : List UInt8)) = false := bne_eq_false_iff_eq.mpr c36
           clear c36
           replace H := Option.bind_eq_some_iff.mp H
           obtain ⟨t168, A370, H⟩ := H
           replace H : (some (x162000_1, x162001_1, (⟨#[]⟩ : ByteArray), false, x6_1, (a0.toList == t168.toList))) = some (r1, r2, r3, r4, r5, r6) := H
           have A37 := Aq7 A370
           clear A370
           simp only [Option.some.injEq, Prod.mk.injEq] at H
           obtain ⟨rfl, rfl, rfl, rfl, rfl, rfl⟩ := H
           have p165 : 0 ≤ (x17_1 : Int) := of_decide_eq_true tq7_1
           have q165 : x17_1 < (t162.length : Int) := of_decide_eq_true tq7_1
           obtain ⟨ad165, e165, hx165_0⟩ := Kd.at_string (Kd.R_reads' HO_15.out).2.2 x17_1 p165 q165
           cases e165
           replace p165 := eq_true p165
           replace q165 := eq_true q165
           have hnb38 := NB161_160.out
           have hnc38 := NB160_161.out
           have hcz39_0 : wr.cell? ⟨gb161, 0, none⟩ = some (.int .i64 x162000_1) := (blk_cell BK161.out 0).trans rfl
           have hcz39_1 : wr.cell? ⟨gb161, 1, none⟩ = some (u162001) := (blk_cell BK161.out 1).trans rfl
           have hcz39_2 : wr.cell? ⟨gb161, 2, none⟩ = some (.string (⟨#[]⟩ : ByteArray)) := (blk_cell BK161.out 2).trans rfl
           have hcz39_3 : wr.cell? ⟨gb161, 3, none⟩ = some (.bool x162003_1) := (blk_cell BK161.out 3).trans rfl
           have hfz39_0 := blk_frozen BK161.out 0
           have hfz39_1 := blk_frozen BK161.out 1
           have hfz39_2 := blk_frozen BK161.out 2
           have hfz39_3 := blk_frozen BK161.out 3
           try go_wp2
           have n0_ : Aside0 (Kd.R Kd.string 9 (wr.setCell ⟨gb161, 3, none⟩ (.bool false)) w.heap.size (fun _ => True) (.slice (some ad165) t162.length co6) t162) := ⟨(tq7_e HO_15.out BK161.out)⟩
           have n1_ : Aside0 (Kd.R k26 26 (wr.setCell ⟨gb161, 3, none⟩ (.bool false)) w.heap.size (fun _ => True) u162001 x162001_1) := ⟨(tq7_e HO_162001.out BK161.out)⟩
           have n2_ : Aside0 ((wr.setCell ⟨gb161, 3, none⟩ (.bool false)).heap[gb160]? = some (.cells #[.int .i64 x161000_1, .slice none 0 0, .string x161002_1, .bool x161003_1] 24 (0, 0))) := ⟨(tq7_g NB160_161.out BK160.out)⟩
           have n3_ : Aside0 ((wr.setCell ⟨gb161, 3, none⟩ (.bool false)).heap[gb161]? = some (.cells #[.int .i64 x162000_1, u162001, .string (⟨#[]⟩ : ByteArray), .bool false] 24 (0, 0))) := ⟨(tq7_l BK161.out)⟩
           have n4_ : Aside0 (Below w.heap.size w (wr.setCell ⟨gb161, 3, none⟩ (.bool false))) := ⟨(tq7_b GE160.out GE161.out)⟩
           (try clear HO_15)
           (try clear HO_162001)
           (try clear BK160)
           (try clear BK161)
           (try clear HB)
           generalize (wr.setCell ⟨gb161, 3, none⟩ (.bool false)) = w40 at n0_ n1_ n2_ n3_ n4_ ⊢
           have HO_15 := n0_
           have HO_162001 := n1_
           have BK160 := n2_
           have BK161 := n3_
           have HB := n4_
           clear n0_ n1_ n2_ n3_ n4_
           have n0_ := Aq7 (Kd.R_drew HO_15.out)
           have n1_ := Aq7 (Kd.R_drew HO_162001.out)
           have n2_ := Aq7 (blk_drew BK160.out)
           have n3_ := Aq7 (blk_drew BK161.out)
           have n4_ := Aq7 (below_drew1 HB.out)
           clear HO_15
           clear HO_162001
           clear BK160
           clear BK161
           clear HB
           have HO_15 := n0_
           have HO_162001 := n1_
           have BK160 := n2_
           have BK161 := n3_
           have HB := n4_
           clear n0_ n1_ n2_ n3_ n4_
           obtain ⟨Ao42, co42, eo42⟩ := Kd.R_slice HO_162001.out
           (first | subst eo42 | (injection eo42 with f1_ f2_ f3_; have f4_ := f1_.symm; have f5_ := f3_.symm; clear f1_ f2_ f3_; subst f4_; subst f5_))
           refine start_ (n := 10) (S := fun w' => w'.cell? ⟨gb161, 0, none⟩ = some (.int .i64 x162000_1) ∧ w'.cell? ⟨gb161, 1, none⟩ = some (.slice Ao42 x162001_1.length co42) ∧ w'.cell? ⟨gb161, 2, none⟩ = some (.string (⟨#[]⟩ : ByteArray)) ∧ w'.cell? ⟨gb161, 3, none⟩ = some (.bool false)) (ds := []) #[false, false, false, false, false, false, false, false, false, false] (by kernel_rfl) rfl rfl ⟨(blk_cell BK161.out 0).trans rfl, (blk_cell BK161.out 1).trans rfl, (blk_cell BK161.out 2).trans rfl, (blk_cell BK161.out 3).trans rfl⟩ (fun hHeld => ?_); refine with_tabW reply_heading.tab14 reply_heading.bits14 (fun HT_ HW_ => ?_)
           generalize w40.drew = w41 at HO_15 HO_162001 BK160 BK161 HB hHeld ⊢
           refine pure_ (i := 1) (N := some 48) (v := ?_) (a' := ?_) #[false, true, false, false, false, false, false, false, false, false] rfl rfl (any_of HT_.out (by kernel_rfl)) (fun _ _ _ h => h) (Or.inl ⟨by rfl, ?_⟩) ?_ ?_
           rotate_left
           ·intro w'
            go_simp
            with_reducible rfl
           rotate_left
           ·simp only [Act.put, List.setIfInBounds_toArray, List.set_cons_zero, List.set_cons_succ, i64_w, i32_w]
            rfl
           refine pure_ (i := 2) (N := some 49) (v := ?_) (a' := ?_) #[false, true, true, false, false, false, false, false, false, false] rfl rfl (any_of HT_.out (by kernel_rfl)) (fun _ _ _ h => h) (Or.inl ⟨by rfl, ?_⟩) ?_ ?_
           rotate_left
           ·intro w'
            go_simp
            with_reducible rfl
           rotate_left
           ·simp only [Act.put, List.setIfInBounds_toArray, List.set_cons_zero, List.set_cons_succ, i64_w, i32_w]
            rfl
           refine pure_ (i := 4) (N := some 51) (v := ?_) (a' := ?_) #[false, true, true, false, true, false, false, false, false, false] rfl rfl (any_of HT_.out (by kernel_rfl)) (fun _ _ _ h => h) (Or.inl ⟨by rfl, ?_⟩) ?_ ?_
           rotate_left
           ·intro w'
            go_simp
            with_reducible rfl
           rotate_left
           ·simp only [Act.put, List.setIfInBounds_toArray, List.set_cons_zero, List.set_cons_succ, i64_w, i32_w]
            rfl
           refine take_ (i := 0) (N := some 47) (v := ?_) (a' := ?_) #[true, true, true, false, true, false, false, false, false, false] rfl rfl (take_ofW HT_.out HW_.out (by kernel_rfl)) (fun _ _ _ h => h) (Or.inl ⟨by rfl, ?_⟩) hHeld ?_ ?_
           rotate_left
           ·rintro w' ⟨s0, s1, s2, s3⟩
            go_simp
            with_reducible rfl
           rotate_left
           ·simp only [Act.put, List.setIfInBounds_toArray, List.set_cons_zero, List.set_cons_succ, i64_w, i32_w]
            rfl
           refine take_ (i := 3) (N := some 50) (v := ?_) (a' := ?_) #[true, true, true, true, true, false, false, false, false, false] rfl rfl (take_ofW HT_.out HW_.out (by kernel_rfl)) (fun _ _ _ h => h) (Or.inl ⟨by rfl, ?_⟩) hHeld ?_ ?_
           rotate_left
           ·rintro w' ⟨s0, s1, s2, s3⟩
            go_simp
            with_reducible rfl
           rotate_left
           ·simp only [Act.put, List.setIfInBounds_toArray, List.set_cons_zero, List.set_cons_succ, i64_w, i32_w]
            rfl
           refine one_ (i := 5) (N := some 52) #[true, true, true, true, true, true, false, false, false, false] rfl rfl (one_of HT_.out (by kernel_rfl)) (by decide) (fun K hK => ?_)
           refine goes_ Tryd.func76 (by kernel_rfl) rfl #[.agg #[.int .i64 x162000_1, .slice Ao42 x162001_1.length co42, .string (⟨#[]⟩ : ByteArray), .bool false], .int .i64 x6_1] (by rfl) rfl rfl tq7_8 ?_
           with_reducible refine (reply_head.calls k1 x162000_1 _ _ x162001_1 (⟨#[]⟩ : ByteArray) false x6_1 t168 _ ?side1 ?side2 A37.out ?side3).mono ?_
           (case side1 => repeat (first | exact (Kd.R_reads' HO_162001.out).2.2 | (with_reducible refine Kd.C_alloc ?_ _) | (with_reducible refine Kd.C_drewN ?_ _) | (with_reducible refine Kd.C_drew ?_)))
           (case side2 => exact (Kd.R_reads' HO_162001.out).2.1)
           (case side3 => exact HG.out.step (tq7_b GE160.out GE161.out) rfl)
           rintro e w43 ⟨rfl, hb⟩
           refine ⟨_, rfl, ?_⟩
           have n0_ := Aq7 (Kd.R_below (tq7_3 HO_15.out) hb)
           have n1_ := Aq7 (Kd.R_below (tq7_3 HO_162001.out) hb)
           have n2_ := Aq7 (blk_below (g := gb160) (o := .cells #[.int .i64 x161000_1, .slice none 0 0, .string x161002_1, .bool x161003_1] 24 (0, 0)) (tq7_5 BK160.out) hb)
           have n3_ := Aq7 (blk_below (g := gb161) (o := .cells #[.int .i64 x162000_1, .slice Ao42 x162001_1.length co42, .string (⟨#[]⟩ : ByteArray), .bool false] 24 (0, 0)) (tq7_5 BK161.out) hb)
           have n4_ := Aq7 (below_step (tq7_b GE160.out GE161.out) hb)
           clear HO_15
           clear HO_162001
           clear BK160
           clear BK161
           clear HB
           have HO_15 := n0_
           have HO_162001 := n1_
           have BK160 := n2_
           have BK161 := n3_
           have HB := n4_
           clear n0_ n1_ n2_ n3_ n4_
           (try clear hb)
           (try clear hb2)
           (try clear hk)
           (try clear hi)
           refine hK.out _ _ ⟨(blk_cell BK161.out 0).trans rfl, (blk_cell BK161.out 1).trans rfl, (blk_cell BK161.out 2).trans rfl, (blk_cell BK161.out 3).trans rfl⟩ (fun hHeld => ?_)
           clear hK K
           refine norm_ (a' := ?_) ?_ ?_
           rotate_left
           ·show Act.put _ (some 52) _ = _
            simp only [Act.put, List.setIfInBounds_toArray, List.set_cons_zero, List.set_cons_succ, i64_w, i32_w]
            rfl
           refine pure_ (i := 6) (N := some 53) (v := ?_) (a' := ?_) #[true, true, true, true, true, true, true, false, false, false] rfl rfl (any_of HT_.out (by kernel_rfl)) (fun _ _ _ h => h) (Or.inl ⟨by rfl, ?_⟩) ?_ ?_
           rotate_left
           ·intro w'
            go_simp
            with_reducible rfl
           rotate_left
           ·simp only [Act.put, List.setIfInBounds_toArray, List.set_cons_zero, List.set_cons_succ, i64_w, i32_w]
            rfl
           refine one_ (i := 7) (N := none) #[true, true, true, true, true, true, true, true, false, false] rfl rfl (one_of HT_.out (by kernel_rfl)) (by decide) (fun K hK => ?_)
           have hs44 : w43.cell? ⟨gb160, 0, none⟩ = some (.int .i64 x161000_1) := (blk_cell BK160.out 0).trans rfl
           have hfs44 := blk_frozen BK160.out 0
           have hns44_1 := NB161_160.out
           have hms44_1 := NB160_161.out
           have hs45 : w43.cell? ⟨gb160, 1, none⟩ = some (.slice none 0 0) := (blk_cell BK160.out 1).trans rfl
           have hfs45 := blk_frozen BK160.out 1
           have hns45_1 := NB161_160.out
           have hms45_1 := NB160_161.out
           have hs46 : w43.cell? ⟨gb160, 2, none⟩ = some (.string x161002_1) := (blk_cell BK160.out 2).trans rfl
           have hfs46 := blk_frozen BK160.out 2
           have hns46_1 := NB161_160.out
           have hms46_1 := NB160_161.out
           have hs47 : w43.cell? ⟨gb160, 3, none⟩ = some (.bool x161003_1) := (blk_cell BK160.out 3).trans rfl
           have hfs47 := blk_frozen BK160.out 3
           have hns47_1 := NB161_160.out
           have hms47_1 := NB160_161.out
           refine skip_ (w1 := ?_) (by rfl) rfl ?_ ?_
           rotate_left
           ·go_simp
            rfl
           refine hK.out _ _ ⟨((cell_far (p := ⟨gb160, _, none⟩) NB161_160.out _).trans (((cell_far (p := ⟨gb160, _, none⟩) NB161_160.out _).trans (((cell_far (p := ⟨gb160, _, none⟩) NB161_160.out _).trans (((cell_far (p := ⟨gb160, _, none⟩) NB161_160.out _).trans (hHeld.1)))))))), ((cell_far (p := ⟨gb160, _, none⟩) NB161_160.out _).trans (((cell_far (p := ⟨gb160, _, none⟩) NB161_160.out _).trans (((cell_far (p := ⟨gb160, _, none⟩) NB161_160.out _).trans (((cell_far (p := ⟨gb160, _, none⟩) NB161_160.out _).trans (hHeld.2.1)))))))), ((cell_far (p := ⟨gb160, _, none⟩) NB161_160.out _).trans (((cell_far (p := ⟨gb160, _, none⟩) NB161_160.out _).trans (((cell_far (p := ⟨gb160, _, none⟩) NB161_160.out _).trans (((cell_far (p := ⟨gb160, _, none⟩) NB161_160.out _).trans (hHeld.2.2.1)))))))), ((cell_far (p := ⟨gb160, _, none⟩) NB161_160.out _).trans (((cell_far (p := ⟨gb160, _, none⟩) NB161_160.out _).trans (((cell_far (p := ⟨gb160, _, none⟩) NB161_160.out _).trans (((cell_far (p := ⟨gb160, _, none⟩) NB161_160.out _).trans (hHeld.2.2.2))))))))⟩ (fun hHeld => ?_)
           clear hK K
           refine pure_ (i := 8) (N := some 3) (v := ?_) (a' := ?_) #[true, true, true, true, true, true, true, true, true, false] rfl rfl (any_of HT_.out (by kernel_rfl)) (fun _ _ _ h => h) (Or.inl ⟨by rfl, ?_⟩) ?_ ?_
           rotate_left
           ·intro w'
            go_simp
            with_reducible rfl
           rotate_left
           ·simp only [Act.put, List.setIfInBounds_toArray, List.set_cons_zero, List.set_cons_succ, i64_w, i32_w]
            rfl
           refine pure_ (i := 9) (N := some 4) (v := ?_) (a' := ?_) #[true, true, true, true, true, true, true, true, true, true] rfl rfl (any_of HT_.out (by kernel_rfl)) (fun _ _ _ h => h) (Or.inl ⟨by rfl, ?_⟩) ?_ ?_
           rotate_left
           ·intro w'
            go_simp
            with_reducible rfl
           rotate_left
           ·simp only [Act.put, List.setIfInBounds_toArray, List.set_cons_zero, List.set_cons_succ, i64_w, i32_w]
            rfl
           refine done_ (done_of HT_.out (by kernel_rfl)) ?_
           try go_wp2
           (try rw [Exit.noGoto_ret])
           refine bodyPost_ret (results_ctt rfl _ _ gb160 24 #[.int .i64 x162000_1, .slice Ao42 x162001_1.length co42, .string (⟨#[]⟩ : ByteArray), .bool false] (0, 0) _ rfl (by (with_reducible repeat (first | refine blk_drewN ?_ _ | refine blk_drew ?_ | refine blk_alloc ?_ _)); refine blk_put (cs := #[.int .i64 x162000_1, .slice Ao42 x162001_1.length co42, .string (⟨#[]⟩ : ByteArray), .bool x161003_1]) ?_ 3 _ rfl; (with_reducible repeat (first | refine blk_drewN ?_ _ | refine blk_drew ?_ | refine blk_alloc ?_ _)); refine blk_put (cs := #[.int .i64 x162000_1, .slice Ao42 x162001_1.length co42, .string x161002_1, .bool x161003_1]) ?_ 2 _ rfl; (with_reducible repeat (first | refine blk_drewN ?_ _ | refine blk_drew ?_ | refine blk_alloc ?_ _)); refine blk_put (cs := #[.int .i64 x162000_1, .slice none 0 0, .string x161002_1, .bool x161003_1]) ?_ 1 _ rfl; (with_reducible repeat (first | refine blk_drewN ?_ _ | refine blk_drew ?_ | refine blk_alloc ?_ _)); refine blk_put (cs := #[.int .i64 x161000_1, .slice none 0 0, .string x161002_1, .bool x161003_1]) ?_ 0 _ rfl; (with_reducible repeat (first | refine blk_drewN ?_ _ | refine blk_drew ?_ | refine blk_alloc ?_ _)); exact BK160.out) Tryd.underlying24 rfl (by kernel_rfl)) rfl ?_
           exact ⟨_, tq7_2, by (with_reducible repeat (first | apply Kd.R_alloc | apply Kd.R_drewN | apply Kd.R_drew)); exact Kd.R_mono (Kd.R_far (p := ⟨gb160, 3, none⟩) (Kd.R_far (p := ⟨gb160, 2, none⟩) (Kd.R_far (p := ⟨gb160, 1, none⟩) (Kd.R_far (p := ⟨gb160, 0, none⟩) (Kd.R_types HO_162001.out BK160.out (by decide)) (fun _ hk => hk.2) (.int .i64 x162000_1)) (fun _ hk => hk.2) (.slice Ao42 x162001_1.length co42)) (fun _ hk => hk.2) (.string (⟨#[]⟩ : ByteArray))) (fun _ hk => hk.2) (.bool false)) (fun _ hk => trivial), (tq7_b GE160.out GE161.out)⟩
          ·rw [if_neg c36] at H
           have c36b0 : ((rdOf ByteArray.empty t162 x17_1).toList == ([67, 111, 110, 110, 101, 99, 116, 105, 111, 110, 58, 32, 107, 101, 101, 112, 45, 97, 108, 105, 118, 101] : List UInt8)) = false := beq_eq_false_iff_ne.mpr c36
           have c36b1 : ((rdOf ByteArray.empty t162 x17_1).toList != ([67, 111, 110, 110, 101, 99, 116, 105, 111, 110, 58, 32, 107, 101, 101, 112, 45, 97, 108, 105, 118, 101] : List UInt8)) = true := bne_iff_ne.mpr c36
           simp only [Option.some.injEq, Prod.mk.injEq] at H
           obtain ⟨rfl, rfl, rfl, rfl, rfl, rfl⟩ := H
           have p165 : 0 ≤ (x17_1 : Int) := of_decide_eq_true tq7_1
           have q165 : x17_1 < (t162.length : Int) := of_decide_eq_true tq7_1
           obtain ⟨ad165, e165, hx165_0⟩ := Kd.at_string (Kd.R_reads' HO_15.out).2.2 x17_1 p165 q165
           cases e165
           replace p165 := eq_true p165
           replace q165 := eq_true q165
           have hnb48 := NB161_160.out
           have hnc48 := NB160_161.out
           have hcz49_0 : wr.cell? ⟨gb161, 0, none⟩ = some (.int .i64 x162000_1) := (blk_cell BK161.out 0).trans rfl
           have hcz49_1 : wr.cell? ⟨gb161, 1, none⟩ = some (u162001) := (blk_cell BK161.out 1).trans rfl
           have hcz49_2 : wr.cell? ⟨gb161, 2, none⟩ = some (.string (⟨#[]⟩ : ByteArray)) := (blk_cell BK161.out 2).trans rfl
           have hcz49_3 : wr.cell? ⟨gb161, 3, none⟩ = some (.bool x162003_1) := (blk_cell BK161.out 3).trans rfl
           have hfz49_0 := blk_frozen BK161.out 0
           have hfz49_1 := blk_frozen BK161.out 1
           have hfz49_2 := blk_frozen BK161.out 2
           have hfz49_3 := blk_frozen BK161.out 3
           have hcz50_0 : wr.cell? ⟨gb160, 0, none⟩ = some (.int .i64 x161000_1) := (blk_cell BK160.out 0).trans rfl
           have hcz50_1 : wr.cell? ⟨gb160, 1, none⟩ = some (.slice none 0 0) := (blk_cell BK160.out 1).trans rfl
           have hcz50_2 : wr.cell? ⟨gb160, 2, none⟩ = some (.string x161002_1) := (blk_cell BK160.out 2).trans rfl
           have hcz50_3 : wr.cell? ⟨gb160, 3, none⟩ = some (.bool x161003_1) := (blk_cell BK160.out 3).trans rfl
           have hfz50_0 := blk_frozen BK160.out 0
           have hfz50_1 := blk_frozen BK160.out 1
           have hfz50_2 := blk_frozen BK160.out 2
           have hfz50_3 := blk_frozen BK160.out 3
           go_wp2
           (try rw [Exit.noGoto_ret])
           refine bodyPost_ret (results_ctt rfl _ _ gb160 24 #[.int .i64 0, .slice none 0 0, .string (⟨#[]⟩ : ByteArray), .bool false] (0, 0) _ rfl (tq7_o NB160_161.out BK160.out) Tryd.underlying24 rfl (by kernel_rfl)) rfl ?_
           exact ⟨_, tq7_2, tq7_9, (tq7_b GE160.out GE161.out)⟩
        ·rw [if_neg c23] at H
         have c23b0 : decide (0 ≤ x6_1) = false := decide_eq_false c23
         clear c23
         replace H := Option.bind_eq_some_iff.mp H
         obtain ⟨⟨t169, t170, t171⟩, A510, H⟩ := H
         replace H : (if t171 = true then ((reply_size.f k1 (rdOf ByteArray.empty t162 x17_1)).bind fun t172 => (if t172 ≥ 0 then (reply_heading.l0 k1 a0 t172 (wrap64 (x7_1 + 1)) t162 (t162.length : Int) (wrap64 (x17_1 + 1)) x162000_1 x162001_1 (⟨#[]⟩ : ByteArray) x162003_1) else ((reply_may.f k1 t169 t170).bind fun t174 => (if t174 = true then (if x162001_1.length < 4398046511104 then (reply_heading.l0 k1 a0 t172 (wrap64 (x7_1 + 1)) t162 (t162.length : Int) (wrap64 (x17_1 + 1)) x162000_1 (x162001_1 ++ [(⟨t169, t170⟩ : S26)]) (⟨#[]⟩ : ByteArray) x162003_1) else (none)) else (some (0, ([] : List (S26)), (⟨#[]⟩ : ByteArray), false, 0, false)))))) else (some (0, ([] : List (S26)), (⟨#[]⟩ : ByteArray), false, 0, false))) = some (r1, r2, r3, r4, r5, r6) := H
         have A51 := Aq7 A510
         clear A510
         by_cases c52 : t171 = true
         ·subst c52
          have H1 : ((reply_size.f k1 (rdOf ByteArray.empty t162 x17_1)).bind fun t172 => (if t172 ≥ 0 then (reply_heading.l0 k1 a0 t172 (wrap64 (x7_1 + 1)) t162 (t162.length : Int) (wrap64 (x17_1 + 1)) x162000_1 x162001_1 (⟨#[]⟩ : ByteArray) x162003_1) else ((reply_may.f k1 t169 t170).bind fun t174 => (if t174 = true then (if x162001_1.length < 4398046511104 then (reply_heading.l0 k1 a0 t172 (wrap64 (x7_1 + 1)) t162 (t162.length : Int) (wrap64 (x17_1 + 1)) x162000_1 (x162001_1 ++ [(⟨t169, t170⟩ : S26)]) (⟨#[]⟩ : ByteArray) x162003_1) else (none)) else (some (0, ([] : List (S26)), (⟨#[]⟩ : ByteArray), false, 0, false)))))) = some (r1, r2, r3, r4, r5, r6) := by rw [if_pos rfl] at H; exact H
          clear H
          have H := H1
          clear H1
          replace H := Option.bind_eq_some_iff.mp H
          obtain ⟨t172, A530, H⟩ := H
          replace H : (if t172 ≥ 0 then (reply_heading.l0 k1 a0 t172 (wrap64 (x7_1 + 1)) t162 (t162.length : Int) (wrap64 (x17_1 + 1)) x162000_1 x162001_1 (⟨#[]⟩ : ByteArray) x162003_1) else ((reply_may.f k1 t169 t170).bind fun t174 => (if t174 = true then (if x162001_1.length < 4398046511104 then (reply_heading.l0 k1 a0 t172 (wrap64 (x7_1 + 1)) t162 (t162.length : Int) (wrap64 (x17_1 + 1)) x162000_1 (x162001_1 ++ [(⟨t169, t170⟩ : S26)]) (⟨#[]⟩ : ByteArray) x162003_1) else (none)) else (some (0, ([] : List (S26)), (⟨#[]⟩ : ByteArray), false, 0, false))))) = some (r1, r2, r3, r4, r5, r6) := H
          have A53 := Aq7 A530
          clear A530
          by_cases c54 : t172 ≥ 0
          ·rw [if_pos c54] at H
           have c54b0 : decide (0 ≤ t172) = true := decide_eq_true c54
           clear c54
           have H' := Aq7 H
           clear H
           have p165 : 0 ≤ (x17_1 : Int) := of_decide_eq_true tq7_1
           have q165 : x17_1 < (t162.length : Int) := of_decide_eq_true tq7_1
           obtain ⟨ad165, e165, hx165_0⟩ := Kd.at_string (Kd.R_reads' HO_15.out).2.2 x17_1 p165 q165
           cases e165
           replace p165 := eq_true p165
           replace q165 := eq_true q165
           go_wp2_with (first | ((with_reducible refine gate_callee (f := 77) rfl ?_); refine goesL_ (some 56) rfl rfl Tryd.func77 (by kernel_rfl) rfl #[.string (rdOf ByteArray.empty t162 x17_1), .string (⟨#[58, 32]⟩ : ByteArray)] rfl tq7_8 ?_; (with_reducible refine (strings_Cut.calls (rdOf ByteArray.empty t162 x17_1) (⟨#[58, 32]⟩ : ByteArray) t169 t170 true _ A51.out ?side1).mono ?_); (case side1 => exact HG.out.step (tq7_b GE160.out GE161.out) rfl); rintro e w' ⟨rfl, ⟨nd, rfl⟩⟩; refine ⟨_, rfl, ?_⟩) | ((with_reducible refine gate_callee (f := 78) rfl ?_); refine goesL_ (some 63) rfl rfl Tryd.func78 (by kernel_rfl) rfl #[.string (rdOf ByteArray.empty t162 x17_1)] rfl tq7_8 ?_; (with_reducible refine (reply_size.calls k1 (rdOf ByteArray.empty t162 x17_1) t172 _ A53.out).mono ?_); rintro e w' ⟨rfl, ⟨nd, rfl⟩⟩; refine ⟨_, rfl, ?_⟩))
           go_roundg k1
           case measure => have := HK1.out; omega
           case rel => exact ⟨(t172), (wrap64 (x7_1 + 1)), (wrap64 (x17_1 + 1)), (x161000_1), (x161002_1), (x161003_1), (x162000_1), (x162001_1), (x162003_1), (u162001), tq7_0, tq7_0, tq7_0, H', ⟨by have := HK1.out; omega⟩, ⟨(tq7_3 HO_15.out)⟩, ⟨(tq7_3 HO_162001.out)⟩, ⟨(tq7_5 BK160.out)⟩, ⟨(tq7_5 BK161.out)⟩, ⟨(tq7_b GE160.out GE161.out)⟩⟩
          ·rw [if_neg c54] at H
           have c54b0 : decide (0 ≤ t172) = false := decide_eq_false c54
           clear c54
           replace H := Option.bind_eq_some_iff.mp H
           obtain ⟨t174, A550, H⟩ := H
           replace H : (if t174 = true then (if x162001_1.length < 4398046511104 then (reply_heading.l0 k1 a0 t172 (wrap64 (x7_1 + 1)) t162 (t162.length : Int) (wrap64 (x17_1 + 1)) x162000_1 (x162001_1 ++ [(⟨t169, t170⟩ : S26)]) (⟨#[]⟩ : ByteArray) x162003_1) else (none)) else (some (0, ([] : List (S26)), (⟨#[]⟩ : ByteArray), false, 0, false))) = some (r1, r2, r3, r4, r5, r6) := H
           have A55 := Aq7 A550
           clear A550
           by_cases c56 : t174 = true
           ·subst c56
            have H1 : (if x162001_1.length < 4398046511104 then (reply_heading.l0 k1 a0 t172 (wrap64 (x7_1 + 1)) t162 (t162.length : Int) (wrap64 (x17_1 + 1)) x162000_1 (x162001_1 ++ [(⟨t169, t170⟩ : S26)]) (⟨#[]⟩ : ByteArray) x162003_1) else (none)) = some (r1, r2, r3, r4, r5, r6) := by rw [if_pos rfl] at H; exact H
            clear H
            have H := H1
            clear H1
            by_cases c57 : x162001_1.length < 4398046511104
            ·rw [if_pos c57] at H
             have LMc57 := Aq7 c57
             clear c57
             obtain ⟨y175, hy175⟩ : ∃ y_ : List (S26), y_ = (x162001_1 ++ [(⟨t169, t170⟩ : S26)]) := ⟨_, rfl⟩
             replace H : (reply_heading.l0 k1 a0 t172 (wrap64 (x7_1 + 1)) t162 (t162.length : Int) (wrap64 (x17_1 + 1)) x162000_1 y175 (⟨#[]⟩ : ByteArray) x162003_1) = some (r1, r2, r3, r4, r5, r6) := by first | (rw [hy175]; with_reducible exact H) | (have H2_ := (Option.bind_some _ _).symm.trans H; rw [hy175]; with_reducible exact H2_) | (have H2_ := (Option.bind_some _ _).symm.trans H; with_reducible exact H2_) | with_reducible exact H | (rw [hy175]; exact H) | exact H
             have Ny175 := Aq7 hy175
             clear hy175
             have H' := Aq7 H
             clear H
             have p165 : 0 ≤ (x17_1 : Int) := of_decide_eq_true tq7_1
             have q165 : x17_1 < (t162.length : Int) := of_decide_eq_true tq7_1
             obtain ⟨ad165, e165, hx165_0⟩ := Kd.at_string (Kd.R_reads' HO_15.out).2.2 x17_1 p165 q165
             cases e165
             replace p165 := eq_true p165
             replace q165 := eq_true q165
             go_wp2_with (first | ((with_reducible refine gate_callee (f := 77) rfl ?_); refine goesL_ (some 56) rfl rfl Tryd.func77 (by kernel_rfl) rfl #[.string (rdOf ByteArray.empty t162 x17_1), .string (⟨#[58, 32]⟩ : ByteArray)] rfl tq7_8 ?_; (with_reducible refine (strings_Cut.calls (rdOf ByteArray.empty t162 x17_1) (⟨#[58, 32]⟩ : ByteArray) t169 t170 true _ A51.out ?side1).mono ?_); (case side1 => exact HG.out.step (tq7_b GE160.out GE161.out) rfl); rintro e w' ⟨rfl, ⟨nd, rfl⟩⟩; refine ⟨_, rfl, ?_⟩; (try (rw [drewN_self wr]; generalize hq_ : World.drewN wr _ = wr; have n0_ : Aside0 (Kd.R Kd.string 9 wr w.heap.size (fun _ => True) (.slice (some ad165) t162.length co6) t162) := ⟨(tq7_4 HO_15.out)⟩; have n1_ : Aside0 (Kd.R k26 26 wr w.heap.size (fun _ => True) u162001 x162001_1) := ⟨(tq7_4 HO_162001.out)⟩; have n2_ : Aside0 (wr.heap[gb160]? = some (.cells #[.int .i64 x161000_1, .slice none 0 0, .string x161002_1, .bool x161003_1] 24 (0, 0))) := ⟨(tq7_6 BK160.out)⟩; have n3_ : Aside0 (wr.heap[gb161]? = some (.cells #[.int .i64 x162000_1, u162001, .string (⟨#[]⟩ : ByteArray), .bool x162003_1] 24 (0, 0))) := ⟨(tq7_6 BK161.out)⟩; have n4_ : Aside0 (Below w.heap.size w wr) := ⟨by rw [← hq_]; exact (tq7_b GE160.out GE161.out)⟩; clear HO_15 HO_162001 BK160 BK161 HB hq_; have HO_15 := n0_; have HO_162001 := n1_; have BK160 := n2_; have BK161 := n3_; have HB := n4_; clear n0_ n1_ n2_ n3_ n4_))) | ((with_reducible refine gate_callee (f := 78) rfl ?_); refine goesL_ (some 63) rfl rfl Tryd.func78 (by kernel_rfl) rfl #[.string (rdOf ByteArray.empty t162 x17_1)] rfl tq7_8 ?_; (with_reducible refine (reply_size.calls k1 (rdOf ByteArray.empty t162 x17_1) t172 _ A53.out).mono ?_); rintro e w' ⟨rfl, ⟨nd, rfl⟩⟩; refine ⟨_, rfl, ?_⟩; (try (rw [drewN_self wr]; generalize hq_ : World.drewN wr _ = wr; have n0_ : Aside0 (Kd.R Kd.string 9 wr w.heap.size (fun _ => True) (.slice (some ad165) t162.length co6) t162) := ⟨(tq7_4 HO_15.out)⟩; have n1_ : Aside0 (Kd.R k26 26 wr w.heap.size (fun _ => True) u162001 x162001_1) := ⟨(tq7_4 HO_162001.out)⟩; have n2_ : Aside0 (wr.heap[gb160]? = some (.cells #[.int .i64 x161000_1, .slice none 0 0, .string x161002_1, .bool x161003_1] 24 (0, 0))) := ⟨(tq7_6 BK160.out)⟩; have n3_ : Aside0 (wr.heap[gb161]? = some (.cells #[.int .i64 x162000_1, u162001, .string (⟨#[]⟩ : ByteArray), .bool x162003_1] 24 (0, 0))) := ⟨(tq7_6 BK161.out)⟩; have n4_ : Aside0 (Below w.heap.size w wr) := ⟨by rw [← hq_]; exact (tq7_b GE160.out GE161.out)⟩; clear HO_15 HO_162001 BK160 BK161 HB hq_; have HO_15 := n0_; have HO_162001 := n1_; have BK160 := n2_; have BK161 := n3_; have HB := n4_; clear n0_ n1_ n2_ n3_ n4_))) | ((with_reducible refine gate_dst (N := 13) rfl ?_); refine box_event ?hg (N := 13) ?hd (cs := #[.string (⟨#[]⟩ : ByteArray), .string (⟨#[]⟩ : ByteArray)]) (t := 26) ?hr ?_; (case hd => rfl); (case hg => rfl); (case hr => first | (go_simp; done) | (go_simp; rfl)); intro gb173 hg w58 hbox hb; replace HO_15 := Aq7 (Kd.R_below (tq7_3 HO_15.out) hb); replace HO_162001 := Aq7 (Kd.R_below (Kd.R_elderB (tq7_3 HO_162001.out) gb173 (Nat.le_of_eq hg.symm)) hb); have BK173 := Aq7 (hbox); have GW173 := Aq7 ((by rw [hg]; exact (below_size (tq7_b GE160.out GE161.out)) : w.heap.size ≤ gb173)); have GE173 := Aq7 ((by rw [hg]; exact (below_size (tq7_b GE160.out GE161.out)) : w.heap.size ≤ gb173)); have NB160_173 := Aq7 ((by rw [hg]; exact Nat.ne_of_lt (blk_lt (g := gb160) (o := .cells #[.int .i64 x161000_1, .slice none 0 0, .string x161002_1, .bool x161003_1] 24 (0, 0)) (tq7_5 BK160.out)) : gb160 ≠ gb173)); have NB173_160 := Aq7 ((by rw [hg]; exact Nat.ne_of_gt (blk_lt (g := gb160) (o := .cells #[.int .i64 x161000_1, .slice none 0 0, .string x161002_1, .bool x161003_1] 24 (0, 0)) (tq7_5 BK160.out)) : gb173 ≠ gb160)); replace BK160 := Aq7 (blk_below (g := gb160) (o := .cells #[.int .i64 x161000_1, .slice none 0 0, .string x161002_1, .bool x161003_1] 24 (0, 0)) (tq7_5 BK160.out) hb); have NB161_173 := Aq7 ((by rw [hg]; exact Nat.ne_of_lt (blk_lt (g := gb161) (o := .cells #[.int .i64 x162000_1, u162001, .string (⟨#[]⟩ : ByteArray), .bool x162003_1] 24 (0, 0)) (tq7_5 BK161.out)) : gb161 ≠ gb173)); have NB173_161 := Aq7 ((by rw [hg]; exact Nat.ne_of_gt (blk_lt (g := gb161) (o := .cells #[.int .i64 x162000_1, u162001, .string (⟨#[]⟩ : ByteArray), .bool x162003_1] 24 (0, 0)) (tq7_5 BK161.out)) : gb173 ≠ gb161)); replace BK161 := Aq7 (blk_below (g := gb161) (o := .cells #[.int .i64 x162000_1, u162001, .string (⟨#[]⟩ : ByteArray), .bool x162003_1] 24 (0, 0)) (tq7_5 BK161.out) hb); replace HB := Aq7 (below_step (tq7_b GE160.out GE161.out) hb); clear hb hbox hg; have hnb59 := NB173_160.out; have hnc59 := NB160_173.out; have hnb60 := NB173_161.out; have hnc60 := NB161_173.out; have hcz61_0 : w58.cell? ⟨gb173, 0, none⟩ = some (.string (⟨#[]⟩ : ByteArray)) := (blk_cell BK173.out 0).trans rfl; have hcz61_1 : w58.cell? ⟨gb173, 1, none⟩ = some (.string (⟨#[]⟩ : ByteArray)) := (blk_cell BK173.out 1).trans rfl; have hfz61_0 := blk_frozen BK173.out 0; have hfz61_1 := blk_frozen BK173.out 1) | ((with_reducible refine gate_callee (f := 40) rfl ?_); refine goesL_ (some 70) rfl rfl Tryd.func40 (by kernel_rfl) rfl #[.agg #[.string t169, .string t170]] rfl tq7_8 ?_; (with_reducible refine (reply_may.calls k1 t169 t170 true _ A55.out ?side1).mono ?_); (case side1 => exact HG.out.step (tq7_c GE160.out GE161.out GE173.out) rfl); rintro e w62 ⟨rfl, hb⟩; refine ⟨_, rfl, ?_⟩; replace HO_15 := Aq7 (Kd.R_below (tq7_j HO_15.out BK173.out) hb); replace HO_162001 := Aq7 (Kd.R_below (tq7_k HO_162001.out) hb); replace BK160 := Aq7 (blk_below (g := gb160) (o := .cells #[.int .i64 x161000_1, .slice none 0 0, .string x161002_1, .bool x161003_1] 24 (0, 0)) (tq7_i NB160_173.out BK160.out) hb); replace BK161 := Aq7 (blk_below (g := gb161) (o := .cells #[.int .i64 x162000_1, u162001, .string (⟨#[]⟩ : ByteArray), .bool x162003_1] 24 (0, 0)) (tq7_i NB161_173.out BK161.out) hb); replace BK173 := Aq7 (blk_below (g := gb173) (o := .cells #[.string t169, .string t170] 26 (0, 0)) (tq7_m BK173.out) hb); replace HB := Aq7 (below_step (tq7_c GE160.out GE161.out GE173.out) hb); (try clear hb); (try clear hb2); (try clear hk); (try clear hi); have hnb63 := NB161_160.out; have hnc63 := NB160_161.out; have hcz64_0 : w62.cell? ⟨gb161, 0, none⟩ = some (.int .i64 x162000_1) := (blk_cell BK161.out 0).trans rfl; have hcz64_1 : w62.cell? ⟨gb161, 1, none⟩ = some (u162001) := (blk_cell BK161.out 1).trans rfl; have hcz64_2 : w62.cell? ⟨gb161, 2, none⟩ = some (.string (⟨#[]⟩ : ByteArray)) := (blk_cell BK161.out 2).trans rfl; have hcz64_3 : w62.cell? ⟨gb161, 3, none⟩ = some (.bool x162003_1) := (blk_cell BK161.out 3).trans rfl; have hfz64_0 := blk_frozen BK161.out 0; have hfz64_1 := blk_frozen BK161.out 1; have hfz64_2 := blk_frozen BK161.out 2; have hfz64_3 := blk_frozen BK161.out 3; have hcz65_0 : w62.cell? ⟨gb173, 0, none⟩ = some (.string t169) := (blk_cell BK173.out 0).trans rfl; have hcz65_1 : w62.cell? ⟨gb173, 1, none⟩ = some (.string t170) := (blk_cell BK173.out 1).trans rfl; have hfz65_0 := blk_frozen BK173.out 0; have hfz65_1 := blk_frozen BK173.out 1) | ((with_reducible refine gate_builtin (b := .append) (xs := #[.tmp 73, .tmp 75]) rfl ?_); at_builtin; refine Kd.R_append k26 (w0 := w) w.heap.size rfl (.tmp 73) (.tmp 75) 22 26 (.agg #[(.string ⟨#[]⟩), (.string ⟨#[]⟩)]) 32 rfl Tryd.underlying22 info26 rfl (by decide) (by omega) u162001 x162001_1 (⟨t169, t170⟩ : S26) [.string t169, .string t170] (fun k_ => k_ ≠ gb173) (fun _ => False) rfl rfl ?aP (fun _ hk => hk.elim) ?aF ?aO ?aB ?aS ?aL ?_; (case aP => exact k26_mkM _ _ _ (⟨t169, t170⟩ : S26)); (case aB => exact (tq7_c GE160.out GE161.out GE173.out)); (case aF => exact (fun k_ hk => Kd.freshB (g := gb173) (o := .cells #[.string t169, .string t170] 26 (0, 0)) (tq7_5 BK173.out) k_ hk)); (case aO => exact (by (with_reducible repeat (first | apply Kd.R_alloc | apply Kd.R_drewN | apply Kd.R_drew)); exact Kd.R_mono HO_162001.out (fun _ hk => hk.2))); (case aS => exact (below_size (tq7_c GE160.out GE161.out GE173.out))); (case aL => have := LMc57.out; omega); intro v176 w66 ho hb hg hat; rw [← Ny175.out] at ho; have n0_ := Aq7 (Kd.R_over' (tq7_3 HO_15.out) (Kd.R_typed (tq7_3 HO_162001.out)) (by decide) hg); have n1_ := Aq7 (blk_grown (g := gb160) (o := .cells #[.int .i64 x161000_1, .slice none 0 0, .string x161002_1, .bool x161003_1] 24 (0, 0)) (tq7_5 BK160.out) hg (Kd.R_ne HO_162001.out BK160.out (by decide))); have n2_ := Aq7 (blk_grown (g := gb161) (o := .cells #[.int .i64 x162000_1, u162001, .string (⟨#[]⟩ : ByteArray), .bool x162003_1] 24 (0, 0)) (tq7_5 BK161.out) hg (Kd.R_ne HO_162001.out BK161.out (by decide))); have n3_ := Aq7 (blk_grown (g := gb173) (o := .cells #[.string t169, .string t170] 26 (0, 0)) (tq7_5 BK173.out) hg (Kd.R_away HO_162001.out (fun _ hk => hk.2))); have n4_ := Aq7 (hb); have n5_ := Aq7 (ho); clear HO_15; clear BK160; clear BK161; clear BK173; clear HB; clear HO_162001; have HO_15 := n0_; have BK160 := n1_; have BK161 := n2_; have BK173 := n3_; have HB := n4_; have HO177 := n5_; clear n0_ n1_ n2_ n3_ n4_ n5_; clear ho hb hg hat; obtain ⟨Ao67, co67, eo67⟩ := Kd.R_slice HO177.out; subst eo67; have hcz68_0 : w66.cell? ⟨gb161, 0, none⟩ = some (.int .i64 x162000_1) := (blk_cell BK161.out 0).trans rfl; have hcz68_1 : w66.cell? ⟨gb161, 1, none⟩ = some (u162001) := (blk_cell BK161.out 1).trans rfl; have hcz68_2 : w66.cell? ⟨gb161, 2, none⟩ = some (.string (⟨#[]⟩ : ByteArray)) := (blk_cell BK161.out 2).trans rfl; have hcz68_3 : w66.cell? ⟨gb161, 3, none⟩ = some (.bool x162003_1) := (blk_cell BK161.out 3).trans rfl; have hfz68_0 := blk_frozen BK161.out 0; have hfz68_1 := blk_frozen BK161.out 1; have hfz68_2 := blk_frozen BK161.out 2; have hfz68_3 := blk_frozen BK161.out 3))
             go_roundg k1
             case measure => have := HK1.out; omega
             case rel => exact ⟨(t172), (wrap64 (x7_1 + 1)), (wrap64 (x17_1 + 1)), (x161000_1), (x161002_1), (x161003_1), (x162000_1), (y175), (x162003_1), (.slice Ao67 y175.length co67), tq7_0, tq7_0, tq7_0, H', ⟨by have := HK1.out; omega⟩, ⟨(tq7_h HO_15.out BK161.out)⟩, ⟨(tq7_h HO177.out BK161.out)⟩, ⟨(tq7_g NB160_161.out BK160.out)⟩, ⟨by (with_reducible repeat (first | refine blk_drewN ?_ _ | refine blk_drew ?_ | refine blk_alloc ?_ _)); refine blk_put (cs := #[.int .i64 x162000_1, u162001, .string (⟨#[]⟩ : ByteArray), .bool x162003_1]) ?_ 1 _ rfl; (with_reducible repeat (first | refine blk_drewN ?_ _ | refine blk_drew ?_ | refine blk_alloc ?_ _)); exact BK161.out⟩, ⟨(tq7_c GE160.out GE161.out GE173.out)⟩⟩
            ·rw [if_neg c57] at H
             exact absurd H (by simp)
           ·replace c56 := Bool.eq_false_iff.mpr c56
            subst c56
            have H1 : (some (0, ([] : List (S26)), (⟨#[]⟩ : ByteArray), false, 0, false)) = some (r1, r2, r3, r4, r5, r6) := by rw [if_neg (show ¬ (false = true) by decide)] at H; exact H
            clear H
            have H := H1
            clear H1
            simp only [Option.some.injEq, Prod.mk.injEq] at H
            obtain ⟨rfl, rfl, rfl, rfl, rfl, rfl⟩ := H
            have p165 : 0 ≤ (x17_1 : Int) := of_decide_eq_true tq7_1
            have q165 : x17_1 < (t162.length : Int) := of_decide_eq_true tq7_1
            obtain ⟨ad165, e165, hx165_0⟩ := Kd.at_string (Kd.R_reads' HO_15.out).2.2 x17_1 p165 q165
            cases e165
            replace p165 := eq_true p165
            replace q165 := eq_true q165
            go_wp2_with (first | ((with_reducible refine gate_callee (f := 77) rfl ?_); refine goesL_ (some 56) rfl rfl Tryd.func77 (by kernel_rfl) rfl #[.string (rdOf ByteArray.empty t162 x17_1), .string (⟨#[58, 32]⟩ : ByteArray)] rfl tq7_8 ?_; (with_reducible refine (strings_Cut.calls (rdOf ByteArray.empty t162 x17_1) (⟨#[58, 32]⟩ : ByteArray) t169 t170 true _ A51.out ?side1).mono ?_); (case side1 => exact HG.out.step (tq7_b GE160.out GE161.out) rfl); rintro e w' ⟨rfl, ⟨nd, rfl⟩⟩; refine ⟨_, rfl, ?_⟩; (try (rw [drewN_self wr]; generalize hq_ : World.drewN wr _ = wr; have n0_ : Aside0 (Kd.R Kd.string 9 wr w.heap.size (fun _ => True) (.slice (some ad165) t162.length co6) t162) := ⟨(tq7_4 HO_15.out)⟩; have n1_ : Aside0 (Kd.R k26 26 wr w.heap.size (fun _ => True) u162001 x162001_1) := ⟨(tq7_4 HO_162001.out)⟩; have n2_ : Aside0 (wr.heap[gb160]? = some (.cells #[.int .i64 x161000_1, .slice none 0 0, .string x161002_1, .bool x161003_1] 24 (0, 0))) := ⟨(tq7_6 BK160.out)⟩; have n3_ : Aside0 (wr.heap[gb161]? = some (.cells #[.int .i64 x162000_1, u162001, .string (⟨#[]⟩ : ByteArray), .bool x162003_1] 24 (0, 0))) := ⟨(tq7_6 BK161.out)⟩; have n4_ : Aside0 (Below w.heap.size w wr) := ⟨by rw [← hq_]; exact (tq7_b GE160.out GE161.out)⟩; clear HO_15 HO_162001 BK160 BK161 HB hq_; have HO_15 := n0_; have HO_162001 := n1_; have BK160 := n2_; have BK161 := n3_; have HB := n4_; clear n0_ n1_ n2_ n3_ n4_))) | ((with_reducible refine gate_callee (f := 78) rfl ?_); refine goesL_ (some 63) rfl rfl Tryd.func78 (by kernel_rfl) rfl #[.string (rdOf ByteArray.empty t162 x17_1)] rfl tq7_8 ?_; (with_reducible refine (reply_size.calls k1 (rdOf ByteArray.empty t162 x17_1) t172 _ A53.out).mono ?_); rintro e w' ⟨rfl, ⟨nd, rfl⟩⟩; refine ⟨_, rfl, ?_⟩; (try (rw [drewN_self wr]; generalize hq_ : World.drewN wr _ = wr; have n0_ : Aside0 (Kd.R Kd.string 9 wr w.heap.size (fun _ => True) (.slice (some ad165) t162.length co6) t162) := ⟨(tq7_4 HO_15.out)⟩; have n1_ : Aside0 (Kd.R k26 26 wr w.heap.size (fun _ => True) u162001 x162001_1) := ⟨(tq7_4 HO_162001.out)⟩; have n2_ : Aside0 (wr.heap[gb160]? = some (.cells #[.int .i64 x161000_1, .slice none 0 0, .string x161002_1, .bool x161003_1] 24 (0, 0))) := ⟨(tq7_6 BK160.out)⟩; have n3_ : Aside0 (wr.heap[gb161]? = some (.cells #[.int .i64 x162000_1, u162001, .string (⟨#[]⟩ : ByteArray), .bool x162003_1] 24 (0, 0))) := ⟨(tq7_6 BK161.out)⟩; have n4_ : Aside0 (Below w.heap.size w wr) := ⟨by rw [← hq_]; exact (tq7_b GE160.out GE161.out)⟩; clear HO_15 HO_162001 BK160 BK161 HB hq_; have HO_15 := n0_; have HO_162001 := n1_; have BK160 := n2_; have BK161 := n3_; have HB := n4_; clear n0_ n1_ n2_ n3_ n4_))) | ((with_reducible refine gate_dst (N := 13) rfl ?_); refine box_event ?hg (N := 13) ?hd (cs := #[.string (⟨#[]⟩ : ByteArray), .string (⟨#[]⟩ : ByteArray)]) (t := 26) ?hr ?_; (case hd => rfl); (case hg => rfl); (case hr => first | (go_simp; done) | (go_simp; rfl)); intro gb173 hg w69 hbox hb; replace HO_15 := Aq7 (Kd.R_below (tq7_3 HO_15.out) hb); replace HO_162001 := Aq7 (Kd.R_below (Kd.R_elderB (tq7_3 HO_162001.out) gb173 (Nat.le_of_eq hg.symm)) hb); have BK173 := Aq7 (hbox); have GW173 := Aq7 ((by rw [hg]; exact (below_size (tq7_b GE160.out GE161.out)) : w.heap.size ≤ gb173)); have GE173 := Aq7 ((by rw [hg]; exact (below_size (tq7_b GE160.out GE161.out)) : w.heap.size ≤ gb173)); have NB160_173 := Aq7 ((by rw [hg]; exact Nat.ne_of_lt (blk_lt (g := gb160) (o := .cells #[.int .i64 x161000_1, .slice none 0 0, .string x161002_1, .bool x161003_1] 24 (0, 0)) (tq7_5 BK160.out)) : gb160 ≠ gb173)); have NB173_160 := Aq7 ((by rw [hg]; exact Nat.ne_of_gt (blk_lt (g := gb160) (o := .cells #[.int .i64 x161000_1, .slice none 0 0, .string x161002_1, .bool x161003_1] 24 (0, 0)) (tq7_5 BK160.out)) : gb173 ≠ gb160)); replace BK160 := Aq7 (blk_below (g := gb160) (o := .cells #[.int .i64 x161000_1, .slice none 0 0, .string x161002_1, .bool x161003_1] 24 (0, 0)) (tq7_5 BK160.out) hb); have NB161_173 := Aq7 ((by rw [hg]; exact Nat.ne_of_lt (blk_lt (g := gb161) (o := .cells #[.int .i64 x162000_1, u162001, .string (⟨#[]⟩ : ByteArray), .bool x162003_1] 24 (0, 0)) (tq7_5 BK161.out)) : gb161 ≠ gb173)); have NB173_161 := Aq7 ((by rw [hg]; exact Nat.ne_of_gt (blk_lt (g := gb161) (o := .cells #[.int .i64 x162000_1, u162001, .string (⟨#[]⟩ : ByteArray), .bool x162003_1] 24 (0, 0)) (tq7_5 BK161.out)) : gb173 ≠ gb161)); replace BK161 := Aq7 (blk_below (g := gb161) (o := .cells #[.int .i64 x162000_1, u162001, .string (⟨#[]⟩ : ByteArray), .bool x162003_1] 24 (0, 0)) (tq7_5 BK161.out) hb); replace HB := Aq7 (below_step (tq7_b GE160.out GE161.out) hb); clear hb hbox hg; have hnb70 := NB173_160.out; have hnc70 := NB160_173.out; have hnb71 := NB173_161.out; have hnc71 := NB161_173.out; have hcz72_0 : w69.cell? ⟨gb173, 0, none⟩ = some (.string (⟨#[]⟩ : ByteArray)) := (blk_cell BK173.out 0).trans rfl; have hcz72_1 : w69.cell? ⟨gb173, 1, none⟩ = some (.string (⟨#[]⟩ : ByteArray)) := (blk_cell BK173.out 1).trans rfl; have hfz72_0 := blk_frozen BK173.out 0; have hfz72_1 := blk_frozen BK173.out 1) | ((with_reducible refine gate_callee (f := 40) rfl ?_); refine goesL_ (some 70) rfl rfl Tryd.func40 (by kernel_rfl) rfl #[.agg #[.string t169, .string t170]] rfl tq7_8 ?_; (with_reducible refine (reply_may.calls k1 t169 t170 false _ A55.out ?side1).mono ?_); (case side1 => exact HG.out.step (tq7_c GE160.out GE161.out GE173.out) rfl); rintro e w73 ⟨rfl, hb⟩; refine ⟨_, rfl, ?_⟩; replace HO_15 := Aq7 (Kd.R_below (tq7_j HO_15.out BK173.out) hb); replace HO_162001 := Aq7 (Kd.R_below (tq7_k HO_162001.out) hb); replace BK160 := Aq7 (blk_below (g := gb160) (o := .cells #[.int .i64 x161000_1, .slice none 0 0, .string x161002_1, .bool x161003_1] 24 (0, 0)) (tq7_i NB160_173.out BK160.out) hb); replace BK161 := Aq7 (blk_below (g := gb161) (o := .cells #[.int .i64 x162000_1, u162001, .string (⟨#[]⟩ : ByteArray), .bool x162003_1] 24 (0, 0)) (tq7_i NB161_173.out BK161.out) hb); replace BK173 := Aq7 (blk_below (g := gb173) (o := .cells #[.string t169, .string t170] 26 (0, 0)) (tq7_m BK173.out) hb); replace HB := Aq7 (below_step (tq7_c GE160.out GE161.out GE173.out) hb); (try clear hb); (try clear hb2); (try clear hk); (try clear hi); have hnb74 := NB160_161.out; have hnc74 := NB161_160.out; have hcz75_0 : w73.cell? ⟨gb160, 0, none⟩ = some (.int .i64 x161000_1) := (blk_cell BK160.out 0).trans rfl; have hcz75_1 : w73.cell? ⟨gb160, 1, none⟩ = some (.slice none 0 0) := (blk_cell BK160.out 1).trans rfl; have hcz75_2 : w73.cell? ⟨gb160, 2, none⟩ = some (.string x161002_1) := (blk_cell BK160.out 2).trans rfl; have hcz75_3 : w73.cell? ⟨gb160, 3, none⟩ = some (.bool x161003_1) := (blk_cell BK160.out 3).trans rfl; have hfz75_0 := blk_frozen BK160.out 0; have hfz75_1 := blk_frozen BK160.out 1; have hfz75_2 := blk_frozen BK160.out 2; have hfz75_3 := blk_frozen BK160.out 3))
            (try rw [Exit.noGoto_ret])
            refine bodyPost_ret (results_ctt rfl _ _ gb160 24 #[.int .i64 0, .slice none 0 0, .string (⟨#[]⟩ : ByteArray), .bool false] (0, 0) _ rfl (tq7_n BK160.out) Tryd.underlying24 rfl (by kernel_rfl)) rfl ?_
            exact ⟨_, tq7_2, tq7_9, (tq7_c GE160.out GE161.out GE173.out)⟩
         ·replace c52 := Bool.eq_false_iff.mpr c52
          subst c52
          have H1 : (some (0, ([] : List (S26)), (⟨#[]⟩ : ByteArray), false, 0, false)) = some (r1, r2, r3, r4, r5, r6) := by rw [if_neg (show ¬ (false = true) by decide)] at H; exact H
          clear H
          have H := H1
          clear H1
          simp only [Option.some.injEq, Prod.mk.injEq] at H
          obtain ⟨rfl, rfl, rfl, rfl, rfl, rfl⟩ := H
          have p165 : 0 ≤ (x17_1 : Int) := of_decide_eq_true tq7_1
          have q165 : x17_1 < (t162.length : Int) := of_decide_eq_true tq7_1
          obtain ⟨ad165, e165, hx165_0⟩ := Kd.at_string (Kd.R_reads' HO_15.out).2.2 x17_1 p165 q165
          cases e165
          replace p165 := eq_true p165
          replace q165 := eq_true q165
          go_wp2_with (first | ((with_reducible refine gate_callee (f := 77) rfl ?_); refine goesL_ (some 56) rfl rfl Tryd.func77 (by kernel_rfl) rfl #[.string (rdOf ByteArray.empty t162 x17_1), .string (⟨#[58, 32]⟩ : ByteArray)] rfl tq7_8 ?_; (with_reducible refine (strings_Cut.calls (rdOf ByteArray.empty t162 x17_1) (⟨#[58, 32]⟩ : ByteArray) t169 t170 false _ A51.out ?side1).mono ?_); (case side1 => exact HG.out.step (tq7_b GE160.out GE161.out) rfl); rintro e w' ⟨rfl, ⟨nd, rfl⟩⟩; refine ⟨_, rfl, ?_⟩; (try (rw [drewN_self wr]; generalize hq_ : World.drewN wr _ = wr; have n0_ : Aside0 (Kd.R Kd.string 9 wr w.heap.size (fun _ => True) (.slice (some ad165) t162.length co6) t162) := ⟨(tq7_4 HO_15.out)⟩; have n1_ : Aside0 (Kd.R k26 26 wr w.heap.size (fun _ => True) u162001 x162001_1) := ⟨(tq7_4 HO_162001.out)⟩; have n2_ : Aside0 (wr.heap[gb160]? = some (.cells #[.int .i64 x161000_1, .slice none 0 0, .string x161002_1, .bool x161003_1] 24 (0, 0))) := ⟨(tq7_6 BK160.out)⟩; have n3_ : Aside0 (wr.heap[gb161]? = some (.cells #[.int .i64 x162000_1, u162001, .string (⟨#[]⟩ : ByteArray), .bool x162003_1] 24 (0, 0))) := ⟨(tq7_6 BK161.out)⟩; have n4_ : Aside0 (Below w.heap.size w wr) := ⟨by rw [← hq_]; exact (tq7_b GE160.out GE161.out)⟩; clear HO_15 HO_162001 BK160 BK161 HB hq_; have HO_15 := n0_; have HO_162001 := n1_; have BK160 := n2_; have BK161 := n3_; have HB := n4_; clear n0_ n1_ n2_ n3_ n4_)); have hnb76 := NB160_161.out; have hnc76 := NB161_160.out; have hcz77_0 : wr.cell? ⟨gb160, 0, none⟩ = some (.int .i64 x161000_1) := (blk_cell BK160.out 0).trans rfl; have hcz77_1 : wr.cell? ⟨gb160, 1, none⟩ = some (.slice none 0 0) := (blk_cell BK160.out 1).trans rfl; have hcz77_2 : wr.cell? ⟨gb160, 2, none⟩ = some (.string x161002_1) := (blk_cell BK160.out 2).trans rfl; have hcz77_3 : wr.cell? ⟨gb160, 3, none⟩ = some (.bool x161003_1) := (blk_cell BK160.out 3).trans rfl; have hfz77_0 := blk_frozen BK160.out 0; have hfz77_1 := blk_frozen BK160.out 1; have hfz77_2 := blk_frozen BK160.out 2; have hfz77_3 := blk_frozen BK160.out 3))
          (try rw [Exit.noGoto_ret])
          refine bodyPost_ret (results_ctt rfl _ _ gb160 24 #[.int .i64 0, .slice none 0 0, .string (⟨#[]⟩ : ByteArray), .bool false] (0, 0) _ rfl (tq7_n BK160.out) Tryd.underlying24 rfl (by kernel_rfl)) rfl ?_
          exact ⟨_, tq7_2, tq7_9, (tq7_b GE160.out GE161.out)⟩
     ·rw [if_neg c9] at H
      exact absurd H (by simp)
    ·rw [if_neg c8] at H
     exact absurd H (by simp)
   ·rw [if_neg c7] at H
    have c7b0 : decide (x17_1 < (t162.length : Int)) = false := decide_eq_false c7
    clear c7
    simp only [Option.some.injEq, Prod.mk.injEq] at H
    obtain ⟨rfl, rfl, rfl, rfl, rfl, rfl⟩ := H
    have hnb78 := NB160_161.out
    have hnc78 := NB161_160.out
    have hcz79_0 : wr.cell? ⟨gb160, 0, none⟩ = some (.int .i64 x161000_1) := (blk_cell BK160.out 0).trans rfl
    have hcz79_1 : wr.cell? ⟨gb160, 1, none⟩ = some (.slice none 0 0) := (blk_cell BK160.out 1).trans rfl
    have hcz79_2 : wr.cell? ⟨gb160, 2, none⟩ = some (.string x161002_1) := (blk_cell BK160.out 2).trans rfl
    have hcz79_3 : wr.cell? ⟨gb160, 3, none⟩ = some (.bool x161003_1) := (blk_cell BK160.out 3).trans rfl
    have hfz79_0 := blk_frozen BK160.out 0
    have hfz79_1 := blk_frozen BK160.out 1
    have hfz79_2 := blk_frozen BK160.out 2
    have hfz79_3 := blk_frozen BK160.out 3
    go_wp2
    (try rw [Exit.noGoto_ret])
    refine bodyPost_ret (results_ctt rfl _ _ gb160 24 #[.int .i64 0, .slice none 0 0, .string (⟨#[]⟩ : ByteArray), .bool false] (0, 0) _ rfl (tq7_n BK160.out) Tryd.underlying24 rfl (by kernel_rfl)) rfl ?_
    exact ⟨_, tq7_2, tq7_9, (tq7_b GE160.out GE161.out)⟩

end Go.Proofs.YtdlfdmbaejhaaaaDoor.Q
