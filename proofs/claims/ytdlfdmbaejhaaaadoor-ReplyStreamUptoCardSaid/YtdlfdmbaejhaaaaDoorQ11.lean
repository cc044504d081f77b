/- The plain Lean functions that calls of the program answer, and proofs that they do. Printed by program out of the translation; Lean checks it. -/
import Derived.Test.YtdlfdmbaejhaaaaDoorQ0
import Derived.Test.YtdlfdmbaejhaaaaDoorQ4
import Derived.Test.YtdlfdmbaejhaaaaDoorQ5
import Derived.Test.YtdlfdmbaejhaaaaDoorQ8
import Derived.Test.YtdlfdmbaejhaaaaDoorQ9
import Derived.Test.YtdlfdmbaejhaaaaDoorQ10
import Derived.Test.YtdlfdmbaejhaaaaDoorTabs
namespace Go.Proofs.YtdlfdmbaejhaaaaDoor.Q
open Go.RowKit Go.Proofs.YtdlfdmbaejhaaaaDoorW.PrintWords Go.Proofs.YtdlfdmbaejhaaaaDoorW.PrintLast Go.Proofs.YtdlfdmbaejhaaaaDoorW.PrintMore
attribute [local go_sem] max2_int min2_int max_two min_two max_three min_three max_four min_four   -- for this text's walks alone
set_option linter.unusedVariables false
set_option linter.unusedSimpArgs false

theorem Aq11 {p : Prop} (h : p) : Aside0 p := ⟨h⟩
theorem tq11_0 {P : Prop} (h : P := by first | rfl | (simp; done) | (simp [*]; done)) : P := h
theorem tq11_1 {P : Prop} (h : P := by first | (with_reducible assumption) | assumption) : P := h
theorem tq11_2 {P : Prop} (h : P := by first | rfl | (simp [errW_none, errW_some] <;> rfl) | (simp [*, errW_none, errW_some] <;> rfl)) : P := h
theorem tq11_3 {P Q0 : Prop} (y0 : Q0) (h : Q0 → P := by intro y0_; (with_reducible repeat (first | apply Kd.R_alloc | apply Kd.R_drewN | apply Kd.R_drew)); exact y0_) : P := h y0
theorem tq11_4 {P Q0 : Prop} (y0 : Q0) (h : Q0 → P := by intro y0_; (with_reducible repeat (first | refine blk_drewN ?_ _ | refine blk_drew ?_ | refine blk_alloc ?_ _)); exact y0_) : P := h y0
theorem tq11_5 {P Q0 : Prop} (y0 : Q0) (h : Q0 → P := by intro y0_; rw [← hq_]; exact (tq11_4 y0_)) : P := h y0
theorem tq11_6 {P : Prop} (h : P := by repeat (first | (with_reducible first | exact HB.out | apply below_alloc | apply pw_below_drewN | apply below_drew1) | exact HB.out)) : P := h
theorem tq11_7 {P : Prop} (h : P := by (try simp only [List.map_toArray, List.map_cons, List.map_nil]); first | done | rfl | (simp only [List.length_drop, List.length_take]; rfl)) : P := h
theorem tq11_8 {P Q0 : Prop} (y0 : Q0) (h : Q0 → P := by intro y0_; repeat (first | (with_reducible first | exact HB.out | apply below_alloc | apply pw_below_drewN | apply below_drew1 | refine below_set ?_ y0_) | exact HB.out)) : P := h y0
theorem tq11_9 {P Q0 Q1 : Prop} (y0 : Q0) (y1 : Q1) (h : Q0 → Q1 → P := by intro y0_ y1_; repeat (first | (with_reducible first | exact HB.out | apply below_alloc | apply pw_below_drewN | apply below_drew1 | refine below_set ?_ y0_ | refine below_set ?_ y1_) | exact HB.out)) : P := h y0 y1
theorem tq11_a {P Q0 Q1 Q2 : Prop} (y0 : Q0) (y1 : Q1) (y2 : Q2) (h : Q0 → Q1 → Q2 → P := by intro y0_ y1_ y2_; repeat (first | (with_reducible first | exact HB.out | apply below_alloc | apply pw_below_drewN | apply below_drew1 | refine below_set ?_ y0_ | refine below_set ?_ y1_ | refine below_set ?_ y2_) | exact HB.out)) : P := h y0 y1 y2
theorem tq11_b {P Q0 Q1 : Prop} (y0 : Q0) (y1 : Q1) (h : Q0 → Q1 → P := by intro y0_ y1_; (with_reducible repeat (first | refine blk_drewN ?_ _ | refine blk_drew ?_ | refine blk_alloc ?_ _)); refine blk_far ?_ y0_ _; (with_reducible repeat (first | refine blk_drewN ?_ _ | refine blk_drew ?_ | refine blk_alloc ?_ _)); exact y1_) : P := h y0 y1
theorem tq11_c {P Q0 Q1 : Prop} (y0 : Q0) (y1 : Q1) (h : Q0 → Q1 → P := by intro y0_ y1_; (iterate 4 ((with_reducible repeat (first | refine blk_drewN ?_ _ | refine blk_drew ?_ | refine blk_alloc ?_ _)); refine blk_far ?_ y0_ _)); (with_reducible repeat (first | refine blk_drewN ?_ _ | refine blk_drew ?_ | refine blk_alloc ?_ _)); exact y1_) : P := h y0 y1
theorem tq11_d {P Q0 Q1 : Prop} (y0 : Q0) (y1 : Q1) (h : Q0 → Q1 → P := by intro y0_ y1_; (with_reducible repeat (first | apply Kd.R_alloc | apply Kd.R_drewN | apply Kd.R_drew)); exact (Kd.R_mono (Kd.R_far (p := ⟨gb285, 3, none⟩) (Kd.R_far (p := ⟨gb285, 2, none⟩) (Kd.R_far (p := ⟨gb285, 1, none⟩) (Kd.R_far (p := ⟨gb285, 0, none⟩) (Kd.R_types y0_ y1_ (by decide)) (fun _ hk => hk.2) (.int .i64 t279)) (fun _ hk => hk.2) (.slice Ao14 t280.length co14)) (fun _ hk => hk.2) (.string t283)) (fun _ hk => hk.2) (.bool t284)) (fun _ h_ => h_.1))) : P := h y0 y1
theorem tq11_e {P Q0 Q1 : Prop} (y0 : Q0) (y1 : Q1) (h : Q0 → Q1 → P := by intro y0_ y1_; (with_reducible repeat (first | apply Kd.R_alloc | apply Kd.R_drewN | apply Kd.R_drew)); exact (Kd.R_mono (Kd.R_far (p := ⟨gb296, 3, none⟩) (Kd.R_far (p := ⟨gb296, 2, none⟩) (Kd.R_far (p := ⟨gb296, 1, none⟩) (Kd.R_far (p := ⟨gb296, 0, none⟩) (Kd.R_types y0_ y1_ (by decide)) (fun _ hk => hk.2) (.int .i64 t288)) (fun _ hk => hk.2) (.slice Ao22 t289.length co22)) (fun _ hk => hk.2) (.string t292)) (fun _ hk => hk.2) (.bool t293)) (fun _ h_ => h_.1))) : P := h y0 y1
theorem tq11_f {P Q0 Q1 : Prop} (y0 : Q0) (y1 : Q1) (h : Q0 → Q1 → P := by intro y0_ y1_; (with_reducible repeat (first | apply Kd.R_alloc | apply Kd.R_drewN | apply Kd.R_drew)); exact (Kd.R_mono (Kd.R_far (p := ⟨gb285, 3, none⟩) (Kd.R_far (p := ⟨gb285, 2, none⟩) (Kd.R_far (p := ⟨gb285, 1, none⟩) (Kd.R_far (p := ⟨gb285, 0, none⟩) (Kd.R_types y0_ y1_ (by decide)) (fun _ hk => hk.2) (.int .i64 t279)) (fun _ hk => hk.2) (.slice Ao31 t280.length co31)) (fun _ hk => hk.2) (.string t283)) (fun _ hk => hk.2) (.bool t284)) (fun _ h_ => h_.1))) : P := h y0 y1
theorem tq11_g {P Q0 Q1 : Prop} (y0 : Q0) (y1 : Q1) (h : Q0 → Q1 → P := by intro y0_ y1_; (with_reducible repeat (first | apply Kd.R_alloc | apply Kd.R_drewN | apply Kd.R_drew)); exact (Kd.R_mono (Kd.R_far (p := ⟨gb296, 3, none⟩) (Kd.R_far (p := ⟨gb296, 2, none⟩) (Kd.R_far (p := ⟨gb296, 1, none⟩) (Kd.R_far (p := ⟨gb296, 0, none⟩) (Kd.R_types y0_ y1_ (by decide)) (fun _ hk => hk.2) (.int .i64 t288)) (fun _ hk => hk.2) (.slice Ao39 t289.length co39)) (fun _ hk => hk.2) (.string t292)) (fun _ hk => hk.2) (.bool t293)) (fun _ h_ => h_.1))) : P := h y0 y1
theorem tq11_h {P Q0 Q1 : Prop} (y0 : Q0) (y1 : Q1) (h : Q0 → Q1 → P := by intro y0_ y1_; (with_reducible repeat (first | apply Kd.R_alloc | apply Kd.R_drewN | apply Kd.R_drew)); exact (Kd.R_mono (Kd.R_far (p := ⟨gb285, 3, none⟩) (Kd.R_far (p := ⟨gb285, 2, none⟩) (Kd.R_far (p := ⟨gb285, 1, none⟩) (Kd.R_far (p := ⟨gb285, 0, none⟩) (Kd.R_types y0_ y1_ (by decide)) (fun _ hk => hk.2) (.int .i64 t279)) (fun _ hk => hk.2) (.slice Ao48 t280.length co48)) (fun _ hk => hk.2) (.string t283)) (fun _ hk => hk.2) (.bool t284)) (fun _ h_ => h_.1))) : P := h y0 y1
theorem tq11_i {P Q0 Q1 : Prop} (y0 : Q0) (y1 : Q1) (h : Q0 → Q1 → P := by intro y0_ y1_; (with_reducible repeat (first | apply Kd.R_alloc | apply Kd.R_drewN | apply Kd.R_drew)); exact (Kd.R_mono (Kd.R_far (p := ⟨gb296, 3, none⟩) (Kd.R_far (p := ⟨gb296, 2, none⟩) (Kd.R_far (p := ⟨gb296, 1, none⟩) (Kd.R_far (p := ⟨gb296, 0, none⟩) (Kd.R_types y0_ y1_ (by decide)) (fun _ hk => hk.2) (.int .i64 t288)) (fun _ hk => hk.2) (.slice Ao56 t289.length co56)) (fun _ hk => hk.2) (.string t292)) (fun _ hk => hk.2) (.bool t293)) (fun _ h_ => h_.1))) : P := h y0 y1
theorem tq11_j {P Q0 Q1 : Prop} (y0 : Q0) (y1 : Q1) (h : Q0 → Q1 → P := by intro y0_ y1_; (with_reducible repeat (first | apply Kd.R_alloc | apply Kd.R_drewN | apply Kd.R_drew)); exact (Kd.R_mono (Kd.R_far (p := ⟨gb285, 3, none⟩) (Kd.R_far (p := ⟨gb285, 2, none⟩) (Kd.R_far (p := ⟨gb285, 1, none⟩) (Kd.R_far (p := ⟨gb285, 0, none⟩) (Kd.R_types y0_ y1_ (by decide)) (fun _ hk => hk.2) (.int .i64 t279)) (fun _ hk => hk.2) (.slice Ao65 t280.length co65)) (fun _ hk => hk.2) (.string t283)) (fun _ hk => hk.2) (.bool t284)) (fun _ h_ => h_.1))) : P := h y0 y1
theorem tq11_k {P Q0 Q1 : Prop} (y0 : Q0) (y1 : Q1) (h : Q0 → Q1 → P := by intro y0_ y1_; (with_reducible repeat (first | apply Kd.R_alloc | apply Kd.R_drewN | apply Kd.R_drew)); exact (Kd.R_mono (Kd.R_far (p := ⟨gb296, 3, none⟩) (Kd.R_far (p := ⟨gb296, 2, none⟩) (Kd.R_far (p := ⟨gb296, 1, none⟩) (Kd.R_far (p := ⟨gb296, 0, none⟩) (Kd.R_types y0_ y1_ (by decide)) (fun _ hk => hk.2) (.int .i64 t288)) (fun _ hk => hk.2) (.slice Ao73 t289.length co73)) (fun _ hk => hk.2) (.string t292)) (fun _ hk => hk.2) (.bool t293)) (fun _ h_ => h_.1))) : P := h y0 y1
/-! ### usherlaw8_tidy: function 35 -/
mutual
def usherlaw8_tidy.l0 : Nat → Int → Int → List (S26) → ByteArray → Bool → Int → List (S26) → ByteArray → Bool → Option (Int × (List (S26)) × ByteArray × Bool)
 | 0, _, _, _, _, _, _, _, _, _ => none
 | k + 1, x4, x266000, x266001, x266002, x266003, x268000, x268001, x268002, x268003 => if x4 < (x266001.length : Int) then (usherlaw8_tidy.j1 k x4 (decide (x4 < 64)) x266000 x266001 x266002 x266003 x268000 x268001 x268002 x268003) else (usherlaw8_tidy.j1 k x4 false x266000 x266001 x266002 x266003 x268000 x268001 x268002 x268003)
def usherlaw8_tidy.j1 : Nat → Int → Bool → Int → List (S26) → ByteArray → Bool → Int → List (S26) → ByteArray → Bool → Option (Int × (List (S26)) × ByteArray × Bool)
 | 0, _, _, _, _, _, _, _, _, _, _ => none
 | k + 1, x4, x24, x266000, x266001, x266002, x266003, x268000, x268001, x268002, x268003 => if x24 = true then (if 0 ≤ x4 then (if x4 < (x266001.length : Int) then ((usherlaw8_nameOf.f k ((rd_T26 x266001 x4).f0)).bind fun t271 => ((usherlaw8_valueOf.f k ((rd_T26 x266001 x4).f1)).bind fun t273 => (if x268001.length < 4398046511104 then (usherlaw8_tidy.l0 k (wrap64 (x4 + 1)) x266000 x266001 x266002 x266003 x268000 (x268001 ++ [(⟨t271, t273⟩ : S26)]) x268002 x268003) else (none)))) else (none)) else (none)) else ((usherkit_Head.f x266002 1048576).bind fun t277 => (some (x268000, x268001, t277, x268003)))
end
def usherlaw8_tidy.f (k : Nat) (a0_0 : Int) (l0_1 : List (S26)) (a0_2 : ByteArray) (a0_3 : Bool) : Option (Int × (List (S26)) × ByteArray × Bool) := (usherkit_Pick.f a0_0 17).bind fun t268 => (if 0 ≤ t268 then (if t268 < 17 then (usherlaw8_tidy.l0 k 0 a0_0 l0_1 a0_2 a0_3 (usherlaw8_statuses.c0 t268) ([] : List (S26)) (⟨#[]⟩ : ByteArray) a0_3) else (none)) else (none))
theorem usherlaw8_tidy.mono_l : ∀ k, (∀ y0 y1 y2 y3 y4 y5 y6 y7 y8, LeO (usherlaw8_tidy.l0 k y0 y1 y2 y3 y4 y5 y6 y7 y8) (usherlaw8_tidy.l0 (k + 1) y0 y1 y2 y3 y4 y5 y6 y7 y8)) ∧ (∀ y0 y1 y2 y3 y4 y5 y6 y7 y8 y9, LeO (usherlaw8_tidy.j1 k y0 y1 y2 y3 y4 y5 y6 y7 y8 y9) (usherlaw8_tidy.j1 (k + 1) y0 y1 y2 y3 y4 y5 y6 y7 y8 y9))
 | 0 => ⟨fun _ _ _ _ _ _ _ _ _ r h => by simp [usherlaw8_tidy.l0] at h, fun _ _ _ _ _ _ _ _ _ _ r h => by simp [usherlaw8_tidy.j1] at h⟩
 | k + 1 => by
  obtain ⟨ih0, ih1⟩ := usherlaw8_tidy.mono_l k
  refine ⟨?_, ?_⟩
  ·intro y0 y1 y2 y3 y4 y5 y6 y7 y8
   unfold usherlaw8_tidy.l0
   repeat' first
   | (with_reducible exact ih0 _ _ _ _ _ _ _ _ _)
   | (with_reducible exact ih1 _ _ _ _ _ _ _ _ _ _)
   | (with_reducible exact usherlaw8_nameOf.mono _ _)
   | (with_reducible exact usherlaw8_valueOf.mono _ _)
   | (with_reducible exact LeO.refl _)
   | (with_reducible exact LeO.none _)
   | (with_reducible refine LeO.ite ?_ ?_)
   | (with_reducible refine LeO.bind ?_ (fun _ => ?_))
   | exact ih0 _ _ _ _ _ _ _ _ _
   | exact ih1 _ _ _ _ _ _ _ _ _ _
   | exact usherlaw8_nameOf.mono _ _
   | exact usherlaw8_valueOf.mono _ _
   | exact LeO.none _
   | refine LeO.ite ?_ ?_
   | refine LeO.bind ?_ (fun _ => ?_)
  ·intro y0 y1 y2 y3 y4 y5 y6 y7 y8 y9
   unfold usherlaw8_tidy.j1
   repeat' first
   | (with_reducible exact ih0 _ _ _ _ _ _ _ _ _)
   | (with_reducible exact ih1 _ _ _ _ _ _ _ _ _ _)
   | (with_reducible exact usherlaw8_nameOf.mono _ _)
   | (with_reducible exact usherlaw8_valueOf.mono _ _)
   | (with_reducible exact LeO.refl _)
   | (with_reducible exact LeO.none _)
   | (with_reducible refine LeO.ite ?_ ?_)
   | (with_reducible refine LeO.bind ?_ (fun _ => ?_))
   | exact ih0 _ _ _ _ _ _ _ _ _
   | exact ih1 _ _ _ _ _ _ _ _ _ _
   | exact usherlaw8_nameOf.mono _ _
   | exact usherlaw8_valueOf.mono _ _
   | exact LeO.none _
   | refine LeO.ite ?_ ?_
   | refine LeO.bind ?_ (fun _ => ?_)
theorem usherlaw8_tidy.mono : ∀ a0 a1 a2 a3 k, LeO (usherlaw8_tidy.f k a0 a1 a2 a3) (usherlaw8_tidy.f (k + 1) a0 a1 a2 a3) := by
 intro a0 a1 a2 a3 k
 obtain ⟨ih0, ih1⟩ := usherlaw8_tidy.mono_l k
 unfold usherlaw8_tidy.f
 repeat' first
   | (with_reducible exact ih0 _ _ _ _ _ _ _ _ _)
   | (with_reducible exact ih1 _ _ _ _ _ _ _ _ _ _)
   | (with_reducible exact usherlaw8_nameOf.mono _ _)
   | (with_reducible exact usherlaw8_valueOf.mono _ _)
   | (with_reducible exact LeO.refl _)
   | (with_reducible exact LeO.none _)
   | (with_reducible refine LeO.ite ?_ ?_)
   | (with_reducible refine LeO.bind ?_ (fun _ => ?_))
   | exact ih0 _ _ _ _ _ _ _ _ _
   | exact ih1 _ _ _ _ _ _ _ _ _ _
   | exact usherlaw8_nameOf.mono _ _
   | exact usherlaw8_valueOf.mono _ _
   | exact LeO.none _
   | refine LeO.ite ?_ ?_
   | refine LeO.bind ?_ (fun _ => ?_)
set_option maxHeartbeats 8000000 in
set_option maxRecDepth 100000 in
theorem usherlaw8_tidy.calls [Sent] (k : Nat) (a0_0 : Int) (A0_1 : Option Addr) (c0_1 : Nat) (l0_1 : List (S26)) (a0_2 : ByteArray) (a0_3 : Bool) (r1 : Int) (r2 : List (S26)) (r3 : ByteArray) (r4 : Bool) (w : World) (hr0_1 : Kd.C k26 w A0_1 l0_1.length l0_1) (hc0_1 : l0_1.length ≤ c0_1) (h : usherlaw8_tidy.f k a0_0 l0_1 a0_2 a0_3 = some (r1, r2, r3, r4)) (hG : Glob [7] w) :
  Calls Tryd.prog 35 #[.agg #[.int .i64 a0_0, .slice A0_1 l0_1.length c0_1, .string a0_2, .bool a0_3]] w fun e w' => ∃ v1_ : Value, e = .returned (.agg #[.int .i64 r1, v1_, .string r3, .bool r4]) ∧ Kd.R k26 26 w' w.heap.size (fun _ => True) v1_ r2 ∧ Below w.heap.size w w' := by
 have HG := Aq11 hG
 clear hG
 have hu24 := Tryd.underlying24
 have hu26 := Tryd.underlying26
 have HR0_1 := Aq11 hr0_1
 have HC0_1 := Aq11 hc0_1
 clear hr0_1 hc0_1
 have HB := Aq11 (Below.refl w.heap.size w)
 have H : ((usherkit_Pick.f a0_0 17).bind fun t268 => (if 0 ≤ t268 then (if t268 < 17 then (usherlaw8_tidy.l0 k 0 a0_0 l0_1 a0_2 a0_3 (usherlaw8_statuses.c0 t268) ([] : List (S26)) (⟨#[]⟩ : ByteArray) a0_3) else (none)) else (none))) = some (r1, r2, r3, r4) := h
 clear h
 replace H := Option.bind_eq_some_iff.mp H
 obtain ⟨t268, A20, H⟩ := H
 replace H : (if 0 ≤ t268 then (if t268 < 17 then (usherlaw8_tidy.l0 k 0 a0_0 l0_1 a0_2 a0_3 (usherlaw8_statuses.c0 t268) ([] : List (S26)) (⟨#[]⟩ : ByteArray) a0_3) else (none)) else (none)) = some (r1, r2, r3, r4) := H
 have A2 := Aq11 A20
 clear A20
 by_cases c3 : 0 ≤ t268
 ·rw [if_pos c3] at H
  have c3b0 : decide (0 ≤ t268) = true := decide_eq_true c3
  clear c3
  by_cases c4 : t268 < 17
  ·rw [if_pos c4] at H
   have c4b0 : decide (t268 < 17) = true := decide_eq_true c4
   clear c4
   have H' := Aq11 H
   clear H
   go_enter Tryd.func35, Tryd.ntmps35
   go_upto_region 2 with (first | ((with_reducible refine gate_dst (N := 1) rfl ?_); refine box_event ?hg (N := 1) ?hd (cs := #[.int .i64 a0_0, .slice A0_1 l0_1.length c0_1, .string a0_2, .bool a0_3]) (t := 24) ?hr ?_; (case hd => rfl); (case hg => rfl); (case hr => first | (go_simp; done) | (go_simp; rfl)); intro gb265 hg w6 hbox hb; have BK265 := Aq11 (hbox); have GW265 := Aq11 ((by rw [hg]; exact (below_size tq11_6) : w.heap.size ≤ gb265)); have GE265 := Aq11 ((by rw [hg]; exact (below_size tq11_6) : w.heap.size ≤ gb265)); replace HB := Aq11 (below_step tq11_6 hb); clear hb hbox hg) | ((with_reducible refine gate_dst (N := 2) rfl ?_); refine box_event ?hg (N := 2) ?hd (cs := #[.int .i64 0, .slice none 0 0, .string (⟨#[]⟩ : ByteArray), .bool false]) (t := 24) ?hr ?_; (case hd => rfl); (case hg => rfl); (case hr => first | (go_simp; done) | (go_simp; rfl)); intro gb266 hg w7 hbox hb; have BK266 := Aq11 (hbox); have GW266 := Aq11 ((by rw [hg]; exact (below_size (tq11_8 GE265.out)) : w.heap.size ≤ gb266)); have GE266 := Aq11 ((by rw [hg]; exact (below_size (tq11_8 GE265.out)) : w.heap.size ≤ gb266)); have NB265_266 := Aq11 ((by rw [hg]; exact Nat.ne_of_lt (blk_lt (g := gb265) (o := .cells #[.int .i64 a0_0, .slice A0_1 l0_1.length c0_1, .string a0_2, .bool a0_3] 24 (0, 0)) (tq11_4 BK265.out)) : gb265 ≠ gb266)); have NB266_265 := Aq11 ((by rw [hg]; exact Nat.ne_of_gt (blk_lt (g := gb265) (o := .cells #[.int .i64 a0_0, .slice A0_1 l0_1.length c0_1, .string a0_2, .bool a0_3] 24 (0, 0)) (tq11_4 BK265.out)) : gb266 ≠ gb265)); replace BK265 := Aq11 (blk_below (g := gb265) (o := .cells #[.int .i64 a0_0, .slice A0_1 l0_1.length c0_1, .string a0_2, .bool a0_3] 24 (0, 0)) (tq11_4 BK265.out) hb); replace HB := Aq11 (below_step (tq11_8 GE265.out) hb); clear hb hbox hg; have hnb8 := NB265_266.out; have hnc8 := NB266_265.out; have hcz9_0 : w7.cell? ⟨gb265, 0, none⟩ = some (.int .i64 a0_0) := (blk_cell BK265.out 0).trans rfl; have hcz9_1 : w7.cell? ⟨gb265, 1, none⟩ = some (.slice A0_1 l0_1.length c0_1) := (blk_cell BK265.out 1).trans rfl; have hcz9_2 : w7.cell? ⟨gb265, 2, none⟩ = some (.string a0_2) := (blk_cell BK265.out 2).trans rfl; have hcz9_3 : w7.cell? ⟨gb265, 3, none⟩ = some (.bool a0_3) := (blk_cell BK265.out 3).trans rfl; have hfz9_0 := blk_frozen BK265.out 0; have hfz9_1 := blk_frozen BK265.out 1; have hfz9_2 := blk_frozen BK265.out 2; have hfz9_3 := blk_frozen BK265.out 3) | ((with_reducible refine gate_dst (N := 3) rfl ?_); refine box_event ?hg (N := 3) ?hd (cs := #[.int .i64 0, .slice none 0 0, .string (⟨#[]⟩ : ByteArray), .bool false]) (t := 24) ?hr ?_; (case hd => rfl); (case hg => rfl); (case hr => first | (go_simp; done) | (go_simp; rfl)); intro gb267 hg w10 hbox hb; have BK267 := Aq11 (hbox); have GW267 := Aq11 ((by rw [hg]; exact (below_size (tq11_9 GE265.out GE266.out)) : w.heap.size ≤ gb267)); have GE267 := Aq11 ((by rw [hg]; exact (below_size (tq11_9 GE265.out GE266.out)) : w.heap.size ≤ gb267)); have NB265_267 := Aq11 ((by rw [hg]; exact Nat.ne_of_lt (blk_lt (g := gb265) (o := .cells #[.int .i64 a0_0, .slice A0_1 l0_1.length c0_1, .string a0_2, .bool a0_3] 24 (0, 0)) (tq11_4 BK265.out)) : gb265 ≠ gb267)); have NB267_265 := Aq11 ((by rw [hg]; exact Nat.ne_of_gt (blk_lt (g := gb265) (o := .cells #[.int .i64 a0_0, .slice A0_1 l0_1.length c0_1, .string a0_2, .bool a0_3] 24 (0, 0)) (tq11_4 BK265.out)) : gb267 ≠ gb265)); replace BK265 := Aq11 (blk_below (g := gb265) (o := .cells #[.int .i64 a0_0, .slice A0_1 l0_1.length c0_1, .string a0_2, .bool a0_3] 24 (0, 0)) (tq11_4 BK265.out) hb); have NB266_267 := Aq11 ((by rw [hg]; exact Nat.ne_of_lt (blk_lt (g := gb266) (o := .cells #[.int .i64 0, .slice none 0 0, .string (⟨#[]⟩ : ByteArray), .bool false] 24 (0, 0)) (tq11_4 BK266.out)) : gb266 ≠ gb267)); have NB267_266 := Aq11 ((by rw [hg]; exact Nat.ne_of_gt (blk_lt (g := gb266) (o := .cells #[.int .i64 0, .slice none 0 0, .string (⟨#[]⟩ : ByteArray), .bool false] 24 (0, 0)) (tq11_4 BK266.out)) : gb267 ≠ gb266)); replace BK266 := Aq11 (blk_below (g := gb266) (o := .cells #[.int .i64 0, .slice none 0 0, .string (⟨#[]⟩ : ByteArray), .bool false] 24 (0, 0)) (tq11_4 BK266.out) hb); replace HB := Aq11 (below_step (tq11_9 GE265.out GE266.out) hb); clear hb hbox hg; have hnb11 := NB267_265.out; have hnc11 := NB265_267.out; have hnb12 := NB267_266.out; have hnc12 := NB266_267.out; have hcz13_0 : w10.cell? ⟨gb267, 0, none⟩ = some (.int .i64 0) := (blk_cell BK267.out 0).trans rfl; have hcz13_1 : w10.cell? ⟨gb267, 1, none⟩ = some (.slice none 0 0) := (blk_cell BK267.out 1).trans rfl; have hcz13_2 : w10.cell? ⟨gb267, 2, none⟩ = some (.string (⟨#[]⟩ : ByteArray)) := (blk_cell BK267.out 2).trans rfl; have hcz13_3 : w10.cell? ⟨gb267, 3, none⟩ = some (.bool false) := (blk_cell BK267.out 3).trans rfl; have hfz13_0 := blk_frozen BK267.out 0; have hfz13_1 := blk_frozen BK267.out 1; have hfz13_2 := blk_frozen BK267.out 2; have hfz13_3 := blk_frozen BK267.out 3))
   have n0_ : Aside0 (((((w10.setCell ⟨gb267, 0, none⟩ (.int .i64 0)).setCell ⟨gb267, 1, none⟩ (.slice none 0 0)).setCell ⟨gb267, 2, none⟩ (.string (⟨#[]⟩ : ByteArray))).setCell ⟨gb267, 3, none⟩ (.bool a0_3)).heap[gb265]? = some (.cells #[.int .i64 a0_0, .slice A0_1 l0_1.length c0_1, .string a0_2, .bool a0_3] 24 (0, 0))) := ⟨(tq11_c NB265_267.out BK265.out)⟩
   have n1_ : Aside0 (((((w10.setCell ⟨gb267, 0, none⟩ (.int .i64 0)).setCell ⟨gb267, 1, none⟩ (.slice none 0 0)).setCell ⟨gb267, 2, none⟩ (.string (⟨#[]⟩ : ByteArray))).setCell ⟨gb267, 3, none⟩ (.bool a0_3)).heap[gb266]? = some (.cells #[.int .i64 0, .slice none 0 0, .string (⟨#[]⟩ : ByteArray), .bool false] 24 (0, 0))) := ⟨(tq11_c NB266_267.out BK266.out)⟩
   have n2_ : Aside0 (((((w10.setCell ⟨gb267, 0, none⟩ (.int .i64 0)).setCell ⟨gb267, 1, none⟩ (.slice none 0 0)).setCell ⟨gb267, 2, none⟩ (.string (⟨#[]⟩ : ByteArray))).setCell ⟨gb267, 3, none⟩ (.bool a0_3)).heap[gb267]? = some (.cells #[.int .i64 0, .slice none 0 0, .string (⟨#[]⟩ : ByteArray), .bool a0_3] 24 (0, 0))) := ⟨by (with_reducible repeat (first | refine blk_drewN ?_ _ | refine blk_drew ?_ | refine blk_alloc ?_ _)); refine blk_put (cs := #[.int .i64 0, .slice none 0 0, .string (⟨#[]⟩ : ByteArray), .bool false]) ?_ 3 _ rfl; (with_reducible repeat (first | refine blk_drewN ?_ _ | refine blk_drew ?_ | refine blk_alloc ?_ _)); refine blk_put (cs := #[.int .i64 0, .slice none 0 0, .string (⟨#[]⟩ : ByteArray), .bool false]) ?_ 2 _ rfl; (with_reducible repeat (first | refine blk_drewN ?_ _ | refine blk_drew ?_ | refine blk_alloc ?_ _)); refine blk_put (cs := #[.int .i64 0, .slice none 0 0, .string (⟨#[]⟩ : ByteArray), .bool false]) ?_ 1 _ rfl; (with_reducible repeat (first | refine blk_drewN ?_ _ | refine blk_drew ?_ | refine blk_alloc ?_ _)); refine blk_put (cs := #[.int .i64 0, .slice none 0 0, .string (⟨#[]⟩ : ByteArray), .bool false]) ?_ 0 _ rfl; (with_reducible repeat (first | refine blk_drewN ?_ _ | refine blk_drew ?_ | refine blk_alloc ?_ _)); exact BK267.out⟩
   have n3_ : Aside0 (Below w.heap.size w ((((w10.setCell ⟨gb267, 0, none⟩ (.int .i64 0)).setCell ⟨gb267, 1, none⟩ (.slice none 0 0)).setCell ⟨gb267, 2, none⟩ (.string (⟨#[]⟩ : ByteArray))).setCell ⟨gb267, 3, none⟩ (.bool a0_3))) := ⟨(tq11_a GE265.out GE266.out GE267.out)⟩
   (try clear BK265)
   (try clear BK266)
   (try clear BK267)
   (try clear HB)
   generalize ((((w10.setCell ⟨gb267, 0, none⟩ (.int .i64 0)).setCell ⟨gb267, 1, none⟩ (.slice none 0 0)).setCell ⟨gb267, 2, none⟩ (.string (⟨#[]⟩ : ByteArray))).setCell ⟨gb267, 3, none⟩ (.bool a0_3)) = w14 at n0_ n1_ n2_ n3_ ⊢
   have BK265 := n0_
   have BK266 := n1_
   have BK267 := n2_
   have HB := n3_
   clear n0_ n1_ n2_ n3_
   have hcz15_0 : w14.cell? ⟨gb265, 0, none⟩ = some (.int .i64 a0_0) := (blk_cell BK265.out 0).trans rfl
   have hcz15_1 : w14.cell? ⟨gb265, 1, none⟩ = some (.slice A0_1 l0_1.length c0_1) := (blk_cell BK265.out 1).trans rfl
   have hcz15_2 : w14.cell? ⟨gb265, 2, none⟩ = some (.string a0_2) := (blk_cell BK265.out 2).trans rfl
   have hcz15_3 : w14.cell? ⟨gb265, 3, none⟩ = some (.bool a0_3) := (blk_cell BK265.out 3).trans rfl
   have hfz15_0 := blk_frozen BK265.out 0
   have hfz15_1 := blk_frozen BK265.out 1
   have hfz15_2 := blk_frozen BK265.out 2
   have hfz15_3 := blk_frozen BK265.out 3
   go_wp2_with (first | ((with_reducible refine gate_callee (f := 34) rfl ?_); refine goesL_ (some 12) rfl rfl Tryd.func34 (by kernel_rfl) rfl #[.int .i64 a0_0, .int .i64 17] rfl tq11_7 ?_; (with_reducible refine (usherkit_Pick.calls a0_0 17 t268 _ A2.out).mono ?_); rintro e w' ⟨rfl, ⟨nd, rfl⟩⟩; refine ⟨_, rfl, ?_⟩; (try (rw [drewN_self w14]; generalize hq_ : World.drewN w14 _ = w14; have n0_ : Aside0 (w14.heap[gb265]? = some (.cells #[.int .i64 a0_0, .slice A0_1 l0_1.length c0_1, .string a0_2, .bool a0_3] 24 (0, 0))) := ⟨(tq11_5 BK265.out)⟩; have n1_ : Aside0 (w14.heap[gb266]? = some (.cells #[.int .i64 0, .slice none 0 0, .string (⟨#[]⟩ : ByteArray), .bool false] 24 (0, 0))) := ⟨(tq11_5 BK266.out)⟩; have n2_ : Aside0 (w14.heap[gb267]? = some (.cells #[.int .i64 0, .slice none 0 0, .string (⟨#[]⟩ : ByteArray), .bool a0_3] 24 (0, 0))) := ⟨(tq11_5 BK267.out)⟩; have n3_ : Aside0 (Below w.heap.size w w14) := ⟨by rw [← hq_]; exact (tq11_a GE265.out GE266.out GE267.out)⟩; clear BK265 BK266 BK267 HB hq_; have BK265 := n0_; have BK266 := n1_; have BK267 := n2_; have HB := n3_; clear n0_ n1_ n2_ n3_)); have p5 : 0 ≤ (t268 : Int) := of_decide_eq_true tq11_1; have q5 : (t268 : Int) < 17 := of_decide_eq_true tq11_1; have hx5 := usherlaw8_statuses.cell (Glob.statuses (HG.out.step HB.out (T := [7]) rfl) (by rfl)) t268 p5 q5; replace p5 := eq_true p5; replace q5 := eq_true q5; have hcz16_0 : w14.cell? ⟨gb267, 0, none⟩ = some (.int .i64 0) := (blk_cell BK267.out 0).trans rfl; have hcz16_1 : w14.cell? ⟨gb267, 1, none⟩ = some (.slice none 0 0) := (blk_cell BK267.out 1).trans rfl; have hcz16_2 : w14.cell? ⟨gb267, 2, none⟩ = some (.string (⟨#[]⟩ : ByteArray)) := (blk_cell BK267.out 2).trans rfl; have hcz16_3 : w14.cell? ⟨gb267, 3, none⟩ = some (.bool a0_3) := (blk_cell BK267.out 3).trans rfl; have hfz16_0 := blk_frozen BK267.out 0; have hfz16_1 := blk_frozen BK267.out 1; have hfz16_2 := blk_frozen BK267.out 2; have hfz16_3 := blk_frozen BK267.out 3))
   go_loopg [4] k (fun kq v4 w' => ∃ (x4_1 : Int) (x268001_1 : List (S26)) (u268001 : Value), v4 = .int .i64 x4_1 ∧ Aside0 (usherlaw8_tidy.l0 kq x4_1 a0_0 l0_1 a0_2 a0_3 (usherlaw8_statuses.c0 t268) x268001_1 (⟨#[]⟩ : ByteArray) a0_3 = some (r1, r2, r3, r4)) ∧ Aside0 (kq ≤ k) ∧ Aside0 (Kd.R k26 26 w' w.heap.size (fun _ => True) u268001 x268001_1) ∧ Aside0 (w'.heap[gb265]? = some (.cells #[.int .i64 a0_0, (.slice A0_1 l0_1.length c0_1), .string a0_2, .bool a0_3] 24 (0, 0))) ∧ Aside0 (w'.heap[gb266]? = some (.cells #[.int .i64 0, (.slice none 0 0), .string (⟨#[]⟩ : ByteArray), .bool false] 24 (0, 0))) ∧ Aside0 (w'.heap[gb267]? = some (.cells #[.int .i64 (usherlaw8_statuses.c0 t268), u268001, .string (⟨#[]⟩ : ByteArray), .bool a0_3] 24 (0, 0))) ∧ Aside0 (Below w.heap.size w w'))
   case atStart => exact ⟨(0), (([] : List (S26))), (.slice none 0 0), tq11_0, H', ⟨Nat.le_refl _⟩, ⟨by first | exact Kd.R_nil _ _ _ _ _ | exact Kd.N_nil _ _ _ _ _ | exact Kd.V_nil _ _ _ _ _ | exact Kd.Q_nil _ _ _ _ _ | exact Kd.S_nil _ _ _ _ _⟩, ⟨(tq11_b NB265_267.out BK265.out)⟩, ⟨(tq11_b NB266_267.out BK266.out)⟩, ⟨by (with_reducible repeat (first | refine blk_drewN ?_ _ | refine blk_drew ?_ | refine blk_alloc ?_ _)); refine blk_put (cs := #[.int .i64 0, .slice none 0 0, .string (⟨#[]⟩ : ByteArray), .bool a0_3]) ?_ 0 _ rfl; (with_reducible repeat (first | refine blk_drewN ?_ _ | refine blk_drew ?_ | refine blk_alloc ?_ _)); exact BK267.out⟩, ⟨(tq11_a GE265.out GE266.out GE267.out)⟩⟩
   case round =>
    clear H'
    try clear c1
    try clear p2
    try clear c3
    try clear c3b0
    try clear c4
    try clear c4b0
    try clear p5
    try clear q5
    try clear hx5
    try clear c8
    try clear c11
    try clear c12
    try clear hcz13_0
    try clear hcz13_1
    try clear hcz13_2
    try clear hcz13_3
    try clear hcz15_0
    try clear hcz15_1
    try clear hcz15_2
    try clear hcz15_3
    try clear hcz16_0
    try clear hcz16_1
    try clear hcz16_2
    try clear hcz16_3
    try clear hcz9_0
    try clear hcz9_1
    try clear hcz9_2
    try clear hcz9_3
    try clear hfz13_0
    try clear hfz13_1
    try clear hfz13_2
    try clear hfz13_3
    try clear hfz15_0
    try clear hfz15_1
    try clear hfz15_2
    try clear hfz15_3
    try clear hfz16_0
    try clear hfz16_1
    try clear hfz16_2
    try clear hfz16_3
    try clear hfz9_0
    try clear hfz9_1
    try clear hfz9_2
    try clear hfz9_3
    try clear p5
    try clear q5
    obtain ⟨x4_1, x268001_1, u268001, rfl, HA, HK1, HO_268001, BK265, BK266, BK267, HB⟩ := hrel
    cases gk with
    | zero => exact absurd HA.out (by simp [usherlaw8_tidy.l0])
    | succ k1 =>
     have H := HA.out
     clear HA
     simp only [usherlaw8_tidy.l0] at H
     have HC17 := Aq11 H
     clear H
     go_upto_region 4 with (fail)
     go_cut [24] (fun v24 wc => ∃ (kq : Nat) (x24_16 : Bool), v24 = .bool x24_16 ∧ Aside0 (usherlaw8_tidy.j1 kq x4_1 x24_16 a0_0 l0_1 a0_2 a0_3 (usherlaw8_statuses.c0 t268) x268001_1 (⟨#[]⟩ : ByteArray) a0_3 = some (r1, r2, r3, r4)) ∧ Aside0 (kq ≤ k1) ∧ Aside0 (Kd.R k26 26 wc w.heap.size (fun _ => True) u268001 x268001_1) ∧ Aside0 (wc.heap[gb265]? = some (.cells #[.int .i64 a0_0, (.slice A0_1 l0_1.length c0_1), .string a0_2, .bool a0_3] 24 (0, 0))) ∧ Aside0 (wc.heap[gb266]? = some (.cells #[.int .i64 0, (.slice none 0 0), .string (⟨#[]⟩ : ByteArray), .bool false] 24 (0, 0))) ∧ Aside0 (wc.heap[gb267]? = some (.cells #[.int .i64 (usherlaw8_statuses.c0 t268), u268001, .string (⟨#[]⟩ : ByteArray), .bool a0_3] 24 (0, 0))) ∧ Aside0 (Below w.heap.size w wc))
     case first =>
      have H := HC17.out
      clear HC17
      by_cases c18 : x4_1 < (l0_1.length : Int)
      ·rw [if_pos c18] at H
       have c18b0 : decide (x4_1 < (l0_1.length : Int)) = true := decide_eq_true c18
       clear c18
       (first | rw [c18b0] | (simp only [i64_w, i32_w]; rw [c18b0]) | skip)
       have H' := Aq11 H
       clear H
       have hnb19 := NB265_266.out
       have hnc19 := NB266_265.out
       have hnb20 := NB265_267.out
       have hnc20 := NB267_265.out
       have hcz21_0 : wr.cell? ⟨gb265, 0, none⟩ = some (.int .i64 a0_0) := (blk_cell BK265.out 0).trans rfl
       have hcz21_1 : wr.cell? ⟨gb265, 1, none⟩ = some (.slice A0_1 l0_1.length c0_1) := (blk_cell BK265.out 1).trans rfl
       have hcz21_2 : wr.cell? ⟨gb265, 2, none⟩ = some (.string a0_2) := (blk_cell BK265.out 2).trans rfl
       have hcz21_3 : wr.cell? ⟨gb265, 3, none⟩ = some (.bool a0_3) := (blk_cell BK265.out 3).trans rfl
       have hfz21_0 := blk_frozen BK265.out 0
       have hfz21_1 := blk_frozen BK265.out 1
       have hfz21_2 := blk_frozen BK265.out 2
       have hfz21_3 := blk_frozen BK265.out 3
       go_wp2
       go_meet
       case rel => exact ⟨_, (decide (x4_1 < 64)), tq11_0, H', ⟨by have := HK1.out; first | omega | exact Nat.le_refl _⟩, ⟨(tq11_3 HO_268001.out)⟩, ⟨(tq11_4 BK265.out)⟩, ⟨(tq11_4 BK266.out)⟩, ⟨(tq11_4 BK267.out)⟩, ⟨(tq11_a GE265.out GE266.out GE267.out)⟩⟩
      ·rw [if_neg c18] at H
       have c18b0 : decide (x4_1 < (l0_1.length : Int)) = false := decide_eq_false c18
       clear c18
       (first | rw [c18b0] | (simp only [i64_w, i32_w]; rw [c18b0]) | skip)
       have H' := Aq11 H
       clear H
       have hnb22 := NB265_266.out
       have hnc22 := NB266_265.out
       have hnb23 := NB265_267.out
       have hnc23 := NB267_265.out
       have hcz24_0 : wr.cell? ⟨gb265, 0, none⟩ = some (.int .i64 a0_0) := (blk_cell BK265.out 0).trans rfl
       have hcz24_1 : wr.cell? ⟨gb265, 1, none⟩ = some (.slice A0_1 l0_1.length c0_1) := (blk_cell BK265.out 1).trans rfl
       have hcz24_2 : wr.cell? ⟨gb265, 2, none⟩ = some (.string a0_2) := (blk_cell BK265.out 2).trans rfl
       have hcz24_3 : wr.cell? ⟨gb265, 3, none⟩ = some (.bool a0_3) := (blk_cell BK265.out 3).trans rfl
       have hfz24_0 := blk_frozen BK265.out 0
       have hfz24_1 := blk_frozen BK265.out 1
       have hfz24_2 := blk_frozen BK265.out 2
       have hfz24_3 := blk_frozen BK265.out 3
       go_wp2
       go_meet
       case rel => exact ⟨_, (false), tq11_0, H', ⟨by have := HK1.out; first | omega | exact Nat.le_refl _⟩, ⟨(tq11_3 HO_268001.out)⟩, ⟨(tq11_4 BK265.out)⟩, ⟨(tq11_4 BK266.out)⟩, ⟨(tq11_4 BK267.out)⟩, ⟨(tq11_a GE265.out GE266.out GE267.out)⟩⟩
     case rest =>
      clear HC17
      try clear c1
      try clear c2
      try clear p2
      try clear c3
      try clear c3b0
      try clear c4
      try clear c4b0
      try clear p5
      try clear q5
      try clear hx5
      try clear c8
      try clear c11
      try clear c12
      try clear c18
      try clear c18b0
      try clear c19
      try clear c20
      try clear c22
      try clear c23
      try clear hcz13_0
      try clear hcz13_1
      try clear hcz13_2
      try clear hcz13_3
      try clear hcz15_0
      try clear hcz15_1
      try clear hcz15_2
      try clear hcz15_3
      try clear hcz16_0
      try clear hcz16_1
      try clear hcz16_2
      try clear hcz16_3
      try clear hcz21_0
      try clear hcz21_1
      try clear hcz21_2
      try clear hcz21_3
      try clear hcz24_0
      try clear hcz24_1
      try clear hcz24_2
      try clear hcz24_3
      try clear hcz9_0
      try clear hcz9_1
      try clear hcz9_2
      try clear hcz9_3
      try clear hfz13_0
      try clear hfz13_1
      try clear hfz13_2
      try clear hfz13_3
      try clear hfz15_0
      try clear hfz15_1
      try clear hfz15_2
      try clear hfz15_3
      try clear hfz16_0
      try clear hfz16_1
      try clear hfz16_2
      try clear hfz16_3
      try clear hfz21_0
      try clear hfz21_1
      try clear hfz21_2
      try clear hfz21_3
      try clear hfz24_0
      try clear hfz24_1
      try clear hfz24_2
      try clear hfz24_3
      try clear hfz9_0
      try clear hfz9_1
      try clear hfz9_2
      try clear hfz9_3
      try clear p2
      try clear p5
      try clear q5
      obtain ⟨kq, x24_16, rfl, HA, HJ16, HO_268001, BK265, BK266, BK267, HB⟩ := hcut
      cases kq with
      | zero => exact absurd HA.out (by simp [usherlaw8_tidy.j1])
      | succ kj16 =>
       have H := HA.out
       clear HA
       simp only [usherlaw8_tidy.j1] at H
       by_cases c25 : x24_16 = true
       ·subst c25
        have H1 : (if 0 ≤ x4_1 then (if x4_1 < (l0_1.length : Int) then ((usherlaw8_nameOf.f kj16 ((rd_T26 l0_1 x4_1).f0)).bind fun t271 => ((usherlaw8_valueOf.f kj16 ((rd_T26 l0_1 x4_1).f1)).bind fun t273 => (if x268001_1.length < 4398046511104 then (usherlaw8_tidy.l0 kj16 (wrap64 (x4_1 + 1)) a0_0 l0_1 a0_2 a0_3 (usherlaw8_statuses.c0 t268) (x268001_1 ++ [(⟨t271, t273⟩ : S26)]) (⟨#[]⟩ : ByteArray) a0_3) else (none)))) else (none)) else (none)) = some (r1, r2, r3, r4) := by rw [if_pos rfl] at H; exact H
        clear H
        have H := H1
        clear H1
        by_cases c26 : 0 ≤ x4_1
        ·rw [if_pos c26] at H
         have c26b0 : decide (0 ≤ x4_1) = true := decide_eq_true c26
         clear c26
         by_cases c27 : x4_1 < (l0_1.length : Int)
         ·rw [if_pos c27] at H
          have c27b0 : decide (x4_1 < (l0_1.length : Int)) = true := decide_eq_true c27
          clear c27
          replace H := Option.bind_eq_some_iff.mp H
          obtain ⟨t271, A280, H⟩ := H
          replace H : ((usherlaw8_valueOf.f kj16 ((rd_T26 l0_1 x4_1).f1)).bind fun t273 => (if x268001_1.length < 4398046511104 then (usherlaw8_tidy.l0 kj16 (wrap64 (x4_1 + 1)) a0_0 l0_1 a0_2 a0_3 (usherlaw8_statuses.c0 t268) (x268001_1 ++ [(⟨t271, t273⟩ : S26)]) (⟨#[]⟩ : ByteArray) a0_3) else (none))) = some (r1, r2, r3, r4) := H
          have A28 := Aq11 A280
          clear A280
          replace H := Option.bind_eq_some_iff.mp H
          obtain ⟨t273, A290, H⟩ := H
          replace H : (if x268001_1.length < 4398046511104 then (usherlaw8_tidy.l0 kj16 (wrap64 (x4_1 + 1)) a0_0 l0_1 a0_2 a0_3 (usherlaw8_statuses.c0 t268) (x268001_1 ++ [(⟨t271, t273⟩ : S26)]) (⟨#[]⟩ : ByteArray) a0_3) else (none)) = some (r1, r2, r3, r4) := H
          have A29 := Aq11 A290
          clear A290
          by_cases c30 : x268001_1.length < 4398046511104
          ·rw [if_pos c30] at H
           have LMc30 := Aq11 c30
           clear c30
           obtain ⟨y274, hy274⟩ : ∃ y_ : List (S26), y_ = (x268001_1 ++ [(⟨t271, t273⟩ : S26)]) := ⟨_, rfl⟩
           replace H : (usherlaw8_tidy.l0 kj16 (wrap64 (x4_1 + 1)) a0_0 l0_1 a0_2 a0_3 (usherlaw8_statuses.c0 t268) y274 (⟨#[]⟩ : ByteArray) a0_3) = some (r1, r2, r3, r4) := by first | (rw [hy274]; with_reducible exact H) | (have H2_ := (Option.bind_some _ _).symm.trans H; rw [hy274]; with_reducible exact H2_) | (have H2_ := (Option.bind_some _ _).symm.trans H; with_reducible exact H2_) | with_reducible exact H | (rw [hy274]; exact H) | exact H
           have Ny274 := Aq11 hy274
           clear hy274
           have H' := Aq11 H
           clear H
           have hnb31 := NB265_266.out
           have hnc31 := NB266_265.out
           have hnb32 := NB265_267.out
           have hnc32 := NB267_265.out
           have hcz33_0 : wc.cell? ⟨gb265, 0, none⟩ = some (.int .i64 a0_0) := (blk_cell BK265.out 0).trans rfl
           have hcz33_1 : wc.cell? ⟨gb265, 1, none⟩ = some (.slice A0_1 l0_1.length c0_1) := (blk_cell BK265.out 1).trans rfl
           have hcz33_2 : wc.cell? ⟨gb265, 2, none⟩ = some (.string a0_2) := (blk_cell BK265.out 2).trans rfl
           have hcz33_3 : wc.cell? ⟨gb265, 3, none⟩ = some (.bool a0_3) := (blk_cell BK265.out 3).trans rfl
           have hfz33_0 := blk_frozen BK265.out 0
           have hfz33_1 := blk_frozen BK265.out 1
           have hfz33_2 := blk_frozen BK265.out 2
           have hfz33_3 := blk_frozen BK265.out 3
           have p270 : 0 ≤ (x4_1 : Int) := of_decide_eq_true tq11_1
           have q270 : x4_1 < (l0_1.length : Int) := of_decide_eq_true tq11_1
           obtain ⟨ad270, e270, hx270_0, hx270_1⟩ := at_T26 HR0_1.out x4_1 p270 q270
           cases e270
           replace hx270_0 := (HB.out.cell (World.block_lt_of_cell? w _ hx270_0)).trans hx270_0
           replace hx270_1 := (HB.out.cell (World.block_lt_of_cell? w _ hx270_1)).trans hx270_1
           replace p270 := eq_true p270
           replace q270 := eq_true q270
           go_wp2_with (first | ((with_reducible refine gate_callee (f := 58) rfl ?_); refine goesL_ (some 33) rfl rfl Tryd.func58 (by kernel_rfl) rfl #[.string ((rd_T26 l0_1 x4_1).f0)] rfl tq11_7 ?_; (with_reducible refine (usherlaw8_nameOf.calls kj16 ((rd_T26 l0_1 x4_1).f0) t271 _ A28.out).mono ?_); rintro e w34 ⟨rfl, hb⟩; refine ⟨_, rfl, ?_⟩; replace HO_268001 := Aq11 (Kd.R_below (tq11_3 HO_268001.out) hb); replace BK265 := Aq11 (blk_below (g := gb265) (o := .cells #[.int .i64 a0_0, .slice (some ad270) l0_1.length c0_1, .string a0_2, .bool a0_3] 24 (0, 0)) (tq11_4 BK265.out) hb); replace BK266 := Aq11 (blk_below (g := gb266) (o := .cells #[.int .i64 0, .slice none 0 0, .string (⟨#[]⟩ : ByteArray), .bool false] 24 (0, 0)) (tq11_4 BK266.out) hb); replace BK267 := Aq11 (blk_below (g := gb267) (o := .cells #[.int .i64 (usherlaw8_statuses.c0 t268), u268001, .string (⟨#[]⟩ : ByteArray), .bool a0_3] 24 (0, 0)) (tq11_4 BK267.out) hb); replace HB := Aq11 (below_step (tq11_a GE265.out GE266.out GE267.out) hb); (try clear hb); (try clear hb2); (try clear hk); (try clear hi); have hcz35_0 : w34.cell? ⟨gb265, 0, none⟩ = some (.int .i64 a0_0) := (blk_cell BK265.out 0).trans rfl; have hcz35_1 : w34.cell? ⟨gb265, 1, none⟩ = some (.slice (some ad270) l0_1.length c0_1) := (blk_cell BK265.out 1).trans rfl; have hcz35_2 : w34.cell? ⟨gb265, 2, none⟩ = some (.string a0_2) := (blk_cell BK265.out 2).trans rfl; have hcz35_3 : w34.cell? ⟨gb265, 3, none⟩ = some (.bool a0_3) := (blk_cell BK265.out 3).trans rfl; have hfz35_0 := blk_frozen BK265.out 0; have hfz35_1 := blk_frozen BK265.out 1; have hfz35_2 := blk_frozen BK265.out 2; have hfz35_3 := blk_frozen BK265.out 3; have p272 : 0 ≤ (x4_1 : Int) := of_decide_eq_true tq11_1; have q272 : x4_1 < (l0_1.length : Int) := of_decide_eq_true tq11_1; obtain ⟨ad272, e272, hx272_0, hx272_1⟩ := at_T26 HR0_1.out x4_1 p272 q272; obtain rfl : ad270 = ad272 := (by injection e272); replace hx272_0 := (HB.out.cell (World.block_lt_of_cell? w _ hx272_0)).trans hx272_0; replace hx272_1 := (HB.out.cell (World.block_lt_of_cell? w _ hx272_1)).trans hx272_1; replace p272 := eq_true p272; replace q272 := eq_true q272) | ((with_reducible refine gate_callee (f := 59) rfl ?_); refine goesL_ (some 40) rfl rfl Tryd.func59 (by kernel_rfl) rfl #[.string ((rd_T26 l0_1 x4_1).f1)] rfl tq11_7 ?_; (with_reducible refine (usherlaw8_valueOf.calls kj16 ((rd_T26 l0_1 x4_1).f1) t273 _ A29.out).mono ?_); rintro e w36 ⟨rfl, hb⟩; refine ⟨_, rfl, ?_⟩; replace HO_268001 := Aq11 (Kd.R_below (tq11_3 HO_268001.out) hb); replace BK265 := Aq11 (blk_below (g := gb265) (o := .cells #[.int .i64 a0_0, .slice (some ad270) l0_1.length c0_1, .string a0_2, .bool a0_3] 24 (0, 0)) (tq11_4 BK265.out) hb); replace BK266 := Aq11 (blk_below (g := gb266) (o := .cells #[.int .i64 0, .slice none 0 0, .string (⟨#[]⟩ : ByteArray), .bool false] 24 (0, 0)) (tq11_4 BK266.out) hb); replace BK267 := Aq11 (blk_below (g := gb267) (o := .cells #[.int .i64 (usherlaw8_statuses.c0 t268), u268001, .string (⟨#[]⟩ : ByteArray), .bool a0_3] 24 (0, 0)) (tq11_4 BK267.out) hb); replace HB := Aq11 (below_step (tq11_a GE265.out GE266.out GE267.out) hb); (try clear hb); (try clear hb2); (try clear hk); (try clear hi); have hnb37 := NB267_266.out; have hnc37 := NB266_267.out; have hcz38_0 : w36.cell? ⟨gb267, 0, none⟩ = some (.int .i64 (usherlaw8_statuses.c0 t268)) := (blk_cell BK267.out 0).trans rfl; have hcz38_1 : w36.cell? ⟨gb267, 1, none⟩ = some (u268001) := (blk_cell BK267.out 1).trans rfl; have hcz38_2 : w36.cell? ⟨gb267, 2, none⟩ = some (.string (⟨#[]⟩ : ByteArray)) := (blk_cell BK267.out 2).trans rfl; have hcz38_3 : w36.cell? ⟨gb267, 3, none⟩ = some (.bool a0_3) := (blk_cell BK267.out 3).trans rfl; have hfz38_0 := blk_frozen BK267.out 0; have hfz38_1 := blk_frozen BK267.out 1; have hfz38_2 := blk_frozen BK267.out 2; have hfz38_3 := blk_frozen BK267.out 3) | ((with_reducible refine gate_builtin (b := .append) (xs := #[.tmp 42, .tmp 46]) rfl ?_); at_builtin; refine Kd.R_append k26 (w0 := w) w.heap.size rfl (.tmp 42) (.tmp 46) 22 26 (.agg #[(.string ⟨#[]⟩), (.string ⟨#[]⟩)]) 32 rfl Tryd.underlying22 info26 rfl (by decide) (by omega) u268001 x268001_1 (⟨t271, t273⟩ : S26) [.string t271, .string t273] (fun _ => True) (fun _ => False) rfl rfl ?aP (fun _ hk => hk.elim) ?aF ?aO ?aB ?aS ?aL ?_; (case aP => exact k26_mkM _ _ _ (⟨t271, t273⟩ : S26)); (case aB => exact (tq11_a GE265.out GE266.out GE267.out)); (case aF => exact (fun _ _ => trivial)); (case aO => exact (tq11_3 HO_268001.out)); (case aS => exact (below_size (tq11_a GE265.out GE266.out GE267.out))); (case aL => have := LMc30.out; omega); intro v275 w39 ho hb hg hat; rw [← Ny274.out] at ho; have n0_ := Aq11 (blk_grown (g := gb265) (o := .cells #[.int .i64 a0_0, .slice (some ad270) l0_1.length c0_1, .string a0_2, .bool a0_3] 24 (0, 0)) (tq11_4 BK265.out) hg (Kd.R_ne HO_268001.out BK265.out (by decide))); have n1_ := Aq11 (blk_grown (g := gb266) (o := .cells #[.int .i64 0, .slice none 0 0, .string (⟨#[]⟩ : ByteArray), .bool false] 24 (0, 0)) (tq11_4 BK266.out) hg (Kd.R_ne HO_268001.out BK266.out (by decide))); have n2_ := Aq11 (blk_grown (g := gb267) (o := .cells #[.int .i64 (usherlaw8_statuses.c0 t268), u268001, .string (⟨#[]⟩ : ByteArray), .bool a0_3] 24 (0, 0)) (tq11_4 BK267.out) hg (Kd.R_ne HO_268001.out BK267.out (by decide))); have n3_ := Aq11 (hb); have n4_ := Aq11 (ho); clear BK265; clear BK266; clear BK267; clear HB; clear HO_268001; have BK265 := n0_; have BK266 := n1_; have BK267 := n2_; have HB := n3_; have HO276 := n4_; clear n0_ n1_ n2_ n3_ n4_; clear ho hb hg hat; obtain ⟨Ao40, co40, eo40⟩ := Kd.R_slice HO276.out; subst eo40; have hcz41_0 : w39.cell? ⟨gb267, 0, none⟩ = some (.int .i64 (usherlaw8_statuses.c0 t268)) := (blk_cell BK267.out 0).trans rfl; have hcz41_1 : w39.cell? ⟨gb267, 1, none⟩ = some (u268001) := (blk_cell BK267.out 1).trans rfl; have hcz41_2 : w39.cell? ⟨gb267, 2, none⟩ = some (.string (⟨#[]⟩ : ByteArray)) := (blk_cell BK267.out 2).trans rfl; have hcz41_3 : w39.cell? ⟨gb267, 3, none⟩ = some (.bool a0_3) := (blk_cell BK267.out 3).trans rfl; have hfz41_0 := blk_frozen BK267.out 0; have hfz41_1 := blk_frozen BK267.out 1; have hfz41_2 := blk_frozen BK267.out 2; have hfz41_3 := blk_frozen BK267.out 3))
           go_roundg kj16
           case measure => have := HK1.out; have := HJ16.out; omega
           case rel => exact ⟨(wrap64 (x4_1 + 1)), (y274), (.slice Ao40 y274.length co40), tq11_0, H', ⟨by have := HK1.out; have := HJ16.out; omega⟩, ⟨by (with_reducible repeat (first | apply Kd.R_alloc | apply Kd.R_drewN | apply Kd.R_drew)); exact Kd.R_mono (Kd.R_far (p := ⟨gb267, 1, none⟩) (Kd.R_types HO276.out BK267.out (by decide)) (fun _ hk => hk.2) (.slice Ao40 y274.length co40)) (fun _ hk => trivial)⟩, ⟨(tq11_b NB265_267.out BK265.out)⟩, ⟨(tq11_b NB266_267.out BK266.out)⟩, ⟨by (with_reducible repeat (first | refine blk_drewN ?_ _ | refine blk_drew ?_ | refine blk_alloc ?_ _)); refine blk_put (cs := #[.int .i64 (usherlaw8_statuses.c0 t268), u268001, .string (⟨#[]⟩ : ByteArray), .bool a0_3]) ?_ 1 _ rfl; (with_reducible repeat (first | refine blk_drewN ?_ _ | refine blk_drew ?_ | refine blk_alloc ?_ _)); exact BK267.out⟩, ⟨(tq11_a GE265.out GE266.out GE267.out)⟩⟩
          ·rw [if_neg c30] at H
           exact absurd H (by simp)
         ·rw [if_neg c27] at H
          exact absurd H (by simp)
        ·rw [if_neg c26] at H
         exact absurd H (by simp)
       ·replace c25 := Bool.eq_false_iff.mpr c25
        subst c25
        have H1 : ((usherkit_Head.f a0_2 1048576).bind fun t277 => (some ((usherlaw8_statuses.c0 t268), x268001_1, t277, a0_3))) = some (r1, r2, r3, r4) := by rw [if_neg (show ¬ (false = true) by decide)] at H; exact H
        clear H
        have H := H1
        clear H1
        replace H := Option.bind_eq_some_iff.mp H
        obtain ⟨t277, A420, H⟩ := H
        replace H : (some ((usherlaw8_statuses.c0 t268), x268001_1, t277, a0_3)) = some (r1, r2, r3, r4) := H
        have A42 := Aq11 A420
        clear A420
        simp only [Option.some.injEq, Prod.mk.injEq] at H
        obtain ⟨rfl, rfl, rfl, rfl⟩ := H
        have hnb43 := NB265_266.out
        have hnc43 := NB266_265.out
        have hnb44 := NB265_267.out
        have hnc44 := NB267_265.out
        have hcz45_0 : wc.cell? ⟨gb265, 0, none⟩ = some (.int .i64 a0_0) := (blk_cell BK265.out 0).trans rfl
        have hcz45_1 : wc.cell? ⟨gb265, 1, none⟩ = some (.slice A0_1 l0_1.length c0_1) := (blk_cell BK265.out 1).trans rfl
        have hcz45_2 : wc.cell? ⟨gb265, 2, none⟩ = some (.string a0_2) := (blk_cell BK265.out 2).trans rfl
        have hcz45_3 : wc.cell? ⟨gb265, 3, none⟩ = some (.bool a0_3) := (blk_cell BK265.out 3).trans rfl
        have hfz45_0 := blk_frozen BK265.out 0
        have hfz45_1 := blk_frozen BK265.out 1
        have hfz45_2 := blk_frozen BK265.out 2
        have hfz45_3 := blk_frozen BK265.out 3
        go_wp2_with (first | ((with_reducible refine gate_callee (f := 19) rfl ?_); refine goesL_ (some 51) rfl rfl Tryd.func19 (by kernel_rfl) rfl #[.string a0_2, .int .i64 1048576] rfl tq11_7 ?_; (with_reducible refine (usherkit_Head.calls a0_2 1048576 t277 _ A42.out).mono ?_); rintro e w' ⟨rfl, ⟨nd, rfl⟩⟩; refine ⟨_, rfl, ?_⟩; (try (rw [drewN_self wc]; generalize hq_ : World.drewN wc _ = wc; have n0_ : Aside0 (Kd.R k26 26 wc w.heap.size (fun _ => True) u268001 x268001_1) := ⟨by rw [← hq_]; exact (tq11_3 HO_268001.out)⟩; have n1_ : Aside0 (wc.heap[gb265]? = some (.cells #[.int .i64 a0_0, .slice A0_1 l0_1.length c0_1, .string a0_2, .bool a0_3] 24 (0, 0))) := ⟨(tq11_5 BK265.out)⟩; have n2_ : Aside0 (wc.heap[gb266]? = some (.cells #[.int .i64 0, .slice none 0 0, .string (⟨#[]⟩ : ByteArray), .bool false] 24 (0, 0))) := ⟨(tq11_5 BK266.out)⟩; have n3_ : Aside0 (wc.heap[gb267]? = some (.cells #[.int .i64 (usherlaw8_statuses.c0 t268), u268001, .string (⟨#[]⟩ : ByteArray), .bool a0_3] 24 (0, 0))) := ⟨(tq11_5 BK267.out)⟩; have n4_ : Aside0 (Below w.heap.size w wc) := ⟨by rw [← hq_]; exact (tq11_a GE265.out GE266.out GE267.out)⟩; clear HO_268001 BK265 BK266 BK267 HB hq_; have HO_268001 := n0_; have BK265 := n1_; have BK266 := n2_; have BK267 := n3_; have HB := n4_; clear n0_ n1_ n2_ n3_ n4_)); have hnb46 := NB267_266.out; have hnc46 := NB266_267.out; have hcz47_0 : wc.cell? ⟨gb267, 0, none⟩ = some (.int .i64 (usherlaw8_statuses.c0 t268)) := (blk_cell BK267.out 0).trans rfl; have hcz47_1 : wc.cell? ⟨gb267, 1, none⟩ = some (u268001) := (blk_cell BK267.out 1).trans rfl; have hcz47_2 : wc.cell? ⟨gb267, 2, none⟩ = some (.string (⟨#[]⟩ : ByteArray)) := (blk_cell BK267.out 2).trans rfl; have hcz47_3 : wc.cell? ⟨gb267, 3, none⟩ = some (.bool a0_3) := (blk_cell BK267.out 3).trans rfl; have hfz47_0 := blk_frozen BK267.out 0; have hfz47_1 := blk_frozen BK267.out 1; have hfz47_2 := blk_frozen BK267.out 2; have hfz47_3 := blk_frozen BK267.out 3; have hcz48_0 : wc.cell? ⟨gb266, 0, none⟩ = some (.int .i64 0) := (blk_cell BK266.out 0).trans rfl; have hcz48_1 : wc.cell? ⟨gb266, 1, none⟩ = some (.slice none 0 0) := (blk_cell BK266.out 1).trans rfl; have hcz48_2 : wc.cell? ⟨gb266, 2, none⟩ = some (.string (⟨#[]⟩ : ByteArray)) := (blk_cell BK266.out 2).trans rfl; have hcz48_3 : wc.cell? ⟨gb266, 3, none⟩ = some (.bool false) := (blk_cell BK266.out 3).trans rfl; have hfz48_0 := blk_frozen BK266.out 0; have hfz48_1 := blk_frozen BK266.out 1; have hfz48_2 := blk_frozen BK266.out 2; have hfz48_3 := blk_frozen BK266.out 3; obtain ⟨Ao49, co49, eo49⟩ := Kd.R_slice HO_268001.out; subst eo49))
        refine bodyPost_ret (results_cell_row rfl _ _ gb266 24 #[.int .i64 (usherlaw8_statuses.c0 t268), .slice Ao49 x268001_1.length co49, .string t277, .bool a0_3] (0, 0) _ rfl (by (with_reducible repeat (first | refine blk_drewN ?_ _ | refine blk_drew ?_ | refine blk_alloc ?_ _)); refine blk_put (cs := #[.int .i64 (usherlaw8_statuses.c0 t268), .slice Ao49 x268001_1.length co49, .string t277, .bool false]) ?_ 3 _ rfl; (with_reducible repeat (first | refine blk_drewN ?_ _ | refine blk_drew ?_ | refine blk_alloc ?_ _)); refine blk_put (cs := #[.int .i64 (usherlaw8_statuses.c0 t268), .slice Ao49 x268001_1.length co49, .string (⟨#[]⟩ : ByteArray), .bool false]) ?_ 2 _ rfl; (with_reducible repeat (first | refine blk_drewN ?_ _ | refine blk_drew ?_ | refine blk_alloc ?_ _)); refine blk_put (cs := #[.int .i64 (usherlaw8_statuses.c0 t268), .slice none 0 0, .string (⟨#[]⟩ : ByteArray), .bool false]) ?_ 1 _ rfl; (with_reducible repeat (first | refine blk_drewN ?_ _ | refine blk_drew ?_ | refine blk_alloc ?_ _)); refine blk_put (cs := #[.int .i64 0, .slice none 0 0, .string (⟨#[]⟩ : ByteArray), .bool false]) ?_ 0 _ rfl; (with_reducible repeat (first | refine blk_drewN ?_ _ | refine blk_drew ?_ | refine blk_alloc ?_ _)); refine blk_far ?_ NB266_267.out _; (with_reducible repeat (first | refine blk_drewN ?_ _ | refine blk_drew ?_ | refine blk_alloc ?_ _)); exact BK266.out) Tryd.underlying24 rfl (by kernel_rfl)) rfl ?_
        exact ⟨_, tq11_2, by (with_reducible repeat (first | apply Kd.R_alloc | apply Kd.R_drewN | apply Kd.R_drew)); exact Kd.R_mono (Kd.R_far (p := ⟨gb266, 3, none⟩) (Kd.R_far (p := ⟨gb266, 2, none⟩) (Kd.R_far (p := ⟨gb266, 1, none⟩) (Kd.R_far (p := ⟨gb266, 0, none⟩) (Kd.R_far (p := ⟨gb267, 2, none⟩) (Kd.R_types (Kd.R_types HO_268001.out BK267.out (by decide)) BK266.out (by decide)) (fun _ hk => hk.1.2) (.string t277)) (fun _ hk => hk.2) (.int .i64 (usherlaw8_statuses.c0 t268))) (fun _ hk => hk.2) (.slice Ao49 x268001_1.length co49)) (fun _ hk => hk.2) (.string t277)) (fun _ hk => hk.2) (.bool a0_3)) (fun _ hk => trivial), (tq11_a GE265.out GE266.out GE267.out)⟩
  ·rw [if_neg c4] at H
   exact absurd H (by simp)
 ·rw [if_neg c3] at H
  exact absurd H (by simp)


end Go.Proofs.YtdlfdmbaejhaaaaDoor.Q
