/- The plain Lean functions that calls of the program answer, and proofs that they do. Printed by program out of the translation; Lean checks it. -/
import Derived.Test.YtdlfdmbaejhaaaaDoorQ0
import Derived.Test.YtdlfdmbaejhaaaaDoorQ7
import Derived.Test.YtdlfdmbaejhaaaaDoorLib
namespace Go.Proofs.YtdlfdmbaejhaaaaDoor.Q
open Go.RowKit Go.Proofs.YtdlfdmbaejhaaaaDoorW.PrintWords Go.Proofs.YtdlfdmbaejhaaaaDoorW.PrintLast Go.Proofs.YtdlfdmbaejhaaaaDoorW.PrintMore
attribute [local go_sem] max2_int min2_int max_two min_two max_three min_three max_four min_four   -- for this text's walks alone
set_option linter.unusedVariables false
set_option linter.unusedSimpArgs false

theorem Aq8 {p : Prop} (h : p) : Aside0 p := ⟨h⟩
theorem tq8_0 {P : Prop} (h : P := by first | rfl | (simp; done) | (simp [*]; done)) : P := h
theorem tq8_1 {P : Prop} (h : P := by first | (with_reducible assumption) | assumption) : P := h
theorem tq8_2 {P : Prop} (h : P := by repeat (first | exact Drawn0.refl _ | apply Drawn0.step)) : P := h
theorem tq8_3 {P : Prop} (h : P := by first | rfl | (simp [errW_none, errW_some] <;> rfl) | (simp [*, errW_none, errW_some] <;> rfl)) : P := h
theorem tq8_4 {P Q0 : Prop} (y0 : Q0) (h : Q0 → P := by intro y0_; (with_reducible repeat (first | apply Kd.R_alloc | apply Kd.R_drewN | apply Kd.R_drew)); exact y0_) : P := h y0
theorem tq8_5 {P Q0 : Prop} (y0 : Q0) (h : Q0 → P := by intro y0_; (with_reducible repeat (first | refine blk_drewN ?_ _ | refine blk_drew ?_ | refine blk_alloc ?_ _)); exact y0_) : P := h y0
theorem tq8_6 {P : Prop} (h : P := by repeat (first | (with_reducible first | exact HB.out | apply below_alloc | apply pw_below_drewN | apply below_drew1) | exact HB.out)) : P := h
theorem tq8_7 {P : Prop} (h : P := by (try simp only [List.map_toArray, List.map_cons, List.map_nil]); first | done | rfl | (simp only [List.length_drop, List.length_take]; rfl)) : P := h
theorem tq8_8 {P : Prop} (h : P := by first | exact Kd.R_nil _ _ _ _ _ | exact Kd.N_nil _ _ _ _ _ | exact Kd.V_nil _ _ _ _ _ | exact Kd.Q_nil _ _ _ _ _ | exact Kd.S_nil _ _ _ _ _) : P := h
theorem tq8_9 {P Q0 : Prop} (y0 : Q0) (h : Q0 → P := by intro y0_; repeat (first | (with_reducible first | exact HB.out | apply below_alloc | apply pw_below_drewN | apply below_drew1 | refine below_set ?_ y0_) | exact HB.out)) : P := h y0
theorem tq8_a {P Q0 Q1 : Prop} (y0 : Q0) (y1 : Q1) (h : Q0 → Q1 → P := by intro y0_ y1_; repeat (first | (with_reducible first | exact HB.out | apply below_alloc | apply pw_below_drewN | apply below_drew1 | refine below_set ?_ y0_ | refine below_set ?_ y1_) | exact HB.out)) : P := h y0 y1
theorem tq8_b {P Q0 Q1 : Prop} (y0 : Q0) (y1 : Q1) (h : Q0 → Q1 → P := by intro y0_ y1_; (iterate 4 ((with_reducible repeat (first | refine blk_drewN ?_ _ | refine blk_drew ?_ | refine blk_alloc ?_ _)); refine blk_far ?_ y0_ _)); (with_reducible repeat (first | refine blk_drewN ?_ _ | refine blk_drew ?_ | refine blk_alloc ?_ _)); exact y1_) : P := h y0 y1
theorem tq8_c {P Q0 : Prop} (y0 : Q0) (h : Q0 → P := by intro y0_; first | exact (Nat.ne_of_lt (Nat.lt_of_lt_of_le (World.block_lt_of_cell? w _ hgwq179) y0_)) | (rw [add_block]; exact (Nat.ne_of_lt (Nat.lt_of_lt_of_le (World.block_lt_of_cell? w _ hgwq179) y0_))) | (show (Addr.add _ _).block ≠ _; rw [add_block]; exact (Nat.ne_of_lt (Nat.lt_of_lt_of_le (World.block_lt_of_cell? w _ hgwq179) y0_))) | (dsimp only; exact (Nat.ne_of_lt (Nat.lt_of_lt_of_le (World.block_lt_of_cell? w _ hgwq179) y0_)))) : P := h y0
theorem tq8_d {P Q0 : Prop} (y0 : Q0) (h : Q0 → P := by intro y0_; first | exact (Nat.ne_of_lt (Nat.lt_of_lt_of_le (World.block_lt_of_cell? w _ hgwq189) y0_)) | (rw [add_block]; exact (Nat.ne_of_lt (Nat.lt_of_lt_of_le (World.block_lt_of_cell? w _ hgwq189) y0_))) | (show (Addr.add _ _).block ≠ _; rw [add_block]; exact (Nat.ne_of_lt (Nat.lt_of_lt_of_le (World.block_lt_of_cell? w _ hgwq189) y0_))) | (dsimp only; exact (Nat.ne_of_lt (Nat.lt_of_lt_of_le (World.block_lt_of_cell? w _ hgwq189) y0_)))) : P := h y0
theorem tq8_e {P Q0 : Prop} (y0 : Q0) (h : Q0 → P := by intro y0_; first | exact (Nat.ne_of_lt (Nat.lt_of_lt_of_le (World.block_lt_of_cell? w _ hgwq190) y0_)) | (rw [add_block]; exact (Nat.ne_of_lt (Nat.lt_of_lt_of_le (World.block_lt_of_cell? w _ hgwq190) y0_))) | (show (Addr.add _ _).block ≠ _; rw [add_block]; exact (Nat.ne_of_lt (Nat.lt_of_lt_of_le (World.block_lt_of_cell? w _ hgwq190) y0_))) | (dsimp only; exact (Nat.ne_of_lt (Nat.lt_of_lt_of_le (World.block_lt_of_cell? w _ hgwq190) y0_)))) : P := h y0
theorem tq8_f {P Q0 : Prop} (y0 : Q0) (h : Q0 → P := by intro y0_; (with_reducible repeat (first | refine blk_drewN ?_ _ | refine blk_drew ?_ | refine blk_alloc ?_ _)); refine blk_put (cs := #[.int .i64 0, .slice none 0 0, .string (⟨#[]⟩ : ByteArray), .bool false]) ?_ 3 _ rfl; (with_reducible repeat (first | refine blk_drewN ?_ _ | refine blk_drew ?_ | refine blk_alloc ?_ _)); refine blk_put (cs := #[.int .i64 0, .slice none 0 0, .string (⟨#[]⟩ : ByteArray), .bool false]) ?_ 2 _ rfl; (with_reducible repeat (first | refine blk_drewN ?_ _ | refine blk_drew ?_ | refine blk_alloc ?_ _)); refine blk_put (cs := #[.int .i64 0, .slice none 0 0, .string (⟨#[]⟩ : ByteArray), .bool false]) ?_ 1 _ rfl; (with_reducible repeat (first | refine blk_drewN ?_ _ | refine blk_drew ?_ | refine blk_alloc ?_ _)); refine blk_put (cs := #[.int .i64 0, .slice none 0 0, .string (⟨#[]⟩ : ByteArray), .bool false]) ?_ 0 _ rfl; (with_reducible repeat (first | refine blk_drewN ?_ _ | refine blk_drew ?_ | refine blk_alloc ?_ _)); exact y0_) : P := h y0
/-! ### reply_Read: function 32 -/
def reply_Read.f (k : Nat) (a0 : ByteArray) : Option (Int × (List (S26)) × ByteArray × Bool × Int × Option Int) := (strings_Index.f a0 (⟨#[13, 10, 13, 10]⟩ : ByteArray)).bind fun t178 => (if t178 < 0 then (some (0, ([] : List (S26)), (⟨#[]⟩ : ByteArray), false, 0, some 6)) else (if 0 ≤ t178 then (if t178 ≤ (a0.size : Int) then ((reply_heading.f k (a0.extract 0 (t178 : Int).toNat)).bind fun bt180 => (if bt180.2.2.2.2.2 = true then (if (wrap64 ((a0.size : Int) - (wrap64 ((wrap64 (t178 + 2)) + 2)))) < bt180.2.2.2.2.1 then (some (0, ([] : List (S26)), (⟨#[]⟩ : ByteArray), false, 0, some 6)) else (if 0 ≤ (wrap64 ((wrap64 (t178 + 2)) + 2)) then (if (wrap64 ((wrap64 (t178 + 2)) + 2)) ≤ (wrap64 ((wrap64 ((wrap64 (t178 + 2)) + 2)) + bt180.2.2.2.2.1)) then (if (wrap64 ((wrap64 ((wrap64 (t178 + 2)) + 2)) + bt180.2.2.2.2.1)) ≤ (a0.size : Int) then (some (bt180.1, bt180.2.1, a0.extract ((wrap64 ((wrap64 (t178 + 2)) + 2)) : Int).toNat ((wrap64 ((wrap64 ((wrap64 (t178 + 2)) + 2)) + bt180.2.2.2.2.1)) : Int).toNat, bt180.2.2.2.1, wrap64 ((wrap64 ((wrap64 (t178 + 2)) + 2)) + bt180.2.2.2.2.1), none)) else (none)) else (none)) else (none))) else (some (0, ([] : List (S26)), (⟨#[]⟩ : ByteArray), false, 0, some 2)))) else (none)) else (none)))
theorem reply_Read.mono : ∀ a0 k, LeO (reply_Read.f k a0) (reply_Read.f (k + 1) a0) := by
 intro a0 k
 unfold reply_Read.f
 repeat' first
   | (with_reducible exact reply_heading.mono _ _)
   | (with_reducible exact LeO.refl _)
   | (with_reducible exact LeO.none _)
   | (with_reducible refine LeO.ite ?_ ?_)
   | (with_reducible refine LeO.bind ?_ (fun _ => ?_))
   | exact reply_heading.mono _ _
   | exact LeO.none _
   | refine LeO.ite ?_ ?_
   | refine LeO.bind ?_ (fun _ => ?_)
set_option maxHeartbeats 8000000 in
set_option maxRecDepth 100000 in
theorem reply_Read.calls [Sent] (k : Nat) (a0 : ByteArray) (r1 : Int) (r2 : List (S26)) (r3 : ByteArray) (r4 : Bool) (r5 : Int) (r6 : Option Int) (w : World) (h : reply_Read.f k a0 = some (r1, r2, r3, r4, r5, r6)) (hG : Glob [0, 1, 2, 5, 8, 9, 16, 18, 19] w) :
  Calls Tryd.prog 32 #[.string a0] w fun e w' => ∃ v1_ : Value, e = .returned (.tuple #[.agg #[.int .i64 r1, v1_, .string r3, .bool r4], .int .i64 r5, errW r6]) ∧ Kd.R k26 26 w' w.heap.size (fun _ => True) v1_ r2 ∧ Below w.heap.size w w' := by
 have HG := Aq8 hG
 clear hG
 have hu24 := Tryd.underlying24
 have HB := Aq8 (Below.refl w.heap.size w)
 have H : ((strings_Index.f a0 (⟨#[13, 10, 13, 10]⟩ : ByteArray)).bind fun t178 => (if t178 < 0 then (some (0, ([] : List (S26)), (⟨#[]⟩ : ByteArray), false, 0, some 6)) else (if 0 ≤ t178 then (if t178 ≤ (a0.size : Int) then ((reply_heading.f k (a0.extract 0 (t178 : Int).toNat)).bind fun bt180 => (if bt180.2.2.2.2.2 = true then (if (wrap64 ((a0.size : Int) - (wrap64 ((wrap64 (t178 + 2)) + 2)))) < bt180.2.2.2.2.1 then (some (0, ([] : List (S26)), (⟨#[]⟩ : ByteArray), false, 0, some 6)) else (if 0 ≤ (wrap64 ((wrap64 (t178 + 2)) + 2)) then (if (wrap64 ((wrap64 (t178 + 2)) + 2)) ≤ (wrap64 ((wrap64 ((wrap64 (t178 + 2)) + 2)) + bt180.2.2.2.2.1)) then (if (wrap64 ((wrap64 ((wrap64 (t178 + 2)) + 2)) + bt180.2.2.2.2.1)) ≤ (a0.size : Int) then (some (bt180.1, bt180.2.1, a0.extract ((wrap64 ((wrap64 (t178 + 2)) + 2)) : Int).toNat ((wrap64 ((wrap64 ((wrap64 (t178 + 2)) + 2)) + bt180.2.2.2.2.1)) : Int).toNat, bt180.2.2.2.1, wrap64 ((wrap64 ((wrap64 (t178 + 2)) + 2)) + bt180.2.2.2.2.1), none)) else (none)) else (none)) else (none))) else (some (0, ([] : List (S26)), (⟨#[]⟩ : ByteArray), false, 0, some 2)))) else (none)) else (none)))) = some (r1, r2, r3, r4, r5, r6) := h
 clear h
 replace H := Option.bind_eq_some_iff.mp H
 obtain ⟨t178, A20, H⟩ := H
 replace H : (if t178 < 0 then (some (0, ([] : List (S26)), (⟨#[]⟩ : ByteArray), false, 0, some 6)) else (if 0 ≤ t178 then (if t178 ≤ (a0.size : Int) then ((reply_heading.f k (a0.extract 0 (t178 : Int).toNat)).bind fun bt180 => (if bt180.2.2.2.2.2 = true then (if (wrap64 ((a0.size : Int) - (wrap64 ((wrap64 (t178 + 2)) + 2)))) < bt180.2.2.2.2.1 then (some (0, ([] : List (S26)), (⟨#[]⟩ : ByteArray), false, 0, some 6)) else (if 0 ≤ (wrap64 ((wrap64 (t178 + 2)) + 2)) then (if (wrap64 ((wrap64 (t178 + 2)) + 2)) ≤ (wrap64 ((wrap64 ((wrap64 (t178 + 2)) + 2)) + bt180.2.2.2.2.1)) then (if (wrap64 ((wrap64 ((wrap64 (t178 + 2)) + 2)) + bt180.2.2.2.2.1)) ≤ (a0.size : Int) then (some (bt180.1, bt180.2.1, a0.extract ((wrap64 ((wrap64 (t178 + 2)) + 2)) : Int).toNat ((wrap64 ((wrap64 ((wrap64 (t178 + 2)) + 2)) + bt180.2.2.2.2.1)) : Int).toNat, bt180.2.2.2.1, wrap64 ((wrap64 ((wrap64 (t178 + 2)) + 2)) + bt180.2.2.2.2.1), none)) else (none)) else (none)) else (none))) else (some (0, ([] : List (S26)), (⟨#[]⟩ : ByteArray), false, 0, some 2)))) else (none)) else (none))) = some (r1, r2, r3, r4, r5, r6) := H
 have A2 := Aq8 A20
 clear A20
 by_cases c3 : t178 < 0
 ·rw [if_pos c3] at H
  have c3b0 : decide (t178 < 0) = true := decide_eq_true c3
  clear c3
  simp only [Option.some.injEq, Prod.mk.injEq] at H
  obtain ⟨rfl, rfl, rfl, rfl, rfl, rfl⟩ := H
  go_enter Tryd.func32, Tryd.ntmps32
  try go_wp2_with (first | ((with_reducible refine gate_dst (N := 2) rfl ?_); refine box_event ?hg (N := 2) ?hd (cs := #[.int .i64 0, .slice none 0 0, .string (⟨#[]⟩ : ByteArray), .bool false]) (t := 24) ?hr ?_; (case hd => rfl); (case hg => rfl); (case hr => first | (go_simp; done) | (go_simp; rfl)); intro gb177 hg w4 hbox hb; have BK177 := Aq8 (hbox); have GW177 := Aq8 ((by rw [hg]; exact (below_size tq8_6) : w.heap.size ≤ gb177)); have GE177 := Aq8 ((by rw [hg]; exact (below_size tq8_6) : w.heap.size ≤ gb177)); replace HB := Aq8 (below_step tq8_6 hb); clear hb hbox hg) | ((with_reducible refine gate_callee (f := 54) rfl ?_); refine goesL_ (some 11) rfl rfl Tryd.func54 (by kernel_rfl) rfl #[.string a0, .string (⟨#[13, 10, 13, 10]⟩ : ByteArray)] rfl tq8_7 ?_; (with_reducible refine (strings_Index.calls a0 (⟨#[13, 10, 13, 10]⟩ : ByteArray) t178 _ A2.out ?side1).mono ?_); (case side1 => exact HG.out.step (tq8_9 GE177.out) rfl); rintro e w' ⟨rfl, ⟨nd, rfl⟩⟩; refine ⟨_, rfl, ?_⟩; (try (rw [drewN_self w4]; generalize hq_ : World.drewN w4 _ = w4; have n0_ : Aside0 (w4.heap[gb177]? = some (.cells #[.int .i64 0, .slice none 0 0, .string (⟨#[]⟩ : ByteArray), .bool false] 24 (0, 0))) := ⟨by rw [← hq_]; exact (tq8_5 BK177.out)⟩; have n1_ : Aside0 (Below w.heap.size w w4) := ⟨by rw [← hq_]; exact (tq8_9 GE177.out)⟩; clear BK177 HB hq_; have BK177 := n0_; have HB := n1_; clear n0_ n1_))))
  have n0_ := Aq8 (blk_drew BK177.out)
  have n1_ := Aq8 (below_drew1 HB.out)
  clear BK177
  clear HB
  have BK177 := n0_
  have HB := n1_
  clear n0_ n1_
  have hgwq179 := Glob.err6 HG.out (by rfl)
  have hgeq179 := Glob.err6 (HG.out.step HB.out (T := [0, 1, 2, 5, 8, 9, 16, 18, 19]) rfl) (by rfl)
  refine start_ (n := 5) (S := fun w' => w'.cell? ⟨5, 0, none⟩ = some (.iface 143 (.pointer (some (Sent.addr 6))))) (ds := []) #[false, false, false, false, false] (by kernel_rfl) rfl rfl (((HB.out.cell (World.block_lt_of_cell? w _ hgwq179)).trans hgwq179)) (fun hHeld => ?_)
  generalize w4.drew = w5 at BK177 HB hHeld ⊢
  refine pure_ (i := 0) (N := some 14) (v := ?_) (a' := ?_) #[true, false, false, false, false] rfl rfl (by kernel_rfl) (fun _ _ _ h => h) (Or.inl ⟨by rfl, ?_⟩) ?_ ?_
  rotate_left
  ·intro w'
   go_simp
   with_reducible rfl
  rotate_left
  ·simp only [Act.put, List.setIfInBounds_toArray, List.set_cons_zero, List.set_cons_succ, i64_w, i32_w]
   rfl
  refine take_ (i := 1) (N := some 15) (v := ?_) (a' := ?_) #[true, true, false, false, false] rfl rfl (by kernel_rfl) (fun _ _ _ h => h) (Or.inl ⟨by rfl, ?_⟩) hHeld ?_ ?_
  rotate_left
  ·intro w' s0
   go_simp
   with_reducible rfl
  rotate_left
  ·simp only [Act.put, List.setIfInBounds_toArray, List.set_cons_zero, List.set_cons_succ, i64_w, i32_w]
   rfl
  refine one_ (i := 2) (N := none) #[true, true, true, false, false] rfl rfl (by kernel_rfl) (by decide) (fun K hK => ?_)
  have hs6 : w5.cell? ⟨gb177, 0, none⟩ = some (.int .i64 0) := (blk_cell BK177.out 0).trans rfl
  have hfs6 := blk_frozen BK177.out 0
  have hs7 : w5.cell? ⟨gb177, 1, none⟩ = some (.slice none 0 0) := (blk_cell BK177.out 1).trans rfl
  have hfs7 := blk_frozen BK177.out 1
  have hs8 : w5.cell? ⟨gb177, 2, none⟩ = some (.string (⟨#[]⟩ : ByteArray)) := (blk_cell BK177.out 2).trans rfl
  have hfs8 := blk_frozen BK177.out 2
  have hs9 : w5.cell? ⟨gb177, 3, none⟩ = some (.bool false) := (blk_cell BK177.out 3).trans rfl
  have hfs9 := blk_frozen BK177.out 3
  refine skip_ (w1 := ?_) (by rfl) rfl ?_ ?_
  rotate_left
  ·go_simp
   rfl
  refine hK.out _ _ (((cell_far (p := ⟨gb177, _, none⟩) (tq8_c GW177.out) _).trans (((cell_far (p := ⟨gb177, _, none⟩) (tq8_c GW177.out) _).trans (((cell_far (p := ⟨gb177, _, none⟩) (tq8_c GW177.out) _).trans (((cell_far (p := ⟨gb177, _, none⟩) (tq8_c GW177.out) _).trans (hHeld))))))))) (fun hHeld => ?_)
  clear hK K
  refine pure_ (i := 3) (N := some 3) (v := ?_) (a' := ?_) #[true, true, true, true, false] rfl rfl (by kernel_rfl) (fun _ _ _ h => h) (Or.inl ⟨by rfl, ?_⟩) ?_ ?_
  rotate_left
  ·intro w'
   go_simp
   with_reducible rfl
  rotate_left
  ·simp only [Act.put, List.setIfInBounds_toArray, List.set_cons_zero, List.set_cons_succ, i64_w, i32_w]
   rfl
  refine pure_ (i := 4) (N := some 4) (v := ?_) (a' := ?_) #[true, true, true, true, true] rfl rfl (by kernel_rfl) (fun _ _ _ h => h) (Or.inl ⟨by rfl, ?_⟩) ?_ ?_
  rotate_left
  ·intro w'
   go_simp
   with_reducible rfl
  rotate_left
  ·simp only [Act.put, List.setIfInBounds_toArray, List.set_cons_zero, List.set_cons_succ, i64_w, i32_w]
   rfl
  refine done_ (by kernel_rfl) ?_
  try go_wp2
  refine bodyPost_ret (results_ctt rfl _ _ gb177 24 #[.int .i64 0, .slice none 0 0, .string (⟨#[]⟩ : ByteArray), .bool false] (0, 0) _ rfl (tq8_f BK177.out) Tryd.underlying24 rfl (by kernel_rfl)) rfl ?_
  exact ⟨_, tq8_3, tq8_8, (tq8_9 GE177.out)⟩
 ·rw [if_neg c3] at H
  have c3b0 : decide (t178 < 0) = false := decide_eq_false c3
  clear c3
  by_cases c10 : 0 ≤ t178
  ·rw [if_pos c10] at H
   have c10b0 := eq_true c10
   have c10b1 : decide (0 ≤ t178) = true := decide_eq_true c10
   clear c10
   by_cases c11 : t178 ≤ (a0.size : Int)
   ·rw [if_pos c11] at H
    have c11b0 := eq_true c11
    have c11b1 : decide (t178 ≤ (a0.size : Int)) = true := decide_eq_true c11
    clear c11
    replace H := Option.bind_eq_some_iff.mp H
    obtain ⟨⟨t180, t181, t184, t185, t186, t187⟩, A120, H⟩ := H
    replace H : (if t187 = true then (if (wrap64 ((a0.size : Int) - (wrap64 ((wrap64 (t178 + 2)) + 2)))) < t186 then (some (0, ([] : List (S26)), (⟨#[]⟩ : ByteArray), false, 0, some 6)) else (if 0 ≤ (wrap64 ((wrap64 (t178 + 2)) + 2)) then (if (wrap64 ((wrap64 (t178 + 2)) + 2)) ≤ (wrap64 ((wrap64 ((wrap64 (t178 + 2)) + 2)) + t186)) then (if (wrap64 ((wrap64 ((wrap64 (t178 + 2)) + 2)) + t186)) ≤ (a0.size : Int) then (some (t180, t181, a0.extract ((wrap64 ((wrap64 (t178 + 2)) + 2)) : Int).toNat ((wrap64 ((wrap64 ((wrap64 (t178 + 2)) + 2)) + t186)) : Int).toNat, t185, wrap64 ((wrap64 ((wrap64 (t178 + 2)) + 2)) + t186), none)) else (none)) else (none)) else (none))) else (some (0, ([] : List (S26)), (⟨#[]⟩ : ByteArray), false, 0, some 2))) = some (r1, r2, r3, r4, r5, r6) := H
    have A12 := Aq8 A120
    clear A120
    by_cases c13 : t187 = true
    ·subst c13
     have H1 : (if (wrap64 ((a0.size : Int) - (wrap64 ((wrap64 (t178 + 2)) + 2)))) < t186 then (some (0, ([] : List (S26)), (⟨#[]⟩ : ByteArray), false, 0, some 6)) else (if 0 ≤ (wrap64 ((wrap64 (t178 + 2)) + 2)) then (if (wrap64 ((wrap64 (t178 + 2)) + 2)) ≤ (wrap64 ((wrap64 ((wrap64 (t178 + 2)) + 2)) + t186)) then (if (wrap64 ((wrap64 ((wrap64 (t178 + 2)) + 2)) + t186)) ≤ (a0.size : Int) then (some (t180, t181, a0.extract ((wrap64 ((wrap64 (t178 + 2)) + 2)) : Int).toNat ((wrap64 ((wrap64 ((wrap64 (t178 + 2)) + 2)) + t186)) : Int).toNat, t185, wrap64 ((wrap64 ((wrap64 (t178 + 2)) + 2)) + t186), none)) else (none)) else (none)) else (none))) = some (r1, r2, r3, r4, r5, r6) := by rw [if_pos rfl] at H; exact H
     clear H
     have H := H1
     clear H1
     by_cases c14 : (wrap64 ((a0.size : Int) - (wrap64 ((wrap64 (t178 + 2)) + 2)))) < t186
     ·rw [if_pos c14] at H
      have c14b0 : decide ((wrap64 ((a0.size : Int) - (wrap64 ((wrap64 (t178 + 2)) + 2)))) < t186) = true := decide_eq_true c14
      clear c14
      simp only [Option.some.injEq, Prod.mk.injEq] at H
      obtain ⟨rfl, rfl, rfl, rfl, rfl, rfl⟩ := H
      go_enter Tryd.func32, Tryd.ntmps32
      try go_wp2_with (first | ((with_reducible refine gate_dst (N := 2) rfl ?_); refine box_event ?hg (N := 2) ?hd (cs := #[.int .i64 0, .slice none 0 0, .string (⟨#[]⟩ : ByteArray), .bool false]) (t := 24) ?hr ?_; (case hd => rfl); (case hg => rfl); (case hr => first | (go_simp; done) | (go_simp; rfl)); intro gb177 hg w15 hbox hb; have BK177 := Aq8 (hbox); have GW177 := Aq8 ((by rw [hg]; exact (below_size tq8_6) : w.heap.size ≤ gb177)); have GE177 := Aq8 ((by rw [hg]; exact (below_size tq8_6) : w.heap.size ≤ gb177)); replace HB := Aq8 (below_step tq8_6 hb); clear hb hbox hg) | ((with_reducible refine gate_callee (f := 54) rfl ?_); refine goesL_ (some 11) rfl rfl Tryd.func54 (by kernel_rfl) rfl #[.string a0, .string (⟨#[13, 10, 13, 10]⟩ : ByteArray)] rfl tq8_7 ?_; (with_reducible refine (strings_Index.calls a0 (⟨#[13, 10, 13, 10]⟩ : ByteArray) t178 _ A2.out ?side1).mono ?_); (case side1 => exact HG.out.step (tq8_9 GE177.out) rfl); rintro e w' ⟨rfl, ⟨nd, rfl⟩⟩; refine ⟨_, rfl, ?_⟩; (try (rw [drewN_self w15]; generalize hq_ : World.drewN w15 _ = w15; have n0_ : Aside0 (w15.heap[gb177]? = some (.cells #[.int .i64 0, .slice none 0 0, .string (⟨#[]⟩ : ByteArray), .bool false] 24 (0, 0))) := ⟨by rw [← hq_]; exact (tq8_5 BK177.out)⟩; have n1_ : Aside0 (Below w.heap.size w w15) := ⟨by rw [← hq_]; exact (tq8_9 GE177.out)⟩; clear BK177 HB hq_; have BK177 := n0_; have HB := n1_; clear n0_ n1_))) | ((with_reducible refine gate_callee (f := 55) rfl ?_); refine goesL_ (some 20) rfl rfl Tryd.func55 (by kernel_rfl) rfl #[.string (a0.extract 0 (t178 : Int).toNat)] rfl tq8_7 ?_; (with_reducible refine (reply_heading.calls k (a0.extract 0 (t178 : Int).toNat) t180 t181 t184 t185 t186 true _ A12.out ?side1).mono ?_); (case side1 => exact HG.out.step (tq8_9 GE177.out) rfl); rintro e w16 ⟨v182, rfl, ho0, hb⟩; refine ⟨_, rfl, ?_⟩; have HO183 := Aq8 (Kd.R_lower ho0 (below_size (tq8_9 GE177.out))); replace BK177 := Aq8 (blk_below (g := gb177) (o := .cells #[.int .i64 0, .slice none 0 0, .string (⟨#[]⟩ : ByteArray), .bool false] 24 (0, 0)) (tq8_5 BK177.out) hb); replace HB := Aq8 (below_step (tq8_9 GE177.out) hb); (try clear hb); (try clear hb2); (try clear hk); (try clear hi); (try clear ho0)) | ((with_reducible refine gate_dst (N := 6) rfl ?_); refine box_event ?hg (N := 6) ?hd (cs := #[.int .i64 0, .slice none 0 0, .string (⟨#[]⟩ : ByteArray), .bool false]) (t := 24) ?hr ?_; (case hd => rfl); (case hg => rfl); (case hr => first | (go_simp; done) | (go_simp; rfl)); intro gb188 hg w17 hbox hb; replace HO183 := Aq8 (Kd.R_below (tq8_4 HO183.out) hb); have BK188 := Aq8 (hbox); have GW188 := Aq8 ((by rw [hg]; exact (below_size (tq8_9 GE177.out)) : w.heap.size ≤ gb188)); have GE188 := Aq8 ((by rw [hg]; exact (below_size (tq8_9 GE177.out)) : w.heap.size ≤ gb188)); have NB177_188 := Aq8 ((by rw [hg]; exact Nat.ne_of_lt (blk_lt (g := gb177) (o := .cells #[.int .i64 0, .slice none 0 0, .string (⟨#[]⟩ : ByteArray), .bool false] 24 (0, 0)) (tq8_5 BK177.out)) : gb177 ≠ gb188)); have NB188_177 := Aq8 ((by rw [hg]; exact Nat.ne_of_gt (blk_lt (g := gb177) (o := .cells #[.int .i64 0, .slice none 0 0, .string (⟨#[]⟩ : ByteArray), .bool false] 24 (0, 0)) (tq8_5 BK177.out)) : gb188 ≠ gb177)); replace BK177 := Aq8 (blk_below (g := gb177) (o := .cells #[.int .i64 0, .slice none 0 0, .string (⟨#[]⟩ : ByteArray), .bool false] 24 (0, 0)) (tq8_5 BK177.out) hb); replace HB := Aq8 (below_step (tq8_9 GE177.out) hb); clear hb hbox hg; have hnb18 := NB188_177.out; have hnc18 := NB177_188.out; have hcz19_0 : w17.cell? ⟨gb188, 0, none⟩ = some (.int .i64 0) := (blk_cell BK188.out 0).trans rfl; have hcz19_1 : w17.cell? ⟨gb188, 1, none⟩ = some (.slice none 0 0) := (blk_cell BK188.out 1).trans rfl; have hcz19_2 : w17.cell? ⟨gb188, 2, none⟩ = some (.string (⟨#[]⟩ : ByteArray)) := (blk_cell BK188.out 2).trans rfl; have hcz19_3 : w17.cell? ⟨gb188, 3, none⟩ = some (.bool false) := (blk_cell BK188.out 3).trans rfl; have hfz19_0 := blk_frozen BK188.out 0; have hfz19_1 := blk_frozen BK188.out 1; have hfz19_2 := blk_frozen BK188.out 2; have hfz19_3 := blk_frozen BK188.out 3; obtain ⟨Ao20, co20, eo20⟩ := Kd.R_slice HO183.out; subst eo20))
      have n0_ : Aside0 (Kd.R k26 26 ((((w17.setCell ⟨gb188, 0, none⟩ (.int .i64 t180)).setCell ⟨gb188, 1, none⟩ (.slice Ao20 t181.length co20)).setCell ⟨gb188, 2, none⟩ (.string t184)).setCell ⟨gb188, 3, none⟩ (.bool t185)) w.heap.size (fun _ => True) (.slice Ao20 t181.length co20) t181) := ⟨by (with_reducible repeat (first | apply Kd.R_alloc | apply Kd.R_drewN | apply Kd.R_drew)); exact Kd.R_mono (Kd.R_far (p := ⟨gb188, 3, none⟩) (Kd.R_far (p := ⟨gb188, 2, none⟩) (Kd.R_far (p := ⟨gb188, 1, none⟩) (Kd.R_far (p := ⟨gb188, 0, none⟩) (Kd.R_types HO183.out BK188.out (by decide)) (fun _ hk => hk.2) (.int .i64 t180)) (fun _ hk => hk.2) (.slice Ao20 t181.length co20)) (fun _ hk => hk.2) (.string t184)) (fun _ hk => hk.2) (.bool t185)) (fun _ hk => trivial)⟩
      have n1_ : Aside0 (((((w17.setCell ⟨gb188, 0, none⟩ (.int .i64 t180)).setCell ⟨gb188, 1, none⟩ (.slice Ao20 t181.length co20)).setCell ⟨gb188, 2, none⟩ (.string t184)).setCell ⟨gb188, 3, none⟩ (.bool t185)).heap[gb177]? = some (.cells #[.int .i64 0, .slice none 0 0, .string (⟨#[]⟩ : ByteArray), .bool false] 24 (0, 0))) := ⟨(tq8_b NB177_188.out BK177.out)⟩
      have n2_ : Aside0 (((((w17.setCell ⟨gb188, 0, none⟩ (.int .i64 t180)).setCell ⟨gb188, 1, none⟩ (.slice Ao20 t181.length co20)).setCell ⟨gb188, 2, none⟩ (.string t184)).setCell ⟨gb188, 3, none⟩ (.bool t185)).heap[gb188]? = some (.cells #[.int .i64 t180, .slice Ao20 t181.length co20, .string t184, .bool t185] 24 (0, 0))) := ⟨by (with_reducible repeat (first | refine blk_drewN ?_ _ | refine blk_drew ?_ | refine blk_alloc ?_ _)); refine blk_put (cs := #[.int .i64 t180, .slice Ao20 t181.length co20, .string t184, .bool false]) ?_ 3 _ rfl; (with_reducible repeat (first | refine blk_drewN ?_ _ | refine blk_drew ?_ | refine blk_alloc ?_ _)); refine blk_put (cs := #[.int .i64 t180, .slice Ao20 t181.length co20, .string (⟨#[]⟩ : ByteArray), .bool false]) ?_ 2 _ rfl; (with_reducible repeat (first | refine blk_drewN ?_ _ | refine blk_drew ?_ | refine blk_alloc ?_ _)); refine blk_put (cs := #[.int .i64 t180, .slice none 0 0, .string (⟨#[]⟩ : ByteArray), .bool false]) ?_ 1 _ rfl; (with_reducible repeat (first | refine blk_drewN ?_ _ | refine blk_drew ?_ | refine blk_alloc ?_ _)); refine blk_put (cs := #[.int .i64 0, .slice none 0 0, .string (⟨#[]⟩ : ByteArray), .bool false]) ?_ 0 _ rfl; (with_reducible repeat (first | refine blk_drewN ?_ _ | refine blk_drew ?_ | refine blk_alloc ?_ _)); exact BK188.out⟩
      have n3_ : Aside0 (Below w.heap.size w ((((w17.setCell ⟨gb188, 0, none⟩ (.int .i64 t180)).setCell ⟨gb188, 1, none⟩ (.slice Ao20 t181.length co20)).setCell ⟨gb188, 2, none⟩ (.string t184)).setCell ⟨gb188, 3, none⟩ (.bool t185))) := ⟨(tq8_a GE177.out GE188.out)⟩
      (try clear HO183)
      (try clear BK177)
      (try clear BK188)
      (try clear HB)
      generalize ((((w17.setCell ⟨gb188, 0, none⟩ (.int .i64 t180)).setCell ⟨gb188, 1, none⟩ (.slice Ao20 t181.length co20)).setCell ⟨gb188, 2, none⟩ (.string t184)).setCell ⟨gb188, 3, none⟩ (.bool t185)) = w21 at n0_ n1_ n2_ n3_ ⊢
      have HO183 := n0_
      have BK177 := n1_
      have BK188 := n2_
      have HB := n3_
      clear n0_ n1_ n2_ n3_
      have n0_ := Aq8 (Kd.R_drew HO183.out)
      have n1_ := Aq8 (blk_drew BK177.out)
      have n2_ := Aq8 (blk_drew BK188.out)
      have n3_ := Aq8 (below_drew1 HB.out)
      clear HO183
      clear BK177
      clear BK188
      clear HB
      have HO183 := n0_
      have BK177 := n1_
      have BK188 := n2_
      have HB := n3_
      clear n0_ n1_ n2_ n3_
      have hgwq189 := Glob.err6 HG.out (by rfl)
      have hgeq189 := Glob.err6 (HG.out.step HB.out (T := [0, 1, 2, 5, 8, 9, 16, 18, 19]) rfl) (by rfl)
      refine start_ (n := 5) (S := fun w' => w'.cell? ⟨5, 0, none⟩ = some (.iface 143 (.pointer (some (Sent.addr 6))))) (ds := []) #[false, false, false, false, false] (by kernel_rfl) rfl rfl (((HB.out.cell (World.block_lt_of_cell? w _ hgwq189)).trans hgwq189)) (fun hHeld => ?_)
      generalize w21.drew = w22 at HO183 BK177 BK188 HB hHeld ⊢
      refine pure_ (i := 0) (N := some 37) (v := ?_) (a' := ?_) #[true, false, false, false, false] rfl rfl (by kernel_rfl) (fun _ _ _ h => h) (Or.inl ⟨by rfl, ?_⟩) ?_ ?_
      rotate_left
      ·intro w'
       go_simp
       with_reducible rfl
      rotate_left
      ·simp only [Act.put, List.setIfInBounds_toArray, List.set_cons_zero, List.set_cons_succ, i64_w, i32_w]
       rfl
      refine take_ (i := 1) (N := some 38) (v := ?_) (a' := ?_) #[true, true, false, false, false] rfl rfl (by kernel_rfl) (fun _ _ _ h => h) (Or.inl ⟨by rfl, ?_⟩) hHeld ?_ ?_
      rotate_left
      ·intro w' s0
       go_simp
       with_reducible rfl
      rotate_left
      ·simp only [Act.put, List.setIfInBounds_toArray, List.set_cons_zero, List.set_cons_succ, i64_w, i32_w]
       rfl
      refine one_ (i := 2) (N := none) #[true, true, true, false, false] rfl rfl (by kernel_rfl) (by decide) (fun K hK => ?_)
      have hs23 : w22.cell? ⟨gb177, 0, none⟩ = some (.int .i64 0) := (blk_cell BK177.out 0).trans rfl
      have hfs23 := blk_frozen BK177.out 0
      have hns23_1 := NB188_177.out
      have hms23_1 := NB177_188.out
      have hs24 : w22.cell? ⟨gb177, 1, none⟩ = some (.slice none 0 0) := (blk_cell BK177.out 1).trans rfl
      have hfs24 := blk_frozen BK177.out 1
      have hns24_1 := NB188_177.out
      have hms24_1 := NB177_188.out
      have hs25 : w22.cell? ⟨gb177, 2, none⟩ = some (.string (⟨#[]⟩ : ByteArray)) := (blk_cell BK177.out 2).trans rfl
      have hfs25 := blk_frozen BK177.out 2
      have hns25_1 := NB188_177.out
      have hms25_1 := NB177_188.out
      have hs26 : w22.cell? ⟨gb177, 3, none⟩ = some (.bool false) := (blk_cell BK177.out 3).trans rfl
      have hfs26 := blk_frozen BK177.out 3
      have hns26_1 := NB188_177.out
      have hms26_1 := NB177_188.out
      refine skip_ (w1 := ?_) (by rfl) rfl ?_ ?_
      rotate_left
      ·go_simp
       rfl
      refine hK.out _ _ (((cell_far (p := ⟨gb177, _, none⟩) (tq8_d GW177.out) _).trans (((cell_far (p := ⟨gb177, _, none⟩) (tq8_d GW177.out) _).trans (((cell_far (p := ⟨gb177, _, none⟩) (tq8_d GW177.out) _).trans (((cell_far (p := ⟨gb177, _, none⟩) (tq8_d GW177.out) _).trans (hHeld))))))))) (fun hHeld => ?_)
      clear hK K
      refine pure_ (i := 3) (N := some 3) (v := ?_) (a' := ?_) #[true, true, true, true, false] rfl rfl (by kernel_rfl) (fun _ _ _ h => h) (Or.inl ⟨by rfl, ?_⟩) ?_ ?_
      rotate_left
      ·intro w'
       go_simp
       with_reducible rfl
      rotate_left
      ·simp only [Act.put, List.setIfInBounds_toArray, List.set_cons_zero, List.set_cons_succ, i64_w, i32_w]
       rfl
      refine pure_ (i := 4) (N := some 4) (v := ?_) (a' := ?_) #[true, true, true, true, true] rfl rfl (by kernel_rfl) (fun _ _ _ h => h) (Or.inl ⟨by rfl, ?_⟩) ?_ ?_
      rotate_left
      ·intro w'
       go_simp
       with_reducible rfl
      rotate_left
      ·simp only [Act.put, List.setIfInBounds_toArray, List.set_cons_zero, List.set_cons_succ, i64_w, i32_w]
       rfl
      refine done_ (by kernel_rfl) ?_
      try go_wp2
      refine bodyPost_ret (results_ctt rfl _ _ gb177 24 #[.int .i64 0, .slice none 0 0, .string (⟨#[]⟩ : ByteArray), .bool false] (0, 0) _ rfl (tq8_f BK177.out) Tryd.underlying24 rfl (by kernel_rfl)) rfl ?_
      exact ⟨_, tq8_3, tq8_8, (tq8_a GE177.out GE188.out)⟩
     ·rw [if_neg c14] at H
      have c14b0 : decide ((wrap64 ((a0.size : Int) - (wrap64 ((wrap64 (t178 + 2)) + 2)))) < t186) = false := decide_eq_false c14
      clear c14
      obtain ⟨ji27, hji27⟩ : ∃ j_ : Int, (wrap64 ((wrap64 (t178 + 2)) + 2)) = j_ := ⟨_, rfl⟩
      replace H : (if 0 ≤ (ji27) then (if (ji27) ≤ (wrap64 ((ji27) + t186)) then (if (wrap64 ((ji27) + t186)) ≤ (a0.size : Int) then (some (t180, t181, a0.extract ((ji27) : Int).toNat ((wrap64 ((ji27) + t186)) : Int).toNat, t185, wrap64 ((ji27) + t186), none)) else (none)) else (none)) else (none)) = some (r1, r2, r3, r4, r5, r6) := by first | (rw [hji27] at H; exact H) | (simp only [hji27] at H ⊢; exact H)
      (try rw [hji27] at c14b0)
      (try rw [hji27] at A2)
      (try rw [hji27] at A12)
      have hji27w : (IntKind.i64.wrap ((wrap64 (t178 + 2)) + 2)) = ji27 := (i64_w _).trans hji27
      by_cases c28 : 0 ≤ (ji27)
      ·rw [if_pos c28] at H
       have c28b0 := eq_true c28
       have c28b1 : decide (0 ≤ (ji27)) = true := decide_eq_true c28
       clear c28
       by_cases c29 : (ji27) ≤ (wrap64 ((ji27) + t186))
       ·rw [if_pos c29] at H
        have c29b0 := eq_true c29
        have c29b1 : decide ((ji27) ≤ (wrap64 ((ji27) + t186))) = true := decide_eq_true c29
        clear c29
        by_cases c30 : (wrap64 ((ji27) + t186)) ≤ (a0.size : Int)
        ·rw [if_pos c30] at H
         have c30b0 := eq_true c30
         have c30b1 : decide ((wrap64 ((ji27) + t186)) ≤ (a0.size : Int)) = true := decide_eq_true c30
         clear c30
         simp only [Option.some.injEq, Prod.mk.injEq] at H
         obtain ⟨rfl, rfl, rfl, rfl, rfl, rfl⟩ := H
         go_enter Tryd.func32, Tryd.ntmps32
         go_upto_region 11 with (first | ((with_reducible refine gate_dst (N := 2) rfl ?_); refine box_event ?hg (N := 2) ?hd (cs := #[.int .i64 0, .slice none 0 0, .string (⟨#[]⟩ : ByteArray), .bool false]) (t := 24) ?hr ?_; (case hd => rfl); (case hg => rfl); (case hr => first | (go_simp; done) | (go_simp; rfl)); intro gb177 hg w31 hbox hb; have BK177 := Aq8 (hbox); have GW177 := Aq8 ((by rw [hg]; exact (below_size tq8_6) : w.heap.size ≤ gb177)); have GE177 := Aq8 ((by rw [hg]; exact (below_size tq8_6) : w.heap.size ≤ gb177)); replace HB := Aq8 (below_step tq8_6 hb); clear hb hbox hg) | ((with_reducible refine gate_callee (f := 54) rfl ?_); refine goesL_ (some 11) rfl rfl Tryd.func54 (by kernel_rfl) rfl #[.string a0, .string (⟨#[13, 10, 13, 10]⟩ : ByteArray)] rfl tq8_7 ?_; (with_reducible refine (strings_Index.calls a0 (⟨#[13, 10, 13, 10]⟩ : ByteArray) t178 _ A2.out ?side1).mono ?_); (case side1 => exact HG.out.step (tq8_9 GE177.out) rfl); rintro e w' ⟨rfl, ⟨nd, rfl⟩⟩; refine ⟨_, rfl, ?_⟩; (try (rw [drewN_self w31]; generalize hq_ : World.drewN w31 _ = w31; have n0_ : Aside0 (w31.heap[gb177]? = some (.cells #[.int .i64 0, .slice none 0 0, .string (⟨#[]⟩ : ByteArray), .bool false] 24 (0, 0))) := ⟨by rw [← hq_]; exact (tq8_5 BK177.out)⟩; have n1_ : Aside0 (Below w.heap.size w w31) := ⟨by rw [← hq_]; exact (tq8_9 GE177.out)⟩; clear BK177 HB hq_; have BK177 := n0_; have HB := n1_; clear n0_ n1_))) | ((with_reducible refine gate_callee (f := 55) rfl ?_); refine goesL_ (some 20) rfl rfl Tryd.func55 (by kernel_rfl) rfl #[.string (a0.extract 0 (t178 : Int).toNat)] rfl tq8_7 ?_; (with_reducible refine (reply_heading.calls k (a0.extract 0 (t178 : Int).toNat) t180 t181 t184 t185 t186 true _ A12.out ?side1).mono ?_); (case side1 => exact HG.out.step (tq8_9 GE177.out) rfl); rintro e w32 ⟨v182, rfl, ho0, hb⟩; refine ⟨_, rfl, ?_⟩; have HO183 := Aq8 (Kd.R_lower ho0 (below_size (tq8_9 GE177.out))); replace BK177 := Aq8 (blk_below (g := gb177) (o := .cells #[.int .i64 0, .slice none 0 0, .string (⟨#[]⟩ : ByteArray), .bool false] 24 (0, 0)) (tq8_5 BK177.out) hb); replace HB := Aq8 (below_step (tq8_9 GE177.out) hb); (try clear hb); (try clear hb2); (try clear hk); (try clear hi); (try clear ho0)) | ((with_reducible refine gate_dst (N := 6) rfl ?_); refine box_event ?hg (N := 6) ?hd (cs := #[.int .i64 0, .slice none 0 0, .string (⟨#[]⟩ : ByteArray), .bool false]) (t := 24) ?hr ?_; (case hd => rfl); (case hg => rfl); (case hr => first | (go_simp; done) | (go_simp; rfl)); intro gb188 hg w33 hbox hb; replace HO183 := Aq8 (Kd.R_below (tq8_4 HO183.out) hb); have BK188 := Aq8 (hbox); have GW188 := Aq8 ((by rw [hg]; exact (below_size (tq8_9 GE177.out)) : w.heap.size ≤ gb188)); have GE188 := Aq8 ((by rw [hg]; exact (below_size (tq8_9 GE177.out)) : w.heap.size ≤ gb188)); have NB177_188 := Aq8 ((by rw [hg]; exact Nat.ne_of_lt (blk_lt (g := gb177) (o := .cells #[.int .i64 0, .slice none 0 0, .string (⟨#[]⟩ : ByteArray), .bool false] 24 (0, 0)) (tq8_5 BK177.out)) : gb177 ≠ gb188)); have NB188_177 := Aq8 ((by rw [hg]; exact Nat.ne_of_gt (blk_lt (g := gb177) (o := .cells #[.int .i64 0, .slice none 0 0, .string (⟨#[]⟩ : ByteArray), .bool false] 24 (0, 0)) (tq8_5 BK177.out)) : gb188 ≠ gb177)); replace BK177 := Aq8 (blk_below (g := gb177) (o := .cells #[.int .i64 0, .slice none 0 0, .string (⟨#[]⟩ : ByteArray), .bool false] 24 (0, 0)) (tq8_5 BK177.out) hb); replace HB := Aq8 (below_step (tq8_9 GE177.out) hb); clear hb hbox hg; have hnb34 := NB188_177.out; have hnc34 := NB177_188.out; have hcz35_0 : w33.cell? ⟨gb188, 0, none⟩ = some (.int .i64 0) := (blk_cell BK188.out 0).trans rfl; have hcz35_1 : w33.cell? ⟨gb188, 1, none⟩ = some (.slice none 0 0) := (blk_cell BK188.out 1).trans rfl; have hcz35_2 : w33.cell? ⟨gb188, 2, none⟩ = some (.string (⟨#[]⟩ : ByteArray)) := (blk_cell BK188.out 2).trans rfl; have hcz35_3 : w33.cell? ⟨gb188, 3, none⟩ = some (.bool false) := (blk_cell BK188.out 3).trans rfl; have hfz35_0 := blk_frozen BK188.out 0; have hfz35_1 := blk_frozen BK188.out 1; have hfz35_2 := blk_frozen BK188.out 2; have hfz35_3 := blk_frozen BK188.out 3; obtain ⟨Ao36, co36, eo36⟩ := Kd.R_slice HO183.out; subst eo36))
         have n0_ : Aside0 (Kd.R k26 26 (((((w33.setCell ⟨gb188, 0, none⟩ (.int .i64 t180)).setCell ⟨gb188, 1, none⟩ (.slice Ao36 t181.length co36)).setCell ⟨gb188, 2, none⟩ (.string t184)).setCell ⟨gb188, 3, none⟩ (.bool t185)).setCell ⟨gb188, 2, none⟩ (.string (a0.extract ((ji27) : Int).toNat ((wrap64 ((ji27) + t186)) : Int).toNat))) w.heap.size (fun _ => True) (.slice Ao36 t181.length co36) t181) := ⟨by (with_reducible repeat (first | apply Kd.R_alloc | apply Kd.R_drewN | apply Kd.R_drew)); exact Kd.R_mono (Kd.R_far (p := ⟨gb188, 2, none⟩) (Kd.R_far (p := ⟨gb188, 3, none⟩) (Kd.R_far (p := ⟨gb188, 2, none⟩) (Kd.R_far (p := ⟨gb188, 1, none⟩) (Kd.R_far (p := ⟨gb188, 0, none⟩) (Kd.R_types HO183.out BK188.out (by decide)) (fun _ hk => hk.2) (.int .i64 t180)) (fun _ hk => hk.2) (.slice Ao36 t181.length co36)) (fun _ hk => hk.2) (.string t184)) (fun _ hk => hk.2) (.bool t185)) (fun _ hk => hk.2) (.string (a0.extract ((ji27) : Int).toNat ((wrap64 ((ji27) + t186)) : Int).toNat))) (fun _ hk => trivial)⟩
         have n1_ : Aside0 ((((((w33.setCell ⟨gb188, 0, none⟩ (.int .i64 t180)).setCell ⟨gb188, 1, none⟩ (.slice Ao36 t181.length co36)).setCell ⟨gb188, 2, none⟩ (.string t184)).setCell ⟨gb188, 3, none⟩ (.bool t185)).setCell ⟨gb188, 2, none⟩ (.string (a0.extract ((ji27) : Int).toNat ((wrap64 ((ji27) + t186)) : Int).toNat))).heap[gb177]? = some (.cells #[.int .i64 0, .slice none 0 0, .string (⟨#[]⟩ : ByteArray), .bool false] 24 (0, 0))) := ⟨by (iterate 5 ((with_reducible repeat (first | refine blk_drewN ?_ _ | refine blk_drew ?_ | refine blk_alloc ?_ _)); refine blk_far ?_ NB177_188.out _)); (with_reducible repeat (first | refine blk_drewN ?_ _ | refine blk_drew ?_ | refine blk_alloc ?_ _)); exact BK177.out⟩
         have n2_ : Aside0 ((((((w33.setCell ⟨gb188, 0, none⟩ (.int .i64 t180)).setCell ⟨gb188, 1, none⟩ (.slice Ao36 t181.length co36)).setCell ⟨gb188, 2, none⟩ (.string t184)).setCell ⟨gb188, 3, none⟩ (.bool t185)).setCell ⟨gb188, 2, none⟩ (.string (a0.extract ((ji27) : Int).toNat ((wrap64 ((ji27) + t186)) : Int).toNat))).heap[gb188]? = some (.cells #[.int .i64 t180, .slice Ao36 t181.length co36, .string (a0.extract ((ji27) : Int).toNat ((wrap64 ((ji27) + t186)) : Int).toNat), .bool t185] 24 (0, 0))) := ⟨by (with_reducible repeat (first | refine blk_drewN ?_ _ | refine blk_drew ?_ | refine blk_alloc ?_ _)); refine blk_put (cs := #[.int .i64 t180, .slice Ao36 t181.length co36, .string t184, .bool t185]) ?_ 2 _ rfl; (with_reducible repeat (first | refine blk_drewN ?_ _ | refine blk_drew ?_ | refine blk_alloc ?_ _)); refine blk_put (cs := #[.int .i64 t180, .slice Ao36 t181.length co36, .string t184, .bool false]) ?_ 3 _ rfl; (with_reducible repeat (first | refine blk_drewN ?_ _ | refine blk_drew ?_ | refine blk_alloc ?_ _)); refine blk_put (cs := #[.int .i64 t180, .slice Ao36 t181.length co36, .string (⟨#[]⟩ : ByteArray), .bool false]) ?_ 2 _ rfl; (with_reducible repeat (first | refine blk_drewN ?_ _ | refine blk_drew ?_ | refine blk_alloc ?_ _)); refine blk_put (cs := #[.int .i64 t180, .slice none 0 0, .string (⟨#[]⟩ : ByteArray), .bool false]) ?_ 1 _ rfl; (with_reducible repeat (first | refine blk_drewN ?_ _ | refine blk_drew ?_ | refine blk_alloc ?_ _)); refine blk_put (cs := #[.int .i64 0, .slice none 0 0, .string (⟨#[]⟩ : ByteArray), .bool false]) ?_ 0 _ rfl; (with_reducible repeat (first | refine blk_drewN ?_ _ | refine blk_drew ?_ | refine blk_alloc ?_ _)); exact BK188.out⟩
         have n3_ : Aside0 (Below w.heap.size w (((((w33.setCell ⟨gb188, 0, none⟩ (.int .i64 t180)).setCell ⟨gb188, 1, none⟩ (.slice Ao36 t181.length co36)).setCell ⟨gb188, 2, none⟩ (.string t184)).setCell ⟨gb188, 3, none⟩ (.bool t185)).setCell ⟨gb188, 2, none⟩ (.string (a0.extract ((ji27) : Int).toNat ((wrap64 ((ji27) + t186)) : Int).toNat)))) := ⟨(tq8_a GE177.out GE188.out)⟩
         (try clear HO183)
         (try clear BK177)
         (try clear BK188)
         (try clear HB)
         generalize (((((w33.setCell ⟨gb188, 0, none⟩ (.int .i64 t180)).setCell ⟨gb188, 1, none⟩ (.slice Ao36 t181.length co36)).setCell ⟨gb188, 2, none⟩ (.string t184)).setCell ⟨gb188, 3, none⟩ (.bool t185)).setCell ⟨gb188, 2, none⟩ (.string (a0.extract ((ji27) : Int).toNat ((wrap64 ((ji27) + t186)) : Int).toNat))) = w37 at n0_ n1_ n2_ n3_ ⊢
         have HO183 := n0_
         have BK177 := n1_
         have BK188 := n2_
         have HB := n3_
         clear n0_ n1_ n2_ n3_
         have hcz38_0 : w37.cell? ⟨gb188, 0, none⟩ = some (.int .i64 t180) := (blk_cell BK188.out 0).trans rfl
         have hcz38_1 : w37.cell? ⟨gb188, 1, none⟩ = some (.slice Ao36 t181.length co36) := (blk_cell BK188.out 1).trans rfl
         have hcz38_2 : w37.cell? ⟨gb188, 2, none⟩ = some (.string (a0.extract ((ji27) : Int).toNat ((wrap64 ((ji27) + t186)) : Int).toNat)) := (blk_cell BK188.out 2).trans rfl
         have hcz38_3 : w37.cell? ⟨gb188, 3, none⟩ = some (.bool t185) := (blk_cell BK188.out 3).trans rfl
         have hfz38_0 := blk_frozen BK188.out 0
         have hfz38_1 := blk_frozen BK188.out 1
         have hfz38_2 := blk_frozen BK188.out 2
         have hfz38_3 := blk_frozen BK188.out 3
         have hcz39_0 : w37.cell? ⟨gb177, 0, none⟩ = some (.int .i64 0) := (blk_cell BK177.out 0).trans rfl
         have hcz39_1 : w37.cell? ⟨gb177, 1, none⟩ = some (.slice none 0 0) := (blk_cell BK177.out 1).trans rfl
         have hcz39_2 : w37.cell? ⟨gb177, 2, none⟩ = some (.string (⟨#[]⟩ : ByteArray)) := (blk_cell BK177.out 2).trans rfl
         have hcz39_3 : w37.cell? ⟨gb177, 3, none⟩ = some (.bool false) := (blk_cell BK177.out 3).trans rfl
         have hfz39_0 := blk_frozen BK177.out 0
         have hfz39_1 := blk_frozen BK177.out 1
         have hfz39_2 := blk_frozen BK177.out 2
         have hfz39_3 := blk_frozen BK177.out 3
         try go_wp2
         refine bodyPost_ret (results_ctt rfl _ _ gb177 24 #[.int .i64 t180, .slice Ao36 t181.length co36, .string (a0.extract ((ji27) : Int).toNat ((wrap64 ((ji27) + t186)) : Int).toNat), .bool t185] (0, 0) _ rfl (by (with_reducible repeat (first | refine blk_drewN ?_ _ | refine blk_drew ?_ | refine blk_alloc ?_ _)); refine blk_put (cs := #[.int .i64 t180, .slice Ao36 t181.length co36, .string (a0.extract ((ji27) : Int).toNat ((wrap64 ((ji27) + t186)) : Int).toNat), .bool false]) ?_ 3 _ rfl; (with_reducible repeat (first | refine blk_drewN ?_ _ | refine blk_drew ?_ | refine blk_alloc ?_ _)); refine blk_put (cs := #[.int .i64 t180, .slice Ao36 t181.length co36, .string (⟨#[]⟩ : ByteArray), .bool false]) ?_ 2 _ rfl; (with_reducible repeat (first | refine blk_drewN ?_ _ | refine blk_drew ?_ | refine blk_alloc ?_ _)); refine blk_put (cs := #[.int .i64 t180, .slice none 0 0, .string (⟨#[]⟩ : ByteArray), .bool false]) ?_ 1 _ rfl; (with_reducible repeat (first | refine blk_drewN ?_ _ | refine blk_drew ?_ | refine blk_alloc ?_ _)); refine blk_put (cs := #[.int .i64 0, .slice none 0 0, .string (⟨#[]⟩ : ByteArray), .bool false]) ?_ 0 _ rfl; (with_reducible repeat (first | refine blk_drewN ?_ _ | refine blk_drew ?_ | refine blk_alloc ?_ _)); exact BK177.out) Tryd.underlying24 rfl (by kernel_rfl)) rfl ?_
         exact ⟨_, by first | rfl | (simp [errW_none, errW_some] <;> rfl) | (simp only [← hji27]; first | rfl | (simp [errW_none, errW_some] <;> rfl)) | (simp [*, errW_none, errW_some] <;> rfl), by (with_reducible repeat (first | apply Kd.R_alloc | apply Kd.R_drewN | apply Kd.R_drew)); exact Kd.R_mono (Kd.R_far (p := ⟨gb177, 3, none⟩) (Kd.R_far (p := ⟨gb177, 2, none⟩) (Kd.R_far (p := ⟨gb177, 1, none⟩) (Kd.R_far (p := ⟨gb177, 0, none⟩) (Kd.R_types HO183.out BK177.out (by decide)) (fun _ hk => hk.2) (.int .i64 t180)) (fun _ hk => hk.2) (.slice Ao36 t181.length co36)) (fun _ hk => hk.2) (.string (a0.extract ((ji27) : Int).toNat ((wrap64 ((ji27) + t186)) : Int).toNat))) (fun _ hk => hk.2) (.bool t185)) (fun _ hk => trivial), (tq8_a GE177.out GE188.out)⟩
        ·rw [if_neg c30] at H
         exact absurd H (by simp)
       ·rw [if_neg c29] at H
        exact absurd H (by simp)
      ·rw [if_neg c28] at H
       exact absurd H (by simp)
    ·replace c13 := Bool.eq_false_iff.mpr c13
     subst c13
     have H1 : (some (0, ([] : List (S26)), (⟨#[]⟩ : ByteArray), false, 0, some 2)) = some (r1, r2, r3, r4, r5, r6) := by rw [if_neg (show ¬ (false = true) by decide)] at H; exact H
     clear H
     have H := H1
     clear H1
     simp only [Option.some.injEq, Prod.mk.injEq] at H
     obtain ⟨rfl, rfl, rfl, rfl, rfl, rfl⟩ := H
     go_enter Tryd.func32, Tryd.ntmps32
     try go_wp2_with (first | ((with_reducible refine gate_dst (N := 2) rfl ?_); refine box_event ?hg (N := 2) ?hd (cs := #[.int .i64 0, .slice none 0 0, .string (⟨#[]⟩ : ByteArray), .bool false]) (t := 24) ?hr ?_; (case hd => rfl); (case hg => rfl); (case hr => first | (go_simp; done) | (go_simp; rfl)); intro gb177 hg w40 hbox hb; have BK177 := Aq8 (hbox); have GW177 := Aq8 ((by rw [hg]; exact (below_size tq8_6) : w.heap.size ≤ gb177)); have GE177 := Aq8 ((by rw [hg]; exact (below_size tq8_6) : w.heap.size ≤ gb177)); replace HB := Aq8 (below_step tq8_6 hb); clear hb hbox hg) | ((with_reducible refine gate_callee (f := 54) rfl ?_); refine goesL_ (some 11) rfl rfl Tryd.func54 (by kernel_rfl) rfl #[.string a0, .string (⟨#[13, 10, 13, 10]⟩ : ByteArray)] rfl tq8_7 ?_; (with_reducible refine (strings_Index.calls a0 (⟨#[13, 10, 13, 10]⟩ : ByteArray) t178 _ A2.out ?side1).mono ?_); (case side1 => exact HG.out.step (tq8_9 GE177.out) rfl); rintro e w' ⟨rfl, ⟨nd, rfl⟩⟩; refine ⟨_, rfl, ?_⟩; (try (rw [drewN_self w40]; generalize hq_ : World.drewN w40 _ = w40; have n0_ : Aside0 (w40.heap[gb177]? = some (.cells #[.int .i64 0, .slice none 0 0, .string (⟨#[]⟩ : ByteArray), .bool false] 24 (0, 0))) := ⟨by rw [← hq_]; exact (tq8_5 BK177.out)⟩; have n1_ : Aside0 (Below w.heap.size w w40) := ⟨by rw [← hq_]; exact (tq8_9 GE177.out)⟩; clear BK177 HB hq_; have BK177 := n0_; have HB := n1_; clear n0_ n1_))) | ((with_reducible refine gate_callee (f := 55) rfl ?_); refine goesL_ (some 20) rfl rfl Tryd.func55 (by kernel_rfl) rfl #[.string (a0.extract 0 (t178 : Int).toNat)] rfl tq8_7 ?_; (with_reducible refine (reply_heading.calls k (a0.extract 0 (t178 : Int).toNat) t180 t181 t184 t185 t186 false _ A12.out ?side1).mono ?_); (case side1 => exact HG.out.step (tq8_9 GE177.out) rfl); rintro e w41 ⟨v182, rfl, ho0, hb⟩; refine ⟨_, rfl, ?_⟩; have HO183 := Aq8 (Kd.R_lower ho0 (below_size (tq8_9 GE177.out))); replace BK177 := Aq8 (blk_below (g := gb177) (o := .cells #[.int .i64 0, .slice none 0 0, .string (⟨#[]⟩ : ByteArray), .bool false] 24 (0, 0)) (tq8_5 BK177.out) hb); replace HB := Aq8 (below_step (tq8_9 GE177.out) hb); (try clear hb); (try clear hb2); (try clear hk); (try clear hi); (try clear ho0)) | ((with_reducible refine gate_dst (N := 6) rfl ?_); refine box_event ?hg (N := 6) ?hd (cs := #[.int .i64 0, .slice none 0 0, .string (⟨#[]⟩ : ByteArray), .bool false]) (t := 24) ?hr ?_; (case hd => rfl); (case hg => rfl); (case hr => first | (go_simp; done) | (go_simp; rfl)); intro gb188 hg w42 hbox hb; replace HO183 := Aq8 (Kd.R_below (tq8_4 HO183.out) hb); have BK188 := Aq8 (hbox); have GW188 := Aq8 ((by rw [hg]; exact (below_size (tq8_9 GE177.out)) : w.heap.size ≤ gb188)); have GE188 := Aq8 ((by rw [hg]; exact (below_size (tq8_9 GE177.out)) : w.heap.size ≤ gb188)); have NB177_188 := Aq8 ((by rw [hg]; exact Nat.ne_of_lt (blk_lt (g := gb177) (o := .cells #[.int .i64 0, .slice none 0 0, .string (⟨#[]⟩ : ByteArray), .bool false] 24 (0, 0)) (tq8_5 BK177.out)) : gb177 ≠ gb188)); have NB188_177 := Aq8 ((by rw [hg]; exact Nat.ne_of_gt (blk_lt (g := gb177) (o := .cells #[.int .i64 0, .slice none 0 0, .string (⟨#[]⟩ : ByteArray), .bool false] 24 (0, 0)) (tq8_5 BK177.out)) : gb188 ≠ gb177)); replace BK177 := Aq8 (blk_below (g := gb177) (o := .cells #[.int .i64 0, .slice none 0 0, .string (⟨#[]⟩ : ByteArray), .bool false] 24 (0, 0)) (tq8_5 BK177.out) hb); replace HB := Aq8 (below_step (tq8_9 GE177.out) hb); clear hb hbox hg; have hnb43 := NB188_177.out; have hnc43 := NB177_188.out; have hcz44_0 : w42.cell? ⟨gb188, 0, none⟩ = some (.int .i64 0) := (blk_cell BK188.out 0).trans rfl; have hcz44_1 : w42.cell? ⟨gb188, 1, none⟩ = some (.slice none 0 0) := (blk_cell BK188.out 1).trans rfl; have hcz44_2 : w42.cell? ⟨gb188, 2, none⟩ = some (.string (⟨#[]⟩ : ByteArray)) := (blk_cell BK188.out 2).trans rfl; have hcz44_3 : w42.cell? ⟨gb188, 3, none⟩ = some (.bool false) := (blk_cell BK188.out 3).trans rfl; have hfz44_0 := blk_frozen BK188.out 0; have hfz44_1 := blk_frozen BK188.out 1; have hfz44_2 := blk_frozen BK188.out 2; have hfz44_3 := blk_frozen BK188.out 3; obtain ⟨Ao45, co45, eo45⟩ := Kd.R_slice HO183.out; subst eo45))
     have n0_ : Aside0 (Kd.R k26 26 ((((w42.setCell ⟨gb188, 0, none⟩ (.int .i64 t180)).setCell ⟨gb188, 1, none⟩ (.slice Ao45 t181.length co45)).setCell ⟨gb188, 2, none⟩ (.string t184)).setCell ⟨gb188, 3, none⟩ (.bool t185)) w.heap.size (fun _ => True) (.slice Ao45 t181.length co45) t181) := ⟨by (with_reducible repeat (first | apply Kd.R_alloc | apply Kd.R_drewN | apply Kd.R_drew)); exact Kd.R_mono (Kd.R_far (p := ⟨gb188, 3, none⟩) (Kd.R_far (p := ⟨gb188, 2, none⟩) (Kd.R_far (p := ⟨gb188, 1, none⟩) (Kd.R_far (p := ⟨gb188, 0, none⟩) (Kd.R_types HO183.out BK188.out (by decide)) (fun _ hk => hk.2) (.int .i64 t180)) (fun _ hk => hk.2) (.slice Ao45 t181.length co45)) (fun _ hk => hk.2) (.string t184)) (fun _ hk => hk.2) (.bool t185)) (fun _ hk => trivial)⟩
     have n1_ : Aside0 (((((w42.setCell ⟨gb188, 0, none⟩ (.int .i64 t180)).setCell ⟨gb188, 1, none⟩ (.slice Ao45 t181.length co45)).setCell ⟨gb188, 2, none⟩ (.string t184)).setCell ⟨gb188, 3, none⟩ (.bool t185)).heap[gb177]? = some (.cells #[.int .i64 0, .slice none 0 0, .string (⟨#[]⟩ : ByteArray), .bool false] 24 (0, 0))) := ⟨(tq8_b NB177_188.out BK177.out)⟩
     have n2_ : Aside0 (((((w42.setCell ⟨gb188, 0, none⟩ (.int .i64 t180)).setCell ⟨gb188, 1, none⟩ (.slice Ao45 t181.length co45)).setCell ⟨gb188, 2, none⟩ (.string t184)).setCell ⟨gb188, 3, none⟩ (.bool t185)).heap[gb188]? = some (.cells #[.int .i64 t180, .slice Ao45 t181.length co45, .string t184, .bool t185] 24 (0, 0))) := ⟨by (with_reducible repeat (first | refine blk_drewN ?_ _ | refine blk_drew ?_ | refine blk_alloc ?_ _)); refine blk_put (cs := #[.int .i64 t180, .slice Ao45 t181.length co45, .string t184, .bool false]) ?_ 3 _ rfl; (with_reducible repeat (first | refine blk_drewN ?_ _ | refine blk_drew ?_ | refine blk_alloc ?_ _)); refine blk_put (cs := #[.int .i64 t180, .slice Ao45 t181.length co45, .string (⟨#[]⟩ : ByteArray), .bool false]) ?_ 2 _ rfl; (with_reducible repeat (first | refine blk_drewN ?_ _ | refine blk_drew ?_ | refine blk_alloc ?_ _)); refine blk_put (cs := #[.int .i64 t180, .slice none 0 0, .string (⟨#[]⟩ : ByteArray), .bool false]) ?_ 1 _ rfl; (with_reducible repeat (first | refine blk_drewN ?_ _ | refine blk_drew ?_ | refine blk_alloc ?_ _)); refine blk_put (cs := #[.int .i64 0, .slice none 0 0, .string (⟨#[]⟩ : ByteArray), .bool false]) ?_ 0 _ rfl; (with_reducible repeat (first | refine blk_drewN ?_ _ | refine blk_drew ?_ | refine blk_alloc ?_ _)); exact BK188.out⟩
     have n3_ : Aside0 (Below w.heap.size w ((((w42.setCell ⟨gb188, 0, none⟩ (.int .i64 t180)).setCell ⟨gb188, 1, none⟩ (.slice Ao45 t181.length co45)).setCell ⟨gb188, 2, none⟩ (.string t184)).setCell ⟨gb188, 3, none⟩ (.bool t185))) := ⟨(tq8_a GE177.out GE188.out)⟩
     (try clear HO183)
     (try clear BK177)
     (try clear BK188)
     (try clear HB)
     generalize ((((w42.setCell ⟨gb188, 0, none⟩ (.int .i64 t180)).setCell ⟨gb188, 1, none⟩ (.slice Ao45 t181.length co45)).setCell ⟨gb188, 2, none⟩ (.string t184)).setCell ⟨gb188, 3, none⟩ (.bool t185)) = w46 at n0_ n1_ n2_ n3_ ⊢
     have HO183 := n0_
     have BK177 := n1_
     have BK188 := n2_
     have HB := n3_
     clear n0_ n1_ n2_ n3_
     have n0_ := Aq8 (Kd.R_drew HO183.out)
     have n1_ := Aq8 (blk_drew BK177.out)
     have n2_ := Aq8 (blk_drew BK188.out)
     have n3_ := Aq8 (below_drew1 HB.out)
     clear HO183
     clear BK177
     clear BK188
     clear HB
     have HO183 := n0_
     have BK177 := n1_
     have BK188 := n2_
     have HB := n3_
     clear n0_ n1_ n2_ n3_
     have hgwq190 := Glob.err2 HG.out (by rfl)
     have hgeq190 := Glob.err2 (HG.out.step HB.out (T := [0, 1, 2, 5, 8, 9, 16, 18, 19]) rfl) (by rfl)
     refine start_ (n := 5) (S := fun w' => w'.cell? ⟨1, 0, none⟩ = some (.iface 143 (.pointer (some (Sent.addr 2))))) (ds := []) #[false, false, false, false, false] (by kernel_rfl) rfl rfl (((HB.out.cell (World.block_lt_of_cell? w _ hgwq190)).trans hgwq190)) (fun hHeld => ?_)
     generalize w46.drew = w47 at HO183 BK177 BK188 HB hHeld ⊢
     refine pure_ (i := 0) (N := some 26) (v := ?_) (a' := ?_) #[true, false, false, false, false] rfl rfl (by kernel_rfl) (fun _ _ _ h => h) (Or.inl ⟨by rfl, ?_⟩) ?_ ?_
     rotate_left
     ·intro w'
      go_simp
      with_reducible rfl
     rotate_left
     ·simp only [Act.put, List.setIfInBounds_toArray, List.set_cons_zero, List.set_cons_succ, i64_w, i32_w]
      rfl
     refine take_ (i := 1) (N := some 27) (v := ?_) (a' := ?_) #[true, true, false, false, false] rfl rfl (by kernel_rfl) (fun _ _ _ h => h) (Or.inl ⟨by rfl, ?_⟩) hHeld ?_ ?_
     rotate_left
     ·intro w' s0
      go_simp
      with_reducible rfl
     rotate_left
     ·simp only [Act.put, List.setIfInBounds_toArray, List.set_cons_zero, List.set_cons_succ, i64_w, i32_w]
      rfl
     refine one_ (i := 2) (N := none) #[true, true, true, false, false] rfl rfl (by kernel_rfl) (by decide) (fun K hK => ?_)
     have hs48 : w47.cell? ⟨gb177, 0, none⟩ = some (.int .i64 0) := (blk_cell BK177.out 0).trans rfl
     have hfs48 := blk_frozen BK177.out 0
     have hns48_1 := NB188_177.out
     have hms48_1 := NB177_188.out
     have hs49 : w47.cell? ⟨gb177, 1, none⟩ = some (.slice none 0 0) := (blk_cell BK177.out 1).trans rfl
     have hfs49 := blk_frozen BK177.out 1
     have hns49_1 := NB188_177.out
     have hms49_1 := NB177_188.out
     have hs50 : w47.cell? ⟨gb177, 2, none⟩ = some (.string (⟨#[]⟩ : ByteArray)) := (blk_cell BK177.out 2).trans rfl
     have hfs50 := blk_frozen BK177.out 2
     have hns50_1 := NB188_177.out
     have hms50_1 := NB177_188.out
     have hs51 : w47.cell? ⟨gb177, 3, none⟩ = some (.bool false) := (blk_cell BK177.out 3).trans rfl
     have hfs51 := blk_frozen BK177.out 3
     have hns51_1 := NB188_177.out
     have hms51_1 := NB177_188.out
     refine skip_ (w1 := ?_) (by rfl) rfl ?_ ?_
     rotate_left
     ·go_simp
      rfl
     refine hK.out _ _ (((cell_far (p := ⟨gb177, _, none⟩) (tq8_e GW177.out) _).trans (((cell_far (p := ⟨gb177, _, none⟩) (tq8_e GW177.out) _).trans (((cell_far (p := ⟨gb177, _, none⟩) (tq8_e GW177.out) _).trans (((cell_far (p := ⟨gb177, _, none⟩) (tq8_e GW177.out) _).trans (hHeld))))))))) (fun hHeld => ?_)
     clear hK K
     refine pure_ (i := 3) (N := some 3) (v := ?_) (a' := ?_) #[true, true, true, true, false] rfl rfl (by kernel_rfl) (fun _ _ _ h => h) (Or.inl ⟨by rfl, ?_⟩) ?_ ?_
     rotate_left
     ·intro w'
      go_simp
      with_reducible rfl
     rotate_left
     ·simp only [Act.put, List.setIfInBounds_toArray, List.set_cons_zero, List.set_cons_succ, i64_w, i32_w]
      rfl
     refine pure_ (i := 4) (N := some 4) (v := ?_) (a' := ?_) #[true, true, true, true, true] rfl rfl (by kernel_rfl) (fun _ _ _ h => h) (Or.inl ⟨by rfl, ?_⟩) ?_ ?_
     rotate_left
     ·intro w'
      go_simp
      with_reducible rfl
     rotate_left
     ·simp only [Act.put, List.setIfInBounds_toArray, List.set_cons_zero, List.set_cons_succ, i64_w, i32_w]
      rfl
     refine done_ (by kernel_rfl) ?_
     try go_wp2
     refine bodyPost_ret (results_ctt rfl _ _ gb177 24 #[.int .i64 0, .slice none 0 0, .string (⟨#[]⟩ : ByteArray), .bool false] (0, 0) _ rfl (tq8_f BK177.out) Tryd.underlying24 rfl (by kernel_rfl)) rfl ?_
     exact ⟨_, tq8_3, tq8_8, (tq8_a GE177.out GE188.out)⟩
   ·rw [if_neg c11] at H
    exact absurd H (by simp)
  ·rw [if_neg c10] at H
   exact absurd H (by simp)

/-! ### usherkit_Head: function 19 -/
def usherkit_Head.f (a0 : ByteArray) (a1 : Int) : Option (ByteArray) := if a1 < 1 then (some (⟨#[]⟩ : ByteArray)) else (if a1 ≥ (a0.size : Int) then (some a0) else (if 0 ≤ a1 then (if a1 ≤ (a0.size : Int) then (some (a0.extract 0 (a1 : Int).toNat)) else (none)) else (none)))
set_option maxHeartbeats 8000000 in
set_option maxRecDepth 100000 in
theorem usherkit_Head.calls (a0 : ByteArray) (a1 : Int) (r : ByteArray) (w : World) (h : usherkit_Head.f a0 a1 = some r) :
  Calls Tryd.prog 19 #[.string a0, .int .i64 a1] w fun e w' => e = .returned (.string r) ∧ Drawn0 w w' := by
 have H : (if a1 < 1 then (some (⟨#[]⟩ : ByteArray)) else (if a1 ≥ (a0.size : Int) then (some a0) else (if 0 ≤ a1 then (if a1 ≤ (a0.size : Int) then (some (a0.extract 0 (a1 : Int).toNat)) else (none)) else (none)))) = some r := h
 clear h
 by_cases c3 : a1 < 1
 ·rw [if_pos c3] at H
  have c3b0 : decide (a1 < 1) = true := decide_eq_true c3
  clear c3
  obtain rfl := Option.some.inj H
  go_enter Tryd.func19, Tryd.ntmps19
  go_wp2
  go_ret
  exact ⟨tq8_0, tq8_2⟩
 ·rw [if_neg c3] at H
  have c3b0 : decide (a1 < 1) = false := decide_eq_false c3
  clear c3
  by_cases c4 : a1 ≥ (a0.size : Int)
  ·rw [if_pos c4] at H
   have c4b0 : decide ((a0.size : Int) ≤ a1) = true := decide_eq_true c4
   clear c4
   obtain rfl := Option.some.inj H
   go_enter Tryd.func19, Tryd.ntmps19
   go_wp2
   go_ret
   exact ⟨tq8_0, tq8_2⟩
  ·rw [if_neg c4] at H
   have c4b0 : decide ((a0.size : Int) ≤ a1) = false := decide_eq_false c4
   clear c4
   by_cases c5 : 0 ≤ a1
   ·rw [if_pos c5] at H
    have c5b0 := eq_true c5
    have c5b1 : decide (0 ≤ a1) = true := decide_eq_true c5
    clear c5
    by_cases c6 : a1 ≤ (a0.size : Int)
    ·rw [if_pos c6] at H
     have c6b0 := eq_true c6
     have c6b1 : decide (a1 ≤ (a0.size : Int)) = true := decide_eq_true c6
     clear c6
     obtain rfl := Option.some.inj H
     go_enter Tryd.func19, Tryd.ntmps19
     go_wp2
     go_ret
     exact ⟨tq8_0, tq8_2⟩
    ·rw [if_neg c6] at H
     exact absurd H (by simp)
   ·rw [if_neg c5] at H
    exact absurd H (by simp)

/-! ### usherkit_Pick: function 34 -/
def usherkit_Pick.f (a0 : Int) (a1 : Int) : Option (Int) := if a1 < 1 then (some 0) else (if a1 = 0 then (none) else (if (Int.tmod a0 a1) < 0 then (some (wrap64 ((Int.tmod a0 a1) + a1))) else (some (Int.tmod a0 a1))))
set_option maxHeartbeats 8000000 in
set_option maxRecDepth 100000 in
theorem usherkit_Pick.calls (a0 : Int) (a1 : Int) (r : Int) (w : World) (h : usherkit_Pick.f a0 a1 = some r) :
  Calls Tryd.prog 34 #[.int .i64 a0, .int .i64 a1] w fun e w' => e = .returned (.int .i64 r) ∧ Drawn0 w w' := by
 have H : (if a1 < 1 then (some 0) else (if a1 = 0 then (none) else (if (Int.tmod a0 a1) < 0 then (some (wrap64 ((Int.tmod a0 a1) + a1))) else (some (Int.tmod a0 a1))))) = some r := h
 clear h
 by_cases c3 : a1 < 1
 ·rw [if_pos c3] at H
  have c3b0 : decide (a1 < 1) = true := decide_eq_true c3
  clear c3
  obtain rfl := Option.some.inj H
  go_enter Tryd.func34, Tryd.ntmps34
  go_wp2
  go_ret
  exact ⟨tq8_0, tq8_2⟩
 ·rw [if_neg c3] at H
  have c3b0 : decide (a1 < 1) = false := decide_eq_false c3
  clear c3
  by_cases c4 : a1 = 0
  ·rw [if_pos c4] at H
   exact absurd H (by simp)
  ·rw [if_neg c4] at H
   have c4b0 : (a1 == 0) = false := beq_eq_false_iff_ne.mpr c4
   have c4b1 : (a1 != 0) = true := bne_iff_ne.mpr c4
   by_cases c5 : (Int.tmod a0 a1) < 0
   ·rw [if_pos c5] at H
    have c5b0 : decide ((Int.tmod a0 a1) < 0) = true := decide_eq_true c5
    clear c5
    obtain rfl := Option.some.inj H
    go_enter Tryd.func34, Tryd.ntmps34
    go_wp2
    go_ret
    exact ⟨tq8_0, tq8_2⟩
   ·rw [if_neg c5] at H
    have c5b0 : decide ((Int.tmod a0 a1) < 0) = false := decide_eq_false c5
    clear c5
    obtain rfl := Option.some.inj H
    go_enter Tryd.func34, Tryd.ntmps34
    go_wp2
    go_ret
    exact ⟨tq8_0, tq8_2⟩

/-! ### usherlaw8_small: function 66 -/
def usherlaw8_small.l0 : Nat → ByteArray → List Int → Int → Option (ByteArray)
 | 0, _, _, _ => none
 | k + 1, x0, x3, x4 => if x4 < (x0.size : Int) then (if 0 ≤ x4 then (if (bt x0 x4) ≥ 65 then (if (bt x0 x4) ≤ 90 then (if x3.length < 140737488355328 then (usherlaw8_small.l0 k x0 (x3 ++ [((bt x0 x4) + 32) % 256]) (wrap64 (x4 + 1))) else (none)) else (if x3.length < 140737488355328 then (usherlaw8_small.l0 k x0 (x3 ++ [bt x0 x4]) (wrap64 (x4 + 1))) else (none))) else (if x3.length < 140737488355328 then (usherlaw8_small.l0 k x0 (x3 ++ [bt x0 x4]) (wrap64 (x4 + 1))) else (none))) else (none)) else (some (strOfNums x3))
def usherlaw8_small.f (k : Nat) (a0 : ByteArray) : Option (ByteArray) := usherlaw8_small.l0 k a0 ([] : List Int) 0
theorem usherlaw8_small.mono_l : ∀ k, (∀ y0 y1 y2, LeO (usherlaw8_small.l0 k y0 y1 y2) (usherlaw8_small.l0 (k + 1) y0 y1 y2))
 | 0 => fun _ _ _ r h => by simp [usherlaw8_small.l0] at h
 | k + 1 => by
  have ih0 := usherlaw8_small.mono_l k
  ·intro y0 y1 y2
   unfold usherlaw8_small.l0
   repeat' first
   | (with_reducible exact ih0 _ _ _)
   | (with_reducible exact LeO.refl _)
   | (with_reducible exact LeO.none _)
   | (with_reducible refine LeO.ite ?_ ?_)
   | (with_reducible refine LeO.bind ?_ (fun _ => ?_))
   | exact ih0 _ _ _
   | exact LeO.none _
   | refine LeO.ite ?_ ?_
   | refine LeO.bind ?_ (fun _ => ?_)
theorem usherlaw8_small.mono : ∀ a0 k, LeO (usherlaw8_small.f k a0) (usherlaw8_small.f (k + 1) a0) := by
 intro a0 k
 have ih0 := usherlaw8_small.mono_l k
 unfold usherlaw8_small.f
 repeat' first
   | (with_reducible exact ih0 _ _ _)
   | (with_reducible exact LeO.refl _)
   | (with_reducible exact LeO.none _)
   | (with_reducible refine LeO.ite ?_ ?_)
   | (with_reducible refine LeO.bind ?_ (fun _ => ?_))
   | exact ih0 _ _ _
   | exact LeO.none _
   | refine LeO.ite ?_ ?_
   | refine LeO.bind ?_ (fun _ => ?_)
set_option maxHeartbeats 8000000 in
set_option maxRecDepth 100000 in
theorem usherlaw8_small.calls (k : Nat) (a0 : ByteArray) (r : ByteArray) (w : World) (h : usherlaw8_small.f k a0 = some r) :
  Calls Tryd.prog 66 #[.string a0] w fun e w' => e = .returned (.string r) ∧ Below w.heap.size w w' := by
 have HB := Aq8 (Below.refl w.heap.size w)
 have H : (usherlaw8_small.l0 k a0 ([] : List Int) 0) = some r := h
 clear h
 have H' := Aq8 H
 clear H
 go_enter Tryd.func66, Tryd.ntmps66
 go_wp2
 go_loopg [3, 4] k (fun kq v3 v4 w' => ∃ (x3_1 : List Int) (x4_1 : Int), v4 = .int .i64 x4_1 ∧ Aside0 (usherlaw8_small.l0 kq a0 x3_1 x4_1 = some r) ∧ Aside0 (kq ≤ k) ∧ Aside0 (Kd.R (Kd.int .u8) 5 w' w.heap.size (fun _ => True) v3 x3_1) ∧ Aside0 (Below w.heap.size w w'))
 case atStart => exact ⟨(([] : List Int)), (0), tq8_0, H', ⟨Nat.le_refl _⟩, ⟨tq8_8⟩, ⟨tq8_6⟩⟩
 case round =>
  clear H'
  obtain ⟨x3_1, x4_1, rfl, HA, HK1, HO_3, HB⟩ := hrel
  cases gk with
  | zero => exact absurd HA.out (by simp [usherlaw8_small.l0])
  | succ k1 =>
   have H := HA.out
   clear HA
   simp only [usherlaw8_small.l0] at H
   by_cases c2 : x4_1 < (a0.size : Int)
   ·rw [if_pos c2] at H
    have c2b0 : decide (x4_1 < (a0.size : Int)) = true := decide_eq_true c2
    clear c2
    by_cases c3 : 0 ≤ x4_1
    ·rw [if_pos c3] at H
     have c3b0 : decide (0 ≤ x4_1) = true := decide_eq_true c3
     clear c3
     by_cases c5 : (bt a0 x4_1) ≥ 65
     ·rw [if_pos c5] at H
      have c5b0 : decide (65 ≤ (bt a0 x4_1)) = true := decide_eq_true c5
      clear c5
      by_cases c6 : (bt a0 x4_1) ≤ 90
      ·rw [if_pos c6] at H
       have c6b0 : decide ((bt a0 x4_1) ≤ 90) = true := decide_eq_true c6
       clear c6
       by_cases c7 : x3_1.length < 140737488355328
       ·rw [if_pos c7] at H
        have LMc7 := Aq8 c7
        clear c7
        obtain ⟨y191, hy191⟩ : ∃ y_ : List Int, y_ = (x3_1 ++ [((bt a0 x4_1) + 32) % 256]) := ⟨_, rfl⟩
        replace H : (usherlaw8_small.l0 k1 a0 y191 (wrap64 (x4_1 + 1))) = some r := by first | (rw [hy191]; with_reducible exact H) | (have H2_ := (Option.bind_some _ _).symm.trans H; rw [hy191]; with_reducible exact H2_) | (have H2_ := (Option.bind_some _ _).symm.trans H; with_reducible exact H2_) | with_reducible exact H | (rw [hy191]; exact H) | exact H
        have Ny191 := Aq8 hy191
        clear hy191
        have H' := Aq8 H
        clear H
        have p4 : 0 ≤ (x4_1 : Int) := of_decide_eq_true tq8_1
        have q4 : x4_1 < (a0.size : Int) := of_decide_eq_true tq8_1
        have hx4 := bt_at a0 x4_1
        replace p4 := eq_true p4
        replace q4 := eq_true q4
        go_wp2_with (first | ((with_reducible refine gate_builtin (b := .append) (xs := #[.tmp 23, .tmp 25]) rfl ?_); at_builtin; refine Kd.R_append (Kd.int .u8) (w0 := w) w.heap.size rfl (.tmp 23) (.tmp 25) 61 5 (.int .u8 0) 1 rfl Tryd.underlying61 info5 rfl (by decide) (by omega) u3 x3_1 (((bt a0 x4_1) + 32) % 256) [.int .u8 (((bt a0 x4_1) + 32) % 256)] (fun _ => True) (fun _ => False) rfl rfl ?aP (fun _ hk => hk.elim) ?aF ?aO ?aB ?aS ?aL ?_; (case aP => exact rfl); (case aB => exact tq8_6); (case aF => exact (fun _ _ => trivial)); (case aO => exact (tq8_4 HO_3.out)); (case aS => exact (below_size tq8_6)); (case aL => have := LMc7.out; omega); intro v192 w8 ho hb hg hat; rw [← Ny191.out] at ho; have n0_ := Aq8 (hb); have n1_ := Aq8 (ho); clear HB; clear HO_3; have HB := n0_; have HO193 := n1_; clear n0_ n1_; clear ho hb hg hat))
        go_roundg k1
        case measure => have := HK1.out; omega
        case rel => exact ⟨(y191), (wrap64 (x4_1 + 1)), tq8_0, H', ⟨by have := HK1.out; omega⟩, ⟨(tq8_4 HO193.out)⟩, ⟨tq8_6⟩⟩
       ·rw [if_neg c7] at H
        exact absurd H (by simp)
      ·rw [if_neg c6] at H
       have c6b0 : decide ((bt a0 x4_1) ≤ 90) = false := decide_eq_false c6
       clear c6
       by_cases c9 : x3_1.length < 140737488355328
       ·rw [if_pos c9] at H
        have LMc9 := Aq8 c9
        clear c9
        obtain ⟨y194, hy194⟩ : ∃ y_ : List Int, y_ = (x3_1 ++ [bt a0 x4_1]) := ⟨_, rfl⟩
        replace H : (usherlaw8_small.l0 k1 a0 y194 (wrap64 (x4_1 + 1))) = some r := by first | (rw [hy194]; with_reducible exact H) | (have H2_ := (Option.bind_some _ _).symm.trans H; rw [hy194]; with_reducible exact H2_) | (have H2_ := (Option.bind_some _ _).symm.trans H; with_reducible exact H2_) | with_reducible exact H | (rw [hy194]; exact H) | exact H
        have Ny194 := Aq8 hy194
        clear hy194
        have H' := Aq8 H
        clear H
        have p4 : 0 ≤ (x4_1 : Int) := of_decide_eq_true tq8_1
        have q4 : x4_1 < (a0.size : Int) := of_decide_eq_true tq8_1
        have hx4 := bt_at a0 x4_1
        replace p4 := eq_true p4
        replace q4 := eq_true q4
        go_wp2_with (first | ((with_reducible refine gate_builtin (b := .append) (xs := #[.tmp 23, .tmp 25]) rfl ?_); at_builtin; refine Kd.R_append (Kd.int .u8) (w0 := w) w.heap.size rfl (.tmp 23) (.tmp 25) 61 5 (.int .u8 0) 1 rfl Tryd.underlying61 info5 rfl (by decide) (by omega) u3 x3_1 (bt a0 x4_1) [.int .u8 (bt a0 x4_1)] (fun _ => True) (fun _ => False) rfl rfl ?aP (fun _ hk => hk.elim) ?aF ?aO ?aB ?aS ?aL ?_; (case aP => exact rfl); (case aB => exact tq8_6); (case aF => exact (fun _ _ => trivial)); (case aO => exact (tq8_4 HO_3.out)); (case aS => exact (below_size tq8_6)); (case aL => have := LMc9.out; omega); intro v195 w10 ho hb hg hat; rw [← Ny194.out] at ho; have n0_ := Aq8 (hb); have n1_ := Aq8 (ho); clear HB; clear HO_3; have HB := n0_; have HO196 := n1_; clear n0_ n1_; clear ho hb hg hat))
        go_roundg k1
        case measure => have := HK1.out; omega
        case rel => exact ⟨(y194), (wrap64 (x4_1 + 1)), tq8_0, H', ⟨by have := HK1.out; omega⟩, ⟨(tq8_4 HO196.out)⟩, ⟨tq8_6⟩⟩
       ·rw [if_neg c9] at H
        exact absurd H (by simp)
     ·rw [if_neg c5] at H
      have c5b0 : decide (65 ≤ (bt a0 x4_1)) = false := decide_eq_false c5
      clear c5
      by_cases c11 : x3_1.length < 140737488355328
      ·rw [if_pos c11] at H
       have LMc11 := Aq8 c11
       clear c11
       obtain ⟨y197, hy197⟩ : ∃ y_ : List Int, y_ = (x3_1 ++ [bt a0 x4_1]) := ⟨_, rfl⟩
       replace H : (usherlaw8_small.l0 k1 a0 y197 (wrap64 (x4_1 + 1))) = some r := by first | (rw [hy197]; with_reducible exact H) | (have H2_ := (Option.bind_some _ _).symm.trans H; rw [hy197]; with_reducible exact H2_) | (have H2_ := (Option.bind_some _ _).symm.trans H; with_reducible exact H2_) | with_reducible exact H | (rw [hy197]; exact H) | exact H
       have Ny197 := Aq8 hy197
       clear hy197
       have H' := Aq8 H
       clear H
       have p4 : 0 ≤ (x4_1 : Int) := of_decide_eq_true tq8_1
       have q4 : x4_1 < (a0.size : Int) := of_decide_eq_true tq8_1
       have hx4 := bt_at a0 x4_1
       replace p4 := eq_true p4
       replace q4 := eq_true q4
       go_wp2_with (first | ((with_reducible refine gate_builtin (b := .append) (xs := #[.tmp 23, .tmp 25]) rfl ?_); at_builtin; refine Kd.R_append (Kd.int .u8) (w0 := w) w.heap.size rfl (.tmp 23) (.tmp 25) 61 5 (.int .u8 0) 1 rfl Tryd.underlying61 info5 rfl (by decide) (by omega) u3 x3_1 (bt a0 x4_1) [.int .u8 (bt a0 x4_1)] (fun _ => True) (fun _ => False) rfl rfl ?aP (fun _ hk => hk.elim) ?aF ?aO ?aB ?aS ?aL ?_; (case aP => exact rfl); (case aB => exact tq8_6); (case aF => exact (fun _ _ => trivial)); (case aO => exact (tq8_4 HO_3.out)); (case aS => exact (below_size tq8_6)); (case aL => have := LMc11.out; omega); intro v198 w12 ho hb hg hat; rw [← Ny197.out] at ho; have n0_ := Aq8 (hb); have n1_ := Aq8 (ho); clear HB; clear HO_3; have HB := n0_; have HO199 := n1_; clear n0_ n1_; clear ho hb hg hat))
       go_roundg k1
       case measure => have := HK1.out; omega
       case rel => exact ⟨(y197), (wrap64 (x4_1 + 1)), tq8_0, H', ⟨by have := HK1.out; omega⟩, ⟨(tq8_4 HO199.out)⟩, ⟨tq8_6⟩⟩
      ·rw [if_neg c11] at H
       exact absurd H (by simp)
    ·rw [if_neg c3] at H
     exact absurd H (by simp)
   ·rw [if_neg c2] at H
    have c2b0 : decide (x4_1 < (a0.size : Int)) = false := decide_eq_false c2
    clear c2
    obtain rfl := Option.some.inj H
    have hcv13 := own_string (P := Tryd.prog) Tryd.underlying61 Tryd.underlying5 Tryd.underlying9 (Kd.own_of_R HO_3.out)
    go_wp2
    go_ret
    exact ⟨tq8_3, tq8_6⟩

/-! ### usherlaw8_own: function 45 -/
def usherlaw8_own.f (k : Nat) (a0 : ByteArray) : Option (Bool) := (usherlaw8_small.f k a0).bind fun t200 => (if t200.toList = ([99, 111, 110, 116, 101, 110, 116, 45, 108, 101, 110, 103, 116, 104] : List UInt8) then (some true) else (if t200.toList = ([99, 111, 110, 110, 101, 99, 116, 105, 111, 110] : List UInt8) then (some true) else (some (t200.toList == ([116, 114, 97, 110, 115, 102, 101, 114, 45, 101, 110, 99, 111, 100, 105, 110, 103] : List UInt8)))))
theorem usherlaw8_own.mono : ∀ a0 k, LeO (usherlaw8_own.f k a0) (usherlaw8_own.f (k + 1) a0) := by
 intro a0 k
 unfold usherlaw8_own.f
 repeat' first
   | (with_reducible exact usherlaw8_small.mono _ _)
   | (with_reducible exact LeO.refl _)
   | (with_reducible exact LeO.none _)
   | (with_reducible refine LeO.ite ?_ ?_)
   | (with_reducible refine LeO.bind ?_ (fun _ => ?_))
   | exact usherlaw8_small.mono _ _
   | exact LeO.none _
   | refine LeO.ite ?_ ?_
   | refine LeO.bind ?_ (fun _ => ?_)
set_option maxHeartbeats 8000000 in
set_option maxRecDepth 100000 in
theorem usherlaw8_own.calls (k : Nat) (a0 : ByteArray) (r : Bool) (w : World) (h : usherlaw8_own.f k a0 = some r) :
  Calls Tryd.prog 45 #[.string a0] w fun e w' => e = .returned (.bool r) ∧ Below w.heap.size w w' := by
 have HB := Aq8 (Below.refl w.heap.size w)
 have H : ((usherlaw8_small.f k a0).bind fun t200 => (if t200.toList = ([99, 111, 110, 116, 101, 110, 116, 45, 108, 101, 110, 103, 116, 104] : List UInt8) then (some true) else (if t200.toList = ([99, 111, 110, 110, 101, 99, 116, 105, 111, 110] : List UInt8) then (some true) else (some (t200.toList == ([116, 114, 97, 110, 115, 102, 101, 114, 45, 101, 110, 99, 111, 100, 105, 110, 103] : List UInt8)))))) = some r := h
 clear h
 replace H := Option.bind_eq_some_iff.mp H
 obtain ⟨t200, A20, H⟩ := H
 replace H : (if t200.toList = ([99, 111, 110, 116, 101, 110, 116, 45, 108, 101, 110, 103, 116, 104] : List UInt8) then (some true) else (if t200.toList = ([99, 111, 110, 110, 101, 99, 116, 105, 111, 110] : List UInt8) then (some true) else (some (t200.toList == ([116, 114, 97, 110, 115, 102, 101, 114, 45, 101, 110, 99, 111, 100, 105, 110, 103] : List UInt8))))) = some r := H
 have A2 := Aq8 A20
 clear A20
 by_cases c3 : t200.toList = ([99, 111, 110, 116, 101, 110, 116, 45, 108, 101, 110, 103, 116, 104] : List UInt8)
 ·rw [if_pos c3] at H
  have c3b0 : (t200.toList == ([99, 111, 110, 116, 101, 110, 116, 45, 108, 101, 110, 103, 116, 104] : List UInt8)) = true := beq_iff_eq.mpr c3
  have c3b1 : (t200.toList != ([99, 111, 110, 116, 101, 110, 116, 45, 108, 101, 110, 103, 116, 104] : List UInt8)) = false := bne_eq_false_iff_eq.mpr c3
  clear c3
  obtain rfl := Option.some.inj H
  go_enter Tryd.func45, Tryd.ntmps45
  go_wp2_with (first | ((with_reducible refine gate_callee (f := 66) rfl ?_); refine goesL_ (some 5) rfl rfl Tryd.func66 (by kernel_rfl) rfl #[.string a0] rfl tq8_7 ?_; (with_reducible refine (usherlaw8_small.calls k a0 t200 _ A2.out).mono ?_); rintro e w4 ⟨rfl, hb⟩; refine ⟨_, rfl, ?_⟩; replace HB := Aq8 (below_step tq8_6 hb); (try clear hb); (try clear hb2); (try clear hk); (try clear hi)))
  go_ret
  exact ⟨tq8_3, tq8_6⟩
 ·rw [if_neg c3] at H
  have c3b0 : (t200.toList == ([99, 111, 110, 116, 101, 110, 116, 45, 108, 101, 110, 103, 116, 104] : List UInt8)) = false := beq_eq_false_iff_ne.mpr c3
  have c3b1 : (t200.toList != ([99, 111, 110, 116, 101, 110, 116, 45, 108, 101, 110, 103, 116, 104] : List UInt8)) = true := bne_iff_ne.mpr c3
  by_cases c5 : t200.toList = ([99, 111, 110, 110, 101, 99, 116, 105, 111, 110] : List UInt8)
  ·rw [if_pos c5] at H
   have c5b0 : (t200.toList == ([99, 111, 110, 110, 101, 99, 116, 105, 111, 110] : List UInt8)) = true := beq_iff_eq.mpr c5
   have c5b1 : (t200.toList != ([99, 111, 110, 110, 101, 99, 116, 105, 111, 110] : List UInt8)) = false := bne_eq_false_iff_eq.mpr c5
   clear c5
   obtain rfl := Option.some.inj H
   go_enter Tryd.func45, Tryd.ntmps45
   go_wp2_with (first | ((with_reducible refine gate_callee (f := 66) rfl ?_); refine goesL_ (some 5) rfl rfl Tryd.func66 (by kernel_rfl) rfl #[.string a0] rfl tq8_7 ?_; (with_reducible refine (usherlaw8_small.calls k a0 t200 _ A2.out).mono ?_); rintro e w6 ⟨rfl, hb⟩; refine ⟨_, rfl, ?_⟩; replace HB := Aq8 (below_step tq8_6 hb); (try clear hb); (try clear hb2); (try clear hk); (try clear hi)))
   go_ret
   exact ⟨tq8_3, tq8_6⟩
  ·rw [if_neg c5] at H
   have c5b0 : (t200.toList == ([99, 111, 110, 110, 101, 99, 116, 105, 111, 110] : List UInt8)) = false := beq_eq_false_iff_ne.mpr c5
   have c5b1 : (t200.toList != ([99, 111, 110, 110, 101, 99, 116, 105, 111, 110] : List UInt8)) = true := bne_iff_ne.mpr c5
   obtain rfl := Option.some.inj H
   go_enter Tryd.func45, Tryd.ntmps45
   go_wp2_with (first | ((with_reducible refine gate_callee (f := 66) rfl ?_); refine goesL_ (some 5) rfl rfl Tryd.func66 (by kernel_rfl) rfl #[.string a0] rfl tq8_7 ?_; (with_reducible refine (usherlaw8_small.calls k a0 t200 _ A2.out).mono ?_); rintro e w7 ⟨rfl, hb⟩; refine ⟨_, rfl, ?_⟩; replace HB := Aq8 (below_step tq8_6 hb); (try clear hb); (try clear hb2); (try clear hk); (try clear hi)))
   go_ret
   exact ⟨tq8_3, tq8_6⟩

end Go.Proofs.YtdlfdmbaejhaaaaDoor.Q
