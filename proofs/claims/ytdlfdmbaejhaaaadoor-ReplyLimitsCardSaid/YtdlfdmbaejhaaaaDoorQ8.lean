/- The plain Lean functions that calls of the program answer, and proofs that they do. Printed by program out of the translation; Lean checks it. -/
import Derived.Test.YtdlfdmbaejhaaaaDoorQ0
import Derived.Test.YtdlfdmbaejhaaaaDoorQ7
import Derived.Test.YtdlfdmbaejhaaaaDoorLib
namespace Go.Proofs.YtdlfdmbaejhaaaaDoor.Q
open Go.RowKit Go.Proofs.YtdlfdmbaejhaaaaDoorW.PrintWords Go.Proofs.YtdlfdmbaejhaaaaDoorW.PrintLast Go.Proofs.YtdlfdmbaejhaaaaDoorW.PrintMore
attribute [local go_sem] max2_int min2_int max_two min_two max_three min_three max_four min_four   -- for this text's walks alone
set_option linter.unusedVariables false
set_option linter.unusedSimpArgs false

theorem Aq8 {p : Prop} (h : p) : Aside0 p := ⟨h⟩
theorem tq8_0 {P : Prop} (h : P := by first | rfl | (simp; done) | (simp [*]; done)) : P := h
theorem tq8_1 {P : Prop} (h : P := by repeat (first | exact Drawn0.refl _ | apply Drawn0.step)) : P := h
theorem tq8_2 {P : Prop} (h : P := by first | rfl | (simp [errW_none, errW_some] <;> rfl) | (simp [*, errW_none, errW_some] <;> rfl)) : P := h
theorem tq8_3 {P Q0 : Prop} (y0 : Q0) (h : Q0 → P := by intro y0_; (with_reducible repeat (first | apply Kd.R_alloc | apply Kd.R_drewN | apply Kd.R_drew)); exact y0_) : P := h y0
theorem tq8_4 {P Q0 : Prop} (y0 : Q0) (h : Q0 → P := by intro y0_; (with_reducible repeat (first | refine blk_drewN ?_ _ | refine blk_drew ?_ | refine blk_alloc ?_ _)); exact y0_) : P := h y0
theorem tq8_5 {P : Prop} (h : P := by repeat (first | (with_reducible first | exact HB.out | apply below_alloc | apply pw_below_drewN | apply below_drew1) | exact HB.out)) : P := h
theorem tq8_6 {P : Prop} (h : P := by (try simp only [List.map_toArray, List.map_cons, List.map_nil]); first | done | rfl | (simp only [List.length_drop, List.length_take]; rfl)) : P := h
theorem tq8_7 {P : Prop} (h : P := by first | exact Kd.R_nil _ _ _ _ _ | exact Kd.N_nil _ _ _ _ _ | exact Kd.V_nil _ _ _ _ _ | exact Kd.Q_nil _ _ _ _ _ | exact Kd.S_nil _ _ _ _ _) : P := h
theorem tq8_8 {P Q0 : Prop} (y0 : Q0) (h : Q0 → P := by intro y0_; repeat (first | (with_reducible first | exact HB.out | apply below_alloc | apply pw_below_drewN | apply below_drew1 | refine below_set ?_ y0_) | exact HB.out)) : P := h y0
theorem tq8_9 {P Q0 Q1 : Prop} (y0 : Q0) (y1 : Q1) (h : Q0 → Q1 → P := by intro y0_ y1_; repeat (first | (with_reducible first | exact HB.out | apply below_alloc | apply pw_below_drewN | apply below_drew1 | refine below_set ?_ y0_ | refine below_set ?_ y1_) | exact HB.out)) : P := h y0 y1
theorem tq8_a {P Q0 Q1 : Prop} (y0 : Q0) (y1 : Q1) (h : Q0 → Q1 → P := by intro y0_ y1_; (iterate 4 ((with_reducible repeat (first | refine blk_drewN ?_ _ | refine blk_drew ?_ | refine blk_alloc ?_ _)); refine blk_far ?_ y0_ _)); (with_reducible repeat (first | refine blk_drewN ?_ _ | refine blk_drew ?_ | refine blk_alloc ?_ _)); exact y1_) : P := h y0 y1
theorem tq8_b {P Q0 : Prop} (y0 : Q0) (h : Q0 → P := by intro y0_; first | exact (Nat.ne_of_lt (Nat.lt_of_lt_of_le (World.block_lt_of_cell? w _ hgwq180) y0_)) | (rw [add_block]; exact (Nat.ne_of_lt (Nat.lt_of_lt_of_le (World.block_lt_of_cell? w _ hgwq180) y0_))) | (show (Addr.add _ _).block ≠ _; rw [add_block]; exact (Nat.ne_of_lt (Nat.lt_of_lt_of_le (World.block_lt_of_cell? w _ hgwq180) y0_))) | (dsimp only; exact (Nat.ne_of_lt (Nat.lt_of_lt_of_le (World.block_lt_of_cell? w _ hgwq180) y0_)))) : P := h y0
theorem tq8_c {P Q0 : Prop} (y0 : Q0) (h : Q0 → P := by intro y0_; first | exact (Nat.ne_of_lt (Nat.lt_of_lt_of_le (World.block_lt_of_cell? w _ hgwq190) y0_)) | (rw [add_block]; exact (Nat.ne_of_lt (Nat.lt_of_lt_of_le (World.block_lt_of_cell? w _ hgwq190) y0_))) | (show (Addr.add _ _).block ≠ _; rw [add_block]; exact (Nat.ne_of_lt (Nat.lt_of_lt_of_le (World.block_lt_of_cell? w _ hgwq190) y0_))) | (dsimp only; exact (Nat.ne_of_lt (Nat.lt_of_lt_of_le (World.block_lt_of_cell? w _ hgwq190) y0_)))) : P := h y0
theorem tq8_d {P Q0 : Prop} (y0 : Q0) (h : Q0 → P := by intro y0_; first | exact (Nat.ne_of_lt (Nat.lt_of_lt_of_le (World.block_lt_of_cell? w _ hgwq191) y0_)) | (rw [add_block]; exact (Nat.ne_of_lt (Nat.lt_of_lt_of_le (World.block_lt_of_cell? w _ hgwq191) y0_))) | (show (Addr.add _ _).block ≠ _; rw [add_block]; exact (Nat.ne_of_lt (Nat.lt_of_lt_of_le (World.block_lt_of_cell? w _ hgwq191) y0_))) | (dsimp only; exact (Nat.ne_of_lt (Nat.lt_of_lt_of_le (World.block_lt_of_cell? w _ hgwq191) y0_)))) : P := h y0
theorem tq8_e {P Q0 : Prop} (y0 : Q0) (h : Q0 → P := by intro y0_; (with_reducible repeat (first | refine blk_drewN ?_ _ | refine blk_drew ?_ | refine blk_alloc ?_ _)); refine blk_put (cs := #[.int .i64 0, .slice none 0 0, .string (⟨#[]⟩ : ByteArray), .bool false]) ?_ 3 _ rfl; (with_reducible repeat (first | refine blk_drewN ?_ _ | refine blk_drew ?_ | refine blk_alloc ?_ _)); refine blk_put (cs := #[.int .i64 0, .slice none 0 0, .string (⟨#[]⟩ : ByteArray), .bool false]) ?_ 2 _ rfl; (with_reducible repeat (first | refine blk_drewN ?_ _ | refine blk_drew ?_ | refine blk_alloc ?_ _)); refine blk_put (cs := #[.int .i64 0, .slice none 0 0, .string (⟨#[]⟩ : ByteArray), .bool false]) ?_ 1 _ rfl; (with_reducible repeat (first | refine blk_drewN ?_ _ | refine blk_drew ?_ | refine blk_alloc ?_ _)); refine blk_put (cs := #[.int .i64 0, .slice none 0 0, .string (⟨#[]⟩ : ByteArray), .bool false]) ?_ 0 _ rfl; (with_reducible repeat (first | refine blk_drewN ?_ _ | refine blk_drew ?_ | refine blk_alloc ?_ _)); exact y0_) : P := h y0
/-! ### reply_Read: function 32 -/
def reply_Read.f (k : Nat) (a0 : ByteArray) : Option (Int × (List (S26)) × ByteArray × Bool × Int × Option Int) := (strings_Index.f a0 (⟨#[13, 10, 13, 10]⟩ : ByteArray)).bind fun t179 => (if t179 < 0 then (some (0, ([] : List (S26)), (⟨#[]⟩ : ByteArray), false, 0, some 6)) else (if 0 ≤ t179 then (if t179 ≤ (a0.size : Int) then ((reply_heading.f k (a0.extract 0 (t179 : Int).toNat)).bind fun bt181 => (if bt181.2.2.2.2.2 = true then (if (wrap64 ((a0.size : Int) - (wrap64 ((wrap64 (t179 + 2)) + 2)))) < bt181.2.2.2.2.1 then (some (0, ([] : List (S26)), (⟨#[]⟩ : ByteArray), false, 0, some 6)) else (if 0 ≤ (wrap64 ((wrap64 (t179 + 2)) + 2)) then (if (wrap64 ((wrap64 (t179 + 2)) + 2)) ≤ (wrap64 ((wrap64 ((wrap64 (t179 + 2)) + 2)) + bt181.2.2.2.2.1)) then (if (wrap64 ((wrap64 ((wrap64 (t179 + 2)) + 2)) + bt181.2.2.2.2.1)) ≤ (a0.size : Int) then (some (bt181.1, bt181.2.1, a0.extract ((wrap64 ((wrap64 (t179 + 2)) + 2)) : Int).toNat ((wrap64 ((wrap64 ((wrap64 (t179 + 2)) + 2)) + bt181.2.2.2.2.1)) : Int).toNat, bt181.2.2.2.1, wrap64 ((wrap64 ((wrap64 (t179 + 2)) + 2)) + bt181.2.2.2.2.1), none)) else (none)) else (none)) else (none))) else (some (0, ([] : List (S26)), (⟨#[]⟩ : ByteArray), false, 0, some 2)))) else (none)) else (none)))
theorem reply_Read.mono : ∀ a0 k, LeO (reply_Read.f k a0) (reply_Read.f (k + 1) a0) := by
 intro a0 k
 unfold reply_Read.f
 repeat' first
   | (with_reducible exact reply_heading.mono _ _)
   | (with_reducible exact LeO.refl _)
   | (with_reducible exact LeO.none _)
   | (with_reducible refine LeO.ite ?_ ?_)
   | (with_reducible refine LeO.bind ?_ (fun _ => ?_))
   | exact reply_heading.mono _ _
   | exact LeO.none _
   | refine LeO.ite ?_ ?_
   | refine LeO.bind ?_ (fun _ => ?_)
set_option maxHeartbeats 8000000 in
set_option maxRecDepth 100000 in
theorem reply_Read.calls [Sent] (k : Nat) (a0 : ByteArray) (r1 : Int) (r2 : List (S26)) (r3 : ByteArray) (r4 : Bool) (r5 : Int) (r6 : Option Int) (w : World) (h : reply_Read.f k a0 = some (r1, r2, r3, r4, r5, r6)) (hG : Glob [0, 1, 2, 5, 8, 9, 16, 18, 19] w) :
  Calls Tryd.prog 32 #[.string a0] w fun e w' => ∃ v1_ : Value, e = .returned (.tuple #[.agg #[.int .i64 r1, v1_, .string r3, .bool r4], .int .i64 r5, errW r6]) ∧ Kd.R k26 26 w' w.heap.size (fun _ => True) v1_ r2 ∧ Below w.heap.size w w' := by
 have HG := Aq8 hG
 clear hG
 have hu24 := Tryd.underlying24
 have HB := Aq8 (Below.refl w.heap.size w)
 have H : ((strings_Index.f a0 (⟨#[13, 10, 13, 10]⟩ : ByteArray)).bind fun t179 => (if t179 < 0 then (some (0, ([] : List (S26)), (⟨#[]⟩ : ByteArray), false, 0, some 6)) else (if 0 ≤ t179 then (if t179 ≤ (a0.size : Int) then ((reply_heading.f k (a0.extract 0 (t179 : Int).toNat)).bind fun bt181 => (if bt181.2.2.2.2.2 = true then (if (wrap64 ((a0.size : Int) - (wrap64 ((wrap64 (t179 + 2)) + 2)))) < bt181.2.2.2.2.1 then (some (0, ([] : List (S26)), (⟨#[]⟩ : ByteArray), false, 0, some 6)) else (if 0 ≤ (wrap64 ((wrap64 (t179 + 2)) + 2)) then (if (wrap64 ((wrap64 (t179 + 2)) + 2)) ≤ (wrap64 ((wrap64 ((wrap64 (t179 + 2)) + 2)) + bt181.2.2.2.2.1)) then (if (wrap64 ((wrap64 ((wrap64 (t179 + 2)) + 2)) + bt181.2.2.2.2.1)) ≤ (a0.size : Int) then (some (bt181.1, bt181.2.1, a0.extract ((wrap64 ((wrap64 (t179 + 2)) + 2)) : Int).toNat ((wrap64 ((wrap64 ((wrap64 (t179 + 2)) + 2)) + bt181.2.2.2.2.1)) : Int).toNat, bt181.2.2.2.1, wrap64 ((wrap64 ((wrap64 (t179 + 2)) + 2)) + bt181.2.2.2.2.1), none)) else (none)) else (none)) else (none))) else (some (0, ([] : List (S26)), (⟨#[]⟩ : ByteArray), false, 0, some 2)))) else (none)) else (none)))) = some (r1, r2, r3, r4, r5, r6) := h
 clear h
 replace H := Option.bind_eq_some_iff.mp H
 obtain ⟨t179, A20, H⟩ := H
 replace H : (if t179 < 0 then (some (0, ([] : List (S26)), (⟨#[]⟩ : ByteArray), false, 0, some 6)) else (if 0 ≤ t179 then (if t179 ≤ (a0.size : Int) then ((reply_heading.f k (a0.extract 0 (t179 : Int).toNat)).bind fun bt181 => (if bt181.2.2.2.2.2 = true then (if (wrap64 ((a0.size : Int) - (wrap64 ((wrap64 (t179 + 2)) + 2)))) < bt181.2.2.2.2.1 then (some (0, ([] : List (S26)), (⟨#[]⟩ : ByteArray), false, 0, some 6)) else (if 0 ≤ (wrap64 ((wrap64 (t179 + 2)) + 2)) then (if (wrap64 ((wrap64 (t179 + 2)) + 2)) ≤ (wrap64 ((wrap64 ((wrap64 (t179 + 2)) + 2)) + bt181.2.2.2.2.1)) then (if (wrap64 ((wrap64 ((wrap64 (t179 + 2)) + 2)) + bt181.2.2.2.2.1)) ≤ (a0.size : Int) then (some (bt181.1, bt181.2.1, a0.extract ((wrap64 ((wrap64 (t179 + 2)) + 2)) : Int).toNat ((wrap64 ((wrap64 ((wrap64 (t179 + 2)) + 2)) + bt181.2.2.2.2.1)) : Int).toNat, bt181.2.2.2.1, wrap64 ((wrap64 ((wrap64 (t179 + 2)) + 2)) + bt181.2.2.2.2.1), none)) else (none)) else (none)) else (none))) else (some (0, ([] : List (S26)), (⟨#[]⟩ : ByteArray), false, 0, some 2)))) else (none)) else (none))) = some (r1, r2, r3, r4, r5, r6) := H
 have A2 := Aq8 A20
 clear A20
 by_cases c3 : t179 < 0
 ·rw [if_pos c3] at H
  have c3b0 : decide (t179 < 0) = true := decide_eq_true c3
  clear c3
  simp only [Option.some.injEq, Prod.mk.injEq] at H
  obtain ⟨rfl, rfl, rfl, rfl, rfl, rfl⟩ := H
  go_enter Tryd.func32, Tryd.ntmps32
  try go_wp2_with (first | ((with_reducible refine gate_dst (N := 2) rfl ?_); refine box_event ?hg (N := 2) ?hd (cs := #[.int .i64 0, .slice none 0 0, .string (⟨#[]⟩ : ByteArray), .bool false]) (t := 24) ?hr ?_; (case hd => rfl); (case hg => rfl); (case hr => first | (go_simp; done) | (go_simp; rfl)); intro gb178 hg w4 hbox hb; have BK178 := Aq8 (hbox); have GW178 := Aq8 ((by rw [hg]; exact (below_size tq8_5) : w.heap.size ≤ gb178)); have GE178 := Aq8 ((by rw [hg]; exact (below_size tq8_5) : w.heap.size ≤ gb178)); replace HB := Aq8 (below_step tq8_5 hb); clear hb hbox hg) | ((with_reducible refine gate_callee (f := 54) rfl ?_); refine goesL_ (some 11) rfl rfl Tryd.func54 (by kernel_rfl) rfl #[.string a0, .string (⟨#[13, 10, 13, 10]⟩ : ByteArray)] rfl tq8_6 ?_; (with_reducible refine (strings_Index.calls a0 (⟨#[13, 10, 13, 10]⟩ : ByteArray) t179 _ A2.out ?side1).mono ?_); (case side1 => exact HG.out.step (tq8_8 GE178.out) rfl); rintro e w' ⟨rfl, ⟨nd, rfl⟩⟩; refine ⟨_, rfl, ?_⟩; (try (rw [drewN_self w4]; generalize hq_ : World.drewN w4 _ = w4; have n0_ : Aside0 (w4.heap[gb178]? = some (.cells #[.int .i64 0, .slice none 0 0, .string (⟨#[]⟩ : ByteArray), .bool false] 24 (0, 0))) := ⟨by rw [← hq_]; exact (tq8_4 BK178.out)⟩; have n1_ : Aside0 (Below w.heap.size w w4) := ⟨by rw [← hq_]; exact (tq8_8 GE178.out)⟩; clear BK178 HB hq_; have BK178 := n0_; have HB := n1_; clear n0_ n1_))))
  have n0_ := Aq8 (blk_drew BK178.out)
  have n1_ := Aq8 (below_drew1 HB.out)
  clear BK178
  clear HB
  have BK178 := n0_
  have HB := n1_
  clear n0_ n1_
  have hgwq180 := Glob.err6 HG.out (by rfl)
  have hgeq180 := Glob.err6 (HG.out.step HB.out (T := [0, 1, 2, 5, 8, 9, 16, 18, 19]) rfl) (by rfl)
  refine start_ (n := 5) (S := fun w' => w'.cell? ⟨5, 0, none⟩ = some (.iface 143 (.pointer (some (Sent.addr 6))))) (ds := []) #[false, false, false, false, false] (by kernel_rfl) rfl rfl (((HB.out.cell (World.block_lt_of_cell? w _ hgwq180)).trans hgwq180)) (fun hHeld => ?_)
  generalize w4.drew = w5 at BK178 HB hHeld ⊢
  refine pure_ (i := 0) (N := some 14) (v := ?_) (a' := ?_) #[true, false, false, false, false] rfl rfl (by kernel_rfl) (fun _ _ _ h => h) (Or.inl ⟨by rfl, ?_⟩) ?_ ?_
  rotate_left
  ·intro w'
   go_simp
   with_reducible rfl
  rotate_left
  ·simp only [Act.put, List.setIfInBounds_toArray, List.set_cons_zero, List.set_cons_succ, i64_w, i32_w]
   rfl
  refine take_ (i := 1) (N := some 15) (v := ?_) (a' := ?_) #[true, true, false, false, false] rfl rfl (by kernel_rfl) (fun _ _ _ h => h) (Or.inl ⟨by rfl, ?_⟩) hHeld ?_ ?_
  rotate_left
  ·intro w' s0
   go_simp
   with_reducible rfl
  rotate_left
  ·simp only [Act.put, List.setIfInBounds_toArray, List.set_cons_zero, List.set_cons_succ, i64_w, i32_w]
   rfl
  refine one_ (i := 2) (N := none) #[true, true, true, false, false] rfl rfl (by kernel_rfl) (by decide) (fun K hK => ?_)
  have hs6 : w5.cell? ⟨gb178, 0, none⟩ = some (.int .i64 0) := (blk_cell BK178.out 0).trans rfl
  have hfs6 := blk_frozen BK178.out 0
  have hs7 : w5.cell? ⟨gb178, 1, none⟩ = some (.slice none 0 0) := (blk_cell BK178.out 1).trans rfl
  have hfs7 := blk_frozen BK178.out 1
  have hs8 : w5.cell? ⟨gb178, 2, none⟩ = some (.string (⟨#[]⟩ : ByteArray)) := (blk_cell BK178.out 2).trans rfl
  have hfs8 := blk_frozen BK178.out 2
  have hs9 : w5.cell? ⟨gb178, 3, none⟩ = some (.bool false) := (blk_cell BK178.out 3).trans rfl
  have hfs9 := blk_frozen BK178.out 3
  refine skip_ (w1 := ?_) (by rfl) rfl ?_ ?_
  rotate_left
  ·go_simp
   rfl
  refine hK.out _ _ (((cell_far (p := ⟨gb178, _, none⟩) (tq8_b GW178.out) _).trans (((cell_far (p := ⟨gb178, _, none⟩) (tq8_b GW178.out) _).trans (((cell_far (p := ⟨gb178, _, none⟩) (tq8_b GW178.out) _).trans (((cell_far (p := ⟨gb178, _, none⟩) (tq8_b GW178.out) _).trans (hHeld))))))))) (fun hHeld => ?_)
  clear hK K
  refine pure_ (i := 3) (N := some 3) (v := ?_) (a' := ?_) #[true, true, true, true, false] rfl rfl (by kernel_rfl) (fun _ _ _ h => h) (Or.inl ⟨by rfl, ?_⟩) ?_ ?_
  rotate_left
  ·intro w'
   go_simp
   with_reducible rfl
  rotate_left
  ·simp only [Act.put, List.setIfInBounds_toArray, List.set_cons_zero, List.set_cons_succ, i64_w, i32_w]
   rfl
  refine pure_ (i := 4) (N := some 4) (v := ?_) (a' := ?_) #[true, true, true, true, true] rfl rfl (by kernel_rfl) (fun _ _ _ h => h) (Or.inl ⟨by rfl, ?_⟩) ?_ ?_
  rotate_left
  ·intro w'
   go_simp
   with_reducible rfl
  rotate_left
  ·simp only [Act.put, List.setIfInBounds_toArray, List.set_cons_zero, List.set_cons_succ, i64_w, i32_w]
   rfl
  refine done_ (by kernel_rfl) ?_
  try go_wp2
  refine bodyPost_ret (results_ctt rfl _ _ gb178 24 #[.int .i64 0, .slice none 0 0, .string (⟨#[]⟩ : ByteArray), .bool false] (0, 0) _ rfl (tq8_e BK178.out) Tryd.underlying24 rfl (by kernel_rfl)) rfl ?_
  exact ⟨_, tq8_2, tq8_7, (tq8_8 GE178.out)⟩
 ·rw [if_neg c3] at H
  have c3b0 : decide (t179 < 0) = false := decide_eq_false c3
  clear c3
  by_cases c10 : 0 ≤ t179
  ·rw [if_pos c10] at H
   have c10b0 := eq_true c10
   have c10b1 : decide (0 ≤ t179) = true := decide_eq_true c10
   clear c10
   by_cases c11 : t179 ≤ (a0.size : Int)
   ·rw [if_pos c11] at H
    have c11b0 := eq_true c11
    have c11b1 : decide (t179 ≤ (a0.size : Int)) = true := decide_eq_true c11
    clear c11
    replace H := Option.bind_eq_some_iff.mp H
    obtain ⟨⟨t181, t182, t185, t186, t187, t188⟩, A120, H⟩ := H
    replace H : (if t188 = true then (if (wrap64 ((a0.size : Int) - (wrap64 ((wrap64 (t179 + 2)) + 2)))) < t187 then (some (0, ([] : List (S26)), (⟨#[]⟩ : ByteArray), false, 0, some 6)) else (if 0 ≤ (wrap64 ((wrap64 (t179 + 2)) + 2)) then (if (wrap64 ((wrap64 (t179 + 2)) + 2)) ≤ (wrap64 ((wrap64 ((wrap64 (t179 + 2)) + 2)) + t187)) then (if (wrap64 ((wrap64 ((wrap64 (t179 + 2)) + 2)) + t187)) ≤ (a0.size : Int) then (some (t181, t182, a0.extract ((wrap64 ((wrap64 (t179 + 2)) + 2)) : Int).toNat ((wrap64 ((wrap64 ((wrap64 (t179 + 2)) + 2)) + t187)) : Int).toNat, t186, wrap64 ((wrap64 ((wrap64 (t179 + 2)) + 2)) + t187), none)) else (none)) else (none)) else (none))) else (some (0, ([] : List (S26)), (⟨#[]⟩ : ByteArray), false, 0, some 2))) = some (r1, r2, r3, r4, r5, r6) := H
    have A12 := Aq8 A120
    clear A120
    by_cases c13 : t188 = true
    ·subst c13
     have H1 : (if (wrap64 ((a0.size : Int) - (wrap64 ((wrap64 (t179 + 2)) + 2)))) < t187 then (some (0, ([] : List (S26)), (⟨#[]⟩ : ByteArray), false, 0, some 6)) else (if 0 ≤ (wrap64 ((wrap64 (t179 + 2)) + 2)) then (if (wrap64 ((wrap64 (t179 + 2)) + 2)) ≤ (wrap64 ((wrap64 ((wrap64 (t179 + 2)) + 2)) + t187)) then (if (wrap64 ((wrap64 ((wrap64 (t179 + 2)) + 2)) + t187)) ≤ (a0.size : Int) then (some (t181, t182, a0.extract ((wrap64 ((wrap64 (t179 + 2)) + 2)) : Int).toNat ((wrap64 ((wrap64 ((wrap64 (t179 + 2)) + 2)) + t187)) : Int).toNat, t186, wrap64 ((wrap64 ((wrap64 (t179 + 2)) + 2)) + t187), none)) else (none)) else (none)) else (none))) = some (r1, r2, r3, r4, r5, r6) := by rw [if_pos rfl] at H; exact H
     clear H
     have H := H1
     clear H1
     by_cases c14 : (wrap64 ((a0.size : Int) - (wrap64 ((wrap64 (t179 + 2)) + 2)))) < t187
     ·rw [if_pos c14] at H
      have c14b0 : decide ((wrap64 ((a0.size : Int) - (wrap64 ((wrap64 (t179 + 2)) + 2)))) < t187) = true := decide_eq_true c14
      clear c14
      simp only [Option.some.injEq, Prod.mk.injEq] at H
      obtain ⟨rfl, rfl, rfl, rfl, rfl, rfl⟩ := H
      go_enter Tryd.func32, Tryd.ntmps32
      try go_wp2_with (first | ((with_reducible refine gate_dst (N := 2) rfl ?_); refine box_event ?hg (N := 2) ?hd (cs := #[.int .i64 0, .slice none 0 0, .string (⟨#[]⟩ : ByteArray), .bool false]) (t := 24) ?hr ?_; (case hd => rfl); (case hg => rfl); (case hr => first | (go_simp; done) | (go_simp; rfl)); intro gb178 hg w15 hbox hb; have BK178 := Aq8 (hbox); have GW178 := Aq8 ((by rw [hg]; exact (below_size tq8_5) : w.heap.size ≤ gb178)); have GE178 := Aq8 ((by rw [hg]; exact (below_size tq8_5) : w.heap.size ≤ gb178)); replace HB := Aq8 (below_step tq8_5 hb); clear hb hbox hg) | ((with_reducible refine gate_callee (f := 54) rfl ?_); refine goesL_ (some 11) rfl rfl Tryd.func54 (by kernel_rfl) rfl #[.string a0, .string (⟨#[13, 10, 13, 10]⟩ : ByteArray)] rfl tq8_6 ?_; (with_reducible refine (strings_Index.calls a0 (⟨#[13, 10, 13, 10]⟩ : ByteArray) t179 _ A2.out ?side1).mono ?_); (case side1 => exact HG.out.step (tq8_8 GE178.out) rfl); rintro e w' ⟨rfl, ⟨nd, rfl⟩⟩; refine ⟨_, rfl, ?_⟩; (try (rw [drewN_self w15]; generalize hq_ : World.drewN w15 _ = w15; have n0_ : Aside0 (w15.heap[gb178]? = some (.cells #[.int .i64 0, .slice none 0 0, .string (⟨#[]⟩ : ByteArray), .bool false] 24 (0, 0))) := ⟨by rw [← hq_]; exact (tq8_4 BK178.out)⟩; have n1_ : Aside0 (Below w.heap.size w w15) := ⟨by rw [← hq_]; exact (tq8_8 GE178.out)⟩; clear BK178 HB hq_; have BK178 := n0_; have HB := n1_; clear n0_ n1_))) | ((with_reducible refine gate_callee (f := 55) rfl ?_); refine goesL_ (some 20) rfl rfl Tryd.func55 (by kernel_rfl) rfl #[.string (a0.extract 0 (t179 : Int).toNat)] rfl tq8_6 ?_; (with_reducible refine (reply_heading.calls k (a0.extract 0 (t179 : Int).toNat) t181 t182 t185 t186 t187 true _ A12.out ?side1).mono ?_); (case side1 => exact HG.out.step (tq8_8 GE178.out) rfl); rintro e w16 ⟨v183, rfl, ho0, hb⟩; refine ⟨_, rfl, ?_⟩; have HO184 := Aq8 (Kd.R_lower ho0 (below_size (tq8_8 GE178.out))); replace BK178 := Aq8 (blk_below (g := gb178) (o := .cells #[.int .i64 0, .slice none 0 0, .string (⟨#[]⟩ : ByteArray), .bool false] 24 (0, 0)) (tq8_4 BK178.out) hb); replace HB := Aq8 (below_step (tq8_8 GE178.out) hb); (try clear hb); (try clear hb2); (try clear hk); (try clear hi); (try clear ho0)) | ((with_reducible refine gate_dst (N := 6) rfl ?_); refine box_event ?hg (N := 6) ?hd (cs := #[.int .i64 0, .slice none 0 0, .string (⟨#[]⟩ : ByteArray), .bool false]) (t := 24) ?hr ?_; (case hd => rfl); (case hg => rfl); (case hr => first | (go_simp; done) | (go_simp; rfl)); intro gb189 hg w17 hbox hb; replace HO184 := Aq8 (Kd.R_below (tq8_3 HO184.out) hb); have BK189 := Aq8 (hbox); have GW189 := Aq8 ((by rw [hg]; exact (below_size (tq8_8 GE178.out)) : w.heap.size ≤ gb189)); have GE189 := Aq8 ((by rw [hg]; exact (below_size (tq8_8 GE178.out)) : w.heap.size ≤ gb189)); have NB178_189 := Aq8 ((by rw [hg]; exact Nat.ne_of_lt (blk_lt (g := gb178) (o := .cells #[.int .i64 0, .slice none 0 0, .string (⟨#[]⟩ : ByteArray), .bool false] 24 (0, 0)) (tq8_4 BK178.out)) : gb178 ≠ gb189)); have NB189_178 := Aq8 ((by rw [hg]; exact Nat.ne_of_gt (blk_lt (g := gb178) (o := .cells #[.int .i64 0, .slice none 0 0, .string (⟨#[]⟩ : ByteArray), .bool false] 24 (0, 0)) (tq8_4 BK178.out)) : gb189 ≠ gb178)); replace BK178 := Aq8 (blk_below (g := gb178) (o := .cells #[.int .i64 0, .slice none 0 0, .string (⟨#[]⟩ : ByteArray), .bool false] 24 (0, 0)) (tq8_4 BK178.out) hb); replace HB := Aq8 (below_step (tq8_8 GE178.out) hb); clear hb hbox hg; have hnb18 := NB189_178.out; have hnc18 := NB178_189.out; have hcz19_0 : w17.cell? ⟨gb189, 0, none⟩ = some (.int .i64 0) := (blk_cell BK189.out 0).trans rfl; have hcz19_1 : w17.cell? ⟨gb189, 1, none⟩ = some (.slice none 0 0) := (blk_cell BK189.out 1).trans rfl; have hcz19_2 : w17.cell? ⟨gb189, 2, none⟩ = some (.string (⟨#[]⟩ : ByteArray)) := (blk_cell BK189.out 2).trans rfl; have hcz19_3 : w17.cell? ⟨gb189, 3, none⟩ = some (.bool false) := (blk_cell BK189.out 3).trans rfl; have hfz19_0 := blk_frozen BK189.out 0; have hfz19_1 := blk_frozen BK189.out 1; have hfz19_2 := blk_frozen BK189.out 2; have hfz19_3 := blk_frozen BK189.out 3; obtain ⟨Ao20, co20, eo20⟩ := Kd.R_slice HO184.out; subst eo20))
      have n0_ : Aside0 (Kd.R k26 26 ((((w17.setCell ⟨gb189, 0, none⟩ (.int .i64 t181)).setCell ⟨gb189, 1, none⟩ (.slice Ao20 t182.length co20)).setCell ⟨gb189, 2, none⟩ (.string t185)).setCell ⟨gb189, 3, none⟩ (.bool t186)) w.heap.size (fun _ => True) (.slice Ao20 t182.length co20) t182) := ⟨by (with_reducible repeat (first | apply Kd.R_alloc | apply Kd.R_drewN | apply Kd.R_drew)); exact Kd.R_mono (Kd.R_far (p := ⟨gb189, 3, none⟩) (Kd.R_far (p := ⟨gb189, 2, none⟩) (Kd.R_far (p := ⟨gb189, 1, none⟩) (Kd.R_far (p := ⟨gb189, 0, none⟩) (Kd.R_types HO184.out BK189.out (by decide)) (fun _ hk => hk.2) (.int .i64 t181)) (fun _ hk => hk.2) (.slice Ao20 t182.length co20)) (fun _ hk => hk.2) (.string t185)) (fun _ hk => hk.2) (.bool t186)) (fun _ hk => trivial)⟩
      have n1_ : Aside0 (((((w17.setCell ⟨gb189, 0, none⟩ (.int .i64 t181)).setCell ⟨gb189, 1, none⟩ (.slice Ao20 t182.length co20)).setCell ⟨gb189, 2, none⟩ (.string t185)).setCell ⟨gb189, 3, none⟩ (.bool t186)).heap[gb178]? = some (.cells #[.int .i64 0, .slice none 0 0, .string (⟨#[]⟩ : ByteArray), .bool false] 24 (0, 0))) := ⟨(tq8_a NB178_189.out BK178.out)⟩
      have n2_ : Aside0 (((((w17.setCell ⟨gb189, 0, none⟩ (.int .i64 t181)).setCell ⟨gb189, 1, none⟩ (.slice Ao20 t182.length co20)).setCell ⟨gb189, 2, none⟩ (.string t185)).setCell ⟨gb189, 3, none⟩ (.bool t186)).heap[gb189]? = some (.cells #[.int .i64 t181, .slice Ao20 t182.length co20, .string t185, .bool t186] 24 (0, 0))) := ⟨by (with_reducible repeat (first | refine blk_drewN ?_ _ | refine blk_drew ?_ | refine blk_alloc ?_ _)); refine blk_put (cs := #[.int .i64 t181, .slice Ao20 t182.length co20, .string t185, .bool false]) ?_ 3 _ rfl; (with_reducible repeat (first | refine blk_drewN ?_ _ | refine blk_drew ?_ | refine blk_alloc ?_ _)); refine blk_put (cs := #[.int .i64 t181, .slice Ao20 t182.length co20, .string (⟨#[]⟩ : ByteArray), .bool false]) ?_ 2 _ rfl; (with_reducible repeat (first | refine blk_drewN ?_ _ | refine blk_drew ?_ | refine blk_alloc ?_ _)); refine blk_put (cs := #[.int .i64 t181, .slice none 0 0, .string (⟨#[]⟩ : ByteArray), .bool false]) ?_ 1 _ rfl; (with_reducible repeat (first | refine blk_drewN ?_ _ | refine blk_drew ?_ | refine blk_alloc ?_ _)); refine blk_put (cs := #[.int .i64 0, .slice none 0 0, .string (⟨#[]⟩ : ByteArray), .bool false]) ?_ 0 _ rfl; (with_reducible repeat (first | refine blk_drewN ?_ _ | refine blk_drew ?_ | refine blk_alloc ?_ _)); exact BK189.out⟩
      have n3_ : Aside0 (Below w.heap.size w ((((w17.setCell ⟨gb189, 0, none⟩ (.int .i64 t181)).setCell ⟨gb189, 1, none⟩ (.slice Ao20 t182.length co20)).setCell ⟨gb189, 2, none⟩ (.string t185)).setCell ⟨gb189, 3, none⟩ (.bool t186))) := ⟨(tq8_9 GE178.out GE189.out)⟩
      (try clear HO184)
      (try clear BK178)
      (try clear BK189)
      (try clear HB)
      generalize ((((w17.setCell ⟨gb189, 0, none⟩ (.int .i64 t181)).setCell ⟨gb189, 1, none⟩ (.slice Ao20 t182.length co20)).setCell ⟨gb189, 2, none⟩ (.string t185)).setCell ⟨gb189, 3, none⟩ (.bool t186)) = w21 at n0_ n1_ n2_ n3_ ⊢
      have HO184 := n0_
      have BK178 := n1_
      have BK189 := n2_
      have HB := n3_
      clear n0_ n1_ n2_ n3_
      have n0_ := Aq8 (Kd.R_drew HO184.out)
      have n1_ := Aq8 (blk_drew BK178.out)
      have n2_ := Aq8 (blk_drew BK189.out)
      have n3_ := Aq8 (below_drew1 HB.out)
      clear HO184
      clear BK178
      clear BK189
      clear HB
      have HO184 := n0_
      have BK178 := n1_
      have BK189 := n2_
      have HB := n3_
      clear n0_ n1_ n2_ n3_
      have hgwq190 := Glob.err6 HG.out (by rfl)
      have hgeq190 := Glob.err6 (HG.out.step HB.out (T := [0, 1, 2, 5, 8, 9, 16, 18, 19]) rfl) (by rfl)
      refine start_ (n := 5) (S := fun w' => w'.cell? ⟨5, 0, none⟩ = some (.iface 143 (.pointer (some (Sent.addr 6))))) (ds := []) #[false, false, false, false, false] (by kernel_rfl) rfl rfl (((HB.out.cell (World.block_lt_of_cell? w _ hgwq190)).trans hgwq190)) (fun hHeld => ?_)
      generalize w21.drew = w22 at HO184 BK178 BK189 HB hHeld ⊢
      refine pure_ (i := 0) (N := some 37) (v := ?_) (a' := ?_) #[true, false, false, false, false] rfl rfl (by kernel_rfl) (fun _ _ _ h => h) (Or.inl ⟨by rfl, ?_⟩) ?_ ?_
      rotate_left
      ·intro w'
       go_simp
       with_reducible rfl
      rotate_left
      ·simp only [Act.put, List.setIfInBounds_toArray, List.set_cons_zero, List.set_cons_succ, i64_w, i32_w]
       rfl
      refine take_ (i := 1) (N := some 38) (v := ?_) (a' := ?_) #[true, true, false, false, false] rfl rfl (by kernel_rfl) (fun _ _ _ h => h) (Or.inl ⟨by rfl, ?_⟩) hHeld ?_ ?_
      rotate_left
      ·intro w' s0
       go_simp
       with_reducible rfl
      rotate_left
      ·simp only [Act.put, List.setIfInBounds_toArray, List.set_cons_zero, List.set_cons_succ, i64_w, i32_w]
       rfl
      refine one_ (i := 2) (N := none) #[true, true, true, false, false] rfl rfl (by kernel_rfl) (by decide) (fun K hK => ?_)
      have hs23 : w22.cell? ⟨gb178, 0, none⟩ = some (.int .i64 0) := (blk_cell BK178.out 0).trans rfl
      have hfs23 := blk_frozen BK178.out 0
      have hns23_1 := NB189_178.out
      have hms23_1 := NB178_189.out
      have hs24 : w22.cell? ⟨gb178, 1, none⟩ = some (.slice none 0 0) := (blk_cell BK178.out 1).trans rfl
      have hfs24 := blk_frozen BK178.out 1
      have hns24_1 := NB189_178.out
      have hms24_1 := NB178_189.out
      have hs25 : w22.cell? ⟨gb178, 2, none⟩ = some (.string (⟨#[]⟩ : ByteArray)) := (blk_cell BK178.out 2).trans rfl
      have hfs25 := blk_frozen BK178.out 2
      have hns25_1 := NB189_178.out
      have hms25_1 := NB178_189.out
      have hs26 : w22.cell? ⟨gb178, 3, none⟩ = some (.bool false) := (blk_cell BK178.out 3).trans rfl
      have hfs26 := blk_frozen BK178.out 3
      have hns26_1 := NB189_178.out
      have hms26_1 := NB178_189.out
      refine skip_ (w1 := ?_) (by rfl) rfl ?_ ?_
      rotate_left
      ·go_simp
       rfl
      refine hK.out _ _ (((cell_far (p := ⟨gb178, _, none⟩) (tq8_c GW178.out) _).trans (((cell_far (p := ⟨gb178, _, none⟩) (tq8_c GW178.out) _).trans (((cell_far (p := ⟨gb178, _, none⟩) (tq8_c GW178.out) _).trans (((cell_far (p := ⟨gb178, _, none⟩) (tq8_c GW178.out) _).trans (hHeld))))))))) (fun hHeld => ?_)
      clear hK K
      refine pure_ (i := 3) (N := some 3) (v := ?_) (a' := ?_) #[true, true, true, true, false] rfl rfl (by kernel_rfl) (fun _ _ _ h => h) (Or.inl ⟨by rfl, ?_⟩) ?_ ?_
      rotate_left
      ·intro w'
       go_simp
       with_reducible rfl
      rotate_left
      ·simp only [Act.put, List.setIfInBounds_toArray, List.set_cons_zero, List.set_cons_succ, i64_w, i32_w]
       rfl
      refine pure_ (i := 4) (N := some 4) (v := ?_) (a' := ?_) #[true, true, true, true, true] rfl rfl (by kernel_rfl) (fun _ _ _ h => h) (Or.inl ⟨by rfl, ?_⟩) ?_ ?_
      rotate_left
      ·intro w'
       go_simp
       with_reducible rfl
      rotate_left
      ·simp only [Act.put, List.setIfInBounds_toArray, List.set_cons_zero, List.set_cons_succ, i64_w, i32_w]
       rfl
      refine done_ (by kernel_rfl) ?_
      try go_wp2
      refine bodyPost_ret (results_ctt rfl _ _ gb178 24 #[.int .i64 0, .slice none 0 0, .string (⟨#[]⟩ : ByteArray), .bool false] (0, 0) _ rfl (tq8_e BK178.out) Tryd.underlying24 rfl (by kernel_rfl)) rfl ?_
      exact ⟨_, tq8_2, tq8_7, (tq8_9 GE178.out GE189.out)⟩
     ·rw [if_neg c14] at H
      have c14b0 : decide ((wrap64 ((a0.size : Int) - (wrap64 ((wrap64 (t179 + 2)) + 2)))) < t187) = false := decide_eq_false c14
      clear c14
      obtain ⟨ji27, hji27⟩ : ∃ j_ : Int, (wrap64 ((wrap64 (t179 + 2)) + 2)) = j_ := ⟨_, rfl⟩
      replace H : (if 0 ≤ (ji27) then (if (ji27) ≤ (wrap64 ((ji27) + t187)) then (if (wrap64 ((ji27) + t187)) ≤ (a0.size : Int) then (some (t181, t182, a0.extract ((ji27) : Int).toNat ((wrap64 ((ji27) + t187)) : Int).toNat, t186, wrap64 ((ji27) + t187), none)) else (none)) else (none)) else (none)) = some (r1, r2, r3, r4, r5, r6) := by first | (rw [hji27] at H; exact H) | (simp only [hji27] at H ⊢; exact H)
      (try rw [hji27] at c14b0)
      (try rw [hji27] at A2)
      (try rw [hji27] at A12)
      have hji27w : (IntKind.i64.wrap ((wrap64 (t179 + 2)) + 2)) = ji27 := (i64_w _).trans hji27
      by_cases c28 : 0 ≤ (ji27)
      ·rw [if_pos c28] at H
       have c28b0 := eq_true c28
       have c28b1 : decide (0 ≤ (ji27)) = true := decide_eq_true c28
       clear c28
       by_cases c29 : (ji27) ≤ (wrap64 ((ji27) + t187))
       ·rw [if_pos c29] at H
        have c29b0 := eq_true c29
        have c29b1 : decide ((ji27) ≤ (wrap64 ((ji27) + t187))) = true := decide_eq_true c29
        clear c29
        by_cases c30 : (wrap64 ((ji27) + t187)) ≤ (a0.size : Int)
        ·rw [if_pos c30] at H
         have c30b0 := eq_true c30
         have c30b1 : decide ((wrap64 ((ji27) + t187)) ≤ (a0.size : Int)) = true := decide_eq_true c30
         clear c30
         simp only [Option.some.injEq, Prod.mk.injEq] at H
         obtain ⟨rfl, rfl, rfl, rfl, rfl, rfl⟩ := H
         go_enter Tryd.func32, Tryd.ntmps32
         go_upto_region 11 with (first | ((with_reducible refine gate_dst (N := 2) rfl ?_); refine box_event ?hg (N := 2) ?hd (cs := #[.int .i64 0, .slice none 0 0, .string (⟨#[]⟩ : ByteArray), .bool false]) (t := 24) ?hr ?_; (case hd => rfl); (case hg => rfl); (case hr => first | (go_simp; done) | (go_simp; rfl)); intro gb178 hg w31 hbox hb; have BK178 := Aq8 (hbox); have GW178 := Aq8 ((by rw [hg]; exact (below_size tq8_5) : w.heap.size ≤ gb178)); have GE178 := Aq8 ((by rw [hg]; exact (below_size tq8_5) : w.heap.size ≤ gb178)); replace HB := Aq8 (below_step tq8_5 hb); clear hb hbox hg) | ((with_reducible refine gate_callee (f := 54) rfl ?_); refine goesL_ (some 11) rfl rfl Tryd.func54 (by kernel_rfl) rfl #[.string a0, .string (⟨#[13, 10, 13, 10]⟩ : ByteArray)] rfl tq8_6 ?_; (with_reducible refine (strings_Index.calls a0 (⟨#[13, 10, 13, 10]⟩ : ByteArray) t179 _ A2.out ?side1).mono ?_); (case side1 => exact HG.out.step (tq8_8 GE178.out) rfl); rintro e w' ⟨rfl, ⟨nd, rfl⟩⟩; refine ⟨_, rfl, ?_⟩; (try (rw [drewN_self w31]; generalize hq_ : World.drewN w31 _ = w31; have n0_ : Aside0 (w31.heap[gb178]? = some (.cells #[.int .i64 0, .slice none 0 0, .string (⟨#[]⟩ : ByteArray), .bool false] 24 (0, 0))) := ⟨by rw [← hq_]; exact (tq8_4 BK178.out)⟩; have n1_ : Aside0 (Below w.heap.size w w31) := ⟨by rw [← hq_]; exact (tq8_8 GE178.out)⟩; clear BK178 HB hq_; have BK178 := n0_; have HB := n1_; clear n0_ n1_))) | ((with_reducible refine gate_callee (f := 55) rfl ?_); refine goesL_ (some 20) rfl rfl Tryd.func55 (by kernel_rfl) rfl #[.string (a0.extract 0 (t179 : Int).toNat)] rfl tq8_6 ?_; (with_reducible refine (reply_heading.calls k (a0.extract 0 (t179 : Int).toNat) t181 t182 t185 t186 t187 true _ A12.out ?side1).mono ?_); (case side1 => exact HG.out.step (tq8_8 GE178.out) rfl); rintro e w32 ⟨v183, rfl, ho0, hb⟩; refine ⟨_, rfl, ?_⟩; have HO184 := Aq8 (Kd.R_lower ho0 (below_size (tq8_8 GE178.out))); replace BK178 := Aq8 (blk_below (g := gb178) (o := .cells #[.int .i64 0, .slice none 0 0, .string (⟨#[]⟩ : ByteArray), .bool false] 24 (0, 0)) (tq8_4 BK178.out) hb); replace HB := Aq8 (below_step (tq8_8 GE178.out) hb); (try clear hb); (try clear hb2); (try clear hk); (try clear hi); (try clear ho0)) | ((with_reducible refine gate_dst (N := 6) rfl ?_); refine box_event ?hg (N := 6) ?hd (cs := #[.int .i64 0, .slice none 0 0, .string (⟨#[]⟩ : ByteArray), .bool false]) (t := 24) ?hr ?_; (case hd => rfl); (case hg => rfl); (case hr => first | (go_simp; done) | (go_simp; rfl)); intro gb189 hg w33 hbox hb; replace HO184 := Aq8 (Kd.R_below (tq8_3 HO184.out) hb); have BK189 := Aq8 (hbox); have GW189 := Aq8 ((by rw [hg]; exact (below_size (tq8_8 GE178.out)) : w.heap.size ≤ gb189)); have GE189 := Aq8 ((by rw [hg]; exact (below_size (tq8_8 GE178.out)) : w.heap.size ≤ gb189)); have NB178_189 := Aq8 ((by rw [hg]; exact Nat.ne_of_lt (blk_lt (g := gb178) (o := .cells #[.int .i64 0, .slice none 0 0, .string (⟨#[]⟩ : ByteArray), .bool false] 24 (0, 0)) (tq8_4 BK178.out)) : gb178 ≠ gb189)); have NB189_178 := Aq8 ((by rw [hg]; exact Nat.ne_of_gt (blk_lt (g := gb178) (o := .cells #[.int .i64 0, .slice none 0 0, .string (⟨#[]⟩ : ByteArray), .bool false] 24 (0, 0)) (tq8_4 BK178.out)) : gb189 ≠ gb178)); replace BK178 := Aq8 (blk_below (g := gb178) (o := .cells #[.int .i64 0, .slice none 0 0, .string (⟨#[]⟩ : ByteArray), .bool false] 24 (0, 0)) (tq8_4 BK178.out) hb); replace HB := Aq8 (below_step (tq8_8 GE178.out) hb); clear hb hbox hg; have hnb34 := NB189_178.out; have hnc34 := NB178_189.out; have hcz35_0 : w33.cell? ⟨gb189, 0, none⟩ = some (.int .i64 0) := (blk_cell BK189.out 0).trans rfl; have hcz35_1 : w33.cell? ⟨gb189, 1, none⟩ = some (.slice none 0 0) := (blk_cell BK189.out 1).trans rfl; have hcz35_2 : w33.cell? ⟨gb189, 2, none⟩ = some (.string (⟨#[]⟩ : ByteArray)) := (blk_cell BK189.out 2).trans rfl; have hcz35_3 : w33.cell? ⟨gb189, 3, none⟩ = some (.bool false) := (blk_cell BK189.out 3).trans rfl; have hfz35_0 := blk_frozen BK189.out 0; have hfz35_1 := blk_frozen BK189.out 1; have hfz35_2 := blk_frozen BK189.out 2; have hfz35_3 := blk_frozen BK189.out 3; obtain ⟨Ao36, co36, eo36⟩ := Kd.R_slice HO184.out; subst eo36))
         have n0_ : Aside0 (Kd.R k26 26 (((((w33.setCell ⟨gb189, 0, none⟩ (.int .i64 t181)).setCell ⟨gb189, 1, none⟩ (.slice Ao36 t182.length co36)).setCell ⟨gb189, 2, none⟩ (.string t185)).setCell ⟨gb189, 3, none⟩ (.bool t186)).setCell ⟨gb189, 2, none⟩ (.string (a0.extract ((ji27) : Int).toNat ((wrap64 ((ji27) + t187)) : Int).toNat))) w.heap.size (fun _ => True) (.slice Ao36 t182.length co36) t182) := ⟨by (with_reducible repeat (first | apply Kd.R_alloc | apply Kd.R_drewN | apply Kd.R_drew)); exact Kd.R_mono (Kd.R_far (p := ⟨gb189, 2, none⟩) (Kd.R_far (p := ⟨gb189, 3, none⟩) (Kd.R_far (p := ⟨gb189, 2, none⟩) (Kd.R_far (p := ⟨gb189, 1, none⟩) (Kd.R_far (p := ⟨gb189, 0, none⟩) (Kd.R_types HO184.out BK189.out (by decide)) (fun _ hk => hk.2) (.int .i64 t181)) (fun _ hk => hk.2) (.slice Ao36 t182.length co36)) (fun _ hk => hk.2) (.string t185)) (fun _ hk => hk.2) (.bool t186)) (fun _ hk => hk.2) (.string (a0.extract ((ji27) : Int).toNat ((wrap64 ((ji27) + t187)) : Int).toNat))) (fun _ hk => trivial)⟩
         have n1_ : Aside0 ((((((w33.setCell ⟨gb189, 0, none⟩ (.int .i64 t181)).setCell ⟨gb189, 1, none⟩ (.slice Ao36 t182.length co36)).setCell ⟨gb189, 2, none⟩ (.string t185)).setCell ⟨gb189, 3, none⟩ (.bool t186)).setCell ⟨gb189, 2, none⟩ (.string (a0.extract ((ji27) : Int).toNat ((wrap64 ((ji27) + t187)) : Int).toNat))).heap[gb178]? = some (.cells #[.int .i64 0, .slice none 0 0, .string (⟨#[]⟩ : ByteArray), .bool false] 24 (0, 0))) := ⟨by (iterate 5 ((with_reducible repeat (first | refine blk_drewN ?_ _ | refine blk_drew ?_ | refine blk_alloc ?_ _)); refine blk_far ?_ NB178_189.out _)); (with_reducible repeat (first | refine blk_drewN ?_ _ | refine blk_drew ?_ | refine blk_alloc ?_ _)); exact BK178.out⟩
         have n2_ : Aside0 ((((((w33.setCell ⟨gb189, 0, none⟩ (.int .i64 t181)).setCell ⟨gb189, 1, none⟩ (.slice Ao36 t182.length co36)).setCell ⟨gb189, 2, none⟩ (.string t185)).setCell ⟨gb189, 3, none⟩ (.bool t186)).setCell ⟨gb189, 2, none⟩ (.string (a0.extract ((ji27) : Int).toNat ((wrap64 ((ji27) + t187)) : Int).toNat))).heap[gb189]? = some (.cells #[.int .i64 t181, .slice Ao36 t182.length co36, .string (a0.extract ((ji27) : Int).toNat ((wrap64 ((ji27) + t187)) : Int).toNat), .bool t186] 24 (0, 0))) := ⟨by (with_reducible repeat (first | refine blk_drewN ?_ _ | refine blk_drew ?_ | refine blk_alloc ?_ _)); refine blk_put (cs := #[.int .i64 t181, .slice Ao36 t182.length co36, .string t185, .bool t186]) ?_ 2 _ rfl; (with_reducible repeat (first | refine blk_drewN ?_ _ | refine blk_drew ?_ | refine blk_alloc ?_ _)); refine blk_put (cs := #[.int .i64 t181, .slice Ao36 t182.length co36, .string t185, .bool false]) ?_ 3 _ rfl; (with_reducible repeat (first | refine blk_drewN ?_ _ | refine blk_drew ?_ | refine blk_alloc ?_ _)); refine blk_put (cs := #[.int .i64 t181, .slice Ao36 t182.length co36, .string (⟨#[]⟩ : ByteArray), .bool false]) ?_ 2 _ rfl; (with_reducible repeat (first | refine blk_drewN ?_ _ | refine blk_drew ?_ | refine blk_alloc ?_ _)); refine blk_put (cs := #[.int .i64 t181, .slice none 0 0, .string (⟨#[]⟩ : ByteArray), .bool false]) ?_ 1 _ rfl; (with_reducible repeat (first | refine blk_drewN ?_ _ | refine blk_drew ?_ | refine blk_alloc ?_ _)); refine blk_put (cs := #[.int .i64 0, .slice none 0 0, .string (⟨#[]⟩ : ByteArray), .bool false]) ?_ 0 _ rfl; (with_reducible repeat (first | refine blk_drewN ?_ _ | refine blk_drew ?_ | refine blk_alloc ?_ _)); exact BK189.out⟩
         have n3_ : Aside0 (Below w.heap.size w (((((w33.setCell ⟨gb189, 0, none⟩ (.int .i64 t181)).setCell ⟨gb189, 1, none⟩ (.slice Ao36 t182.length co36)).setCell ⟨gb189, 2, none⟩ (.string t185)).setCell ⟨gb189, 3, none⟩ (.bool t186)).setCell ⟨gb189, 2, none⟩ (.string (a0.extract ((ji27) : Int).toNat ((wrap64 ((ji27) + t187)) : Int).toNat)))) := ⟨(tq8_9 GE178.out GE189.out)⟩
         (try clear HO184)
         (try clear BK178)
         (try clear BK189)
         (try clear HB)
         generalize (((((w33.setCell ⟨gb189, 0, none⟩ (.int .i64 t181)).setCell ⟨gb189, 1, none⟩ (.slice Ao36 t182.length co36)).setCell ⟨gb189, 2, none⟩ (.string t185)).setCell ⟨gb189, 3, none⟩ (.bool t186)).setCell ⟨gb189, 2, none⟩ (.string (a0.extract ((ji27) : Int).toNat ((wrap64 ((ji27) + t187)) : Int).toNat))) = w37 at n0_ n1_ n2_ n3_ ⊢
         have HO184 := n0_
         have BK178 := n1_
         have BK189 := n2_
         have HB := n3_
         clear n0_ n1_ n2_ n3_
         have hcz38_0 : w37.cell? ⟨gb189, 0, none⟩ = some (.int .i64 t181) := (blk_cell BK189.out 0).trans rfl
         have hcz38_1 : w37.cell? ⟨gb189, 1, none⟩ = some (.slice Ao36 t182.length co36) := (blk_cell BK189.out 1).trans rfl
         have hcz38_2 : w37.cell? ⟨gb189, 2, none⟩ = some (.string (a0.extract ((ji27) : Int).toNat ((wrap64 ((ji27) + t187)) : Int).toNat)) := (blk_cell BK189.out 2).trans rfl
         have hcz38_3 : w37.cell? ⟨gb189, 3, none⟩ = some (.bool t186) := (blk_cell BK189.out 3).trans rfl
         have hfz38_0 := blk_frozen BK189.out 0
         have hfz38_1 := blk_frozen BK189.out 1
         have hfz38_2 := blk_frozen BK189.out 2
         have hfz38_3 := blk_frozen BK189.out 3
         have hcz39_0 : w37.cell? ⟨gb178, 0, none⟩ = some (.int .i64 0) := (blk_cell BK178.out 0).trans rfl
         have hcz39_1 : w37.cell? ⟨gb178, 1, none⟩ = some (.slice none 0 0) := (blk_cell BK178.out 1).trans rfl
         have hcz39_2 : w37.cell? ⟨gb178, 2, none⟩ = some (.string (⟨#[]⟩ : ByteArray)) := (blk_cell BK178.out 2).trans rfl
         have hcz39_3 : w37.cell? ⟨gb178, 3, none⟩ = some (.bool false) := (blk_cell BK178.out 3).trans rfl
         have hfz39_0 := blk_frozen BK178.out 0
         have hfz39_1 := blk_frozen BK178.out 1
         have hfz39_2 := blk_frozen BK178.out 2
         have hfz39_3 := blk_frozen BK178.out 3
         try go_wp2
         refine bodyPost_ret (results_ctt rfl _ _ gb178 24 #[.int .i64 t181, .slice Ao36 t182.length co36, .string (a0.extract ((ji27) : Int).toNat ((wrap64 ((ji27) + t187)) : Int).toNat), .bool t186] (0, 0) _ rfl (by (with_reducible repeat (first | refine blk_drewN ?_ _ | refine blk_drew ?_ | refine blk_alloc ?_ _)); refine blk_put (cs := #[.int .i64 t181, .slice Ao36 t182.length co36, .string (a0.extract ((ji27) : Int).toNat ((wrap64 ((ji27) + t187)) : Int).toNat), .bool false]) ?_ 3 _ rfl; (with_reducible repeat (first | refine blk_drewN ?_ _ | refine blk_drew ?_ | refine blk_alloc ?_ _)); refine blk_put (cs := #[.int .i64 t181, .slice Ao36 t182.length co36, .string (⟨#[]⟩ : ByteArray), .bool false]) ?_ 2 _ rfl; (with_reducible repeat (first | refine blk_drewN ?_ _ | refine blk_drew ?_ | refine blk_alloc ?_ _)); refine blk_put (cs := #[.int .i64 t181, .slice none 0 0, .string (⟨#[]⟩ : ByteArray), .bool false]) ?_ 1 _ rfl; (with_reducible repeat (first | refine blk_drewN ?_ _ | refine blk_drew ?_ | refine blk_alloc ?_ _)); refine blk_put (cs := #[.int .i64 0, .slice none 0 0, .string (⟨#[]⟩ : ByteArray), .bool false]) ?_ 0 _ rfl; (with_reducible repeat (first | refine blk_drewN ?_ _ | refine blk_drew ?_ | refine blk_alloc ?_ _)); exact BK178.out) Tryd.underlying24 rfl (by kernel_rfl)) rfl ?_
         exact ⟨_, by first | rfl | (simp [errW_none, errW_some] <;> rfl) | (simp only [← hji27]; first | rfl | (simp [errW_none, errW_some] <;> rfl)) | (simp [*, errW_none, errW_some] <;> rfl), by (with_reducible repeat (first | apply Kd.R_alloc | apply Kd.R_drewN | apply Kd.R_drew)); exact Kd.R_mono (Kd.R_far (p := ⟨gb178, 3, none⟩) (Kd.R_far (p := ⟨gb178, 2, none⟩) (Kd.R_far (p := ⟨gb178, 1, none⟩) (Kd.R_far (p := ⟨gb178, 0, none⟩) (Kd.R_types HO184.out BK178.out (by decide)) (fun _ hk => hk.2) (.int .i64 t181)) (fun _ hk => hk.2) (.slice Ao36 t182.length co36)) (fun _ hk => hk.2) (.string (a0.extract ((ji27) : Int).toNat ((wrap64 ((ji27) + t187)) : Int).toNat))) (fun _ hk => hk.2) (.bool t186)) (fun _ hk => trivial), (tq8_9 GE178.out GE189.out)⟩
        ·rw [if_neg c30] at H
         exact absurd H (by simp)
       ·rw [if_neg c29] at H
        exact absurd H (by simp)
      ·rw [if_neg c28] at H
       exact absurd H (by simp)
    ·replace c13 := Bool.eq_false_iff.mpr c13
     subst c13
     have H1 : (some (0, ([] : List (S26)), (⟨#[]⟩ : ByteArray), false, 0, some 2)) = some (r1, r2, r3, r4, r5, r6) := by rw [if_neg (show ¬ (false = true) by decide)] at H; exact H
     clear H
     have H := H1
     clear H1
     simp only [Option.some.injEq, Prod.mk.injEq] at H
     obtain ⟨rfl, rfl, rfl, rfl, rfl, rfl⟩ := H
     go_enter Tryd.func32, Tryd.ntmps32
     try go_wp2_with (first | ((with_reducible refine gate_dst (N := 2) rfl ?_); refine box_event ?hg (N := 2) ?hd (cs := #[.int .i64 0, .slice none 0 0, .string (⟨#[]⟩ : ByteArray), .bool false]) (t := 24) ?hr ?_; (case hd => rfl); (case hg => rfl); (case hr => first | (go_simp; done) | (go_simp; rfl)); intro gb178 hg w40 hbox hb; have BK178 := Aq8 (hbox); have GW178 := Aq8 ((by rw [hg]; exact (below_size tq8_5) : w.heap.size ≤ gb178)); have GE178 := Aq8 ((by rw [hg]; exact (below_size tq8_5) : w.heap.size ≤ gb178)); replace HB := Aq8 (below_step tq8_5 hb); clear hb hbox hg) | ((with_reducible refine gate_callee (f := 54) rfl ?_); refine goesL_ (some 11) rfl rfl Tryd.func54 (by kernel_rfl) rfl #[.string a0, .string (⟨#[13, 10, 13, 10]⟩ : ByteArray)] rfl tq8_6 ?_; (with_reducible refine (strings_Index.calls a0 (⟨#[13, 10, 13, 10]⟩ : ByteArray) t179 _ A2.out ?side1).mono ?_); (case side1 => exact HG.out.step (tq8_8 GE178.out) rfl); rintro e w' ⟨rfl, ⟨nd, rfl⟩⟩; refine ⟨_, rfl, ?_⟩; (try (rw [drewN_self w40]; generalize hq_ : World.drewN w40 _ = w40; have n0_ : Aside0 (w40.heap[gb178]? = some (.cells #[.int .i64 0, .slice none 0 0, .string (⟨#[]⟩ : ByteArray), .bool false] 24 (0, 0))) := ⟨by rw [← hq_]; exact (tq8_4 BK178.out)⟩; have n1_ : Aside0 (Below w.heap.size w w40) := ⟨by rw [← hq_]; exact (tq8_8 GE178.out)⟩; clear BK178 HB hq_; have BK178 := n0_; have HB := n1_; clear n0_ n1_))) | ((with_reducible refine gate_callee (f := 55) rfl ?_); refine goesL_ (some 20) rfl rfl Tryd.func55 (by kernel_rfl) rfl #[.string (a0.extract 0 (t179 : Int).toNat)] rfl tq8_6 ?_; (with_reducible refine (reply_heading.calls k (a0.extract 0 (t179 : Int).toNat) t181 t182 t185 t186 t187 false _ A12.out ?side1).mono ?_); (case side1 => exact HG.out.step (tq8_8 GE178.out) rfl); rintro e w41 ⟨v183, rfl, ho0, hb⟩; refine ⟨_, rfl, ?_⟩; have HO184 := Aq8 (Kd.R_lower ho0 (below_size (tq8_8 GE178.out))); replace BK178 := Aq8 (blk_below (g := gb178) (o := .cells #[.int .i64 0, .slice none 0 0, .string (⟨#[]⟩ : ByteArray), .bool false] 24 (0, 0)) (tq8_4 BK178.out) hb); replace HB := Aq8 (below_step (tq8_8 GE178.out) hb); (try clear hb); (try clear hb2); (try clear hk); (try clear hi); (try clear ho0)) | ((with_reducible refine gate_dst (N := 6) rfl ?_); refine box_event ?hg (N := 6) ?hd (cs := #[.int .i64 0, .slice none 0 0, .string (⟨#[]⟩ : ByteArray), .bool false]) (t := 24) ?hr ?_; (case hd => rfl); (case hg => rfl); (case hr => first | (go_simp; done) | (go_simp; rfl)); intro gb189 hg w42 hbox hb; replace HO184 := Aq8 (Kd.R_below (tq8_3 HO184.out) hb); have BK189 := Aq8 (hbox); have GW189 := Aq8 ((by rw [hg]; exact (below_size (tq8_8 GE178.out)) : w.heap.size ≤ gb189)); have GE189 := Aq8 ((by rw [hg]; exact (below_size (tq8_8 GE178.out)) : w.heap.size ≤ gb189)); have NB178_189 := Aq8 ((by rw [hg]; exact Nat.ne_of_lt (blk_lt (g := gb178) (o := .cells #[.int .i64 0, .slice none 0 0, .string (⟨#[]⟩ : ByteArray), .bool false] 24 (0, 0)) (tq8_4 BK178.out)) : gb178 ≠ gb189)); have NB189_178 := Aq8 ((by rw [hg]; exact Nat.ne_of_gt (blk_lt (g := gb178) (o := .cells #[.int .i64 0, .slice none 0 0, .string (⟨#[]⟩ : ByteArray), .bool false] 24 (0, 0)) (tq8_4 BK178.out)) : gb189 ≠ gb178)); replace BK178 := Aq8 (blk_below (g := gb178) (o := .cells #[.int .i64 0, .slice none 0 0, .string (⟨#[]⟩ : ByteArray), .bool false] 24 (0, 0)) (tq8_4 BK178.out) hb); replace HB := Aq8 (below_step (tq8_8 GE178.out) hb); clear hb hbox hg; have hnb43 := NB189_178.out; have hnc43 := NB178_189.out; have hcz44_0 : w42.cell? ⟨gb189, 0, none⟩ = some (.int .i64 0) := (blk_cell BK189.out 0).trans rfl; have hcz44_1 : w42.cell? ⟨gb189, 1, none⟩ = some (.slice none 0 0) := (blk_cell BK189.out 1).trans rfl; have hcz44_2 : w42.cell? ⟨gb189, 2, none⟩ = some (.string (⟨#[]⟩ : ByteArray)) := (blk_cell BK189.out 2).trans rfl; have hcz44_3 : w42.cell? ⟨gb189, 3, none⟩ = some (.bool false) := (blk_cell BK189.out 3).trans rfl; have hfz44_0 := blk_frozen BK189.out 0; have hfz44_1 := blk_frozen BK189.out 1; have hfz44_2 := blk_frozen BK189.out 2; have hfz44_3 := blk_frozen BK189.out 3; obtain ⟨Ao45, co45, eo45⟩ := Kd.R_slice HO184.out; subst eo45))
     have n0_ : Aside0 (Kd.R k26 26 ((((w42.setCell ⟨gb189, 0, none⟩ (.int .i64 t181)).setCell ⟨gb189, 1, none⟩ (.slice Ao45 t182.length co45)).setCell ⟨gb189, 2, none⟩ (.string t185)).setCell ⟨gb189, 3, none⟩ (.bool t186)) w.heap.size (fun _ => True) (.slice Ao45 t182.length co45) t182) := ⟨by (with_reducible repeat (first | apply Kd.R_alloc | apply Kd.R_drewN | apply Kd.R_drew)); exact Kd.R_mono (Kd.R_far (p := ⟨gb189, 3, none⟩) (Kd.R_far (p := ⟨gb189, 2, none⟩) (Kd.R_far (p := ⟨gb189, 1, none⟩) (Kd.R_far (p := ⟨gb189, 0, none⟩) (Kd.R_types HO184.out BK189.out (by decide)) (fun _ hk => hk.2) (.int .i64 t181)) (fun _ hk => hk.2) (.slice Ao45 t182.length co45)) (fun _ hk => hk.2) (.string t185)) (fun _ hk => hk.2) (.bool t186)) (fun _ hk => trivial)⟩
     have n1_ : Aside0 (((((w42.setCell ⟨gb189, 0, none⟩ (.int .i64 t181)).setCell ⟨gb189, 1, none⟩ (.slice Ao45 t182.length co45)).setCell ⟨gb189, 2, none⟩ (.string t185)).setCell ⟨gb189, 3, none⟩ (.bool t186)).heap[gb178]? = some (.cells #[.int .i64 0, .slice none 0 0, .string (⟨#[]⟩ : ByteArray), .bool false] 24 (0, 0))) := ⟨(tq8_a NB178_189.out BK178.out)⟩
     have n2_ : Aside0 (((((w42.setCell ⟨gb189, 0, none⟩ (.int .i64 t181)).setCell ⟨gb189, 1, none⟩ (.slice Ao45 t182.length co45)).setCell ⟨gb189, 2, none⟩ (.string t185)).setCell ⟨gb189, 3, none⟩ (.bool t186)).heap[gb189]? = some (.cells #[.int .i64 t181, .slice Ao45 t182.length co45, .string t185, .bool t186] 24 (0, 0))) := ⟨by (with_reducible repeat (first | refine blk_drewN ?_ _ | refine blk_drew ?_ | refine blk_alloc ?_ _)); refine blk_put (cs := #[.int .i64 t181, .slice Ao45 t182.length co45, .string t185, .bool false]) ?_ 3 _ rfl; (with_reducible repeat (first | refine blk_drewN ?_ _ | refine blk_drew ?_ | refine blk_alloc ?_ _)); refine blk_put (cs := #[.int .i64 t181, .slice Ao45 t182.length co45, .string (⟨#[]⟩ : ByteArray), .bool false]) ?_ 2 _ rfl; (with_reducible repeat (first | refine blk_drewN ?_ _ | refine blk_drew ?_ | refine blk_alloc ?_ _)); refine blk_put (cs := #[.int .i64 t181, .slice none 0 0, .string (⟨#[]⟩ : ByteArray), .bool false]) ?_ 1 _ rfl; (with_reducible repeat (first | refine blk_drewN ?_ _ | refine blk_drew ?_ | refine blk_alloc ?_ _)); refine blk_put (cs := #[.int .i64 0, .slice none 0 0, .string (⟨#[]⟩ : ByteArray), .bool false]) ?_ 0 _ rfl; (with_reducible repeat (first | refine blk_drewN ?_ _ | refine blk_drew ?_ | refine blk_alloc ?_ _)); exact BK189.out⟩
     have n3_ : Aside0 (Below w.heap.size w ((((w42.setCell ⟨gb189, 0, none⟩ (.int .i64 t181)).setCell ⟨gb189, 1, none⟩ (.slice Ao45 t182.length co45)).setCell ⟨gb189, 2, none⟩ (.string t185)).setCell ⟨gb189, 3, none⟩ (.bool t186))) := ⟨(tq8_9 GE178.out GE189.out)⟩
     (try clear HO184)
     (try clear BK178)
     (try clear BK189)
     (try clear HB)
     generalize ((((w42.setCell ⟨gb189, 0, none⟩ (.int .i64 t181)).setCell ⟨gb189, 1, none⟩ (.slice Ao45 t182.length co45)).setCell ⟨gb189, 2, none⟩ (.string t185)).setCell ⟨gb189, 3, none⟩ (.bool t186)) = w46 at n0_ n1_ n2_ n3_ ⊢
     have HO184 := n0_
     have BK178 := n1_
     have BK189 := n2_
     have HB := n3_
     clear n0_ n1_ n2_ n3_
     have n0_ := Aq8 (Kd.R_drew HO184.out)
     have n1_ := Aq8 (blk_drew BK178.out)
     have n2_ := Aq8 (blk_drew BK189.out)
     have n3_ := Aq8 (below_drew1 HB.out)
     clear HO184
     clear BK178
     clear BK189
     clear HB
     have HO184 := n0_
     have BK178 := n1_
     have BK189 := n2_
     have HB := n3_
     clear n0_ n1_ n2_ n3_
     have hgwq191 := Glob.err2 HG.out (by rfl)
     have hgeq191 := Glob.err2 (HG.out.step HB.out (T := [0, 1, 2, 5, 8, 9, 16, 18, 19]) rfl) (by rfl)
     refine start_ (n := 5) (S := fun w' => w'.cell? ⟨1, 0, none⟩ = some (.iface 143 (.pointer (some (Sent.addr 2))))) (ds := []) #[false, false, false, false, false] (by kernel_rfl) rfl rfl (((HB.out.cell (World.block_lt_of_cell? w _ hgwq191)).trans hgwq191)) (fun hHeld => ?_)
     generalize w46.drew = w47 at HO184 BK178 BK189 HB hHeld ⊢
     refine pure_ (i := 0) (N := some 26) (v := ?_) (a' := ?_) #[true, false, false, false, false] rfl rfl (by kernel_rfl) (fun _ _ _ h => h) (Or.inl ⟨by rfl, ?_⟩) ?_ ?_
     rotate_left
     ·intro w'
      go_simp
      with_reducible rfl
     rotate_left
     ·simp only [Act.put, List.setIfInBounds_toArray, List.set_cons_zero, List.set_cons_succ, i64_w, i32_w]
      rfl
     refine take_ (i := 1) (N := some 27) (v := ?_) (a' := ?_) #[true, true, false, false, false] rfl rfl (by kernel_rfl) (fun _ _ _ h => h) (Or.inl ⟨by rfl, ?_⟩) hHeld ?_ ?_
     rotate_left
     ·intro w' s0
      go_simp
      with_reducible rfl
     rotate_left
     ·simp only [Act.put, List.setIfInBounds_toArray, List.set_cons_zero, List.set_cons_succ, i64_w, i32_w]
      rfl
     refine one_ (i := 2) (N := none) #[true, true, true, false, false] rfl rfl (by kernel_rfl) (by decide) (fun K hK => ?_)
     have hs48 : w47.cell? ⟨gb178, 0, none⟩ = some (.int .i64 0) := (blk_cell BK178.out 0).trans rfl
     have hfs48 := blk_frozen BK178.out 0
     have hns48_1 := NB189_178.out
     have hms48_1 := NB178_189.out
     have hs49 : w47.cell? ⟨gb178, 1, none⟩ = some (.slice none 0 0) := (blk_cell BK178.out 1).trans rfl
     have hfs49 := blk_frozen BK178.out 1
     have hns49_1 := NB189_178.out
     have hms49_1 := NB178_189.out
     have hs50 : w47.cell? ⟨gb178, 2, none⟩ = some (.string (⟨#[]⟩ : ByteArray)) := (blk_cell BK178.out 2).trans rfl
     have hfs50 := blk_frozen BK178.out 2
     have hns50_1 := NB189_178.out
     have hms50_1 := NB178_189.out
     have hs51 : w47.cell? ⟨gb178, 3, none⟩ = some (.bool false) := (blk_cell BK178.out 3).trans rfl
     have hfs51 := blk_frozen BK178.out 3
     have hns51_1 := NB189_178.out
     have hms51_1 := NB178_189.out
     refine skip_ (w1 := ?_) (by rfl) rfl ?_ ?_
     rotate_left
     ·go_simp
      rfl
     refine hK.out _ _ (((cell_far (p := ⟨gb178, _, none⟩) (tq8_d GW178.out) _).trans (((cell_far (p := ⟨gb178, _, none⟩) (tq8_d GW178.out) _).trans (((cell_far (p := ⟨gb178, _, none⟩) (tq8_d GW178.out) _).trans (((cell_far (p := ⟨gb178, _, none⟩) (tq8_d GW178.out) _).trans (hHeld))))))))) (fun hHeld => ?_)
     clear hK K
     refine pure_ (i := 3) (N := some 3) (v := ?_) (a' := ?_) #[true, true, true, true, false] rfl rfl (by kernel_rfl) (fun _ _ _ h => h) (Or.inl ⟨by rfl, ?_⟩) ?_ ?_
     rotate_left
     ·intro w'
      go_simp
      with_reducible rfl
     rotate_left
     ·simp only [Act.put, List.setIfInBounds_toArray, List.set_cons_zero, List.set_cons_succ, i64_w, i32_w]
      rfl
     refine pure_ (i := 4) (N := some 4) (v := ?_) (a' := ?_) #[true, true, true, true, true] rfl rfl (by kernel_rfl) (fun _ _ _ h => h) (Or.inl ⟨by rfl, ?_⟩) ?_ ?_
     rotate_left
     ·intro w'
      go_simp
      with_reducible rfl
     rotate_left
     ·simp only [Act.put, List.setIfInBounds_toArray, List.set_cons_zero, List.set_cons_succ, i64_w, i32_w]
      rfl
     refine done_ (by kernel_rfl) ?_
     try go_wp2
     refine bodyPost_ret (results_ctt rfl _ _ gb178 24 #[.int .i64 0, .slice none 0 0, .string (⟨#[]⟩ : ByteArray), .bool false] (0, 0) _ rfl (tq8_e BK178.out) Tryd.underlying24 rfl (by kernel_rfl)) rfl ?_
     exact ⟨_, tq8_2, tq8_7, (tq8_9 GE178.out GE189.out)⟩
   ·rw [if_neg c11] at H
    exact absurd H (by simp)
  ·rw [if_neg c10] at H
   exact absurd H (by simp)

/-! ### usherref8_rarer: function 84 -/
def usherref8_rarer.f (a0 : Int) : Option (ByteArray) := if a0 = 413 then (some (⟨#[67, 111, 110, 116, 101, 110, 116, 32, 84, 111, 111, 32, 76, 97, 114, 103, 101]⟩ : ByteArray)) else (if a0 = 415 then (some (⟨#[85, 110, 115, 117, 112, 112, 111, 114, 116, 101, 100, 32, 77, 101, 100, 105, 97, 32, 84, 121, 112, 101]⟩ : ByteArray)) else (if a0 = 417 then (some (⟨#[69, 120, 112, 101, 99, 116, 97, 116, 105, 111, 110, 32, 70, 97, 105, 108, 101, 100]⟩ : ByteArray)) else (if a0 = 429 then (some (⟨#[84, 111, 111, 32, 77, 97, 110, 121, 32, 82, 101, 113, 117, 101, 115, 116, 115]⟩ : ByteArray)) else (if a0 = 431 then (some (⟨#[82, 101, 113, 117, 101, 115, 116, 32, 72, 101, 97, 100, 101, 114, 32, 70, 105, 101, 108, 100, 115, 32, 84, 111, 111, 32, 76, 97, 114, 103, 101]⟩ : ByteArray)) else (if a0 = 500 then (some (⟨#[73, 110, 116, 101, 114, 110, 97, 108, 32, 83, 101, 114, 118, 101, 114, 32, 69, 114, 114, 111, 114]⟩ : ByteArray)) else (if a0 = 501 then (some (⟨#[78, 111, 116, 32, 73, 109, 112, 108, 101, 109, 101, 110, 116, 101, 100]⟩ : ByteArray)) else (if a0 = 503 then (some (⟨#[83, 101, 114, 118, 105, 99, 101, 32, 85, 110, 97, 118, 97, 105, 108, 97, 98, 108, 101]⟩ : ByteArray)) else (if a0 = 505 then (some (⟨#[72, 84, 84, 80, 32, 86, 101, 114, 115, 105, 111, 110, 32, 78, 111, 116, 32, 83, 117, 112, 112, 111, 114, 116, 101, 100]⟩ : ByteArray)) else (some (⟨#[]⟩ : ByteArray))))))))))
set_option maxHeartbeats 8000000 in
set_option maxRecDepth 100000 in
theorem usherref8_rarer.calls (a0 : Int) (r : ByteArray) (w : World) (h : usherref8_rarer.f a0 = some r) :
  Calls Tryd.prog 84 #[.int .i64 a0] w fun e w' => e = .returned (.string r) ∧ Drawn0 w w' := by
 have H : (if a0 = 413 then (some (⟨#[67, 111, 110, 116, 101, 110, 116, 32, 84, 111, 111, 32, 76, 97, 114, 103, 101]⟩ : ByteArray)) else (if a0 = 415 then (some (⟨#[85, 110, 115, 117, 112, 112, 111, 114, 116, 101, 100, 32, 77, 101, 100, 105, 97, 32, 84, 121, 112, 101]⟩ : ByteArray)) else (if a0 = 417 then (some (⟨#[69, 120, 112, 101, 99, 116, 97, 116, 105, 111, 110, 32, 70, 97, 105, 108, 101, 100]⟩ : ByteArray)) else (if a0 = 429 then (some (⟨#[84, 111, 111, 32, 77, 97, 110, 121, 32, 82, 101, 113, 117, 101, 115, 116, 115]⟩ : ByteArray)) else (if a0 = 431 then (some (⟨#[82, 101, 113, 117, 101, 115, 116, 32, 72, 101, 97, 100, 101, 114, 32, 70, 105, 101, 108, 100, 115, 32, 84, 111, 111, 32, 76, 97, 114, 103, 101]⟩ : ByteArray)) else (if a0 = 500 then (some (⟨#[73, 110, 116, 101, 114, 110, 97, 108, 32, 83, 101, 114, 118, 101, 114, 32, 69, 114, 114, 111, 114]⟩ : ByteArray)) else (if a0 = 501 then (some (⟨#[78, 111, 116, 32, 73, 109, 112, 108, 101, 109, 101, 110, 116, 101, 100]⟩ : ByteArray)) else (if a0 = 503 then (some (⟨#[83, 101, 114, 118, 105, 99, 101, 32, 85, 110, 97, 118, 97, 105, 108, 97, 98, 108, 101]⟩ : ByteArray)) else (if a0 = 505 then (some (⟨#[72, 84, 84, 80, 32, 86, 101, 114, 115, 105, 111, 110, 32, 78, 111, 116, 32, 83, 117, 112, 112, 111, 114, 116, 101, 100]⟩ : ByteArray)) else (some (⟨#[]⟩ : ByteArray))))))))))) = some r := h
 clear h
 by_cases c2 : a0 = 413
 ·rw [if_pos c2] at H
  have c2b0 : (a0 == 413) = true := beq_iff_eq.mpr c2
  have c2b1 : (a0 != 413) = false := bne_eq_false_iff_eq.mpr c2
  clear c2
  obtain rfl := Option.some.inj H
  go_enter Tryd.func84, Tryd.ntmps84
  go_wp2
  go_ret
  exact ⟨tq8_0, tq8_1⟩
 ·rw [if_neg c2] at H
  have c2b0 : (a0 == 413) = false := beq_eq_false_iff_ne.mpr c2
  have c2b1 : (a0 != 413) = true := bne_iff_ne.mpr c2
  by_cases c3 : a0 = 415
  ·rw [if_pos c3] at H
   have c3b0 : (a0 == 415) = true := beq_iff_eq.mpr c3
   have c3b1 : (a0 != 415) = false := bne_eq_false_iff_eq.mpr c3
   clear c3
   obtain rfl := Option.some.inj H
   go_enter Tryd.func84, Tryd.ntmps84
   go_wp2
   go_ret
   exact ⟨tq8_0, tq8_1⟩
  ·rw [if_neg c3] at H
   have c3b0 : (a0 == 415) = false := beq_eq_false_iff_ne.mpr c3
   have c3b1 : (a0 != 415) = true := bne_iff_ne.mpr c3
   by_cases c4 : a0 = 417
   ·rw [if_pos c4] at H
    have c4b0 : (a0 == 417) = true := beq_iff_eq.mpr c4
    have c4b1 : (a0 != 417) = false := bne_eq_false_iff_eq.mpr c4
    clear c4
    obtain rfl := Option.some.inj H
    go_enter Tryd.func84, Tryd.ntmps84
    go_wp2
    go_ret
    exact ⟨tq8_0, tq8_1⟩
   ·rw [if_neg c4] at H
    have c4b0 : (a0 == 417) = false := beq_eq_false_iff_ne.mpr c4
    have c4b1 : (a0 != 417) = true := bne_iff_ne.mpr c4
    by_cases c5 : a0 = 429
    ·rw [if_pos c5] at H
     have c5b0 : (a0 == 429) = true := beq_iff_eq.mpr c5
     have c5b1 : (a0 != 429) = false := bne_eq_false_iff_eq.mpr c5
     clear c5
     obtain rfl := Option.some.inj H
     go_enter Tryd.func84, Tryd.ntmps84
     go_wp2
     go_ret
     exact ⟨tq8_0, tq8_1⟩
    ·rw [if_neg c5] at H
     have c5b0 : (a0 == 429) = false := beq_eq_false_iff_ne.mpr c5
     have c5b1 : (a0 != 429) = true := bne_iff_ne.mpr c5
     by_cases c6 : a0 = 431
     ·rw [if_pos c6] at H
      have c6b0 : (a0 == 431) = true := beq_iff_eq.mpr c6
      have c6b1 : (a0 != 431) = false := bne_eq_false_iff_eq.mpr c6
      clear c6
      obtain rfl := Option.some.inj H
      go_enter Tryd.func84, Tryd.ntmps84
      go_wp2
      go_ret
      exact ⟨tq8_0, tq8_1⟩
     ·rw [if_neg c6] at H
      have c6b0 : (a0 == 431) = false := beq_eq_false_iff_ne.mpr c6
      have c6b1 : (a0 != 431) = true := bne_iff_ne.mpr c6
      by_cases c7 : a0 = 500
      ·rw [if_pos c7] at H
       have c7b0 : (a0 == 500) = true := beq_iff_eq.mpr c7
       have c7b1 : (a0 != 500) = false := bne_eq_false_iff_eq.mpr c7
       clear c7
       obtain rfl := Option.some.inj H
       go_enter Tryd.func84, Tryd.ntmps84
       go_wp2
       go_ret
       exact ⟨tq8_0, tq8_1⟩
      ·rw [if_neg c7] at H
       have c7b0 : (a0 == 500) = false := beq_eq_false_iff_ne.mpr c7
       have c7b1 : (a0 != 500) = true := bne_iff_ne.mpr c7
       by_cases c8 : a0 = 501
       ·rw [if_pos c8] at H
        have c8b0 : (a0 == 501) = true := beq_iff_eq.mpr c8
        have c8b1 : (a0 != 501) = false := bne_eq_false_iff_eq.mpr c8
        clear c8
        obtain rfl := Option.some.inj H
        go_enter Tryd.func84, Tryd.ntmps84
        go_wp2
        go_ret
        exact ⟨tq8_0, tq8_1⟩
       ·rw [if_neg c8] at H
        have c8b0 : (a0 == 501) = false := beq_eq_false_iff_ne.mpr c8
        have c8b1 : (a0 != 501) = true := bne_iff_ne.mpr c8
        by_cases c9 : a0 = 503
        ·rw [if_pos c9] at H
         have c9b0 : (a0 == 503) = true := beq_iff_eq.mpr c9
         have c9b1 : (a0 != 503) = false := bne_eq_false_iff_eq.mpr c9
         clear c9
         obtain rfl := Option.some.inj H
         go_enter Tryd.func84, Tryd.ntmps84
         go_wp2
         go_ret
         exact ⟨tq8_0, tq8_1⟩
        ·rw [if_neg c9] at H
         have c9b0 : (a0 == 503) = false := beq_eq_false_iff_ne.mpr c9
         have c9b1 : (a0 != 503) = true := bne_iff_ne.mpr c9
         by_cases c10 : a0 = 505
         ·rw [if_pos c10] at H
          have c10b0 : (a0 == 505) = true := beq_iff_eq.mpr c10
          have c10b1 : (a0 != 505) = false := bne_eq_false_iff_eq.mpr c10
          clear c10
          obtain rfl := Option.some.inj H
          go_enter Tryd.func84, Tryd.ntmps84
          go_wp2
          go_ret
          exact ⟨tq8_0, tq8_1⟩
         ·rw [if_neg c10] at H
          have c10b0 : (a0 == 505) = false := beq_eq_false_iff_ne.mpr c10
          have c10b1 : (a0 != 505) = true := bne_iff_ne.mpr c10
          obtain rfl := Option.some.inj H
          go_enter Tryd.func84, Tryd.ntmps84
          go_wp2
          go_ret
          exact ⟨tq8_0, tq8_1⟩

/-! ### usherref8_Reason: function 64 -/
def usherref8_Reason.f (a0 : Int) : Option (ByteArray) := if a0 = 200 then (some (⟨#[79, 75]⟩ : ByteArray)) else (if a0 = 302 then (some (⟨#[70, 111, 117, 110, 100]⟩ : ByteArray)) else (if a0 = 303 then (some (⟨#[83, 101, 101, 32, 79, 116, 104, 101, 114]⟩ : ByteArray)) else (if a0 = 400 then (some (⟨#[66, 97, 100, 32, 82, 101, 113, 117, 101, 115, 116]⟩ : ByteArray)) else (if a0 = 401 then (some (⟨#[85, 110, 97, 117, 116, 104, 111, 114, 105, 122, 101, 100]⟩ : ByteArray)) else (if a0 = 403 then (some (⟨#[70, 111, 114, 98, 105, 100, 100, 101, 110]⟩ : ByteArray)) else (if a0 = 404 then (some (⟨#[78, 111, 116, 32, 70, 111, 117, 110, 100]⟩ : ByteArray)) else (if a0 = 405 then (some (⟨#[77, 101, 116, 104, 111, 100, 32, 78, 111, 116, 32, 65, 108, 108, 111, 119, 101, 100]⟩ : ByteArray)) else ((usherref8_rarer.f a0).bind fun t192 => (some t192)))))))))
set_option maxHeartbeats 8000000 in
set_option maxRecDepth 100000 in
theorem usherref8_Reason.calls (a0 : Int) (r : ByteArray) (w : World) (h : usherref8_Reason.f a0 = some r) :
  Calls Tryd.prog 64 #[.int .i64 a0] w fun e w' => e = .returned (.string r) ∧ Drawn0 w w' := by
 have H : (if a0 = 200 then (some (⟨#[79, 75]⟩ : ByteArray)) else (if a0 = 302 then (some (⟨#[70, 111, 117, 110, 100]⟩ : ByteArray)) else (if a0 = 303 then (some (⟨#[83, 101, 101, 32, 79, 116, 104, 101, 114]⟩ : ByteArray)) else (if a0 = 400 then (some (⟨#[66, 97, 100, 32, 82, 101, 113, 117, 101, 115, 116]⟩ : ByteArray)) else (if a0 = 401 then (some (⟨#[85, 110, 97, 117, 116, 104, 111, 114, 105, 122, 101, 100]⟩ : ByteArray)) else (if a0 = 403 then (some (⟨#[70, 111, 114, 98, 105, 100, 100, 101, 110]⟩ : ByteArray)) else (if a0 = 404 then (some (⟨#[78, 111, 116, 32, 70, 111, 117, 110, 100]⟩ : ByteArray)) else (if a0 = 405 then (some (⟨#[77, 101, 116, 104, 111, 100, 32, 78, 111, 116, 32, 65, 108, 108, 111, 119, 101, 100]⟩ : ByteArray)) else ((usherref8_rarer.f a0).bind fun t192 => (some t192)))))))))) = some r := h
 clear h
 by_cases c2 : a0 = 200
 ·rw [if_pos c2] at H
  have c2b0 : (a0 == 200) = true := beq_iff_eq.mpr c2
  have c2b1 : (a0 != 200) = false := bne_eq_false_iff_eq.mpr c2
  clear c2
  obtain rfl := Option.some.inj H
  go_enter Tryd.func64, Tryd.ntmps64
  go_wp2
  go_ret
  exact ⟨tq8_0, tq8_1⟩
 ·rw [if_neg c2] at H
  have c2b0 : (a0 == 200) = false := beq_eq_false_iff_ne.mpr c2
  have c2b1 : (a0 != 200) = true := bne_iff_ne.mpr c2
  by_cases c3 : a0 = 302
  ·rw [if_pos c3] at H
   have c3b0 : (a0 == 302) = true := beq_iff_eq.mpr c3
   have c3b1 : (a0 != 302) = false := bne_eq_false_iff_eq.mpr c3
   clear c3
   obtain rfl := Option.some.inj H
   go_enter Tryd.func64, Tryd.ntmps64
   go_wp2
   go_ret
   exact ⟨tq8_0, tq8_1⟩
  ·rw [if_neg c3] at H
   have c3b0 : (a0 == 302) = false := beq_eq_false_iff_ne.mpr c3
   have c3b1 : (a0 != 302) = true := bne_iff_ne.mpr c3
   by_cases c4 : a0 = 303
   ·rw [if_pos c4] at H
    have c4b0 : (a0 == 303) = true := beq_iff_eq.mpr c4
    have c4b1 : (a0 != 303) = false := bne_eq_false_iff_eq.mpr c4
    clear c4
    obtain rfl := Option.some.inj H
    go_enter Tryd.func64, Tryd.ntmps64
    go_wp2
    go_ret
    exact ⟨tq8_0, tq8_1⟩
   ·rw [if_neg c4] at H
    have c4b0 : (a0 == 303) = false := beq_eq_false_iff_ne.mpr c4
    have c4b1 : (a0 != 303) = true := bne_iff_ne.mpr c4
    by_cases c5 : a0 = 400
    ·rw [if_pos c5] at H
     have c5b0 : (a0 == 400) = true := beq_iff_eq.mpr c5
     have c5b1 : (a0 != 400) = false := bne_eq_false_iff_eq.mpr c5
     clear c5
     obtain rfl := Option.some.inj H
     go_enter Tryd.func64, Tryd.ntmps64
     go_wp2
     go_ret
     exact ⟨tq8_0, tq8_1⟩
    ·rw [if_neg c5] at H
     have c5b0 : (a0 == 400) = false := beq_eq_false_iff_ne.mpr c5
     have c5b1 : (a0 != 400) = true := bne_iff_ne.mpr c5
     by_cases c6 : a0 = 401
     ·rw [if_pos c6] at H
      have c6b0 : (a0 == 401) = true := beq_iff_eq.mpr c6
      have c6b1 : (a0 != 401) = false := bne_eq_false_iff_eq.mpr c6
      clear c6
      obtain rfl := Option.some.inj H
      go_enter Tryd.func64, Tryd.ntmps64
      go_wp2
      go_ret
      exact ⟨tq8_0, tq8_1⟩
     ·rw [if_neg c6] at H
      have c6b0 : (a0 == 401) = false := beq_eq_false_iff_ne.mpr c6
      have c6b1 : (a0 != 401) = true := bne_iff_ne.mpr c6
      by_cases c7 : a0 = 403
      ·rw [if_pos c7] at H
       have c7b0 : (a0 == 403) = true := beq_iff_eq.mpr c7
       have c7b1 : (a0 != 403) = false := bne_eq_false_iff_eq.mpr c7
       clear c7
       obtain rfl := Option.some.inj H
       go_enter Tryd.func64, Tryd.ntmps64
       go_wp2
       go_ret
       exact ⟨tq8_0, tq8_1⟩
      ·rw [if_neg c7] at H
       have c7b0 : (a0 == 403) = false := beq_eq_false_iff_ne.mpr c7
       have c7b1 : (a0 != 403) = true := bne_iff_ne.mpr c7
       by_cases c8 : a0 = 404
       ·rw [if_pos c8] at H
        have c8b0 : (a0 == 404) = true := beq_iff_eq.mpr c8
        have c8b1 : (a0 != 404) = false := bne_eq_false_iff_eq.mpr c8
        clear c8
        obtain rfl := Option.some.inj H
        go_enter Tryd.func64, Tryd.ntmps64
        go_wp2
        go_ret
        exact ⟨tq8_0, tq8_1⟩
       ·rw [if_neg c8] at H
        have c8b0 : (a0 == 404) = false := beq_eq_false_iff_ne.mpr c8
        have c8b1 : (a0 != 404) = true := bne_iff_ne.mpr c8
        by_cases c9 : a0 = 405
        ·rw [if_pos c9] at H
         have c9b0 : (a0 == 405) = true := beq_iff_eq.mpr c9
         have c9b1 : (a0 != 405) = false := bne_eq_false_iff_eq.mpr c9
         clear c9
         obtain rfl := Option.some.inj H
         go_enter Tryd.func64, Tryd.ntmps64
         go_wp2
         go_ret
         exact ⟨tq8_0, tq8_1⟩
        ·rw [if_neg c9] at H
         have c9b0 : (a0 == 405) = false := beq_eq_false_iff_ne.mpr c9
         have c9b1 : (a0 != 405) = true := bne_iff_ne.mpr c9
         replace H := Option.bind_eq_some_iff.mp H
         obtain ⟨t192, A100, H⟩ := H
         replace H : (some t192) = some r := H
         have A10 := Aq8 A100
         clear A100
         obtain rfl := Option.some.inj H
         go_enter Tryd.func64, Tryd.ntmps64
         go_wp2_with (first | ((with_reducible refine gate_callee (f := 84) rfl ?_); refine goesL_ (some 21) rfl rfl Tryd.func84 (by kernel_rfl) rfl #[.int .i64 a0] rfl tq8_6 ?_; (with_reducible refine (usherref8_rarer.calls a0 t192 _ A10.out).mono ?_); rintro e w' ⟨rfl, ⟨nd, rfl⟩⟩; refine ⟨_, rfl, ?_⟩))
         go_ret
         exact ⟨tq8_0, tq8_1⟩

end Go.Proofs.YtdlfdmbaejhaaaaDoor.Q
