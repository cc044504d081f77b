/- The plain Lean functions that calls of the program answer, and proofs that they do. Printed by program out of the translation; Lean checks it. -/
import Derived.Test.YtdlfdmbaejhaaaaDoorQ0
import Derived.Test.YtdlfdmbaejhaaaaDoorItoa
import Derived.Test.YtdlfdmbaejhaaaaDoorTabs
namespace Go.Proofs.YtdlfdmbaejhaaaaDoor.Q
open Go.RowKit Go.Proofs.YtdlfdmbaejhaaaaDoorW.PrintWords Go.Proofs.YtdlfdmbaejhaaaaDoorW.PrintLast Go.Proofs.YtdlfdmbaejhaaaaDoorW.PrintMore
attribute [local go_sem] max2_int min2_int max_two min_two max_three min_three max_four min_four   -- for this text's walks alone
set_option linter.unusedVariables false
set_option linter.unusedSimpArgs false

theorem Aq4 {p : Prop} (h : p) : Aside0 p := ⟨h⟩
theorem tq4_0 {P : Prop} (h : P := by first | (with_reducible assumption) | assumption) : P := h
theorem tq4_1 {P : Prop} (h : P := by first | rfl | (simp [errW_none, errW_some] <;> rfl) | (simp [*, errW_none, errW_some] <;> rfl)) : P := h
theorem tq4_2 {P Q0 : Prop} (y0 : Q0) (h : Q0 → P := by intro y0_; (with_reducible repeat (first | refine blk_drewN ?_ _ | refine blk_drew ?_ | refine blk_alloc ?_ _)); exact y0_) : P := h y0
theorem tq4_3 {P : Prop} (h : P := by repeat (first | (with_reducible first | exact HB.out | apply below_alloc | apply pw_below_drewN | apply below_drew1) | exact HB.out)) : P := h
theorem tq4_4 {P : Prop} (h : P := by (try simp only [List.map_toArray, List.map_cons, List.map_nil]); first | done | rfl | (simp only [List.length_drop, List.length_take]; rfl)) : P := h
theorem tq4_5 {P Q0 : Prop} (y0 : Q0) (h : Q0 → P := by intro y0_; repeat (first | (with_reducible first | exact HB.out | apply below_alloc | apply pw_below_drewN | apply below_drew1 | refine below_set ?_ y0_) | exact HB.out)) : P := h y0
theorem tq4_6 {P Q0 : Prop} (y0 : Q0) (h : Q0 → P := by intro y0_; (with_reducible repeat (first | refine blk_drewN ?_ _ | refine blk_drew ?_ | refine blk_alloc ?_ _)); refine blk_put (cs := #[.int .i64 (reply_phrases.c0 x6_1), .string (⟨#[]⟩ : ByteArray)]) ?_ 1 _ rfl; (with_reducible repeat (first | refine blk_drewN ?_ _ | refine blk_drew ?_ | refine blk_alloc ?_ _)); refine blk_put (cs := #[.int .i64 0, .string (⟨#[]⟩ : ByteArray)]) ?_ 0 _ rfl; (with_reducible repeat (first | refine blk_drewN ?_ _ | refine blk_drew ?_ | refine blk_alloc ?_ _)); exact y0_) : P := h y0
/-! ### reply_status: function 75 -/
def reply_status.l0 : Nat → ByteArray → Int → Option (Int)
 | 0, _, _ => none
 | k + 1, x0, x6 => if x6 < 17 then (if 0 ≤ x6 then ((strconv_Itoa_39.f (reply_phrases.c0 x6)).bind fun t124 => (if 9 + t124.size ≤ 9223372036854775807 then (if ((⟨#[72, 84, 84, 80, 47, 49, 46, 49, 32]⟩ : ByteArray) ++ t124).size + 1 ≤ 9223372036854775807 then (if (((⟨#[72, 84, 84, 80, 47, 49, 46, 49, 32]⟩ : ByteArray) ++ t124) ++ (⟨#[32]⟩ : ByteArray)).size + (reply_phrases.c1 x6).size ≤ 9223372036854775807 then (if x0.toList = ((((⟨#[72, 84, 84, 80, 47, 49, 46, 49, 32]⟩ : ByteArray) ++ t124) ++ (⟨#[32]⟩ : ByteArray)) ++ (reply_phrases.c1 x6)).toList then (some (reply_phrases.c0 x6)) else (reply_status.l0 k x0 (wrap64 (x6 + 1)))) else (none)) else (none)) else (none))) else (none)) else (some 0)
def reply_status.f (k : Nat) (a0 : ByteArray) : Option (Int) := reply_status.l0 k a0 0
theorem reply_status.mono_l : ∀ k, (∀ y0 y1, LeO (reply_status.l0 k y0 y1) (reply_status.l0 (k + 1) y0 y1))
 | 0 => fun _ _ r h => by simp [reply_status.l0] at h
 | k + 1 => by
  have ih0 := reply_status.mono_l k
  ·intro y0 y1
   unfold reply_status.l0
   repeat' first
   | (with_reducible exact ih0 _ _)
   | (with_reducible exact LeO.refl _)
   | (with_reducible exact LeO.none _)
   | (with_reducible refine LeO.ite ?_ ?_)
   | (with_reducible refine LeO.bind ?_ (fun _ => ?_))
   | exact ih0 _ _
   | exact LeO.none _
   | refine LeO.ite ?_ ?_
   | refine LeO.bind ?_ (fun _ => ?_)
theorem reply_status.mono : ∀ a0 k, LeO (reply_status.f k a0) (reply_status.f (k + 1) a0) := by
 intro a0 k
 have ih0 := reply_status.mono_l k
 unfold reply_status.f
 repeat' first
   | (with_reducible exact ih0 _ _)
   | (with_reducible exact LeO.refl _)
   | (with_reducible exact LeO.none _)
   | (with_reducible refine LeO.ite ?_ ?_)
   | (with_reducible refine LeO.bind ?_ (fun _ => ?_))
   | exact ih0 _ _
   | exact LeO.none _
   | refine LeO.ite ?_ ?_
   | refine LeO.bind ?_ (fun _ => ?_)
def reply_status.T4 : Bool × List (List Nat × List Nat) := (true, [([], []), ([], []), ([1], [1]), ([2], [2]), ([3], [3]), ([4], [4]), ([], []), ([6], [6]), ([5, 7], [5, 7]), ([0, 8], [0, 8])])
def reply_status.B4 : List Nat := [0, 0, 2, 6, 14, 30, 0, 64, 254, 511]
theorem reply_status.tab4 : rtab .any (opsOf Tryd.f75 4) = reply_status.T4 := by kernel_rfl
theorem reply_status.bits4 : waitsOk reply_status.T4.2 reply_status.B4 = true := by kernel_rfl
set_option maxHeartbeats 8000000 in
set_option maxRecDepth 100000 in
theorem reply_status.calls [Sent] (k : Nat) (a0 : ByteArray) (r : Int) (w : World) (h : reply_status.f k a0 = some r) (hG : Glob [8, 19] w) :
  Calls Tryd.prog 75 #[.string a0] w fun e w' => e = .returned (.int .i64 r) ∧ Below w.heap.size w w' := by
 have HG := Aq4 hG
 clear hG
 have hu97 := Tryd.underlying97
 have HB := Aq4 (Below.refl w.heap.size w)
 have H : (reply_status.l0 k a0 0) = some r := h
 clear h
 have H' := Aq4 H
 clear H
 obtain ⟨tyTV121, frTV121, hbTV121⟩ := Glob.phrases (HG.out) (by rfl)
 obtain ⟨TV121, hTV121⟩ : ∃ V_ : Array Value, V_ = phrasesV.toArray := ⟨_, rfl⟩
 rw [← hTV121] at hbTV121
 have HSTV121 := Aq4 (show (Tryd.prog.info? 98).map (·.size) = some TV121.size from by rw [hTV121]; exact reply_phrases.size)
 have HTTV121 := Aq4 hTV121
 have HKTV121 := Aq4 hbTV121
 clear hTV121 hbTV121
 go_enter Tryd.func75, Tryd.ntmps75
 go_wp2_with (first | ((with_reducible refine gate_dst (N := 5) rfl ?_); refine wpList_load_row rfl 98 (.global 8) rfl 8 rfl tyTV121 TV121 frTV121 _ (by repeat (first | exact HKTV121.out | refine blk_drewN ?_ _ | refine blk_drew ?_ | refine blk_alloc ?_ _)) Tryd.underlying98 rfl HSTV121.out ?_))
 go_loopg [6] k (fun kq v6 w' => ∃ (x6_1 : Int), v6 = .int .i64 x6_1 ∧ Aside0 (reply_status.l0 kq a0 x6_1 = some r) ∧ Aside0 (kq ≤ k) ∧ Aside0 (Below w.heap.size w w'))
 case atStart => exact ⟨(0), (by first | rfl | (simp; done) | (simp [*]; done)), H', ⟨Nat.le_refl _⟩, ⟨tq4_3⟩⟩
 case round =>
  clear H'
  obtain ⟨x6_1, rfl, HA, HK1, HB⟩ := hrel
  cases gk with
  | zero => exact absurd HA.out (by simp [reply_status.l0])
  | succ k1 =>
   have H := HA.out
   clear HA
   simp only [reply_status.l0] at H
   by_cases c2 : x6_1 < 17
   ·rw [if_pos c2] at H
    have c2b0 : decide (x6_1 < 17) = true := decide_eq_true c2
    clear c2
    by_cases c3 : 0 ≤ x6_1
    ·rw [if_pos c3] at H
     have c3b0 : decide (0 ≤ x6_1) = true := decide_eq_true c3
     clear c3
     replace H := Option.bind_eq_some_iff.mp H
     obtain ⟨t124, A50, H⟩ := H
     replace H : (if 9 + t124.size ≤ 9223372036854775807 then (if ((⟨#[72, 84, 84, 80, 47, 49, 46, 49, 32]⟩ : ByteArray) ++ t124).size + 1 ≤ 9223372036854775807 then (if (((⟨#[72, 84, 84, 80, 47, 49, 46, 49, 32]⟩ : ByteArray) ++ t124) ++ (⟨#[32]⟩ : ByteArray)).size + (reply_phrases.c1 x6_1).size ≤ 9223372036854775807 then (if a0.toList = ((((⟨#[72, 84, 84, 80, 47, 49, 46, 49, 32]⟩ : ByteArray) ++ t124) ++ (⟨#[32]⟩ : ByteArray)) ++ (reply_phrases.c1 x6_1)).toList then (some (reply_phrases.c0 x6_1)) else (reply_status.l0 k1 a0 (wrap64 (x6_1 + 1)))) else (none)) else (none)) else (none)) = some r := H
     have A5 := Aq4 A50
     clear A50
     by_cases c6 : 9 + t124.size ≤ 9223372036854775807
     ·rw [if_pos c6] at H
      have c6b0 := eq_true c6
      have c6b1 : decide (9 + t124.size ≤ 9223372036854775807) = true := decide_eq_true c6
      try have c6b2 : (9223372036854775807 < 9 + t124.size) = False := eq_false (Nat.not_lt.2 c6)
      by_cases c7 : ((⟨#[72, 84, 84, 80, 47, 49, 46, 49, 32]⟩ : ByteArray) ++ t124).size + 1 ≤ 9223372036854775807
      ·rw [if_pos c7] at H
       have c7b0 := eq_true c7
       have c7b1 : decide (((⟨#[72, 84, 84, 80, 47, 49, 46, 49, 32]⟩ : ByteArray) ++ t124).size + 1 ≤ 9223372036854775807) = true := decide_eq_true c7
       try have c7b2 : (9223372036854775807 < ((⟨#[72, 84, 84, 80, 47, 49, 46, 49, 32]⟩ : ByteArray) ++ t124).size + 1) = False := eq_false (Nat.not_lt.2 c7)
       (try (have c7b3 := c7b0; simp only [ByteArray.size_append', ByteArray.size_mk', List.size_toArray, List.length_cons, List.length_nil, Nat.reduceAdd] at c7b3))
       (try (have c7b4 := c7b1; simp only [ByteArray.size_append', ByteArray.size_mk', List.size_toArray, List.length_cons, List.length_nil, Nat.reduceAdd] at c7b4))
       (try (have c7b5 := c7b2; simp only [ByteArray.size_append', ByteArray.size_mk', List.size_toArray, List.length_cons, List.length_nil, Nat.reduceAdd] at c7b5))
       by_cases c8 : (((⟨#[72, 84, 84, 80, 47, 49, 46, 49, 32]⟩ : ByteArray) ++ t124) ++ (⟨#[32]⟩ : ByteArray)).size + (reply_phrases.c1 x6_1).size ≤ 9223372036854775807
       ·rw [if_pos c8] at H
        have c8b0 := eq_true c8
        have c8b1 : decide ((((⟨#[72, 84, 84, 80, 47, 49, 46, 49, 32]⟩ : ByteArray) ++ t124) ++ (⟨#[32]⟩ : ByteArray)).size + (reply_phrases.c1 x6_1).size ≤ 9223372036854775807) = true := decide_eq_true c8
        try have c8b2 : (9223372036854775807 < (((⟨#[72, 84, 84, 80, 47, 49, 46, 49, 32]⟩ : ByteArray) ++ t124) ++ (⟨#[32]⟩ : ByteArray)).size + (reply_phrases.c1 x6_1).size) = False := eq_false (Nat.not_lt.2 c8)
        (try (have c8b3 := c8b0; simp only [ByteArray.size_append', ByteArray.size_mk', List.size_toArray, List.length_cons, List.length_nil, Nat.reduceAdd] at c8b3))
        (try (have c8b4 := c8b1; simp only [ByteArray.size_append', ByteArray.size_mk', List.size_toArray, List.length_cons, List.length_nil, Nat.reduceAdd] at c8b4))
        (try (have c8b5 := c8b2; simp only [ByteArray.size_append', ByteArray.size_mk', List.size_toArray, List.length_cons, List.length_nil, Nat.reduceAdd] at c8b5))
        by_cases c9 : a0.toList = ((((⟨#[72, 84, 84, 80, 47, 49, 46, 49, 32]⟩ : ByteArray) ++ t124) ++ (⟨#[32]⟩ : ByteArray)) ++ (reply_phrases.c1 x6_1)).toList
        ·rw [if_pos c9] at H
         have c9b0 : (a0.toList == ((((⟨#[72, 84, 84, 80, 47, 49, 46, 49, 32]⟩ : ByteArray) ++ t124) ++ (⟨#[32]⟩ : ByteArray)) ++ (reply_phrases.c1 x6_1)).toList) = true := beq_iff_eq.mpr c9
         have c9b1 : (a0.toList != ((((⟨#[72, 84, 84, 80, 47, 49, 46, 49, 32]⟩ : ByteArray) ++ t124) ++ (⟨#[32]⟩ : ByteArray)) ++ (reply_phrases.c1 x6_1)).toList) = false := bne_eq_false_iff_eq.mpr c9
         clear c9
         obtain rfl := Option.some.inj H
         have p4 : 0 ≤ (x6_1 : Int) := of_decide_eq_true tq4_0
         have q4 : (x6_1 : Int) < 17 := of_decide_eq_true tq4_0
         have hx4 := reply_phrases.index x6_1 p4 q4
         rw [← HTTV121.out] at hx4
         clear p4 q4
         try go_wp2_with (first | ((with_reducible refine gate_dst (N := 4) rfl ?_); refine box_event ?hg (N := 4) ?hd (cs := #[.int .i64 0, .string (⟨#[]⟩ : ByteArray)]) (t := 97) ?hr ?_; (case hd => rfl); (case hg => rfl); (case hr => first | (go_simp; done) | (go_simp; rfl)); intro gb123 hg w10 hbox hb; have BK123 := Aq4 (hbox); have GW123 := Aq4 ((by rw [hg]; exact (below_size tq4_3) : w.heap.size ≤ gb123)); have GE123 := Aq4 ((by rw [hg]; exact (below_size tq4_3) : w.heap.size ≤ gb123)); replace HB := Aq4 (below_step tq4_3 hb); clear hb hbox hg; have hcz11_0 : w10.cell? ⟨gb123, 0, none⟩ = some (.int .i64 0) := (blk_cell BK123.out 0).trans rfl; have hcz11_1 : w10.cell? ⟨gb123, 1, none⟩ = some (.string (⟨#[]⟩ : ByteArray)) := (blk_cell BK123.out 1).trans rfl; have hfz11_0 := blk_frozen BK123.out 0; have hfz11_1 := blk_frozen BK123.out 1))
         have n0_ : Aside0 (((w10.setCell ⟨gb123, 0, none⟩ (.int .i64 (reply_phrases.c0 x6_1))).setCell ⟨gb123, 1, none⟩ (.string (reply_phrases.c1 x6_1))).heap[gb123]? = some (.cells #[.int .i64 (reply_phrases.c0 x6_1), .string (reply_phrases.c1 x6_1)] 97 (0, 0))) := ⟨(tq4_6 BK123.out)⟩
         have n1_ : Aside0 (Below w.heap.size w ((w10.setCell ⟨gb123, 0, none⟩ (.int .i64 (reply_phrases.c0 x6_1))).setCell ⟨gb123, 1, none⟩ (.string (reply_phrases.c1 x6_1)))) := ⟨(tq4_5 GE123.out)⟩
         (try clear BK123)
         (try clear HB)
         generalize ((w10.setCell ⟨gb123, 0, none⟩ (.int .i64 (reply_phrases.c0 x6_1))).setCell ⟨gb123, 1, none⟩ (.string (reply_phrases.c1 x6_1))) = w12 at n0_ n1_ ⊢
         have BK123 := n0_
         have HB := n1_
         clear n0_ n1_
         have n0_ := Aq4 (blk_drew BK123.out)
         have n1_ := Aq4 (below_drew1 HB.out)
         clear BK123
         clear HB
         have BK123 := n0_
         have HB := n1_
         clear n0_ n1_
         refine start_ (n := 10) (S := fun w' => w'.cell? ⟨gb123, 0, none⟩ = some (.int .i64 (reply_phrases.c0 x6_1)) ∧ w'.cell? ⟨gb123, 1, none⟩ = some (.string (reply_phrases.c1 x6_1))) (ds := []) #[false, false, false, false, false, false, false, false, false, false] (by kernel_rfl) rfl rfl ⟨(blk_cell BK123.out 0).trans rfl, (blk_cell BK123.out 1).trans rfl⟩ (fun hHeld => ?_); refine with_tabW reply_status.tab4 reply_status.bits4 (fun HT_ HW_ => ?_)
         generalize w12.drew = w13 at BK123 HB hHeld ⊢
         refine pure_ (i := 0) (N := some 9) (v := ?_) (a' := ?_) #[true, false, false, false, false, false, false, false, false, false] rfl rfl (any_of HT_.out (by kernel_rfl)) (fun _ _ _ h => h) (Or.inl ⟨by rfl, ?_⟩) ?_ ?_
         rotate_left
         ·intro w'
          go_simp
          with_reducible rfl
         rotate_left
         ·simp only [Act.put, List.setIfInBounds_toArray, List.set_cons_zero, List.set_cons_succ, i64_w, i32_w]
          rfl
         refine pure_ (i := 1) (N := some 10) (v := ?_) (a' := ?_) #[true, true, false, false, false, false, false, false, false, false] rfl rfl (any_of HT_.out (by kernel_rfl)) (fun _ _ _ h => h) (Or.inl ⟨by rfl, ?_⟩) ?_ ?_
         rotate_left
         ·intro w'
          go_simp
          with_reducible rfl
         rotate_left
         ·simp only [Act.put, List.setIfInBounds_toArray, List.set_cons_zero, List.set_cons_succ, i64_w, i32_w]
          rfl
         refine pure_ (i := 6) (N := some 15) (v := ?_) (a' := ?_) #[true, true, false, false, false, false, true, false, false, false] rfl rfl (any_of HT_.out (by kernel_rfl)) (fun _ _ _ h => h) (Or.inl ⟨by rfl, ?_⟩) ?_ ?_
         rotate_left
         ·intro w'
          go_simp
          with_reducible rfl
         rotate_left
         ·simp only [Act.put, List.setIfInBounds_toArray, List.set_cons_zero, List.set_cons_succ, i64_w, i32_w]
          rfl
         refine take_ (i := 2) (N := some 11) (v := ?_) (a' := ?_) #[true, true, true, false, false, false, true, false, false, false] rfl rfl (take_ofW HT_.out HW_.out (by kernel_rfl)) (fun _ _ _ h => h) (Or.inl ⟨by rfl, ?_⟩) hHeld ?_ ?_
         rotate_left
         ·rintro w' ⟨s0, s1⟩
          go_simp
          with_reducible rfl
         rotate_left
         ·simp only [Act.put, List.setIfInBounds_toArray, List.set_cons_zero, List.set_cons_succ, i64_w, i32_w]
          rfl
         refine take_ (i := 7) (N := some 16) (v := ?_) (a' := ?_) #[true, true, true, false, false, false, true, true, false, false] rfl rfl (take_ofW HT_.out HW_.out (by kernel_rfl)) (fun _ _ _ h => h) (Or.inl ⟨by rfl, ?_⟩) hHeld ?_ ?_
         rotate_left
         ·rintro w' ⟨s0, s1⟩
          go_simp
          with_reducible rfl
         rotate_left
         ·simp only [Act.put, List.setIfInBounds_toArray, List.set_cons_zero, List.set_cons_succ, i64_w, i32_w]
          rfl
         refine one_ (i := 3) (N := some 12) #[true, true, true, true, false, false, true, true, false, false] rfl rfl (one_of HT_.out (by kernel_rfl)) (by decide) (fun K hK => ?_)
         refine goes_ Tryd.func39 (by kernel_rfl) rfl #[.int .i64 (reply_phrases.c0 x6_1)] (by rfl) rfl rfl tq4_4 ?_
         with_reducible refine (strconv_Itoa_39.calls (reply_phrases.c0 x6_1) t124 _ A5.out ?side1).mono ?_
         (case side1 => exact HG.out.step (tq4_5 GE123.out) rfl)
         rintro e w14 ⟨rfl, hb⟩
         refine ⟨_, rfl, ?_⟩
         have n0_ := Aq4 (blk_below (g := gb123) (o := .cells #[.int .i64 (reply_phrases.c0 x6_1), .string (reply_phrases.c1 x6_1)] 97 (0, 0)) (tq4_2 BK123.out) hb)
         have n1_ := Aq4 (below_step (tq4_5 GE123.out) hb)
         clear BK123
         clear HB
         have BK123 := n0_
         have HB := n1_
         clear n0_ n1_
         (try clear hb)
         (try clear hb2)
         (try clear hk)
         (try clear hi)
         refine hK.out _ _ ⟨(blk_cell BK123.out 0).trans rfl, (blk_cell BK123.out 1).trans rfl⟩ (fun hHeld => ?_)
         clear hK K
         refine norm_ (a' := ?_) ?_ ?_
         rotate_left
         ·show Act.put _ (some 12) _ = _
          simp only [Act.put, List.setIfInBounds_toArray, List.set_cons_zero, List.set_cons_succ, i64_w, i32_w]
          rfl
         refine pure_ (i := 4) (N := some 13) (v := ?_) (a' := ?_) #[true, true, true, true, true, false, true, true, false, false] rfl rfl (any_of HT_.out (by kernel_rfl)) (fun _ _ _ h => h) (Or.inl ⟨by rfl, ?_⟩) ?_ ?_
         rotate_left
         ·intro w'
          go_simp
          with_reducible rfl
         rotate_left
         ·simp only [Act.put, List.setIfInBounds_toArray, List.set_cons_zero, List.set_cons_succ, i64_w, i32_w]
          rfl
         refine pure_ (i := 5) (N := some 14) (v := ?_) (a' := ?_) #[true, true, true, true, true, true, true, true, false, false] rfl rfl (any_of HT_.out (by kernel_rfl)) (fun _ _ _ h => h) (Or.inl ⟨by rfl, ?_⟩) ?_ ?_
         rotate_left
         ·intro w'
          go_simp
          with_reducible rfl
         rotate_left
         ·simp only [Act.put, List.setIfInBounds_toArray, List.set_cons_zero, List.set_cons_succ, i64_w, i32_w]
          rfl
         refine pure_ (i := 8) (N := some 17) (v := ?_) (a' := ?_) #[true, true, true, true, true, true, true, true, true, false] rfl rfl (any_of HT_.out (by kernel_rfl)) (fun _ _ _ h => h) (Or.inl ⟨by rfl, ?_⟩) ?_ ?_
         rotate_left
         ·intro w'
          go_simp
          with_reducible rfl
         rotate_left
         ·simp only [Act.put, List.setIfInBounds_toArray, List.set_cons_zero, List.set_cons_succ, i64_w, i32_w]
          rfl
         refine pure_ (i := 9) (N := some 18) (v := ?_) (a' := ?_) #[true, true, true, true, true, true, true, true, true, true] rfl rfl (any_of HT_.out (by kernel_rfl)) (fun _ _ _ h => h) (Or.inl ⟨by rfl, ?_⟩) ?_ ?_
         rotate_left
         ·intro w'
          go_simp
          with_reducible rfl
         rotate_left
         ·simp only [Act.put, List.setIfInBounds_toArray, List.set_cons_zero, List.set_cons_succ, i64_w, i32_w]
          rfl
         refine done_ (done_of HT_.out (by kernel_rfl)) ?_
         have hcz15_0 : w14.cell? ⟨gb123, 0, none⟩ = some (.int .i64 (reply_phrases.c0 x6_1)) := (blk_cell BK123.out 0).trans rfl
         have hcz15_1 : w14.cell? ⟨gb123, 1, none⟩ = some (.string (reply_phrases.c1 x6_1)) := (blk_cell BK123.out 1).trans rfl
         have hfz15_0 := blk_frozen BK123.out 0
         have hfz15_1 := blk_frozen BK123.out 1
         try go_wp2
         go_ret
         exact ⟨tq4_1, (tq4_5 GE123.out)⟩
        ·rw [if_neg c9] at H
         have c9b0 : (a0.toList == ((((⟨#[72, 84, 84, 80, 47, 49, 46, 49, 32]⟩ : ByteArray) ++ t124) ++ (⟨#[32]⟩ : ByteArray)) ++ (reply_phrases.c1 x6_1)).toList) = false := beq_eq_false_iff_ne.mpr c9
         have c9b1 : (a0.toList != ((((⟨#[72, 84, 84, 80, 47, 49, 46, 49, 32]⟩ : ByteArray) ++ t124) ++ (⟨#[32]⟩ : ByteArray)) ++ (reply_phrases.c1 x6_1)).toList) = true := bne_iff_ne.mpr c9
         have H' := Aq4 H
         clear H
         have p4 : 0 ≤ (x6_1 : Int) := of_decide_eq_true tq4_0
         have q4 : (x6_1 : Int) < 17 := of_decide_eq_true tq4_0
         have hx4 := reply_phrases.index x6_1 p4 q4
         rw [← HTTV121.out] at hx4
         clear p4 q4
         try go_wp2_with (first | ((with_reducible refine gate_dst (N := 4) rfl ?_); refine box_event ?hg (N := 4) ?hd (cs := #[.int .i64 0, .string (⟨#[]⟩ : ByteArray)]) (t := 97) ?hr ?_; (case hd => rfl); (case hg => rfl); (case hr => first | (go_simp; done) | (go_simp; rfl)); intro gb123 hg w16 hbox hb; have BK123 := Aq4 (hbox); have GW123 := Aq4 ((by rw [hg]; exact (below_size tq4_3) : w.heap.size ≤ gb123)); have GE123 := Aq4 ((by rw [hg]; exact (below_size tq4_3) : w.heap.size ≤ gb123)); replace HB := Aq4 (below_step tq4_3 hb); clear hb hbox hg; have hcz17_0 : w16.cell? ⟨gb123, 0, none⟩ = some (.int .i64 0) := (blk_cell BK123.out 0).trans rfl; have hcz17_1 : w16.cell? ⟨gb123, 1, none⟩ = some (.string (⟨#[]⟩ : ByteArray)) := (blk_cell BK123.out 1).trans rfl; have hfz17_0 := blk_frozen BK123.out 0; have hfz17_1 := blk_frozen BK123.out 1))
         have n0_ : Aside0 (((w16.setCell ⟨gb123, 0, none⟩ (.int .i64 (reply_phrases.c0 x6_1))).setCell ⟨gb123, 1, none⟩ (.string (reply_phrases.c1 x6_1))).heap[gb123]? = some (.cells #[.int .i64 (reply_phrases.c0 x6_1), .string (reply_phrases.c1 x6_1)] 97 (0, 0))) := ⟨(tq4_6 BK123.out)⟩
         have n1_ : Aside0 (Below w.heap.size w ((w16.setCell ⟨gb123, 0, none⟩ (.int .i64 (reply_phrases.c0 x6_1))).setCell ⟨gb123, 1, none⟩ (.string (reply_phrases.c1 x6_1)))) := ⟨(tq4_5 GE123.out)⟩
         (try clear BK123)
         (try clear HB)
         generalize ((w16.setCell ⟨gb123, 0, none⟩ (.int .i64 (reply_phrases.c0 x6_1))).setCell ⟨gb123, 1, none⟩ (.string (reply_phrases.c1 x6_1))) = w18 at n0_ n1_ ⊢
         have BK123 := n0_
         have HB := n1_
         clear n0_ n1_
         have n0_ := Aq4 (blk_drew BK123.out)
         have n1_ := Aq4 (below_drew1 HB.out)
         clear BK123
         clear HB
         have BK123 := n0_
         have HB := n1_
         clear n0_ n1_
         refine start_ (n := 10) (S := fun w' => w'.cell? ⟨gb123, 0, none⟩ = some (.int .i64 (reply_phrases.c0 x6_1)) ∧ w'.cell? ⟨gb123, 1, none⟩ = some (.string (reply_phrases.c1 x6_1))) (ds := []) #[false, false, false, false, false, false, false, false, false, false] (by kernel_rfl) rfl rfl ⟨(blk_cell BK123.out 0).trans rfl, (blk_cell BK123.out 1).trans rfl⟩ (fun hHeld => ?_); refine with_tabW reply_status.tab4 reply_status.bits4 (fun HT_ HW_ => ?_)
         generalize w18.drew = w19 at BK123 HB hHeld ⊢
         refine pure_ (i := 0) (N := some 9) (v := ?_) (a' := ?_) #[true, false, false, false, false, false, false, false, false, false] rfl rfl (any_of HT_.out (by kernel_rfl)) (fun _ _ _ h => h) (Or.inl ⟨by rfl, ?_⟩) ?_ ?_
         rotate_left
         ·intro w'
          go_simp
          with_reducible rfl
         rotate_left
         ·simp only [Act.put, List.setIfInBounds_toArray, List.set_cons_zero, List.set_cons_succ, i64_w, i32_w]
          rfl
         refine pure_ (i := 1) (N := some 10) (v := ?_) (a' := ?_) #[true, true, false, false, false, false, false, false, false, false] rfl rfl (any_of HT_.out (by kernel_rfl)) (fun _ _ _ h => h) (Or.inl ⟨by rfl, ?_⟩) ?_ ?_
         rotate_left
         ·intro w'
          go_simp
          with_reducible rfl
         rotate_left
         ·simp only [Act.put, List.setIfInBounds_toArray, List.set_cons_zero, List.set_cons_succ, i64_w, i32_w]
          rfl
         refine pure_ (i := 6) (N := some 15) (v := ?_) (a' := ?_) #[true, true, false, false, false, false, true, false, false, false] rfl rfl (any_of HT_.out (by kernel_rfl)) (fun _ _ _ h => h) (Or.inl ⟨by rfl, ?_⟩) ?_ ?_
         rotate_left
         ·intro w'
          go_simp
          with_reducible rfl
         rotate_left
         ·simp only [Act.put, List.setIfInBounds_toArray, List.set_cons_zero, List.set_cons_succ, i64_w, i32_w]
          rfl
         refine take_ (i := 2) (N := some 11) (v := ?_) (a' := ?_) #[true, true, true, false, false, false, true, false, false, false] rfl rfl (take_ofW HT_.out HW_.out (by kernel_rfl)) (fun _ _ _ h => h) (Or.inl ⟨by rfl, ?_⟩) hHeld ?_ ?_
         rotate_left
         ·rintro w' ⟨s0, s1⟩
          go_simp
          with_reducible rfl
         rotate_left
         ·simp only [Act.put, List.setIfInBounds_toArray, List.set_cons_zero, List.set_cons_succ, i64_w, i32_w]
          rfl
         refine take_ (i := 7) (N := some 16) (v := ?_) (a' := ?_) #[true, true, true, false, false, false, true, true, false, false] rfl rfl (take_ofW HT_.out HW_.out (by kernel_rfl)) (fun _ _ _ h => h) (Or.inl ⟨by rfl, ?_⟩) hHeld ?_ ?_
         rotate_left
         ·rintro w' ⟨s0, s1⟩
          go_simp
          with_reducible rfl
         rotate_left
         ·simp only [Act.put, List.setIfInBounds_toArray, List.set_cons_zero, List.set_cons_succ, i64_w, i32_w]
          rfl
         refine one_ (i := 3) (N := some 12) #[true, true, true, true, false, false, true, true, false, false] rfl rfl (one_of HT_.out (by kernel_rfl)) (by decide) (fun K hK => ?_)
         refine goes_ Tryd.func39 (by kernel_rfl) rfl #[.int .i64 (reply_phrases.c0 x6_1)] (by rfl) rfl rfl tq4_4 ?_
         with_reducible refine (strconv_Itoa_39.calls (reply_phrases.c0 x6_1) t124 _ A5.out ?side1).mono ?_
         (case side1 => exact HG.out.step (tq4_5 GE123.out) rfl)
         rintro e w20 ⟨rfl, hb⟩
         refine ⟨_, rfl, ?_⟩
         have n0_ := Aq4 (blk_below (g := gb123) (o := .cells #[.int .i64 (reply_phrases.c0 x6_1), .string (reply_phrases.c1 x6_1)] 97 (0, 0)) (tq4_2 BK123.out) hb)
         have n1_ := Aq4 (below_step (tq4_5 GE123.out) hb)
         clear BK123
         clear HB
         have BK123 := n0_
         have HB := n1_
         clear n0_ n1_
         (try clear hb)
         (try clear hb2)
         (try clear hk)
         (try clear hi)
         refine hK.out _ _ ⟨(blk_cell BK123.out 0).trans rfl, (blk_cell BK123.out 1).trans rfl⟩ (fun hHeld => ?_)
         clear hK K
         refine norm_ (a' := ?_) ?_ ?_
         rotate_left
         ·show Act.put _ (some 12) _ = _
          simp only [Act.put, List.setIfInBounds_toArray, List.set_cons_zero, List.set_cons_succ, i64_w, i32_w]
          rfl
         refine pure_ (i := 4) (N := some 13) (v := ?_) (a' := ?_) #[true, true, true, true, true, false, true, true, false, false] rfl rfl (any_of HT_.out (by kernel_rfl)) (fun _ _ _ h => h) (Or.inl ⟨by rfl, ?_⟩) ?_ ?_
         rotate_left
         ·intro w'
          go_simp
          with_reducible rfl
         rotate_left
         ·simp only [Act.put, List.setIfInBounds_toArray, List.set_cons_zero, List.set_cons_succ, i64_w, i32_w]
          rfl
         refine pure_ (i := 5) (N := some 14) (v := ?_) (a' := ?_) #[true, true, true, true, true, true, true, true, false, false] rfl rfl (any_of HT_.out (by kernel_rfl)) (fun _ _ _ h => h) (Or.inl ⟨by rfl, ?_⟩) ?_ ?_
         rotate_left
         ·intro w'
          go_simp
          with_reducible rfl
         rotate_left
         ·simp only [Act.put, List.setIfInBounds_toArray, List.set_cons_zero, List.set_cons_succ, i64_w, i32_w]
          rfl
         refine pure_ (i := 8) (N := some 17) (v := ?_) (a' := ?_) #[true, true, true, true, true, true, true, true, true, false] rfl rfl (any_of HT_.out (by kernel_rfl)) (fun _ _ _ h => h) (Or.inl ⟨by rfl, ?_⟩) ?_ ?_
         rotate_left
         ·intro w'
          go_simp
          with_reducible rfl
         rotate_left
         ·simp only [Act.put, List.setIfInBounds_toArray, List.set_cons_zero, List.set_cons_succ, i64_w, i32_w]
          rfl
         refine pure_ (i := 9) (N := some 18) (v := ?_) (a' := ?_) #[true, true, true, true, true, true, true, true, true, true] rfl rfl (any_of HT_.out (by kernel_rfl)) (fun _ _ _ h => h) (Or.inl ⟨by rfl, ?_⟩) ?_ ?_
         rotate_left
         ·intro w'
          go_simp
          with_reducible rfl
         rotate_left
         ·simp only [Act.put, List.setIfInBounds_toArray, List.set_cons_zero, List.set_cons_succ, i64_w, i32_w]
          rfl
         refine done_ (done_of HT_.out (by kernel_rfl)) ?_
         try go_wp2
         go_roundg k1
         case measure => have := HK1.out; omega
         case rel => exact ⟨(wrap64 (x6_1 + 1)), (by first | rfl | (simp; done) | (simp [*]; done)), H', ⟨by have := HK1.out; omega⟩, ⟨(tq4_5 GE123.out)⟩⟩
       ·rw [if_neg c8] at H
        exact absurd H (by simp)
      ·rw [if_neg c7] at H
       exact absurd H (by simp)
     ·rw [if_neg c6] at H
      exact absurd H (by simp)
    ·rw [if_neg c3] at H
     exact absurd H (by simp)
   ·rw [if_neg c2] at H
    have c2b0 : decide (x6_1 < 17) = false := decide_eq_false c2
    clear c2
    obtain rfl := Option.some.inj H
    go_wp2
    go_ret
    exact ⟨tq4_1, tq4_3⟩

-- NOT PRINTED: function 82 (abi_NoEscape)

-- NOT PRINTED: function 61 (strings_Builder_copyCheck)

end Go.Proofs.YtdlfdmbaejhaaaaDoor.Q
