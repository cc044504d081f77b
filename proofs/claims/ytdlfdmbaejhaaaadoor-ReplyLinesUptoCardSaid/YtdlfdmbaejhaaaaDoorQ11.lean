/- The plain Lean functions that calls of the program answer, and proofs that they do. Printed by program out of the translation; Lean checks it. -/
import Derived.Test.YtdlfdmbaejhaaaaDoorQ0
import Derived.Test.YtdlfdmbaejhaaaaDoorQ8
import Derived.Test.YtdlfdmbaejhaaaaDoorItoa
namespace Go.Proofs.YtdlfdmbaejhaaaaDoor.Q
open Go.RowKit Go.Proofs.YtdlfdmbaejhaaaaDoorW.PrintWords Go.Proofs.YtdlfdmbaejhaaaaDoorW.PrintLast Go.Proofs.YtdlfdmbaejhaaaaDoorW.PrintMore
attribute [local go_sem] max2_int min2_int max_two min_two max_three min_three max_four min_four   -- for this text's walks alone
set_option linter.unusedVariables false
set_option linter.unusedSimpArgs false

theorem Aq11 {p : Prop} (h : p) : Aside0 p := ⟨h⟩
theorem tq11_0 {P : Prop} (h : P := by first | rfl | (simp; done) | (simp [*]; done)) : P := h
theorem tq11_1 {P : Prop} (h : P := by first | (with_reducible assumption) | assumption) : P := h
theorem tq11_2 {P : Prop} (h : P := by repeat (first | exact Drawn0.refl _ | apply Drawn0.step)) : P := h
theorem tq11_3 {P : Prop} (h : P := by first | exact H' | (simp only [hji7]; exact H') | (simp only [hji7] at *; exact H')) : P := h
theorem tq11_4 {P : Prop} (h : P := by first | rfl | (simp; done) | (simp only [← hji7] <;> (first | rfl | simp)) | (simp [*]; done)) : P := h
theorem tq11_5 {P : Prop} (h : P := by first | rfl | (simp [errW_none, errW_some] <;> rfl) | (simp [*, errW_none, errW_some] <;> rfl)) : P := h
theorem tq11_6 {P Q0 : Prop} (y0 : Q0) (h : Q0 → P := by intro y0_; (with_reducible repeat (first | apply Kd.R_alloc | apply Kd.R_drewN | apply Kd.R_drew)); exact y0_) : P := h y0
theorem tq11_7 {P Q0 : Prop} (y0 : Q0) (h : Q0 → P := by intro y0_; (with_reducible repeat (first | refine blk_drewN ?_ _ | refine blk_drew ?_ | refine blk_alloc ?_ _)); exact y0_) : P := h y0
theorem tq11_8 {P : Prop} (h : P := by repeat (first | (with_reducible first | exact HB.out | apply below_alloc | apply pw_below_drewN | apply below_drew1) | exact HB.out)) : P := h
theorem tq11_9 {P : Prop} (h : P := by (try simp only [List.map_toArray, List.map_cons, List.map_nil]); first | done | rfl | (simp only [List.length_drop, List.length_take]; rfl)) : P := h
theorem tq11_a {P Q0 : Prop} (y0 : Q0) (h : Q0 → P := by intro y0_; repeat (first | (with_reducible first | exact HB.out | apply below_alloc | apply pw_below_drewN | apply below_drew1 | refine below_set ?_ y0_) | exact HB.out)) : P := h y0
/-! ### usherref8_head: function 43 -/
def usherref8_head.l0 : Nat → Int → List Int → Int → Int → List (S26) → ByteArray → Bool → Option (ByteArray)
 | 0, _, _, _, _, _, _, _ => none
 | k + 1, x1, x6, x7, x223000, x223001, x223002, x223003 => if x7 < (x223001.length : Int) then (if 0 ≤ x7 then (if x6.length + ((rd_T26 x223001 x7).f0).size < 140737488355328 then ((some (x6 ++ bytesOf ((rd_T26 x223001 x7).f0) : List Int)).bind fun y229 => (if y229.length + 2 < 140737488355328 then ((some (y229 ++ bytesOf (⟨#[58, 32]⟩ : ByteArray) : List Int)).bind fun y232 => (if y232.length + ((rd_T26 x223001 x7).f1).size < 140737488355328 then ((some (y232 ++ bytesOf ((rd_T26 x223001 x7).f1) : List Int)).bind fun y236 => (if y236.length + 2 < 140737488355328 then (usherref8_head.l0 k x1 (y236 ++ bytesOf (⟨#[13, 10]⟩ : ByteArray)) (wrap64 (x7 + 1)) x223000 x223001 x223002 x223003) else (none))) else (none))) else (none))) else (none)) else (none)) else ((strconv_Itoa_39.f x1).bind fun t242 => (if 16 + t242.size ≤ 9223372036854775807 then (if ((⟨#[67, 111, 110, 116, 101, 110, 116, 45, 76, 101, 110, 103, 116, 104, 58, 32]⟩ : ByteArray) ++ t242).size + 2 ≤ 9223372036854775807 then (if x6.length + (((⟨#[67, 111, 110, 116, 101, 110, 116, 45, 76, 101, 110, 103, 116, 104, 58, 32]⟩ : ByteArray) ++ t242) ++ (⟨#[13, 10]⟩ : ByteArray)).size < 140737488355328 then ((some (x6 ++ bytesOf (((⟨#[67, 111, 110, 116, 101, 110, 116, 45, 76, 101, 110, 103, 116, 104, 58, 32]⟩ : ByteArray) ++ t242) ++ (⟨#[13, 10]⟩ : ByteArray)) : List Int)).bind fun y243 => (if x223003 = true then (if y243.length + 17 < 140737488355328 then ((some (y243 ++ bytesOf (⟨#[67, 111, 110, 110, 101, 99, 116, 105, 111, 110, 58, 32, 99, 108, 111, 115, 101]⟩ : ByteArray) : List Int)).bind fun y246 => (if y246.length + 2 < 140737488355328 then ((some (y246 ++ bytesOf (⟨#[13, 10]⟩ : ByteArray) : List Int)).bind fun y249 => (if y249.length + 2 < 140737488355328 then (some (strOfNums (y249 ++ bytesOf (⟨#[13, 10]⟩ : ByteArray)))) else (none))) else (none))) else (none)) else (if y243.length + 22 < 140737488355328 then ((some (y243 ++ bytesOf (⟨#[67, 111, 110, 110, 101, 99, 116, 105, 111, 110, 58, 32, 107, 101, 101, 112, 45, 97, 108, 105, 118, 101]⟩ : ByteArray) : List Int)).bind fun y255 => (if y255.length + 2 < 140737488355328 then ((some (y255 ++ bytesOf (⟨#[13, 10]⟩ : ByteArray) : List Int)).bind fun y258 => (if y258.length + 2 < 140737488355328 then (some (strOfNums (y258 ++ bytesOf (⟨#[13, 10]⟩ : ByteArray)))) else (none))) else (none))) else (none)))) else (none)) else (none)) else (none)))
def usherref8_head.f (k : Nat) (a0_0 : Int) (l0_1 : List (S26)) (a0_2 : ByteArray) (a0_3 : Bool) (a1 : Int) : Option (ByteArray) := (usherref8_Reason.f a0_0).bind fun t223 => ((strconv_Itoa_39.f a0_0).bind fun t224 => (if 9 + t224.size ≤ 9223372036854775807 then (if ((⟨#[72, 84, 84, 80, 47, 49, 46, 49, 32]⟩ : ByteArray) ++ t224).size + 1 ≤ 9223372036854775807 then (if (((⟨#[72, 84, 84, 80, 47, 49, 46, 49, 32]⟩ : ByteArray) ++ t224) ++ (⟨#[32]⟩ : ByteArray)).size + t223.size ≤ 9223372036854775807 then (if ((((⟨#[72, 84, 84, 80, 47, 49, 46, 49, 32]⟩ : ByteArray) ++ t224) ++ (⟨#[32]⟩ : ByteArray)) ++ t223).size + 2 ≤ 9223372036854775807 then (if ([] : List Int).length + (((((⟨#[72, 84, 84, 80, 47, 49, 46, 49, 32]⟩ : ByteArray) ++ t224) ++ (⟨#[32]⟩ : ByteArray)) ++ t223) ++ (⟨#[13, 10]⟩ : ByteArray)).size < 140737488355328 then (usherref8_head.l0 k a1 (([] : List Int) ++ bytesOf (((((⟨#[72, 84, 84, 80, 47, 49, 46, 49, 32]⟩ : ByteArray) ++ t224) ++ (⟨#[32]⟩ : ByteArray)) ++ t223) ++ (⟨#[13, 10]⟩ : ByteArray))) 0 a0_0 l0_1 a0_2 a0_3) else (none)) else (none)) else (none)) else (none)) else (none)))
theorem usherref8_head.mono_l : ∀ k, (∀ y0 y1 y2 y3 y4 y5 y6, LeO (usherref8_head.l0 k y0 y1 y2 y3 y4 y5 y6) (usherref8_head.l0 (k + 1) y0 y1 y2 y3 y4 y5 y6))
 | 0 => fun _ _ _ _ _ _ _ r h => by simp [usherref8_head.l0] at h
 | k + 1 => by
  have ih0 := usherref8_head.mono_l k
  ·intro y0 y1 y2 y3 y4 y5 y6
   unfold usherref8_head.l0
   repeat' first
   | (with_reducible exact ih0 _ _ _ _ _ _ _)
   | (with_reducible exact LeO.refl _)
   | (with_reducible exact LeO.none _)
   | (with_reducible refine LeO.ite ?_ ?_)
   | (with_reducible refine LeO.bind ?_ (fun _ => ?_))
   | exact ih0 _ _ _ _ _ _ _
   | exact LeO.none _
   | refine LeO.ite ?_ ?_
   | refine LeO.bind ?_ (fun _ => ?_)
theorem usherref8_head.mono : ∀ a0 a1 a2 a3 a4 k, LeO (usherref8_head.f k a0 a1 a2 a3 a4) (usherref8_head.f (k + 1) a0 a1 a2 a3 a4) := by
 intro a0 a1 a2 a3 a4 k
 have ih0 := usherref8_head.mono_l k
 unfold usherref8_head.f
 repeat' first
   | (with_reducible exact ih0 _ _ _ _ _ _ _)
   | (with_reducible exact LeO.refl _)
   | (with_reducible exact LeO.none _)
   | (with_reducible refine LeO.ite ?_ ?_)
   | (with_reducible refine LeO.bind ?_ (fun _ => ?_))
   | exact ih0 _ _ _ _ _ _ _
   | exact LeO.none _
   | refine LeO.ite ?_ ?_
   | refine LeO.bind ?_ (fun _ => ?_)
set_option maxHeartbeats 8000000 in
set_option maxRecDepth 100000 in
theorem usherref8_head.calls [Sent] (k : Nat) (a0_0 : Int) (A0_1 : Option Addr) (c0_1 : Nat) (l0_1 : List (S26)) (a0_2 : ByteArray) (a0_3 : Bool) (a1 : Int) (r : ByteArray) (w : World) (hr0_1 : Kd.C k26 w A0_1 l0_1.length l0_1) (hc0_1 : l0_1.length ≤ c0_1) (h : usherref8_head.f k a0_0 l0_1 a0_2 a0_3 a1 = some r) (hG : Glob [19] w) :
  Calls Tryd.prog 43 #[.agg #[.int .i64 a0_0, .slice A0_1 l0_1.length c0_1, .string a0_2, .bool a0_3], .int .i64 a1] w fun e w' => e = .returned (.string r) ∧ Below w.heap.size w w' := by
 have HG := Aq11 hG
 clear hG
 have hu24 := Tryd.underlying24
 have HR0_1 := Aq11 hr0_1
 have HC0_1 := Aq11 hc0_1
 clear hr0_1 hc0_1
 have HB := Aq11 (Below.refl w.heap.size w)
 have H : ((usherref8_Reason.f a0_0).bind fun t223 => ((strconv_Itoa_39.f a0_0).bind fun t224 => (if 9 + t224.size ≤ 9223372036854775807 then (if ((⟨#[72, 84, 84, 80, 47, 49, 46, 49, 32]⟩ : ByteArray) ++ t224).size + 1 ≤ 9223372036854775807 then (if (((⟨#[72, 84, 84, 80, 47, 49, 46, 49, 32]⟩ : ByteArray) ++ t224) ++ (⟨#[32]⟩ : ByteArray)).size + t223.size ≤ 9223372036854775807 then (if ((((⟨#[72, 84, 84, 80, 47, 49, 46, 49, 32]⟩ : ByteArray) ++ t224) ++ (⟨#[32]⟩ : ByteArray)) ++ t223).size + 2 ≤ 9223372036854775807 then (if ([] : List Int).length + (((((⟨#[72, 84, 84, 80, 47, 49, 46, 49, 32]⟩ : ByteArray) ++ t224) ++ (⟨#[32]⟩ : ByteArray)) ++ t223) ++ (⟨#[13, 10]⟩ : ByteArray)).size < 140737488355328 then (usherref8_head.l0 k a1 (([] : List Int) ++ bytesOf (((((⟨#[72, 84, 84, 80, 47, 49, 46, 49, 32]⟩ : ByteArray) ++ t224) ++ (⟨#[32]⟩ : ByteArray)) ++ t223) ++ (⟨#[13, 10]⟩ : ByteArray))) 0 a0_0 l0_1 a0_2 a0_3) else (none)) else (none)) else (none)) else (none)) else (none)))) = some r := h
 clear h
 replace H := Option.bind_eq_some_iff.mp H
 obtain ⟨t223, A30, H⟩ := H
 replace H : ((strconv_Itoa_39.f a0_0).bind fun t224 => (if 9 + t224.size ≤ 9223372036854775807 then (if ((⟨#[72, 84, 84, 80, 47, 49, 46, 49, 32]⟩ : ByteArray) ++ t224).size + 1 ≤ 9223372036854775807 then (if (((⟨#[72, 84, 84, 80, 47, 49, 46, 49, 32]⟩ : ByteArray) ++ t224) ++ (⟨#[32]⟩ : ByteArray)).size + t223.size ≤ 9223372036854775807 then (if ((((⟨#[72, 84, 84, 80, 47, 49, 46, 49, 32]⟩ : ByteArray) ++ t224) ++ (⟨#[32]⟩ : ByteArray)) ++ t223).size + 2 ≤ 9223372036854775807 then (if ([] : List Int).length + (((((⟨#[72, 84, 84, 80, 47, 49, 46, 49, 32]⟩ : ByteArray) ++ t224) ++ (⟨#[32]⟩ : ByteArray)) ++ t223) ++ (⟨#[13, 10]⟩ : ByteArray)).size < 140737488355328 then (usherref8_head.l0 k a1 (([] : List Int) ++ bytesOf (((((⟨#[72, 84, 84, 80, 47, 49, 46, 49, 32]⟩ : ByteArray) ++ t224) ++ (⟨#[32]⟩ : ByteArray)) ++ t223) ++ (⟨#[13, 10]⟩ : ByteArray))) 0 a0_0 l0_1 a0_2 a0_3) else (none)) else (none)) else (none)) else (none)) else (none))) = some r := H
 have A3 := Aq11 A30
 clear A30
 replace H := Option.bind_eq_some_iff.mp H
 obtain ⟨t224, A40, H⟩ := H
 replace H : (if 9 + t224.size ≤ 9223372036854775807 then (if ((⟨#[72, 84, 84, 80, 47, 49, 46, 49, 32]⟩ : ByteArray) ++ t224).size + 1 ≤ 9223372036854775807 then (if (((⟨#[72, 84, 84, 80, 47, 49, 46, 49, 32]⟩ : ByteArray) ++ t224) ++ (⟨#[32]⟩ : ByteArray)).size + t223.size ≤ 9223372036854775807 then (if ((((⟨#[72, 84, 84, 80, 47, 49, 46, 49, 32]⟩ : ByteArray) ++ t224) ++ (⟨#[32]⟩ : ByteArray)) ++ t223).size + 2 ≤ 9223372036854775807 then (if ([] : List Int).length + (((((⟨#[72, 84, 84, 80, 47, 49, 46, 49, 32]⟩ : ByteArray) ++ t224) ++ (⟨#[32]⟩ : ByteArray)) ++ t223) ++ (⟨#[13, 10]⟩ : ByteArray)).size < 140737488355328 then (usherref8_head.l0 k a1 (([] : List Int) ++ bytesOf (((((⟨#[72, 84, 84, 80, 47, 49, 46, 49, 32]⟩ : ByteArray) ++ t224) ++ (⟨#[32]⟩ : ByteArray)) ++ t223) ++ (⟨#[13, 10]⟩ : ByteArray))) 0 a0_0 l0_1 a0_2 a0_3) else (none)) else (none)) else (none)) else (none)) else (none)) = some r := H
 have A4 := Aq11 A40
 clear A40
 by_cases c5 : 9 + t224.size ≤ 9223372036854775807
 ·rw [if_pos c5] at H
  have c5b0 := eq_true c5
  have c5b1 : decide (9 + t224.size ≤ 9223372036854775807) = true := decide_eq_true c5
  try have c5b2 : (9223372036854775807 < 9 + t224.size) = False := eq_false (Nat.not_lt.2 c5)
  by_cases c6 : ((⟨#[72, 84, 84, 80, 47, 49, 46, 49, 32]⟩ : ByteArray) ++ t224).size + 1 ≤ 9223372036854775807
  ·rw [if_pos c6] at H
   have c6b0 := eq_true c6
   have c6b1 : decide (((⟨#[72, 84, 84, 80, 47, 49, 46, 49, 32]⟩ : ByteArray) ++ t224).size + 1 ≤ 9223372036854775807) = true := decide_eq_true c6
   try have c6b2 : (9223372036854775807 < ((⟨#[72, 84, 84, 80, 47, 49, 46, 49, 32]⟩ : ByteArray) ++ t224).size + 1) = False := eq_false (Nat.not_lt.2 c6)
   (try (have c6b3 := c6b0; simp only [ByteArray.size_append', ByteArray.size_mk', List.size_toArray, List.length_cons, List.length_nil, Nat.reduceAdd] at c6b3))
   (try (have c6b4 := c6b1; simp only [ByteArray.size_append', ByteArray.size_mk', List.size_toArray, List.length_cons, List.length_nil, Nat.reduceAdd] at c6b4))
   (try (have c6b5 := c6b2; simp only [ByteArray.size_append', ByteArray.size_mk', List.size_toArray, List.length_cons, List.length_nil, Nat.reduceAdd] at c6b5))
   by_cases c7 : (((⟨#[72, 84, 84, 80, 47, 49, 46, 49, 32]⟩ : ByteArray) ++ t224) ++ (⟨#[32]⟩ : ByteArray)).size + t223.size ≤ 9223372036854775807
   ·rw [if_pos c7] at H
    have c7b0 := eq_true c7
    have c7b1 : decide ((((⟨#[72, 84, 84, 80, 47, 49, 46, 49, 32]⟩ : ByteArray) ++ t224) ++ (⟨#[32]⟩ : ByteArray)).size + t223.size ≤ 9223372036854775807) = true := decide_eq_true c7
    try have c7b2 : (9223372036854775807 < (((⟨#[72, 84, 84, 80, 47, 49, 46, 49, 32]⟩ : ByteArray) ++ t224) ++ (⟨#[32]⟩ : ByteArray)).size + t223.size) = False := eq_false (Nat.not_lt.2 c7)
    (try (have c7b3 := c7b0; simp only [ByteArray.size_append', ByteArray.size_mk', List.size_toArray, List.length_cons, List.length_nil, Nat.reduceAdd] at c7b3))
    (try (have c7b4 := c7b1; simp only [ByteArray.size_append', ByteArray.size_mk', List.size_toArray, List.length_cons, List.length_nil, Nat.reduceAdd] at c7b4))
    (try (have c7b5 := c7b2; simp only [ByteArray.size_append', ByteArray.size_mk', List.size_toArray, List.length_cons, List.length_nil, Nat.reduceAdd] at c7b5))
    by_cases c8 : ((((⟨#[72, 84, 84, 80, 47, 49, 46, 49, 32]⟩ : ByteArray) ++ t224) ++ (⟨#[32]⟩ : ByteArray)) ++ t223).size + 2 ≤ 9223372036854775807
    ·rw [if_pos c8] at H
     have c8b0 := eq_true c8
     have c8b1 : decide (((((⟨#[72, 84, 84, 80, 47, 49, 46, 49, 32]⟩ : ByteArray) ++ t224) ++ (⟨#[32]⟩ : ByteArray)) ++ t223).size + 2 ≤ 9223372036854775807) = true := decide_eq_true c8
     try have c8b2 : (9223372036854775807 < ((((⟨#[72, 84, 84, 80, 47, 49, 46, 49, 32]⟩ : ByteArray) ++ t224) ++ (⟨#[32]⟩ : ByteArray)) ++ t223).size + 2) = False := eq_false (Nat.not_lt.2 c8)
     (try (have c8b3 := c8b0; simp only [ByteArray.size_append', ByteArray.size_mk', List.size_toArray, List.length_cons, List.length_nil, Nat.reduceAdd] at c8b3))
     (try (have c8b4 := c8b1; simp only [ByteArray.size_append', ByteArray.size_mk', List.size_toArray, List.length_cons, List.length_nil, Nat.reduceAdd] at c8b4))
     (try (have c8b5 := c8b2; simp only [ByteArray.size_append', ByteArray.size_mk', List.size_toArray, List.length_cons, List.length_nil, Nat.reduceAdd] at c8b5))
     by_cases c9 : ([] : List Int).length + (((((⟨#[72, 84, 84, 80, 47, 49, 46, 49, 32]⟩ : ByteArray) ++ t224) ++ (⟨#[32]⟩ : ByteArray)) ++ t223) ++ (⟨#[13, 10]⟩ : ByteArray)).size < 140737488355328
     ·rw [if_pos c9] at H
      have LMc9 := Aq11 c9
      clear c9
      obtain ⟨y225, hy225⟩ : ∃ y_ : List Int, y_ = (([] : List Int) ++ bytesOf (((((⟨#[72, 84, 84, 80, 47, 49, 46, 49, 32]⟩ : ByteArray) ++ t224) ++ (⟨#[32]⟩ : ByteArray)) ++ t223) ++ (⟨#[13, 10]⟩ : ByteArray))) := ⟨_, rfl⟩
      replace H : (usherref8_head.l0 k a1 y225 0 a0_0 l0_1 a0_2 a0_3) = some r := by first | (rw [hy225]; with_reducible exact H) | (have H2_ := (Option.bind_some _ _).symm.trans H; rw [hy225]; with_reducible exact H2_) | (have H2_ := (Option.bind_some _ _).symm.trans H; with_reducible exact H2_) | with_reducible exact H | (rw [hy225]; exact H) | exact H
      have Ny225 := Aq11 hy225
      clear hy225
      have H' := Aq11 H
      clear H
      go_enter Tryd.func43, Tryd.ntmps43
      go_wp2_with (first | ((with_reducible refine gate_dst (N := 2) rfl ?_); refine box_event ?hg (N := 2) ?hd (cs := #[.int .i64 a0_0, .slice A0_1 l0_1.length c0_1, .string a0_2, .bool a0_3]) (t := 24) ?hr ?_; (case hd => rfl); (case hg => rfl); (case hr => first | (go_simp; done) | (go_simp; rfl)); intro gb222 hg w10 hbox hb; have BK222 := Aq11 (hbox); have GW222 := Aq11 ((by rw [hg]; exact (below_size tq11_8) : w.heap.size ≤ gb222)); have GE222 := Aq11 ((by rw [hg]; exact (below_size tq11_8) : w.heap.size ≤ gb222)); replace HB := Aq11 (below_step tq11_8 hb); clear hb hbox hg; have hcz11_0 : w10.cell? ⟨gb222, 0, none⟩ = some (.int .i64 a0_0) := (blk_cell BK222.out 0).trans rfl; have hcz11_1 : w10.cell? ⟨gb222, 1, none⟩ = some (.slice A0_1 l0_1.length c0_1) := (blk_cell BK222.out 1).trans rfl; have hcz11_2 : w10.cell? ⟨gb222, 2, none⟩ = some (.string a0_2) := (blk_cell BK222.out 2).trans rfl; have hcz11_3 : w10.cell? ⟨gb222, 3, none⟩ = some (.bool a0_3) := (blk_cell BK222.out 3).trans rfl; have hfz11_0 := blk_frozen BK222.out 0; have hfz11_1 := blk_frozen BK222.out 1; have hfz11_2 := blk_frozen BK222.out 2; have hfz11_3 := blk_frozen BK222.out 3) | ((with_reducible refine gate_callee (f := 64) rfl ?_); refine goesL_ (some 10) rfl rfl Tryd.func64 (by kernel_rfl) rfl #[.int .i64 a0_0] rfl tq11_9 ?_; (with_reducible refine (usherref8_Reason.calls a0_0 t223 _ A3.out).mono ?_); rintro e w' ⟨rfl, ⟨nd, rfl⟩⟩; refine ⟨_, rfl, ?_⟩) | ((with_reducible refine gate_callee (f := 39) rfl ?_); refine goesL_ (some 14) rfl rfl Tryd.func39 (by kernel_rfl) rfl #[.int .i64 a0_0] rfl tq11_9 ?_; (with_reducible refine (strconv_Itoa_39.calls a0_0 t224 _ A4.out ?side1).mono ?_); (case side1 => exact HG.out.step (tq11_a GE222.out) rfl); rintro e w12 ⟨rfl, hb⟩; refine ⟨_, rfl, ?_⟩; replace BK222 := Aq11 (blk_below (g := gb222) (o := .cells #[.int .i64 a0_0, .slice A0_1 l0_1.length c0_1, .string a0_2, .bool a0_3] 24 (0, 0)) (tq11_7 BK222.out) hb); replace HB := Aq11 (below_step (tq11_a GE222.out) hb); (try clear hb); (try clear hb2); (try clear hk); (try clear hi)) | (at_builtin; refine print_append_str (w0 := w) w.heap.size rfl (.tmp 11) _ 61 9 5 rfl Tryd.underlying61 Tryd.underlying9 info5 (.slice none 0 0) ([] : List Int) (((((⟨#[72, 84, 84, 80, 47, 49, 46, 49, 32]⟩ : ByteArray) ++ t224) ++ (⟨#[32]⟩ : ByteArray)) ++ t223) ++ (⟨#[13, 10]⟩ : ByteArray)) rfl rfl ?aO ?aB ?aS ?aL ?_; (case aB => exact (tq11_a GE222.out)); (case aO => exact (Kd.own_of_R (h1 := fun _ => rfl) ((Kd.R_nil (Kd.int .u8) _ _ _ (fun _ => True))))); (case aS => exact (below_size (tq11_a GE222.out))); (case aL => have := LMc9.out; omega); intro v226 w13 ho0 hb hg; have ho := Kd.R_of_own (h1 := fun _ => rfl) (ok := fun _ => True) ho0 (fun _ _ => trivial); clear ho0; have hat := True.intro; rw [← Ny225.out] at ho; change Kd.R (Kd.int .u8) 5 w13 w.heap.size (fun _ => True) v226 y225 at ho; replace BK222 := Aq11 (blk_grown (g := gb222) (o := .cells #[.int .i64 a0_0, .slice A0_1 l0_1.length c0_1, .string a0_2, .bool a0_3] 24 (0, 0)) (tq11_7 BK222.out) hg (by simp [Value.ownBlock])); have HO227 := Aq11 (ho); replace HB := Aq11 (hb); clear ho hb hg hat))
      go_loopg [6, 7] k (fun kq v6 v7 w' => ∃ (x6_1 : List Int) (x7_1 : Int), v7 = .int .i64 x7_1 ∧ Aside0 (usherref8_head.l0 kq a1 x6_1 x7_1 a0_0 l0_1 a0_2 a0_3 = some r) ∧ Aside0 (kq ≤ k) ∧ Aside0 (Kd.R (Kd.int .u8) 5 w' w.heap.size (fun _ => True) v6 x6_1) ∧ Aside0 (w'.heap[gb222]? = some (.cells #[.int .i64 a0_0, (.slice A0_1 l0_1.length c0_1), .string a0_2, .bool a0_3] 24 (0, 0))) ∧ Aside0 (Below w.heap.size w w'))
      case atStart => exact ⟨(y225), (0), tq11_0, H', ⟨Nat.le_refl _⟩, ⟨(tq11_6 HO227.out)⟩, ⟨(tq11_7 BK222.out)⟩, ⟨(tq11_a GE222.out)⟩⟩
      case round =>
       clear H'
       try clear p2
       try clear c3
       try clear c4
       try clear c5
       try clear c5b0
       try clear c5b1
       try clear c5b2
       try clear c6
       try clear c6b0
       try clear c6b1
       try clear c6b2
       try clear c7
       try clear c7b0
       try clear c7b1
       try clear c7b2
       try clear c8
       try clear c8b0
       try clear c8b1
       try clear c8b2
       try clear c9
       try clear hcz11_0
       try clear hcz11_1
       try clear hcz11_2
       try clear hcz11_3
       try clear hfz11_0
       try clear hfz11_1
       try clear hfz11_2
       try clear hfz11_3
       obtain ⟨x6_1, x7_1, rfl, HA, HK1, HO_6, BK222, HB⟩ := hrel
       cases gk with
       | zero => exact absurd HA.out (by simp [usherref8_head.l0])
       | succ k1 =>
        have H := HA.out
        clear HA
        simp only [usherref8_head.l0] at H
        by_cases c14 : x7_1 < (l0_1.length : Int)
        ·rw [if_pos c14] at H
         have c14b0 : decide (x7_1 < (l0_1.length : Int)) = true := decide_eq_true c14
         clear c14
         by_cases c15 : 0 ≤ x7_1
         ·rw [if_pos c15] at H
          have c15b0 : decide (0 ≤ x7_1) = true := decide_eq_true c15
          clear c15
          by_cases c16 : x6_1.length + ((rd_T26 l0_1 x7_1).f0).size < 140737488355328
          ·rw [if_pos c16] at H
           have LMc16 := Aq11 c16
           clear c16
           obtain ⟨y229, hy229⟩ : ∃ y_ : List Int, y_ = (x6_1 ++ bytesOf ((rd_T26 l0_1 x7_1).f0)) := ⟨_, rfl⟩
           replace H : (if y229.length + 2 < 140737488355328 then ((some (y229 ++ bytesOf (⟨#[58, 32]⟩ : ByteArray) : List Int)).bind fun y232 => (if y232.length + ((rd_T26 l0_1 x7_1).f1).size < 140737488355328 then ((some (y232 ++ bytesOf ((rd_T26 l0_1 x7_1).f1) : List Int)).bind fun y236 => (if y236.length + 2 < 140737488355328 then (usherref8_head.l0 k1 a1 (y236 ++ bytesOf (⟨#[13, 10]⟩ : ByteArray)) (wrap64 (x7_1 + 1)) a0_0 l0_1 a0_2 a0_3) else (none))) else (none))) else (none)) = some r := by first | (rw [hy229]; with_reducible exact H) | (have H2_ := (Option.bind_some _ _).symm.trans H; rw [hy229]; with_reducible exact H2_) | (have H2_ := (Option.bind_some _ _).symm.trans H; with_reducible exact H2_) | with_reducible exact H | (rw [hy229]; exact H) | exact H
           have Ny229 := Aq11 hy229
           clear hy229
           by_cases c17 : y229.length + 2 < 140737488355328
           ·rw [if_pos c17] at H
            have LMc17 := Aq11 c17
            clear c17
            obtain ⟨y232, hy232⟩ : ∃ y_ : List Int, y_ = (y229 ++ bytesOf (⟨#[58, 32]⟩ : ByteArray)) := ⟨_, rfl⟩
            replace H : (if y232.length + ((rd_T26 l0_1 x7_1).f1).size < 140737488355328 then ((some (y232 ++ bytesOf ((rd_T26 l0_1 x7_1).f1) : List Int)).bind fun y236 => (if y236.length + 2 < 140737488355328 then (usherref8_head.l0 k1 a1 (y236 ++ bytesOf (⟨#[13, 10]⟩ : ByteArray)) (wrap64 (x7_1 + 1)) a0_0 l0_1 a0_2 a0_3) else (none))) else (none)) = some r := by first | (rw [hy232]; with_reducible exact H) | (have H2_ := (Option.bind_some _ _).symm.trans H; rw [hy232]; with_reducible exact H2_) | (have H2_ := (Option.bind_some _ _).symm.trans H; with_reducible exact H2_) | with_reducible exact H | (rw [hy232]; exact H) | exact H
            have Ny232 := Aq11 hy232
            clear hy232
            by_cases c18 : y232.length + ((rd_T26 l0_1 x7_1).f1).size < 140737488355328
            ·rw [if_pos c18] at H
             have LMc18 := Aq11 c18
             clear c18
             obtain ⟨y236, hy236⟩ : ∃ y_ : List Int, y_ = (y232 ++ bytesOf ((rd_T26 l0_1 x7_1).f1)) := ⟨_, rfl⟩
             replace H : (if y236.length + 2 < 140737488355328 then (usherref8_head.l0 k1 a1 (y236 ++ bytesOf (⟨#[13, 10]⟩ : ByteArray)) (wrap64 (x7_1 + 1)) a0_0 l0_1 a0_2 a0_3) else (none)) = some r := by first | (rw [hy236]; with_reducible exact H) | (have H2_ := (Option.bind_some _ _).symm.trans H; rw [hy236]; with_reducible exact H2_) | (have H2_ := (Option.bind_some _ _).symm.trans H; with_reducible exact H2_) | with_reducible exact H | (rw [hy236]; exact H) | exact H
             have Ny236 := Aq11 hy236
             clear hy236
             by_cases c19 : y236.length + 2 < 140737488355328
             ·rw [if_pos c19] at H
              have LMc19 := Aq11 c19
              clear c19
              obtain ⟨y239, hy239⟩ : ∃ y_ : List Int, y_ = (y236 ++ bytesOf (⟨#[13, 10]⟩ : ByteArray)) := ⟨_, rfl⟩
              replace H : (usherref8_head.l0 k1 a1 y239 (wrap64 (x7_1 + 1)) a0_0 l0_1 a0_2 a0_3) = some r := by first | (rw [hy239]; with_reducible exact H) | (have H2_ := (Option.bind_some _ _).symm.trans H; rw [hy239]; with_reducible exact H2_) | (have H2_ := (Option.bind_some _ _).symm.trans H; with_reducible exact H2_) | with_reducible exact H | (rw [hy239]; exact H) | exact H
              have Ny239 := Aq11 hy239
              clear hy239
              have H' := Aq11 H
              clear H
              have hcz20_0 : wr.cell? ⟨gb222, 0, none⟩ = some (.int .i64 a0_0) := (blk_cell BK222.out 0).trans rfl
              have hcz20_1 : wr.cell? ⟨gb222, 1, none⟩ = some (.slice A0_1 l0_1.length c0_1) := (blk_cell BK222.out 1).trans rfl
              have hcz20_2 : wr.cell? ⟨gb222, 2, none⟩ = some (.string a0_2) := (blk_cell BK222.out 2).trans rfl
              have hcz20_3 : wr.cell? ⟨gb222, 3, none⟩ = some (.bool a0_3) := (blk_cell BK222.out 3).trans rfl
              have hfz20_0 := blk_frozen BK222.out 0
              have hfz20_1 := blk_frozen BK222.out 1
              have hfz20_2 := blk_frozen BK222.out 2
              have hfz20_3 := blk_frozen BK222.out 3
              have p228 : 0 ≤ (x7_1 : Int) := of_decide_eq_true tq11_1
              have q228 : x7_1 < (l0_1.length : Int) := of_decide_eq_true tq11_1
              obtain ⟨ad228, e228, hx228_0, hx228_1⟩ := at_T26 HR0_1.out x7_1 p228 q228
              cases e228
              replace hx228_0 := (HB.out.cell (World.block_lt_of_cell? w _ hx228_0)).trans hx228_0
              replace hx228_1 := (HB.out.cell (World.block_lt_of_cell? w _ hx228_1)).trans hx228_1
              replace p228 := eq_true p228
              replace q228 := eq_true q228
              go_wp2_with (first | (at_builtin; refine print_append_str (w0 := w) w.heap.size rfl (.tmp 28) _ 61 9 5 rfl Tryd.underlying61 Tryd.underlying9 info5 u6 x6_1 ((rd_T26 l0_1 x7_1).f0) rfl rfl ?aO ?aB ?aS ?aL ?_; (case aB => exact (tq11_a GE222.out)); (case aO => exact (Kd.own_of_R (tq11_6 HO_6.out))); (case aS => exact (below_size (tq11_a GE222.out))); (case aL => have := LMc16.out; omega); intro v230 w21 ho0 hb hg; have ho := Kd.R_of_own (h1 := fun _ => rfl) (ok := fun _ => True) ho0 (fun _ _ => trivial); clear ho0; have hat := True.intro; rw [← Ny229.out] at ho; change Kd.R (Kd.int .u8) 5 w21 w.heap.size (fun _ => True) v230 y229 at ho; have n0_ := Aq11 (blk_grown (g := gb222) (o := .cells #[.int .i64 a0_0, .slice (some ad228) l0_1.length c0_1, .string a0_2, .bool a0_3] 24 (0, 0)) (tq11_7 BK222.out) hg (Kd.R_ne HO_6.out BK222.out (by decide))); have n1_ := Aq11 (hb); have n2_ := Aq11 (ho); clear BK222; clear HB; clear HO_6; have BK222 := n0_; have HB := n1_; have HO231 := n2_; clear n0_ n1_ n2_; clear ho hb hg hat) | (at_builtin; refine print_append_str (w0 := w) w.heap.size rfl (.tmp 36) _ 61 9 5 rfl Tryd.underlying61 Tryd.underlying9 info5 v230 y229 (⟨#[58, 32]⟩ : ByteArray) rfl rfl ?aO ?aB ?aS ?aL ?_; (case aB => exact (tq11_a GE222.out)); (case aO => exact (Kd.own_of_R (tq11_6 HO231.out))); (case aS => exact (below_size (tq11_a GE222.out))); (case aL => have := LMc17.out; have hlx_ := (show ByteArray.size (⟨#[58, 32]⟩ : ByteArray) = 2 from rfl); omega); intro v233 w22 ho0 hb hg; have ho := Kd.R_of_own (h1 := fun _ => rfl) (ok := fun _ => True) ho0 (fun _ _ => trivial); clear ho0; have hat := True.intro; rw [← Ny232.out] at ho; change Kd.R (Kd.int .u8) 5 w22 w.heap.size (fun _ => True) v233 y232 at ho; have n0_ := Aq11 (blk_grown (g := gb222) (o := .cells #[.int .i64 a0_0, .slice (some ad228) l0_1.length c0_1, .string a0_2, .bool a0_3] 24 (0, 0)) (tq11_7 BK222.out) hg (Kd.R_ne HO231.out BK222.out (by decide))); have n1_ := Aq11 (hb); have n2_ := Aq11 (ho); clear BK222; clear HB; clear HO231; have BK222 := n0_; have HB := n1_; have HO234 := n2_; clear n0_ n1_ n2_; clear ho hb hg hat; have hcz23_0 : w22.cell? ⟨gb222, 0, none⟩ = some (.int .i64 a0_0) := (blk_cell BK222.out 0).trans rfl; have hcz23_1 : w22.cell? ⟨gb222, 1, none⟩ = some (.slice (some ad228) l0_1.length c0_1) := (blk_cell BK222.out 1).trans rfl; have hcz23_2 : w22.cell? ⟨gb222, 2, none⟩ = some (.string a0_2) := (blk_cell BK222.out 2).trans rfl; have hcz23_3 : w22.cell? ⟨gb222, 3, none⟩ = some (.bool a0_3) := (blk_cell BK222.out 3).trans rfl; have hfz23_0 := blk_frozen BK222.out 0; have hfz23_1 := blk_frozen BK222.out 1; have hfz23_2 := blk_frozen BK222.out 2; have hfz23_3 := blk_frozen BK222.out 3; have p235 : 0 ≤ (x7_1 : Int) := of_decide_eq_true tq11_1; have q235 : x7_1 < (l0_1.length : Int) := of_decide_eq_true tq11_1; obtain ⟨ad235, e235, hx235_0, hx235_1⟩ := at_T26 HR0_1.out x7_1 p235 q235; obtain rfl : ad228 = ad235 := (by injection e235); replace hx235_0 := (HB.out.cell (World.block_lt_of_cell? w _ hx235_0)).trans hx235_0; replace hx235_1 := (HB.out.cell (World.block_lt_of_cell? w _ hx235_1)).trans hx235_1; replace p235 := eq_true p235; replace q235 := eq_true q235) | (at_builtin; refine print_append_str (w0 := w) w.heap.size rfl (.tmp 38) _ 61 9 5 rfl Tryd.underlying61 Tryd.underlying9 info5 v233 y232 ((rd_T26 l0_1 x7_1).f1) rfl rfl ?aO ?aB ?aS ?aL ?_; (case aB => exact (tq11_a GE222.out)); (case aO => exact (Kd.own_of_R (tq11_6 HO234.out))); (case aS => exact (below_size (tq11_a GE222.out))); (case aL => have := LMc18.out; omega); intro v237 w24 ho0 hb hg; have ho := Kd.R_of_own (h1 := fun _ => rfl) (ok := fun _ => True) ho0 (fun _ _ => trivial); clear ho0; have hat := True.intro; rw [← Ny236.out] at ho; change Kd.R (Kd.int .u8) 5 w24 w.heap.size (fun _ => True) v237 y236 at ho; have n0_ := Aq11 (blk_grown (g := gb222) (o := .cells #[.int .i64 a0_0, .slice (some ad228) l0_1.length c0_1, .string a0_2, .bool a0_3] 24 (0, 0)) (tq11_7 BK222.out) hg (Kd.R_ne HO234.out BK222.out (by decide))); have n1_ := Aq11 (hb); have n2_ := Aq11 (ho); clear BK222; clear HB; clear HO234; have BK222 := n0_; have HB := n1_; have HO238 := n2_; clear n0_ n1_ n2_; clear ho hb hg hat) | (at_builtin; refine print_append_str (w0 := w) w.heap.size rfl (.tmp 46) _ 61 9 5 rfl Tryd.underlying61 Tryd.underlying9 info5 v237 y236 (⟨#[13, 10]⟩ : ByteArray) rfl rfl ?aO ?aB ?aS ?aL ?_; (case aB => exact (tq11_a GE222.out)); (case aO => exact (Kd.own_of_R (tq11_6 HO238.out))); (case aS => exact (below_size (tq11_a GE222.out))); (case aL => have := LMc19.out; have hlx_ := (show ByteArray.size (⟨#[13, 10]⟩ : ByteArray) = 2 from rfl); omega); intro v240 w25 ho0 hb hg; have ho := Kd.R_of_own (h1 := fun _ => rfl) (ok := fun _ => True) ho0 (fun _ _ => trivial); clear ho0; have hat := True.intro; rw [← Ny239.out] at ho; change Kd.R (Kd.int .u8) 5 w25 w.heap.size (fun _ => True) v240 y239 at ho; have n0_ := Aq11 (blk_grown (g := gb222) (o := .cells #[.int .i64 a0_0, .slice (some ad228) l0_1.length c0_1, .string a0_2, .bool a0_3] 24 (0, 0)) (tq11_7 BK222.out) hg (Kd.R_ne HO238.out BK222.out (by decide))); have n1_ := Aq11 (hb); have n2_ := Aq11 (ho); clear BK222; clear HB; clear HO238; have BK222 := n0_; have HB := n1_; have HO241 := n2_; clear n0_ n1_ n2_; clear ho hb hg hat))
              go_roundg k1
              case measure => have := HK1.out; omega
              case rel => exact ⟨(y239), (wrap64 (x7_1 + 1)), tq11_0, H', ⟨by have := HK1.out; omega⟩, ⟨(tq11_6 HO241.out)⟩, ⟨(tq11_7 BK222.out)⟩, ⟨(tq11_a GE222.out)⟩⟩
             ·rw [if_neg c19] at H
              exact absurd H (by simp)
            ·rw [if_neg c18] at H
             exact absurd H (by simp)
           ·rw [if_neg c17] at H
            exact absurd H (by simp)
          ·rw [if_neg c16] at H
           exact absurd H (by simp)
         ·rw [if_neg c15] at H
          exact absurd H (by simp)
        ·rw [if_neg c14] at H
         have c14b0 : decide (x7_1 < (l0_1.length : Int)) = false := decide_eq_false c14
         clear c14
         replace H := Option.bind_eq_some_iff.mp H
         obtain ⟨t242, A260, H⟩ := H
         replace H : (if 16 + t242.size ≤ 9223372036854775807 then (if ((⟨#[67, 111, 110, 116, 101, 110, 116, 45, 76, 101, 110, 103, 116, 104, 58, 32]⟩ : ByteArray) ++ t242).size + 2 ≤ 9223372036854775807 then (if x6_1.length + (((⟨#[67, 111, 110, 116, 101, 110, 116, 45, 76, 101, 110, 103, 116, 104, 58, 32]⟩ : ByteArray) ++ t242) ++ (⟨#[13, 10]⟩ : ByteArray)).size < 140737488355328 then ((some (x6_1 ++ bytesOf (((⟨#[67, 111, 110, 116, 101, 110, 116, 45, 76, 101, 110, 103, 116, 104, 58, 32]⟩ : ByteArray) ++ t242) ++ (⟨#[13, 10]⟩ : ByteArray)) : List Int)).bind fun y243 => (if a0_3 = true then (if y243.length + 17 < 140737488355328 then ((some (y243 ++ bytesOf (⟨#[67, 111, 110, 110, 101, 99, 116, 105, 111, 110, 58, 32, 99, 108, 111, 115, 101]⟩ : ByteArray) : List Int)).bind fun y246 => (if y246.length + 2 < 140737488355328 then ((some (y246 ++ bytesOf (⟨#[13, 10]⟩ : ByteArray) : List Int)).bind fun y249 => (if y249.length + 2 < 140737488355328 then (some (strOfNums (y249 ++ bytesOf (⟨#[13, 10]⟩ : ByteArray)))) else (none))) else (none))) else (none)) else (if y243.length + 22 < 140737488355328 then ((some (y243 ++ bytesOf (⟨#[67, 111, 110, 110, 101, 99, 116, 105, 111, 110, 58, 32, 107, 101, 101, 112, 45, 97, 108, 105, 118, 101]⟩ : ByteArray) : List Int)).bind fun y255 => (if y255.length + 2 < 140737488355328 then ((some (y255 ++ bytesOf (⟨#[13, 10]⟩ : ByteArray) : List Int)).bind fun y258 => (if y258.length + 2 < 140737488355328 then (some (strOfNums (y258 ++ bytesOf (⟨#[13, 10]⟩ : ByteArray)))) else (none))) else (none))) else (none)))) else (none)) else (none)) else (none)) = some r := H
         have A26 := Aq11 A260
         clear A260
         by_cases c27 : 16 + t242.size ≤ 9223372036854775807
         ·rw [if_pos c27] at H
          have c27b0 := eq_true c27
          have c27b1 : decide (16 + t242.size ≤ 9223372036854775807) = true := decide_eq_true c27
          try have c27b2 : (9223372036854775807 < 16 + t242.size) = False := eq_false (Nat.not_lt.2 c27)
          by_cases c28 : ((⟨#[67, 111, 110, 116, 101, 110, 116, 45, 76, 101, 110, 103, 116, 104, 58, 32]⟩ : ByteArray) ++ t242).size + 2 ≤ 9223372036854775807
          ·rw [if_pos c28] at H
           have c28b0 := eq_true c28
           have c28b1 : decide (((⟨#[67, 111, 110, 116, 101, 110, 116, 45, 76, 101, 110, 103, 116, 104, 58, 32]⟩ : ByteArray) ++ t242).size + 2 ≤ 9223372036854775807) = true := decide_eq_true c28
           try have c28b2 : (9223372036854775807 < ((⟨#[67, 111, 110, 116, 101, 110, 116, 45, 76, 101, 110, 103, 116, 104, 58, 32]⟩ : ByteArray) ++ t242).size + 2) = False := eq_false (Nat.not_lt.2 c28)
           (try (have c28b3 := c28b0; simp only [ByteArray.size_append', ByteArray.size_mk', List.size_toArray, List.length_cons, List.length_nil, Nat.reduceAdd] at c28b3))
           (try (have c28b4 := c28b1; simp only [ByteArray.size_append', ByteArray.size_mk', List.size_toArray, List.length_cons, List.length_nil, Nat.reduceAdd] at c28b4))
           (try (have c28b5 := c28b2; simp only [ByteArray.size_append', ByteArray.size_mk', List.size_toArray, List.length_cons, List.length_nil, Nat.reduceAdd] at c28b5))
           by_cases c29 : x6_1.length + (((⟨#[67, 111, 110, 116, 101, 110, 116, 45, 76, 101, 110, 103, 116, 104, 58, 32]⟩ : ByteArray) ++ t242) ++ (⟨#[13, 10]⟩ : ByteArray)).size < 140737488355328
           ·rw [if_pos c29] at H
            have LMc29 := Aq11 c29
            clear c29
            obtain ⟨y243, hy243⟩ : ∃ y_ : List Int, y_ = (x6_1 ++ bytesOf (((⟨#[67, 111, 110, 116, 101, 110, 116, 45, 76, 101, 110, 103, 116, 104, 58, 32]⟩ : ByteArray) ++ t242) ++ (⟨#[13, 10]⟩ : ByteArray))) := ⟨_, rfl⟩
            replace H : (if a0_3 = true then (if y243.length + 17 < 140737488355328 then ((some (y243 ++ bytesOf (⟨#[67, 111, 110, 110, 101, 99, 116, 105, 111, 110, 58, 32, 99, 108, 111, 115, 101]⟩ : ByteArray) : List Int)).bind fun y246 => (if y246.length + 2 < 140737488355328 then ((some (y246 ++ bytesOf (⟨#[13, 10]⟩ : ByteArray) : List Int)).bind fun y249 => (if y249.length + 2 < 140737488355328 then (some (strOfNums (y249 ++ bytesOf (⟨#[13, 10]⟩ : ByteArray)))) else (none))) else (none))) else (none)) else (if y243.length + 22 < 140737488355328 then ((some (y243 ++ bytesOf (⟨#[67, 111, 110, 110, 101, 99, 116, 105, 111, 110, 58, 32, 107, 101, 101, 112, 45, 97, 108, 105, 118, 101]⟩ : ByteArray) : List Int)).bind fun y255 => (if y255.length + 2 < 140737488355328 then ((some (y255 ++ bytesOf (⟨#[13, 10]⟩ : ByteArray) : List Int)).bind fun y258 => (if y258.length + 2 < 140737488355328 then (some (strOfNums (y258 ++ bytesOf (⟨#[13, 10]⟩ : ByteArray)))) else (none))) else (none))) else (none))) = some r := by first | (rw [hy243]; with_reducible exact H) | (have H2_ := (Option.bind_some _ _).symm.trans H; rw [hy243]; with_reducible exact H2_) | (have H2_ := (Option.bind_some _ _).symm.trans H; with_reducible exact H2_) | with_reducible exact H | (rw [hy243]; exact H) | exact H
            have Ny243 := Aq11 hy243
            clear hy243
            by_cases c30 : a0_3 = true
            ·subst c30
             have H1 : (if y243.length + 17 < 140737488355328 then ((some (y243 ++ bytesOf (⟨#[67, 111, 110, 110, 101, 99, 116, 105, 111, 110, 58, 32, 99, 108, 111, 115, 101]⟩ : ByteArray) : List Int)).bind fun y246 => (if y246.length + 2 < 140737488355328 then ((some (y246 ++ bytesOf (⟨#[13, 10]⟩ : ByteArray) : List Int)).bind fun y249 => (if y249.length + 2 < 140737488355328 then (some (strOfNums (y249 ++ bytesOf (⟨#[13, 10]⟩ : ByteArray)))) else (none))) else (none))) else (none)) = some r := by rw [if_pos rfl] at H; exact H
             clear H
             have H := H1
             clear H1
             by_cases c31 : y243.length + 17 < 140737488355328
             ·rw [if_pos c31] at H
              have LMc31 := Aq11 c31
              clear c31
              obtain ⟨y246, hy246⟩ : ∃ y_ : List Int, y_ = (y243 ++ bytesOf (⟨#[67, 111, 110, 110, 101, 99, 116, 105, 111, 110, 58, 32, 99, 108, 111, 115, 101]⟩ : ByteArray)) := ⟨_, rfl⟩
              replace H : (if y246.length + 2 < 140737488355328 then ((some (y246 ++ bytesOf (⟨#[13, 10]⟩ : ByteArray) : List Int)).bind fun y249 => (if y249.length + 2 < 140737488355328 then (some (strOfNums (y249 ++ bytesOf (⟨#[13, 10]⟩ : ByteArray)))) else (none))) else (none)) = some r := by first | (rw [hy246]; with_reducible exact H) | (have H2_ := (Option.bind_some _ _).symm.trans H; rw [hy246]; with_reducible exact H2_) | (have H2_ := (Option.bind_some _ _).symm.trans H; with_reducible exact H2_) | with_reducible exact H | (rw [hy246]; exact H) | exact H
              have Ny246 := Aq11 hy246
              clear hy246
              by_cases c32 : y246.length + 2 < 140737488355328
              ·rw [if_pos c32] at H
               have LMc32 := Aq11 c32
               clear c32
               obtain ⟨y249, hy249⟩ : ∃ y_ : List Int, y_ = (y246 ++ bytesOf (⟨#[13, 10]⟩ : ByteArray)) := ⟨_, rfl⟩
               replace H : (if y249.length + 2 < 140737488355328 then (some (strOfNums (y249 ++ bytesOf (⟨#[13, 10]⟩ : ByteArray)))) else (none)) = some r := by first | (rw [hy249]; with_reducible exact H) | (have H2_ := (Option.bind_some _ _).symm.trans H; rw [hy249]; with_reducible exact H2_) | (have H2_ := (Option.bind_some _ _).symm.trans H; with_reducible exact H2_) | with_reducible exact H | (rw [hy249]; exact H) | exact H
               have Ny249 := Aq11 hy249
               clear hy249
               by_cases c33 : y249.length + 2 < 140737488355328
               ·rw [if_pos c33] at H
                have LMc33 := Aq11 c33
                clear c33
                obtain ⟨y252, hy252⟩ : ∃ y_ : List Int, y_ = (y249 ++ bytesOf (⟨#[13, 10]⟩ : ByteArray)) := ⟨_, rfl⟩
                replace H : (some (strOfNums y252)) = some r := by first | (rw [hy252]; with_reducible exact H) | (have H2_ := (Option.bind_some _ _).symm.trans H; rw [hy252]; with_reducible exact H2_) | (have H2_ := (Option.bind_some _ _).symm.trans H; with_reducible exact H2_) | with_reducible exact H | (rw [hy252]; exact H) | exact H
                have Ny252 := Aq11 hy252
                clear hy252
                obtain rfl := Option.some.inj H
                have hcz34_0 : wr.cell? ⟨gb222, 0, none⟩ = some (.int .i64 a0_0) := (blk_cell BK222.out 0).trans rfl
                have hcz34_1 : wr.cell? ⟨gb222, 1, none⟩ = some (.slice A0_1 l0_1.length c0_1) := (blk_cell BK222.out 1).trans rfl
                have hcz34_2 : wr.cell? ⟨gb222, 2, none⟩ = some (.string a0_2) := (blk_cell BK222.out 2).trans rfl
                have hcz34_3 : wr.cell? ⟨gb222, 3, none⟩ = some (.bool true) := (blk_cell BK222.out 3).trans rfl
                have hfz34_0 := blk_frozen BK222.out 0
                have hfz34_1 := blk_frozen BK222.out 1
                have hfz34_2 := blk_frozen BK222.out 2
                have hfz34_3 := blk_frozen BK222.out 3
                go_wp2_with (first | ((with_reducible refine gate_callee (f := 39) rfl ?_); refine goesL_ (some 50) rfl rfl Tryd.func39 (by kernel_rfl) rfl #[.int .i64 a1] rfl tq11_9 ?_; (with_reducible refine (strconv_Itoa_39.calls a1 t242 _ A26.out ?side1).mono ?_); (case side1 => exact HG.out.step (tq11_a GE222.out) rfl); rintro e w35 ⟨rfl, hb⟩; refine ⟨_, rfl, ?_⟩; replace HO_6 := Aq11 (Kd.R_below (tq11_6 HO_6.out) hb); replace BK222 := Aq11 (blk_below (g := gb222) (o := .cells #[.int .i64 a0_0, .slice A0_1 l0_1.length c0_1, .string a0_2, .bool true] 24 (0, 0)) (tq11_7 BK222.out) hb); replace HB := Aq11 (below_step (tq11_a GE222.out) hb); (try clear hb); (try clear hb2); (try clear hk); (try clear hi)) | (at_builtin; refine print_append_str (w0 := w) w.heap.size rfl (.tmp 48) _ 61 9 5 rfl Tryd.underlying61 Tryd.underlying9 info5 u6 x6_1 (((⟨#[67, 111, 110, 116, 101, 110, 116, 45, 76, 101, 110, 103, 116, 104, 58, 32]⟩ : ByteArray) ++ t242) ++ (⟨#[13, 10]⟩ : ByteArray)) rfl rfl ?aO ?aB ?aS ?aL ?_; (case aB => exact (tq11_a GE222.out)); (case aO => exact (Kd.own_of_R (tq11_6 HO_6.out))); (case aS => exact (below_size (tq11_a GE222.out))); (case aL => have := LMc29.out; omega); intro v244 w36 ho0 hb hg; have ho := Kd.R_of_own (h1 := fun _ => rfl) (ok := fun _ => True) ho0 (fun _ _ => trivial); clear ho0; have hat := True.intro; rw [← Ny243.out] at ho; change Kd.R (Kd.int .u8) 5 w36 w.heap.size (fun _ => True) v244 y243 at ho; have n0_ := Aq11 (blk_grown (g := gb222) (o := .cells #[.int .i64 a0_0, .slice A0_1 l0_1.length c0_1, .string a0_2, .bool true] 24 (0, 0)) (tq11_7 BK222.out) hg (Kd.R_ne HO_6.out BK222.out (by decide))); have n1_ := Aq11 (hb); have n2_ := Aq11 (ho); clear BK222; clear HB; clear HO_6; have BK222 := n0_; have HB := n1_; have HO245 := n2_; clear n0_ n1_ n2_; clear ho hb hg hat; have hcz37_0 : w36.cell? ⟨gb222, 0, none⟩ = some (.int .i64 a0_0) := (blk_cell BK222.out 0).trans rfl; have hcz37_1 : w36.cell? ⟨gb222, 1, none⟩ = some (.slice A0_1 l0_1.length c0_1) := (blk_cell BK222.out 1).trans rfl; have hcz37_2 : w36.cell? ⟨gb222, 2, none⟩ = some (.string a0_2) := (blk_cell BK222.out 2).trans rfl; have hcz37_3 : w36.cell? ⟨gb222, 3, none⟩ = some (.bool true) := (blk_cell BK222.out 3).trans rfl; have hfz37_0 := blk_frozen BK222.out 0; have hfz37_1 := blk_frozen BK222.out 1; have hfz37_2 := blk_frozen BK222.out 2; have hfz37_3 := blk_frozen BK222.out 3) | (at_builtin; refine print_append_str (w0 := w) w.heap.size rfl (.tmp 56) _ 61 9 5 rfl Tryd.underlying61 Tryd.underlying9 info5 v244 y243 (⟨#[67, 111, 110, 110, 101, 99, 116, 105, 111, 110, 58, 32, 99, 108, 111, 115, 101]⟩ : ByteArray) rfl rfl ?aO ?aB ?aS ?aL ?_; (case aB => exact (tq11_a GE222.out)); (case aO => exact (Kd.own_of_R (tq11_6 HO245.out))); (case aS => exact (below_size (tq11_a GE222.out))); (case aL => have := LMc31.out; have hlx_ := (show ByteArray.size (⟨#[67, 111, 110, 110, 101, 99, 116, 105, 111, 110, 58, 32, 99, 108, 111, 115, 101]⟩ : ByteArray) = 17 from rfl); omega); intro v247 w38 ho0 hb hg; have ho := Kd.R_of_own (h1 := fun _ => rfl) (ok := fun _ => True) ho0 (fun _ _ => trivial); clear ho0; have hat := True.intro; rw [← Ny246.out] at ho; change Kd.R (Kd.int .u8) 5 w38 w.heap.size (fun _ => True) v247 y246 at ho; have n0_ := Aq11 (blk_grown (g := gb222) (o := .cells #[.int .i64 a0_0, .slice A0_1 l0_1.length c0_1, .string a0_2, .bool true] 24 (0, 0)) (tq11_7 BK222.out) hg (Kd.R_ne HO245.out BK222.out (by decide))); have n1_ := Aq11 (hb); have n2_ := Aq11 (ho); clear BK222; clear HB; clear HO245; have BK222 := n0_; have HB := n1_; have HO248 := n2_; clear n0_ n1_ n2_; clear ho hb hg hat) | (at_builtin; refine print_append_str (w0 := w) w.heap.size rfl (.tmp 60) _ 61 9 5 rfl Tryd.underlying61 Tryd.underlying9 info5 v247 y246 (⟨#[13, 10]⟩ : ByteArray) rfl rfl ?aO ?aB ?aS ?aL ?_; (case aB => exact (tq11_a GE222.out)); (case aO => exact (Kd.own_of_R (tq11_6 HO248.out))); (case aS => exact (below_size (tq11_a GE222.out))); (case aL => have := LMc32.out; have hlx_ := (show ByteArray.size (⟨#[13, 10]⟩ : ByteArray) = 2 from rfl); omega); intro v250 w39 ho0 hb hg; have ho := Kd.R_of_own (h1 := fun _ => rfl) (ok := fun _ => True) ho0 (fun _ _ => trivial); clear ho0; have hat := True.intro; rw [← Ny249.out] at ho; change Kd.R (Kd.int .u8) 5 w39 w.heap.size (fun _ => True) v250 y249 at ho; have n0_ := Aq11 (blk_grown (g := gb222) (o := .cells #[.int .i64 a0_0, .slice A0_1 l0_1.length c0_1, .string a0_2, .bool true] 24 (0, 0)) (tq11_7 BK222.out) hg (Kd.R_ne HO248.out BK222.out (by decide))); have n1_ := Aq11 (hb); have n2_ := Aq11 (ho); clear BK222; clear HB; clear HO248; have BK222 := n0_; have HB := n1_; have HO251 := n2_; clear n0_ n1_ n2_; clear ho hb hg hat) | (at_builtin; refine print_append_str (w0 := w) w.heap.size rfl (.tmp 62) _ 61 9 5 rfl Tryd.underlying61 Tryd.underlying9 info5 v250 y249 (⟨#[13, 10]⟩ : ByteArray) rfl rfl ?aO ?aB ?aS ?aL ?_; (case aB => exact (tq11_a GE222.out)); (case aO => exact (Kd.own_of_R (tq11_6 HO251.out))); (case aS => exact (below_size (tq11_a GE222.out))); (case aL => have := LMc33.out; have hlx_ := (show ByteArray.size (⟨#[13, 10]⟩ : ByteArray) = 2 from rfl); omega); intro v253 w40 ho0 hb hg; have ho := Kd.R_of_own (h1 := fun _ => rfl) (ok := fun _ => True) ho0 (fun _ _ => trivial); clear ho0; have hat := True.intro; rw [← Ny252.out] at ho; change Kd.R (Kd.int .u8) 5 w40 w.heap.size (fun _ => True) v253 y252 at ho; have n0_ := Aq11 (blk_grown (g := gb222) (o := .cells #[.int .i64 a0_0, .slice A0_1 l0_1.length c0_1, .string a0_2, .bool true] 24 (0, 0)) (tq11_7 BK222.out) hg (Kd.R_ne HO251.out BK222.out (by decide))); have n1_ := Aq11 (hb); have n2_ := Aq11 (ho); clear BK222; clear HB; clear HO251; have BK222 := n0_; have HB := n1_; have HO254 := n2_; clear n0_ n1_ n2_; clear ho hb hg hat; have hcv41 := own_string (P := Tryd.prog) Tryd.underlying61 Tryd.underlying5 Tryd.underlying9 (Kd.own_of_R HO254.out)))
                go_ret
                exact ⟨tq11_5, (tq11_a GE222.out)⟩
               ·rw [if_neg c33] at H
                exact absurd H (by simp)
              ·rw [if_neg c32] at H
               exact absurd H (by simp)
             ·rw [if_neg c31] at H
              exact absurd H (by simp)
            ·replace c30 := Bool.eq_false_iff.mpr c30
             subst c30
             have H1 : (if y243.length + 22 < 140737488355328 then ((some (y243 ++ bytesOf (⟨#[67, 111, 110, 110, 101, 99, 116, 105, 111, 110, 58, 32, 107, 101, 101, 112, 45, 97, 108, 105, 118, 101]⟩ : ByteArray) : List Int)).bind fun y255 => (if y255.length + 2 < 140737488355328 then ((some (y255 ++ bytesOf (⟨#[13, 10]⟩ : ByteArray) : List Int)).bind fun y258 => (if y258.length + 2 < 140737488355328 then (some (strOfNums (y258 ++ bytesOf (⟨#[13, 10]⟩ : ByteArray)))) else (none))) else (none))) else (none)) = some r := by rw [if_neg (show ¬ (false = true) by decide)] at H; exact H
             clear H
             have H := H1
             clear H1
             by_cases c42 : y243.length + 22 < 140737488355328
             ·rw [if_pos c42] at H
              have LMc42 := Aq11 c42
              clear c42
              obtain ⟨y255, hy255⟩ : ∃ y_ : List Int, y_ = (y243 ++ bytesOf (⟨#[67, 111, 110, 110, 101, 99, 116, 105, 111, 110, 58, 32, 107, 101, 101, 112, 45, 97, 108, 105, 118, 101]⟩ : ByteArray)) := ⟨_, rfl⟩
              replace H : (if y255.length + 2 < 140737488355328 then ((some (y255 ++ bytesOf (⟨#[13, 10]⟩ : ByteArray) : List Int)).bind fun y258 => (if y258.length + 2 < 140737488355328 then (some (strOfNums (y258 ++ bytesOf (⟨#[13, 10]⟩ : ByteArray)))) else (none))) else (none)) = some r := by first | (rw [hy255]; with_reducible exact H) | (have H2_ := (Option.bind_some _ _).symm.trans H; rw [hy255]; with_reducible exact H2_) | (have H2_ := (Option.bind_some _ _).symm.trans H; with_reducible exact H2_) | with_reducible exact H | (rw [hy255]; exact H) | exact H
              have Ny255 := Aq11 hy255
              clear hy255
              by_cases c43 : y255.length + 2 < 140737488355328
              ·rw [if_pos c43] at H
               have LMc43 := Aq11 c43
               clear c43
               obtain ⟨y258, hy258⟩ : ∃ y_ : List Int, y_ = (y255 ++ bytesOf (⟨#[13, 10]⟩ : ByteArray)) := ⟨_, rfl⟩
               replace H : (if y258.length + 2 < 140737488355328 then (some (strOfNums (y258 ++ bytesOf (⟨#[13, 10]⟩ : ByteArray)))) else (none)) = some r := by first | (rw [hy258]; with_reducible exact H) | (have H2_ := (Option.bind_some _ _).symm.trans H; rw [hy258]; with_reducible exact H2_) | (have H2_ := (Option.bind_some _ _).symm.trans H; with_reducible exact H2_) | with_reducible exact H | (rw [hy258]; exact H) | exact H
               have Ny258 := Aq11 hy258
               clear hy258
               by_cases c44 : y258.length + 2 < 140737488355328
               ·rw [if_pos c44] at H
                have LMc44 := Aq11 c44
                clear c44
                obtain ⟨y261, hy261⟩ : ∃ y_ : List Int, y_ = (y258 ++ bytesOf (⟨#[13, 10]⟩ : ByteArray)) := ⟨_, rfl⟩
                replace H : (some (strOfNums y261)) = some r := by first | (rw [hy261]; with_reducible exact H) | (have H2_ := (Option.bind_some _ _).symm.trans H; rw [hy261]; with_reducible exact H2_) | (have H2_ := (Option.bind_some _ _).symm.trans H; with_reducible exact H2_) | with_reducible exact H | (rw [hy261]; exact H) | exact H
                have Ny261 := Aq11 hy261
                clear hy261
                obtain rfl := Option.some.inj H
                have hcz45_0 : wr.cell? ⟨gb222, 0, none⟩ = some (.int .i64 a0_0) := (blk_cell BK222.out 0).trans rfl
                have hcz45_1 : wr.cell? ⟨gb222, 1, none⟩ = some (.slice A0_1 l0_1.length c0_1) := (blk_cell BK222.out 1).trans rfl
                have hcz45_2 : wr.cell? ⟨gb222, 2, none⟩ = some (.string a0_2) := (blk_cell BK222.out 2).trans rfl
                have hcz45_3 : wr.cell? ⟨gb222, 3, none⟩ = some (.bool false) := (blk_cell BK222.out 3).trans rfl
                have hfz45_0 := blk_frozen BK222.out 0
                have hfz45_1 := blk_frozen BK222.out 1
                have hfz45_2 := blk_frozen BK222.out 2
                have hfz45_3 := blk_frozen BK222.out 3
                go_wp2_with (first | ((with_reducible refine gate_callee (f := 39) rfl ?_); refine goesL_ (some 50) rfl rfl Tryd.func39 (by kernel_rfl) rfl #[.int .i64 a1] rfl tq11_9 ?_; (with_reducible refine (strconv_Itoa_39.calls a1 t242 _ A26.out ?side1).mono ?_); (case side1 => exact HG.out.step (tq11_a GE222.out) rfl); rintro e w46 ⟨rfl, hb⟩; refine ⟨_, rfl, ?_⟩; replace HO_6 := Aq11 (Kd.R_below (tq11_6 HO_6.out) hb); replace BK222 := Aq11 (blk_below (g := gb222) (o := .cells #[.int .i64 a0_0, .slice A0_1 l0_1.length c0_1, .string a0_2, .bool false] 24 (0, 0)) (tq11_7 BK222.out) hb); replace HB := Aq11 (below_step (tq11_a GE222.out) hb); (try clear hb); (try clear hb2); (try clear hk); (try clear hi)) | (at_builtin; refine print_append_str (w0 := w) w.heap.size rfl (.tmp 48) _ 61 9 5 rfl Tryd.underlying61 Tryd.underlying9 info5 u6 x6_1 (((⟨#[67, 111, 110, 116, 101, 110, 116, 45, 76, 101, 110, 103, 116, 104, 58, 32]⟩ : ByteArray) ++ t242) ++ (⟨#[13, 10]⟩ : ByteArray)) rfl rfl ?aO ?aB ?aS ?aL ?_; (case aB => exact (tq11_a GE222.out)); (case aO => exact (Kd.own_of_R (tq11_6 HO_6.out))); (case aS => exact (below_size (tq11_a GE222.out))); (case aL => have := LMc29.out; omega); intro v244 w47 ho0 hb hg; have ho := Kd.R_of_own (h1 := fun _ => rfl) (ok := fun _ => True) ho0 (fun _ _ => trivial); clear ho0; have hat := True.intro; rw [← Ny243.out] at ho; change Kd.R (Kd.int .u8) 5 w47 w.heap.size (fun _ => True) v244 y243 at ho; have n0_ := Aq11 (blk_grown (g := gb222) (o := .cells #[.int .i64 a0_0, .slice A0_1 l0_1.length c0_1, .string a0_2, .bool false] 24 (0, 0)) (tq11_7 BK222.out) hg (Kd.R_ne HO_6.out BK222.out (by decide))); have n1_ := Aq11 (hb); have n2_ := Aq11 (ho); clear BK222; clear HB; clear HO_6; have BK222 := n0_; have HB := n1_; have HO245 := n2_; clear n0_ n1_ n2_; clear ho hb hg hat; have hcz48_0 : w47.cell? ⟨gb222, 0, none⟩ = some (.int .i64 a0_0) := (blk_cell BK222.out 0).trans rfl; have hcz48_1 : w47.cell? ⟨gb222, 1, none⟩ = some (.slice A0_1 l0_1.length c0_1) := (blk_cell BK222.out 1).trans rfl; have hcz48_2 : w47.cell? ⟨gb222, 2, none⟩ = some (.string a0_2) := (blk_cell BK222.out 2).trans rfl; have hcz48_3 : w47.cell? ⟨gb222, 3, none⟩ = some (.bool false) := (blk_cell BK222.out 3).trans rfl; have hfz48_0 := blk_frozen BK222.out 0; have hfz48_1 := blk_frozen BK222.out 1; have hfz48_2 := blk_frozen BK222.out 2; have hfz48_3 := blk_frozen BK222.out 3) | (at_builtin; refine print_append_str (w0 := w) w.heap.size rfl (.tmp 58) _ 61 9 5 rfl Tryd.underlying61 Tryd.underlying9 info5 v244 y243 (⟨#[67, 111, 110, 110, 101, 99, 116, 105, 111, 110, 58, 32, 107, 101, 101, 112, 45, 97, 108, 105, 118, 101]⟩ : ByteArray) rfl rfl ?aO ?aB ?aS ?aL ?_; (case aB => exact (tq11_a GE222.out)); (case aO => exact (Kd.own_of_R (tq11_6 HO245.out))); (case aS => exact (below_size (tq11_a GE222.out))); (case aL => have := LMc42.out; have hlx_ := (show ByteArray.size (⟨#[67, 111, 110, 110, 101, 99, 116, 105, 111, 110, 58, 32, 107, 101, 101, 112, 45, 97, 108, 105, 118, 101]⟩ : ByteArray) = 22 from rfl); omega); intro v256 w49 ho0 hb hg; have ho := Kd.R_of_own (h1 := fun _ => rfl) (ok := fun _ => True) ho0 (fun _ _ => trivial); clear ho0; have hat := True.intro; rw [← Ny255.out] at ho; change Kd.R (Kd.int .u8) 5 w49 w.heap.size (fun _ => True) v256 y255 at ho; have n0_ := Aq11 (blk_grown (g := gb222) (o := .cells #[.int .i64 a0_0, .slice A0_1 l0_1.length c0_1, .string a0_2, .bool false] 24 (0, 0)) (tq11_7 BK222.out) hg (Kd.R_ne HO245.out BK222.out (by decide))); have n1_ := Aq11 (hb); have n2_ := Aq11 (ho); clear BK222; clear HB; clear HO245; have BK222 := n0_; have HB := n1_; have HO257 := n2_; clear n0_ n1_ n2_; clear ho hb hg hat) | (at_builtin; refine print_append_str (w0 := w) w.heap.size rfl (.tmp 60) _ 61 9 5 rfl Tryd.underlying61 Tryd.underlying9 info5 v256 y255 (⟨#[13, 10]⟩ : ByteArray) rfl rfl ?aO ?aB ?aS ?aL ?_; (case aB => exact (tq11_a GE222.out)); (case aO => exact (Kd.own_of_R (tq11_6 HO257.out))); (case aS => exact (below_size (tq11_a GE222.out))); (case aL => have := LMc43.out; have hlx_ := (show ByteArray.size (⟨#[13, 10]⟩ : ByteArray) = 2 from rfl); omega); intro v259 w50 ho0 hb hg; have ho := Kd.R_of_own (h1 := fun _ => rfl) (ok := fun _ => True) ho0 (fun _ _ => trivial); clear ho0; have hat := True.intro; rw [← Ny258.out] at ho; change Kd.R (Kd.int .u8) 5 w50 w.heap.size (fun _ => True) v259 y258 at ho; have n0_ := Aq11 (blk_grown (g := gb222) (o := .cells #[.int .i64 a0_0, .slice A0_1 l0_1.length c0_1, .string a0_2, .bool false] 24 (0, 0)) (tq11_7 BK222.out) hg (Kd.R_ne HO257.out BK222.out (by decide))); have n1_ := Aq11 (hb); have n2_ := Aq11 (ho); clear BK222; clear HB; clear HO257; have BK222 := n0_; have HB := n1_; have HO260 := n2_; clear n0_ n1_ n2_; clear ho hb hg hat) | (at_builtin; refine print_append_str (w0 := w) w.heap.size rfl (.tmp 62) _ 61 9 5 rfl Tryd.underlying61 Tryd.underlying9 info5 v259 y258 (⟨#[13, 10]⟩ : ByteArray) rfl rfl ?aO ?aB ?aS ?aL ?_; (case aB => exact (tq11_a GE222.out)); (case aO => exact (Kd.own_of_R (tq11_6 HO260.out))); (case aS => exact (below_size (tq11_a GE222.out))); (case aL => have := LMc44.out; have hlx_ := (show ByteArray.size (⟨#[13, 10]⟩ : ByteArray) = 2 from rfl); omega); intro v262 w51 ho0 hb hg; have ho := Kd.R_of_own (h1 := fun _ => rfl) (ok := fun _ => True) ho0 (fun _ _ => trivial); clear ho0; have hat := True.intro; rw [← Ny261.out] at ho; change Kd.R (Kd.int .u8) 5 w51 w.heap.size (fun _ => True) v262 y261 at ho; have n0_ := Aq11 (blk_grown (g := gb222) (o := .cells #[.int .i64 a0_0, .slice A0_1 l0_1.length c0_1, .string a0_2, .bool false] 24 (0, 0)) (tq11_7 BK222.out) hg (Kd.R_ne HO260.out BK222.out (by decide))); have n1_ := Aq11 (hb); have n2_ := Aq11 (ho); clear BK222; clear HB; clear HO260; have BK222 := n0_; have HB := n1_; have HO263 := n2_; clear n0_ n1_ n2_; clear ho hb hg hat; have hcv52 := own_string (P := Tryd.prog) Tryd.underlying61 Tryd.underlying5 Tryd.underlying9 (Kd.own_of_R HO263.out)))
                go_ret
                exact ⟨tq11_5, (tq11_a GE222.out)⟩
               ·rw [if_neg c44] at H
                exact absurd H (by simp)
              ·rw [if_neg c43] at H
               exact absurd H (by simp)
             ·rw [if_neg c42] at H
              exact absurd H (by simp)
           ·rw [if_neg c29] at H
            exact absurd H (by simp)
          ·rw [if_neg c28] at H
           exact absurd H (by simp)
         ·rw [if_neg c27] at H
          exact absurd H (by simp)
     ·rw [if_neg c9] at H
      exact absurd H (by simp)
    ·rw [if_neg c8] at H
     exact absurd H (by simp)
   ·rw [if_neg c7] at H
    exact absurd H (by simp)
  ·rw [if_neg c6] at H
   exact absurd H (by simp)
 ·rw [if_neg c5] at H
  exact absurd H (by simp)

/-! ### usherref8_headEnd: function 56 -/
def usherref8_headEnd.l0 : Nat → ByteArray → Int → Option (Int)
 | 0, _, _ => none
 | k + 1, x0, x3 => if (wrap64 (x3 + 4)) ≤ (x0.size : Int) then (if 0 ≤ x3 then (if x3 ≤ (wrap64 (x3 + 4)) then (if (x0.extract (x3 : Int).toNat ((wrap64 (x3 + 4)) : Int).toNat).toList = ([13, 10, 13, 10] : List UInt8) then (some (wrap64 (x3 + 4))) else (usherref8_headEnd.l0 k x0 (wrap64 (x3 + 1)))) else (none)) else (none)) else (some (-1))
def usherref8_headEnd.f (k : Nat) (a0 : ByteArray) : Option (Int) := usherref8_headEnd.l0 k a0 0
theorem usherref8_headEnd.mono_l : ∀ k, (∀ y0 y1, LeO (usherref8_headEnd.l0 k y0 y1) (usherref8_headEnd.l0 (k + 1) y0 y1))
 | 0 => fun _ _ r h => by simp [usherref8_headEnd.l0] at h
 | k + 1 => by
  have ih0 := usherref8_headEnd.mono_l k
  ·intro y0 y1
   unfold usherref8_headEnd.l0
   repeat' first
   | (with_reducible exact ih0 _ _)
   | (with_reducible exact LeO.refl _)
   | (with_reducible exact LeO.none _)
   | (with_reducible refine LeO.ite ?_ ?_)
   | (with_reducible refine LeO.bind ?_ (fun _ => ?_))
   | exact ih0 _ _
   | exact LeO.none _
   | refine LeO.ite ?_ ?_
   | refine LeO.bind ?_ (fun _ => ?_)
theorem usherref8_headEnd.mono : ∀ a0 k, LeO (usherref8_headEnd.f k a0) (usherref8_headEnd.f (k + 1) a0) := by
 intro a0 k
 have ih0 := usherref8_headEnd.mono_l k
 unfold usherref8_headEnd.f
 repeat' first
   | (with_reducible exact ih0 _ _)
   | (with_reducible exact LeO.refl _)
   | (with_reducible exact LeO.none _)
   | (with_reducible refine LeO.ite ?_ ?_)
   | (with_reducible refine LeO.bind ?_ (fun _ => ?_))
   | exact ih0 _ _
   | exact LeO.none _
   | refine LeO.ite ?_ ?_
   | refine LeO.bind ?_ (fun _ => ?_)
set_option maxHeartbeats 8000000 in
set_option maxRecDepth 100000 in
theorem usherref8_headEnd.calls (k : Nat) (a0 : ByteArray) (r : Int) (w : World) (h : usherref8_headEnd.f k a0 = some r) :
  Calls Tryd.prog 56 #[.string a0] w fun e w' => e = .returned (.int .i64 r) ∧ Drawn0 w w' := by
 have H : (usherref8_headEnd.l0 k a0 0) = some r := h
 clear h
 have H' := Aq11 H
 clear H
 go_enter Tryd.func56, Tryd.ntmps56
 go_wp2
 go_loopg [3] k (fun kq v3 w' => ∃ (x3_1 : Int), v3 = .int .i64 x3_1 ∧ Aside0 (usherref8_headEnd.l0 kq a0 x3_1 = some r) ∧ Aside0 (kq ≤ k) ∧ Drawn0 w w')
 case atStart => exact ⟨(0), tq11_0, H', ⟨Nat.le_refl _⟩, tq11_2⟩
 case round =>
  clear H'
  obtain ⟨x3_1, rfl, HA, HK1, ⟨m1, rfl⟩⟩ := hrel
  cases gk with
  | zero => exact absurd HA.out (by simp [usherref8_headEnd.l0])
  | succ k1 =>
   have H := HA.out
   clear HA
   simp only [usherref8_headEnd.l0] at H
   by_cases c2 : (wrap64 (x3_1 + 4)) ≤ (a0.size : Int)
   ·rw [if_pos c2] at H
    have c2b0 : decide ((wrap64 (x3_1 + 4)) ≤ (a0.size : Int)) = true := decide_eq_true c2
    clear c2
    by_cases c3 : 0 ≤ x3_1
    ·rw [if_pos c3] at H
     have c3b0 := eq_true c3
     have c3b1 : decide (0 ≤ x3_1) = true := decide_eq_true c3
     clear c3
     by_cases c4 : x3_1 ≤ (wrap64 (x3_1 + 4))
     ·rw [if_pos c4] at H
      have c4b0 := eq_true c4
      have c4b1 : decide (x3_1 ≤ (wrap64 (x3_1 + 4))) = true := decide_eq_true c4
      clear c4
      have c5b0 := eq_true (of_decide_eq_true tq11_1 : (wrap64 (x3_1 + 4)) ≤ (a0.size : Int))
      by_cases c6 : (a0.extract (x3_1 : Int).toNat ((wrap64 (x3_1 + 4)) : Int).toNat).toList = ([13, 10, 13, 10] : List UInt8)
      ·rw [if_pos c6] at H
       have c6b0 : ((a0.extract (x3_1 : Int).toNat ((wrap64 (x3_1 + 4)) : Int).toNat).toList == ([13, 10, 13, 10] : List UInt8)) = true := beq_iff_eq.mpr c6
       have c6b1 : ((a0.extract (x3_1 : Int).toNat ((wrap64 (x3_1 + 4)) : Int).toNat).toList != ([13, 10, 13, 10] : List UInt8)) = false := bne_eq_false_iff_eq.mpr c6
       clear c6
       obtain rfl := Option.some.inj H
       go_wp2
       go_ret
       exact ⟨tq11_0, tq11_2⟩
      ·rw [if_neg c6] at H
       have c6b0 : ((a0.extract (x3_1 : Int).toNat ((wrap64 (x3_1 + 4)) : Int).toNat).toList == ([13, 10, 13, 10] : List UInt8)) = false := beq_eq_false_iff_ne.mpr c6
       have c6b1 : ((a0.extract (x3_1 : Int).toNat ((wrap64 (x3_1 + 4)) : Int).toNat).toList != ([13, 10, 13, 10] : List UInt8)) = true := bne_iff_ne.mpr c6
       have H' := Aq11 H
       clear H
       go_wp2
       go_roundg k1
       case measure => have := HK1.out; omega
       case rel => exact ⟨(wrap64 (x3_1 + 1)), tq11_0, H', ⟨by have := HK1.out; omega⟩, tq11_2⟩
     ·rw [if_neg c4] at H
      exact absurd H (by simp)
    ·rw [if_neg c3] at H
     exact absurd H (by simp)
   ·rw [if_neg c2] at H
    have c2b0 : decide ((wrap64 (x3_1 + 4)) ≤ (a0.size : Int)) = false := decide_eq_false c2
    clear c2
    obtain rfl := Option.some.inj H
    go_wp2
    go_ret
    exact ⟨tq11_0, tq11_2⟩

/-! ### usherref8_lines: function 79 -/
def usherref8_lines.l0 : Nat → ByteArray → List ByteArray → Int → Int → Option (List ByteArray)
 | 0, _, _, _, _ => none
 | k + 1, x0, x3, x4, x5 => if (wrap64 (x5 + 1)) < (x0.size : Int) then (if 0 ≤ x5 then (if x5 < (x0.size : Int) then (if (bt x0 x5) = 13 then (if 0 ≤ (wrap64 (x5 + 1)) then (if (bt x0 (wrap64 (x5 + 1))) = 10 then (if 0 ≤ x4 then (if x4 ≤ x5 then (if x5 ≤ (x0.size : Int) then (if x3.length < 8796093022208 then (usherref8_lines.l0 k x0 (x3 ++ [x0.extract (x4 : Int).toNat (x5 : Int).toNat]) (wrap64 (x5 + 2)) (wrap64 (x5 + 1))) else (none)) else (none)) else (none)) else (none)) else (usherref8_lines.l0 k x0 x3 x4 (wrap64 (x5 + 1)))) else (none)) else (usherref8_lines.l0 k x0 x3 x4 (wrap64 (x5 + 1)))) else (none)) else (none)) else (if 0 ≤ x4 then (if x4 ≤ (x0.size : Int) then (if x3.length < 8796093022208 then (some (x3 ++ [x0.extract (x4 : Int).toNat x0.size])) else (none)) else (none)) else (none))
def usherref8_lines.f (k : Nat) (a0 : ByteArray) : Option (List ByteArray) := usherref8_lines.l0 k a0 ([] : List ByteArray) 0 0
theorem usherref8_lines.mono_l : ∀ k, (∀ y0 y1 y2 y3, LeO (usherref8_lines.l0 k y0 y1 y2 y3) (usherref8_lines.l0 (k + 1) y0 y1 y2 y3))
 | 0 => fun _ _ _ _ r h => by simp [usherref8_lines.l0] at h
 | k + 1 => by
  have ih0 := usherref8_lines.mono_l k
  ·intro y0 y1 y2 y3
   unfold usherref8_lines.l0
   repeat' first
   | (with_reducible exact ih0 _ _ _ _)
   | (with_reducible exact LeO.refl _)
   | (with_reducible exact LeO.none _)
   | (with_reducible refine LeO.ite ?_ ?_)
   | (with_reducible refine LeO.bind ?_ (fun _ => ?_))
   | exact ih0 _ _ _ _
   | exact LeO.none _
   | refine LeO.ite ?_ ?_
   | refine LeO.bind ?_ (fun _ => ?_)
theorem usherref8_lines.mono : ∀ a0 k, LeO (usherref8_lines.f k a0) (usherref8_lines.f (k + 1) a0) := by
 intro a0 k
 have ih0 := usherref8_lines.mono_l k
 unfold usherref8_lines.f
 repeat' first
   | (with_reducible exact ih0 _ _ _ _)
   | (with_reducible exact LeO.refl _)
   | (with_reducible exact LeO.none _)
   | (with_reducible refine LeO.ite ?_ ?_)
   | (with_reducible refine LeO.bind ?_ (fun _ => ?_))
   | exact ih0 _ _ _ _
   | exact LeO.none _
   | refine LeO.ite ?_ ?_
   | refine LeO.bind ?_ (fun _ => ?_)
set_option maxHeartbeats 8000000 in
set_option maxRecDepth 100000 in
theorem usherref8_lines.calls (k : Nat) (a0 : ByteArray) (r : List ByteArray) (w : World) (h : usherref8_lines.f k a0 = some r) :
  Calls Tryd.prog 79 #[.string a0] w fun e w' => ∃ v0_ : Value, e = .returned (v0_) ∧ Kd.R Kd.string 9 w' w.heap.size (fun _ => True) v0_ r ∧ Below w.heap.size w w' := by
 have HB := Aq11 (Below.refl w.heap.size w)
 have H : (usherref8_lines.l0 k a0 ([] : List ByteArray) 0 0) = some r := h
 clear h
 have H' := Aq11 H
 clear H
 go_enter Tryd.func79, Tryd.ntmps79
 go_wp2
 go_loopg [3, 4, 5] k (fun kq v3 v4 v5 w' => ∃ (x3_1 : List ByteArray) (x4_1 : Int) (x5_1 : Int), v4 = .int .i64 x4_1 ∧ v5 = .int .i64 x5_1 ∧ Aside0 (usherref8_lines.l0 kq a0 x3_1 x4_1 x5_1 = some r) ∧ Aside0 (kq ≤ k) ∧ Aside0 (Kd.R Kd.string 9 w' w.heap.size (fun _ => True) v3 x3_1) ∧ Aside0 (Below w.heap.size w w'))
 case atStart => exact ⟨(([] : List ByteArray)), (0), (0), tq11_0, tq11_0, H', ⟨Nat.le_refl _⟩, ⟨by first | exact Kd.R_nil _ _ _ _ _ | exact Kd.N_nil _ _ _ _ _ | exact Kd.V_nil _ _ _ _ _ | exact Kd.Q_nil _ _ _ _ _ | exact Kd.S_nil _ _ _ _ _⟩, ⟨tq11_8⟩⟩
 case round =>
  clear H'
  obtain ⟨x3_1, x4_1, x5_1, rfl, rfl, HA, HK1, HO_3, HB⟩ := hrel
  cases gk with
  | zero => exact absurd HA.out (by simp [usherref8_lines.l0])
  | succ k1 =>
   have H := HA.out
   clear HA
   simp only [usherref8_lines.l0] at H
   by_cases c2 : (wrap64 (x5_1 + 1)) < (a0.size : Int)
   ·rw [if_pos c2] at H
    have c2b0 : decide ((wrap64 (x5_1 + 1)) < (a0.size : Int)) = true := decide_eq_true c2
    clear c2
    by_cases c3 : 0 ≤ x5_1
    ·rw [if_pos c3] at H
     have c3b0 : decide (0 ≤ x5_1) = true := decide_eq_true c3
     clear c3
     by_cases c4 : x5_1 < (a0.size : Int)
     ·rw [if_pos c4] at H
      have c4b0 : decide (x5_1 < (a0.size : Int)) = true := decide_eq_true c4
      clear c4
      by_cases c6 : (bt a0 x5_1) = 13
      ·rw [if_pos c6] at H
       have c6b0 : ((bt a0 x5_1) == 13) = true := beq_iff_eq.mpr c6
       have c6b1 : ((bt a0 x5_1) != 13) = false := bne_eq_false_iff_eq.mpr c6
       clear c6
       obtain ⟨ji7, hji7⟩ : ∃ j_ : Int, (wrap64 (x5_1 + 1)) = j_ := ⟨_, rfl⟩
       replace H : (if 0 ≤ (ji7) then (if (bt a0 (ji7)) = 10 then (if 0 ≤ x4_1 then (if x4_1 ≤ x5_1 then (if x5_1 ≤ (a0.size : Int) then (if x3_1.length < 8796093022208 then (usherref8_lines.l0 k1 a0 (x3_1 ++ [a0.extract (x4_1 : Int).toNat (x5_1 : Int).toNat]) (wrap64 (x5_1 + 2)) ji7) else (none)) else (none)) else (none)) else (none)) else (usherref8_lines.l0 k1 a0 x3_1 x4_1 ji7)) else (none)) = some r := by first | (rw [hji7] at H; exact H) | (simp only [hji7] at H ⊢; exact H)
       (try rw [hji7] at c2b0)
       have hji7w : (IntKind.i64.wrap (x5_1 + 1)) = ji7 := (i64_w _).trans hji7
       by_cases c8 : 0 ≤ (ji7)
       ·rw [if_pos c8] at H
        have c8b0 : decide (0 ≤ (ji7)) = true := decide_eq_true c8
        clear c8
        by_cases c10 : (bt a0 (ji7)) = 10
        ·rw [if_pos c10] at H
         have c10b0 : ((bt a0 (ji7)) == 10) = true := beq_iff_eq.mpr c10
         have c10b1 : ((bt a0 (ji7)) != 10) = false := bne_eq_false_iff_eq.mpr c10
         clear c10
         by_cases c11 : 0 ≤ x4_1
         ·rw [if_pos c11] at H
          have c11b0 := eq_true c11
          have c11b1 : decide (0 ≤ x4_1) = true := decide_eq_true c11
          clear c11
          by_cases c12 : x4_1 ≤ x5_1
          ·rw [if_pos c12] at H
           have c12b0 := eq_true c12
           have c12b1 : decide (x4_1 ≤ x5_1) = true := decide_eq_true c12
           clear c12
           by_cases c13 : x5_1 ≤ (a0.size : Int)
           ·rw [if_pos c13] at H
            have c13b0 := eq_true c13
            have c13b1 : decide (x5_1 ≤ (a0.size : Int)) = true := decide_eq_true c13
            clear c13
            by_cases c14 : x3_1.length < 8796093022208
            ·rw [if_pos c14] at H
             have LMc14 := Aq11 c14
             clear c14
             obtain ⟨y264, hy264⟩ : ∃ y_ : List ByteArray, y_ = (x3_1 ++ [a0.extract (x4_1 : Int).toNat (x5_1 : Int).toNat]) := ⟨_, rfl⟩
             replace H : (usherref8_lines.l0 k1 a0 y264 (wrap64 (x5_1 + 2)) ji7) = some r := by first | (rw [hy264]; with_reducible exact H) | (have H2_ := (Option.bind_some _ _).symm.trans H; rw [hy264]; with_reducible exact H2_) | (have H2_ := (Option.bind_some _ _).symm.trans H; with_reducible exact H2_) | with_reducible exact H | (rw [hy264]; exact H) | exact H
             have Ny264 := Aq11 hy264
             clear hy264
             have H' := Aq11 H
             clear H
             have p5 : 0 ≤ (x5_1 : Int) := of_decide_eq_true tq11_1
             have q5 : x5_1 < (a0.size : Int) := of_decide_eq_true tq11_1
             have hx5 := bt_at a0 x5_1
             replace p5 := eq_true p5
             replace q5 := eq_true q5
             have p9 : 0 ≤ ((ji7) : Int) := of_decide_eq_true tq11_1
             have q9 : (ji7) < (a0.size : Int) := of_decide_eq_true tq11_1
             have hx9 := bt_at a0 (ji7)
             replace p9 := eq_true p9
             replace q9 := eq_true q9
             go_wp2_with (first | ((with_reducible refine gate_builtin (b := .append) (xs := #[.tmp 24, .tmp 29]) rfl ?_); at_builtin; refine Kd.R_append Kd.string (w0 := w) w.heap.size rfl (.tmp 24) (.tmp 29) 81 9 (.string ⟨#[]⟩) 16 rfl Tryd.underlying81 info9 rfl (by decide) (by omega) u3 x3_1 (a0.extract (x4_1 : Int).toNat (x5_1 : Int).toNat) [.string (a0.extract (x4_1 : Int).toNat (x5_1 : Int).toNat)] (fun _ => True) (fun _ => False) rfl rfl ?aP (fun _ hk => hk.elim) ?aF ?aO ?aB ?aS ?aL ?_; (case aP => exact rfl); (case aB => exact tq11_8); (case aF => exact (fun _ _ => trivial)); (case aO => exact (tq11_6 HO_3.out)); (case aS => exact (below_size tq11_8)); (case aL => have := LMc14.out; omega); intro v265 w15 ho hb hg hat; rw [← Ny264.out] at ho; have n0_ := Aq11 (hb); have n1_ := Aq11 (ho); clear HB; clear HO_3; have HB := n0_; have HO266 := n1_; clear n0_ n1_; clear ho hb hg hat))
             go_roundg k1
             case measure => have := HK1.out; omega
             case rel => exact ⟨(y264), (wrap64 (x5_1 + 2)), (ji7), tq11_0, tq11_4, tq11_3, ⟨by have := HK1.out; omega⟩, ⟨(tq11_6 HO266.out)⟩, ⟨tq11_8⟩⟩
            ·rw [if_neg c14] at H
             exact absurd H (by simp)
           ·rw [if_neg c13] at H
            exact absurd H (by simp)
          ·rw [if_neg c12] at H
           exact absurd H (by simp)
         ·rw [if_neg c11] at H
          exact absurd H (by simp)
        ·rw [if_neg c10] at H
         have c10b0 : ((bt a0 (ji7)) == 10) = false := beq_eq_false_iff_ne.mpr c10
         have c10b1 : ((bt a0 (ji7)) != 10) = true := bne_iff_ne.mpr c10
         have H' := Aq11 H
         clear H
         have p5 : 0 ≤ (x5_1 : Int) := of_decide_eq_true tq11_1
         have q5 : x5_1 < (a0.size : Int) := of_decide_eq_true tq11_1
         have hx5 := bt_at a0 x5_1
         replace p5 := eq_true p5
         replace q5 := eq_true q5
         have p9 : 0 ≤ ((ji7) : Int) := of_decide_eq_true tq11_1
         have q9 : (ji7) < (a0.size : Int) := of_decide_eq_true tq11_1
         have hx9 := bt_at a0 (ji7)
         replace p9 := eq_true p9
         replace q9 := eq_true q9
         go_wp2
         go_roundg k1
         case measure => have := HK1.out; omega
         case rel => exact ⟨(x3_1), (x4_1), (ji7), tq11_0, tq11_4, tq11_3, ⟨by have := HK1.out; omega⟩, ⟨(tq11_6 HO_3.out)⟩, ⟨tq11_8⟩⟩
       ·rw [if_neg c8] at H
        exact absurd H (by simp)
      ·rw [if_neg c6] at H
       have c6b0 : ((bt a0 x5_1) == 13) = false := beq_eq_false_iff_ne.mpr c6
       have c6b1 : ((bt a0 x5_1) != 13) = true := bne_iff_ne.mpr c6
       have H' := Aq11 H
       clear H
       have p5 : 0 ≤ (x5_1 : Int) := of_decide_eq_true tq11_1
       have q5 : x5_1 < (a0.size : Int) := of_decide_eq_true tq11_1
       have hx5 := bt_at a0 x5_1
       replace p5 := eq_true p5
       replace q5 := eq_true q5
       go_wp2
       go_roundg k1
       case measure => have := HK1.out; omega
       case rel => exact ⟨(x3_1), (x4_1), (wrap64 (x5_1 + 1)), tq11_0, tq11_0, H', ⟨by have := HK1.out; omega⟩, ⟨(tq11_6 HO_3.out)⟩, ⟨tq11_8⟩⟩
     ·rw [if_neg c4] at H
      exact absurd H (by simp)
    ·rw [if_neg c3] at H
     exact absurd H (by simp)
   ·rw [if_neg c2] at H
    have c2b0 : decide ((wrap64 (x5_1 + 1)) < (a0.size : Int)) = false := decide_eq_false c2
    clear c2
    by_cases c16 : 0 ≤ x4_1
    ·rw [if_pos c16] at H
     have c16b0 := eq_true c16
     have c16b1 : decide (0 ≤ x4_1) = true := decide_eq_true c16
     clear c16
     by_cases c17 : x4_1 ≤ (a0.size : Int)
     ·rw [if_pos c17] at H
      have c17b0 := eq_true c17
      have c17b1 : decide (x4_1 ≤ (a0.size : Int)) = true := decide_eq_true c17
      clear c17
      by_cases c18 : x3_1.length < 8796093022208
      ·rw [if_pos c18] at H
       have LMc18 := Aq11 c18
       clear c18
       obtain ⟨y267, hy267⟩ : ∃ y_ : List ByteArray, y_ = (x3_1 ++ [a0.extract (x4_1 : Int).toNat a0.size]) := ⟨_, rfl⟩
       replace H : (some y267) = some r := by first | (rw [hy267]; with_reducible exact H) | (have H2_ := (Option.bind_some _ _).symm.trans H; rw [hy267]; with_reducible exact H2_) | (have H2_ := (Option.bind_some _ _).symm.trans H; with_reducible exact H2_) | with_reducible exact H | (rw [hy267]; exact H) | exact H
       have Ny267 := Aq11 hy267
       clear hy267
       obtain rfl := Option.some.inj H
       go_wp2_with (first | ((with_reducible refine gate_builtin (b := .append) (xs := #[.tmp 33, .tmp 37]) rfl ?_); at_builtin; refine Kd.R_append Kd.string (w0 := w) w.heap.size rfl (.tmp 33) (.tmp 37) 81 9 (.string ⟨#[]⟩) 16 rfl Tryd.underlying81 info9 rfl (by decide) (by omega) u3 x3_1 (a0.extract (x4_1 : Int).toNat a0.size) [.string (a0.extract (x4_1 : Int).toNat a0.size)] (fun _ => True) (fun _ => False) rfl rfl ?aP (fun _ hk => hk.elim) ?aF ?aO ?aB ?aS ?aL ?_; (case aP => exact rfl); (case aB => exact tq11_8); (case aF => exact (fun _ _ => trivial)); (case aO => exact (tq11_6 HO_3.out)); (case aS => exact (below_size tq11_8)); (case aL => have := LMc18.out; omega); intro v268 w19 ho hb hg hat; rw [← Ny267.out] at ho; have n0_ := Aq11 (hb); have n1_ := Aq11 (ho); clear HB; clear HO_3; have HB := n0_; have HO269 := n1_; clear n0_ n1_; clear ho hb hg hat))
       go_ret
       exact ⟨_, tq11_5, (tq11_6 HO269.out), tq11_8⟩
      ·rw [if_neg c18] at H
       exact absurd H (by simp)
     ·rw [if_neg c17] at H
      exact absurd H (by simp)
    ·rw [if_neg c16] at H
     exact absurd H (by simp)

end Go.Proofs.YtdlfdmbaejhaaaaDoor.Q
