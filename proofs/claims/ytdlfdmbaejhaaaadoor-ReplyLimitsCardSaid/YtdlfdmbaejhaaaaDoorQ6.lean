/- The plain Lean functions that calls of the program answer, and proofs that they do. Printed by program out of the translation; Lean checks it. -/
import Derived.Test.YtdlfdmbaejhaaaaDoorQ0
import Derived.Test.YtdlfdmbaejhaaaaDoorQ5
import Derived.Test.YtdlfdmbaejhaaaaDoorItoa
import Derived.Test.YtdlfdmbaejhaaaaDoorLib
namespace Go.Proofs.YtdlfdmbaejhaaaaDoor.Q
open Go.RowKit Go.Proofs.YtdlfdmbaejhaaaaDoorW.PrintWords Go.Proofs.YtdlfdmbaejhaaaaDoorW.PrintLast Go.Proofs.YtdlfdmbaejhaaaaDoorW.PrintMore
attribute [local go_sem] max2_int min2_int max_two min_two max_three min_three max_four min_four   -- for this text's walks alone
set_option linter.unusedVariables false
set_option linter.unusedSimpArgs false

-- NOT PRINTED: function 119 (stringslite_HasSuffix)

-- NOT PRINTED: function 110 (stringslite_TrimSuffix)

theorem Aq6 {p : Prop} (h : p) : Aside0 p := ⟨h⟩
theorem tq6_0 {P : Prop} (h : P := by first | rfl | (simp; done) | (simp [*]; done)) : P := h
theorem tq6_1 {P Q0 : Prop} (y0 : Q0) (h : Q0 → P := by intro y0_; have := y0_; first | omega | exact Nat.le_refl _) : P := h y0
theorem tq6_2 {P : Prop} (h : P := by first | (with_reducible assumption) | assumption) : P := h
theorem tq6_3 {P : Prop} (h : P := by repeat (first | exact Drawn0.refl _ | apply Drawn0.step)) : P := h
theorem tq6_4 {P : Prop} (h : P := by first | rfl | (simp [errW_none, errW_some] <;> rfl) | (simp [*, errW_none, errW_some] <;> rfl)) : P := h
theorem tq6_5 {P Q0 : Prop} (y0 : Q0) (h : Q0 → P := by intro y0_; (with_reducible repeat (first | refine blk_drewN ?_ _ | refine blk_drew ?_ | refine blk_alloc ?_ _)); exact y0_) : P := h y0
theorem tq6_6 {P : Prop} (h : P := by repeat (first | (with_reducible first | exact HB.out | apply below_alloc | apply pw_below_drewN | apply below_drew1) | exact HB.out)) : P := h
theorem tq6_7 {P : Prop} (h : P := by (try simp only [List.map_toArray, List.map_cons, List.map_nil]); first | done | rfl | (simp only [List.length_drop, List.length_take]; rfl)) : P := h
theorem tq6_8 {P Q0 : Prop} (y0 : Q0) (h : Q0 → P := by intro y0_; repeat (first | (with_reducible first | exact HB.out | apply below_alloc | apply pw_below_drewN | apply below_drew1 | refine below_set ?_ y0_) | exact HB.out)) : P := h y0
/-! ### reply_head: function 76 -/
def reply_head.f (k : Nat) (a0_0 : Int) (l0_1 : List (S26)) (a0_2 : ByteArray) (a0_3 : Bool) (a1 : Int) : Option (ByteArray) := if (l0_1.length : Int) > 64 then (some (⟨#[]⟩ : ByteArray)) else ((reply_Render.f k a0_0 l0_1 (⟨#[]⟩ : ByteArray) a0_3 true).bind fun bt152 => ((strings_TrimSuffix.f bt152.1 (⟨#[13, 10, 13, 10]⟩ : ByteArray)).bind fun t154 => (if a0_3 = true then (if 19 + 17 ≤ 9223372036854775807 then ((strings_TrimSuffix.f t154 ((⟨#[67, 111, 110, 116, 101, 110, 116, 45, 76, 101, 110, 103, 116, 104, 58, 32, 48, 13, 10]⟩ : ByteArray) ++ (⟨#[67, 111, 110, 110, 101, 99, 116, 105, 111, 110, 58, 32, 99, 108, 111, 115, 101]⟩ : ByteArray))).bind fun t155 => (if t155.size + 16 ≤ 9223372036854775807 then ((strconv_Itoa_39.f a1).bind fun t156 => (if (t155 ++ (⟨#[67, 111, 110, 116, 101, 110, 116, 45, 76, 101, 110, 103, 116, 104, 58, 32]⟩ : ByteArray)).size + t156.size ≤ 9223372036854775807 then (if ((t155 ++ (⟨#[67, 111, 110, 116, 101, 110, 116, 45, 76, 101, 110, 103, 116, 104, 58, 32]⟩ : ByteArray)) ++ t156).size + 2 ≤ 9223372036854775807 then (if (((t155 ++ (⟨#[67, 111, 110, 116, 101, 110, 116, 45, 76, 101, 110, 103, 116, 104, 58, 32]⟩ : ByteArray)) ++ t156) ++ (⟨#[13, 10]⟩ : ByteArray)).size + 17 ≤ 9223372036854775807 then (some ((((t155 ++ (⟨#[67, 111, 110, 116, 101, 110, 116, 45, 76, 101, 110, 103, 116, 104, 58, 32]⟩ : ByteArray)) ++ t156) ++ (⟨#[13, 10]⟩ : ByteArray)) ++ (⟨#[67, 111, 110, 110, 101, 99, 116, 105, 111, 110, 58, 32, 99, 108, 111, 115, 101]⟩ : ByteArray))) else (none)) else (none)) else (none))) else (none))) else (none)) else (if 19 + 22 ≤ 9223372036854775807 then ((strings_TrimSuffix.f t154 ((⟨#[67, 111, 110, 116, 101, 110, 116, 45, 76, 101, 110, 103, 116, 104, 58, 32, 48, 13, 10]⟩ : ByteArray) ++ (⟨#[67, 111, 110, 110, 101, 99, 116, 105, 111, 110, 58, 32, 107, 101, 101, 112, 45, 97, 108, 105, 118, 101]⟩ : ByteArray))).bind fun t157 => (if t157.size + 16 ≤ 9223372036854775807 then ((strconv_Itoa_39.f a1).bind fun t158 => (if (t157 ++ (⟨#[67, 111, 110, 116, 101, 110, 116, 45, 76, 101, 110, 103, 116, 104, 58, 32]⟩ : ByteArray)).size + t158.size ≤ 9223372036854775807 then (if ((t157 ++ (⟨#[67, 111, 110, 116, 101, 110, 116, 45, 76, 101, 110, 103, 116, 104, 58, 32]⟩ : ByteArray)) ++ t158).size + 2 ≤ 9223372036854775807 then (if (((t157 ++ (⟨#[67, 111, 110, 116, 101, 110, 116, 45, 76, 101, 110, 103, 116, 104, 58, 32]⟩ : ByteArray)) ++ t158) ++ (⟨#[13, 10]⟩ : ByteArray)).size + 22 ≤ 9223372036854775807 then (some ((((t157 ++ (⟨#[67, 111, 110, 116, 101, 110, 116, 45, 76, 101, 110, 103, 116, 104, 58, 32]⟩ : ByteArray)) ++ t158) ++ (⟨#[13, 10]⟩ : ByteArray)) ++ (⟨#[67, 111, 110, 110, 101, 99, 116, 105, 111, 110, 58, 32, 107, 101, 101, 112, 45, 97, 108, 105, 118, 101]⟩ : ByteArray))) else (none)) else (none)) else (none))) else (none))) else (none)))))
theorem reply_head.mono : ∀ a0 a1 a2 a3 a4 k, LeO (reply_head.f k a0 a1 a2 a3 a4) (reply_head.f (k + 1) a0 a1 a2 a3 a4) := by
 intro a0 a1 a2 a3 a4 k
 unfold reply_head.f
 repeat' first
   | (with_reducible exact reply_Render.mono _ _ _ _ _ _)
   | (with_reducible exact LeO.refl _)
   | (with_reducible exact LeO.none _)
   | (with_reducible refine LeO.ite ?_ ?_)
   | (with_reducible refine LeO.bind ?_ (fun _ => ?_))
   | exact reply_Render.mono _ _ _ _ _ _
   | exact LeO.none _
   | refine LeO.ite ?_ ?_
   | refine LeO.bind ?_ (fun _ => ?_)
set_option maxHeartbeats 8000000 in
set_option maxRecDepth 100000 in
theorem reply_head.calls [Sent] (k : Nat) (a0_0 : Int) (A0_1 : Option Addr) (c0_1 : Nat) (l0_1 : List (S26)) (a0_2 : ByteArray) (a0_3 : Bool) (a1 : Int) (r : ByteArray) (w : World) (hr0_1 : Kd.C k26 w A0_1 l0_1.length l0_1) (hc0_1 : l0_1.length ≤ c0_1) (h : reply_head.f k a0_0 l0_1 a0_2 a0_3 a1 = some r) (hG : Glob [0, 2, 8, 9, 16, 19] w) :
  Calls Tryd.prog 76 #[.agg #[.int .i64 a0_0, .slice A0_1 l0_1.length c0_1, .string a0_2, .bool a0_3], .int .i64 a1] w fun e w' => e = .returned (.string r) ∧ Below w.heap.size w w' := by
 have HG := Aq6 hG
 clear hG
 have hu24 := Tryd.underlying24
 have HR0_1 := Aq6 hr0_1
 have HC0_1 := Aq6 hc0_1
 clear hr0_1 hc0_1
 have HB := Aq6 (Below.refl w.heap.size w)
 have H : (if (l0_1.length : Int) > 64 then (some (⟨#[]⟩ : ByteArray)) else ((reply_Render.f k a0_0 l0_1 (⟨#[]⟩ : ByteArray) a0_3 true).bind fun bt152 => ((strings_TrimSuffix.f bt152.1 (⟨#[13, 10, 13, 10]⟩ : ByteArray)).bind fun t154 => (if a0_3 = true then (if 19 + 17 ≤ 9223372036854775807 then ((strings_TrimSuffix.f t154 ((⟨#[67, 111, 110, 116, 101, 110, 116, 45, 76, 101, 110, 103, 116, 104, 58, 32, 48, 13, 10]⟩ : ByteArray) ++ (⟨#[67, 111, 110, 110, 101, 99, 116, 105, 111, 110, 58, 32, 99, 108, 111, 115, 101]⟩ : ByteArray))).bind fun t155 => (if t155.size + 16 ≤ 9223372036854775807 then ((strconv_Itoa_39.f a1).bind fun t156 => (if (t155 ++ (⟨#[67, 111, 110, 116, 101, 110, 116, 45, 76, 101, 110, 103, 116, 104, 58, 32]⟩ : ByteArray)).size + t156.size ≤ 9223372036854775807 then (if ((t155 ++ (⟨#[67, 111, 110, 116, 101, 110, 116, 45, 76, 101, 110, 103, 116, 104, 58, 32]⟩ : ByteArray)) ++ t156).size + 2 ≤ 9223372036854775807 then (if (((t155 ++ (⟨#[67, 111, 110, 116, 101, 110, 116, 45, 76, 101, 110, 103, 116, 104, 58, 32]⟩ : ByteArray)) ++ t156) ++ (⟨#[13, 10]⟩ : ByteArray)).size + 17 ≤ 9223372036854775807 then (some ((((t155 ++ (⟨#[67, 111, 110, 116, 101, 110, 116, 45, 76, 101, 110, 103, 116, 104, 58, 32]⟩ : ByteArray)) ++ t156) ++ (⟨#[13, 10]⟩ : ByteArray)) ++ (⟨#[67, 111, 110, 110, 101, 99, 116, 105, 111, 110, 58, 32, 99, 108, 111, 115, 101]⟩ : ByteArray))) else (none)) else (none)) else (none))) else (none))) else (none)) else (if 19 + 22 ≤ 9223372036854775807 then ((strings_TrimSuffix.f t154 ((⟨#[67, 111, 110, 116, 101, 110, 116, 45, 76, 101, 110, 103, 116, 104, 58, 32, 48, 13, 10]⟩ : ByteArray) ++ (⟨#[67, 111, 110, 110, 101, 99, 116, 105, 111, 110, 58, 32, 107, 101, 101, 112, 45, 97, 108, 105, 118, 101]⟩ : ByteArray))).bind fun t157 => (if t157.size + 16 ≤ 9223372036854775807 then ((strconv_Itoa_39.f a1).bind fun t158 => (if (t157 ++ (⟨#[67, 111, 110, 116, 101, 110, 116, 45, 76, 101, 110, 103, 116, 104, 58, 32]⟩ : ByteArray)).size + t158.size ≤ 9223372036854775807 then (if ((t157 ++ (⟨#[67, 111, 110, 116, 101, 110, 116, 45, 76, 101, 110, 103, 116, 104, 58, 32]⟩ : ByteArray)) ++ t158).size + 2 ≤ 9223372036854775807 then (if (((t157 ++ (⟨#[67, 111, 110, 116, 101, 110, 116, 45, 76, 101, 110, 103, 116, 104, 58, 32]⟩ : ByteArray)) ++ t158) ++ (⟨#[13, 10]⟩ : ByteArray)).size + 22 ≤ 9223372036854775807 then (some ((((t157 ++ (⟨#[67, 111, 110, 116, 101, 110, 116, 45, 76, 101, 110, 103, 116, 104, 58, 32]⟩ : ByteArray)) ++ t158) ++ (⟨#[13, 10]⟩ : ByteArray)) ++ (⟨#[67, 111, 110, 110, 101, 99, 116, 105, 111, 110, 58, 32, 107, 101, 101, 112, 45, 97, 108, 105, 118, 101]⟩ : ByteArray))) else (none)) else (none)) else (none))) else (none))) else (none)))))) = some r := h
 clear h
 by_cases c3 : (l0_1.length : Int) > 64
 ·rw [if_pos c3] at H
  have c3b0 : decide (64 < (l0_1.length : Int)) = true := decide_eq_true c3
  have c3b1 : decide (64 < l0_1.length) = true := decide_eq_true (by omega)
  clear c3
  obtain rfl := Option.some.inj H
  go_enter Tryd.func76, Tryd.ntmps76
  go_wp2_with (first | ((with_reducible refine gate_dst (N := 2) rfl ?_); refine box_event ?hg (N := 2) ?hd (cs := #[.int .i64 a0_0, .slice A0_1 l0_1.length c0_1, .string a0_2, .bool a0_3]) (t := 24) ?hr ?_; (case hd => rfl); (case hg => rfl); (case hr => first | (go_simp; done) | (go_simp; rfl)); intro gb151 hg w4 hbox hb; have BK151 := Aq6 (hbox); have GW151 := Aq6 ((by rw [hg]; exact (below_size tq6_6) : w.heap.size ≤ gb151)); have GE151 := Aq6 ((by rw [hg]; exact (below_size tq6_6) : w.heap.size ≤ gb151)); replace HB := Aq6 (below_step tq6_6 hb); clear hb hbox hg; have hcz5_0 : w4.cell? ⟨gb151, 0, none⟩ = some (.int .i64 a0_0) := (blk_cell BK151.out 0).trans rfl; have hcz5_1 : w4.cell? ⟨gb151, 1, none⟩ = some (.slice A0_1 l0_1.length c0_1) := (blk_cell BK151.out 1).trans rfl; have hcz5_2 : w4.cell? ⟨gb151, 2, none⟩ = some (.string a0_2) := (blk_cell BK151.out 2).trans rfl; have hcz5_3 : w4.cell? ⟨gb151, 3, none⟩ = some (.bool a0_3) := (blk_cell BK151.out 3).trans rfl; have hfz5_0 := blk_frozen BK151.out 0; have hfz5_1 := blk_frozen BK151.out 1; have hfz5_2 := blk_frozen BK151.out 2; have hfz5_3 := blk_frozen BK151.out 3))
  go_ret
  exact ⟨tq6_4, (tq6_8 GE151.out)⟩
 ·rw [if_neg c3] at H
  have c3b0 : decide (64 < (l0_1.length : Int)) = false := decide_eq_false c3
  have c3b1 : decide (64 < l0_1.length) = false := decide_eq_false (by omega)
  clear c3
  replace H := Option.bind_eq_some_iff.mp H
  obtain ⟨⟨t152, t153⟩, A60, H⟩ := H
  replace H : ((strings_TrimSuffix.f t152 (⟨#[13, 10, 13, 10]⟩ : ByteArray)).bind fun t154 => (if a0_3 = true then (if 19 + 17 ≤ 9223372036854775807 then ((strings_TrimSuffix.f t154 ((⟨#[67, 111, 110, 116, 101, 110, 116, 45, 76, 101, 110, 103, 116, 104, 58, 32, 48, 13, 10]⟩ : ByteArray) ++ (⟨#[67, 111, 110, 110, 101, 99, 116, 105, 111, 110, 58, 32, 99, 108, 111, 115, 101]⟩ : ByteArray))).bind fun t155 => (if t155.size + 16 ≤ 9223372036854775807 then ((strconv_Itoa_39.f a1).bind fun t156 => (if (t155 ++ (⟨#[67, 111, 110, 116, 101, 110, 116, 45, 76, 101, 110, 103, 116, 104, 58, 32]⟩ : ByteArray)).size + t156.size ≤ 9223372036854775807 then (if ((t155 ++ (⟨#[67, 111, 110, 116, 101, 110, 116, 45, 76, 101, 110, 103, 116, 104, 58, 32]⟩ : ByteArray)) ++ t156).size + 2 ≤ 9223372036854775807 then (if (((t155 ++ (⟨#[67, 111, 110, 116, 101, 110, 116, 45, 76, 101, 110, 103, 116, 104, 58, 32]⟩ : ByteArray)) ++ t156) ++ (⟨#[13, 10]⟩ : ByteArray)).size + 17 ≤ 9223372036854775807 then (some ((((t155 ++ (⟨#[67, 111, 110, 116, 101, 110, 116, 45, 76, 101, 110, 103, 116, 104, 58, 32]⟩ : ByteArray)) ++ t156) ++ (⟨#[13, 10]⟩ : ByteArray)) ++ (⟨#[67, 111, 110, 110, 101, 99, 116, 105, 111, 110, 58, 32, 99, 108, 111, 115, 101]⟩ : ByteArray))) else (none)) else (none)) else (none))) else (none))) else (none)) else (if 19 + 22 ≤ 9223372036854775807 then ((strings_TrimSuffix.f t154 ((⟨#[67, 111, 110, 116, 101, 110, 116, 45, 76, 101, 110, 103, 116, 104, 58, 32, 48, 13, 10]⟩ : ByteArray) ++ (⟨#[67, 111, 110, 110, 101, 99, 116, 105, 111, 110, 58, 32, 107, 101, 101, 112, 45, 97, 108, 105, 118, 101]⟩ : ByteArray))).bind fun t157 => (if t157.size + 16 ≤ 9223372036854775807 then ((strconv_Itoa_39.f a1).bind fun t158 => (if (t157 ++ (⟨#[67, 111, 110, 116, 101, 110, 116, 45, 76, 101, 110, 103, 116, 104, 58, 32]⟩ : ByteArray)).size + t158.size ≤ 9223372036854775807 then (if ((t157 ++ (⟨#[67, 111, 110, 116, 101, 110, 116, 45, 76, 101, 110, 103, 116, 104, 58, 32]⟩ : ByteArray)) ++ t158).size + 2 ≤ 9223372036854775807 then (if (((t157 ++ (⟨#[67, 111, 110, 116, 101, 110, 116, 45, 76, 101, 110, 103, 116, 104, 58, 32]⟩ : ByteArray)) ++ t158) ++ (⟨#[13, 10]⟩ : ByteArray)).size + 22 ≤ 9223372036854775807 then (some ((((t157 ++ (⟨#[67, 111, 110, 116, 101, 110, 116, 45, 76, 101, 110, 103, 116, 104, 58, 32]⟩ : ByteArray)) ++ t158) ++ (⟨#[13, 10]⟩ : ByteArray)) ++ (⟨#[67, 111, 110, 110, 101, 99, 116, 105, 111, 110, 58, 32, 107, 101, 101, 112, 45, 97, 108, 105, 118, 101]⟩ : ByteArray))) else (none)) else (none)) else (none))) else (none))) else (none)))) = some r := H
  have A6 := Aq6 A60
  clear A60
  replace H := Option.bind_eq_some_iff.mp H
  obtain ⟨t154, A70, H⟩ := H
  replace H : (if a0_3 = true then (if 19 + 17 ≤ 9223372036854775807 then ((strings_TrimSuffix.f t154 ((⟨#[67, 111, 110, 116, 101, 110, 116, 45, 76, 101, 110, 103, 116, 104, 58, 32, 48, 13, 10]⟩ : ByteArray) ++ (⟨#[67, 111, 110, 110, 101, 99, 116, 105, 111, 110, 58, 32, 99, 108, 111, 115, 101]⟩ : ByteArray))).bind fun t155 => (if t155.size + 16 ≤ 9223372036854775807 then ((strconv_Itoa_39.f a1).bind fun t156 => (if (t155 ++ (⟨#[67, 111, 110, 116, 101, 110, 116, 45, 76, 101, 110, 103, 116, 104, 58, 32]⟩ : ByteArray)).size + t156.size ≤ 9223372036854775807 then (if ((t155 ++ (⟨#[67, 111, 110, 116, 101, 110, 116, 45, 76, 101, 110, 103, 116, 104, 58, 32]⟩ : ByteArray)) ++ t156).size + 2 ≤ 9223372036854775807 then (if (((t155 ++ (⟨#[67, 111, 110, 116, 101, 110, 116, 45, 76, 101, 110, 103, 116, 104, 58, 32]⟩ : ByteArray)) ++ t156) ++ (⟨#[13, 10]⟩ : ByteArray)).size + 17 ≤ 9223372036854775807 then (some ((((t155 ++ (⟨#[67, 111, 110, 116, 101, 110, 116, 45, 76, 101, 110, 103, 116, 104, 58, 32]⟩ : ByteArray)) ++ t156) ++ (⟨#[13, 10]⟩ : ByteArray)) ++ (⟨#[67, 111, 110, 110, 101, 99, 116, 105, 111, 110, 58, 32, 99, 108, 111, 115, 101]⟩ : ByteArray))) else (none)) else (none)) else (none))) else (none))) else (none)) else (if 19 + 22 ≤ 9223372036854775807 then ((strings_TrimSuffix.f t154 ((⟨#[67, 111, 110, 116, 101, 110, 116, 45, 76, 101, 110, 103, 116, 104, 58, 32, 48, 13, 10]⟩ : ByteArray) ++ (⟨#[67, 111, 110, 110, 101, 99, 116, 105, 111, 110, 58, 32, 107, 101, 101, 112, 45, 97, 108, 105, 118, 101]⟩ : ByteArray))).bind fun t157 => (if t157.size + 16 ≤ 9223372036854775807 then ((strconv_Itoa_39.f a1).bind fun t158 => (if (t157 ++ (⟨#[67, 111, 110, 116, 101, 110, 116, 45, 76, 101, 110, 103, 116, 104, 58, 32]⟩ : ByteArray)).size + t158.size ≤ 9223372036854775807 then (if ((t157 ++ (⟨#[67, 111, 110, 116, 101, 110, 116, 45, 76, 101, 110, 103, 116, 104, 58, 32]⟩ : ByteArray)) ++ t158).size + 2 ≤ 9223372036854775807 then (if (((t157 ++ (⟨#[67, 111, 110, 116, 101, 110, 116, 45, 76, 101, 110, 103, 116, 104, 58, 32]⟩ : ByteArray)) ++ t158) ++ (⟨#[13, 10]⟩ : ByteArray)).size + 22 ≤ 9223372036854775807 then (some ((((t157 ++ (⟨#[67, 111, 110, 116, 101, 110, 116, 45, 76, 101, 110, 103, 116, 104, 58, 32]⟩ : ByteArray)) ++ t158) ++ (⟨#[13, 10]⟩ : ByteArray)) ++ (⟨#[67, 111, 110, 110, 101, 99, 116, 105, 111, 110, 58, 32, 107, 101, 101, 112, 45, 97, 108, 105, 118, 101]⟩ : ByteArray))) else (none)) else (none)) else (none))) else (none))) else (none))) = some r := H
  have A7 := Aq6 A70
  clear A70
  by_cases c8 : a0_3 = true
  ·subst c8
   have H1 : (if 19 + 17 ≤ 9223372036854775807 then ((strings_TrimSuffix.f t154 ((⟨#[67, 111, 110, 116, 101, 110, 116, 45, 76, 101, 110, 103, 116, 104, 58, 32, 48, 13, 10]⟩ : ByteArray) ++ (⟨#[67, 111, 110, 110, 101, 99, 116, 105, 111, 110, 58, 32, 99, 108, 111, 115, 101]⟩ : ByteArray))).bind fun t155 => (if t155.size + 16 ≤ 9223372036854775807 then ((strconv_Itoa_39.f a1).bind fun t156 => (if (t155 ++ (⟨#[67, 111, 110, 116, 101, 110, 116, 45, 76, 101, 110, 103, 116, 104, 58, 32]⟩ : ByteArray)).size + t156.size ≤ 9223372036854775807 then (if ((t155 ++ (⟨#[67, 111, 110, 116, 101, 110, 116, 45, 76, 101, 110, 103, 116, 104, 58, 32]⟩ : ByteArray)) ++ t156).size + 2 ≤ 9223372036854775807 then (if (((t155 ++ (⟨#[67, 111, 110, 116, 101, 110, 116, 45, 76, 101, 110, 103, 116, 104, 58, 32]⟩ : ByteArray)) ++ t156) ++ (⟨#[13, 10]⟩ : ByteArray)).size + 17 ≤ 9223372036854775807 then (some ((((t155 ++ (⟨#[67, 111, 110, 116, 101, 110, 116, 45, 76, 101, 110, 103, 116, 104, 58, 32]⟩ : ByteArray)) ++ t156) ++ (⟨#[13, 10]⟩ : ByteArray)) ++ (⟨#[67, 111, 110, 110, 101, 99, 116, 105, 111, 110, 58, 32, 99, 108, 111, 115, 101]⟩ : ByteArray))) else (none)) else (none)) else (none))) else (none))) else (none)) = some r := by rw [if_pos rfl] at H; exact H
   clear H
   have H := H1
   clear H1
   by_cases c9 : 19 + 17 ≤ 9223372036854775807
   ·rw [if_pos c9] at H
    have c9b0 := eq_true c9
    have c9b1 : decide (19 + 17 ≤ 9223372036854775807) = true := decide_eq_true c9
    try have c9b2 : (9223372036854775807 < 19 + 17) = False := eq_false (Nat.not_lt.2 c9)
    replace H := Option.bind_eq_some_iff.mp H
    obtain ⟨t155, A100, H⟩ := H
    replace H : (if t155.size + 16 ≤ 9223372036854775807 then ((strconv_Itoa_39.f a1).bind fun t156 => (if (t155 ++ (⟨#[67, 111, 110, 116, 101, 110, 116, 45, 76, 101, 110, 103, 116, 104, 58, 32]⟩ : ByteArray)).size + t156.size ≤ 9223372036854775807 then (if ((t155 ++ (⟨#[67, 111, 110, 116, 101, 110, 116, 45, 76, 101, 110, 103, 116, 104, 58, 32]⟩ : ByteArray)) ++ t156).size + 2 ≤ 9223372036854775807 then (if (((t155 ++ (⟨#[67, 111, 110, 116, 101, 110, 116, 45, 76, 101, 110, 103, 116, 104, 58, 32]⟩ : ByteArray)) ++ t156) ++ (⟨#[13, 10]⟩ : ByteArray)).size + 17 ≤ 9223372036854775807 then (some ((((t155 ++ (⟨#[67, 111, 110, 116, 101, 110, 116, 45, 76, 101, 110, 103, 116, 104, 58, 32]⟩ : ByteArray)) ++ t156) ++ (⟨#[13, 10]⟩ : ByteArray)) ++ (⟨#[67, 111, 110, 110, 101, 99, 116, 105, 111, 110, 58, 32, 99, 108, 111, 115, 101]⟩ : ByteArray))) else (none)) else (none)) else (none))) else (none)) = some r := H
    have A10 := Aq6 A100
    clear A100
    by_cases c11 : t155.size + 16 ≤ 9223372036854775807
    ·rw [if_pos c11] at H
     have c11b0 := eq_true c11
     have c11b1 : decide (t155.size + 16 ≤ 9223372036854775807) = true := decide_eq_true c11
     try have c11b2 : (9223372036854775807 < t155.size + 16) = False := eq_false (Nat.not_lt.2 c11)
     replace H := Option.bind_eq_some_iff.mp H
     obtain ⟨t156, A120, H⟩ := H
     replace H : (if (t155 ++ (⟨#[67, 111, 110, 116, 101, 110, 116, 45, 76, 101, 110, 103, 116, 104, 58, 32]⟩ : ByteArray)).size + t156.size ≤ 9223372036854775807 then (if ((t155 ++ (⟨#[67, 111, 110, 116, 101, 110, 116, 45, 76, 101, 110, 103, 116, 104, 58, 32]⟩ : ByteArray)) ++ t156).size + 2 ≤ 9223372036854775807 then (if (((t155 ++ (⟨#[67, 111, 110, 116, 101, 110, 116, 45, 76, 101, 110, 103, 116, 104, 58, 32]⟩ : ByteArray)) ++ t156) ++ (⟨#[13, 10]⟩ : ByteArray)).size + 17 ≤ 9223372036854775807 then (some ((((t155 ++ (⟨#[67, 111, 110, 116, 101, 110, 116, 45, 76, 101, 110, 103, 116, 104, 58, 32]⟩ : ByteArray)) ++ t156) ++ (⟨#[13, 10]⟩ : ByteArray)) ++ (⟨#[67, 111, 110, 110, 101, 99, 116, 105, 111, 110, 58, 32, 99, 108, 111, 115, 101]⟩ : ByteArray))) else (none)) else (none)) else (none)) = some r := H
     have A12 := Aq6 A120
     clear A120
     by_cases c13 : (t155 ++ (⟨#[67, 111, 110, 116, 101, 110, 116, 45, 76, 101, 110, 103, 116, 104, 58, 32]⟩ : ByteArray)).size + t156.size ≤ 9223372036854775807
     ·rw [if_pos c13] at H
      have c13b0 := eq_true c13
      have c13b1 : decide ((t155 ++ (⟨#[67, 111, 110, 116, 101, 110, 116, 45, 76, 101, 110, 103, 116, 104, 58, 32]⟩ : ByteArray)).size + t156.size ≤ 9223372036854775807) = true := decide_eq_true c13
      try have c13b2 : (9223372036854775807 < (t155 ++ (⟨#[67, 111, 110, 116, 101, 110, 116, 45, 76, 101, 110, 103, 116, 104, 58, 32]⟩ : ByteArray)).size + t156.size) = False := eq_false (Nat.not_lt.2 c13)
      (try (have c13b3 := c13b0; simp only [ByteArray.size_append', ByteArray.size_mk', List.size_toArray, List.length_cons, List.length_nil, Nat.reduceAdd] at c13b3))
      (try (have c13b4 := c13b1; simp only [ByteArray.size_append', ByteArray.size_mk', List.size_toArray, List.length_cons, List.length_nil, Nat.reduceAdd] at c13b4))
      (try (have c13b5 := c13b2; simp only [ByteArray.size_append', ByteArray.size_mk', List.size_toArray, List.length_cons, List.length_nil, Nat.reduceAdd] at c13b5))
      by_cases c14 : ((t155 ++ (⟨#[67, 111, 110, 116, 101, 110, 116, 45, 76, 101, 110, 103, 116, 104, 58, 32]⟩ : ByteArray)) ++ t156).size + 2 ≤ 9223372036854775807
      ·rw [if_pos c14] at H
       have c14b0 := eq_true c14
       have c14b1 : decide (((t155 ++ (⟨#[67, 111, 110, 116, 101, 110, 116, 45, 76, 101, 110, 103, 116, 104, 58, 32]⟩ : ByteArray)) ++ t156).size + 2 ≤ 9223372036854775807) = true := decide_eq_true c14
       try have c14b2 : (9223372036854775807 < ((t155 ++ (⟨#[67, 111, 110, 116, 101, 110, 116, 45, 76, 101, 110, 103, 116, 104, 58, 32]⟩ : ByteArray)) ++ t156).size + 2) = False := eq_false (Nat.not_lt.2 c14)
       (try (have c14b3 := c14b0; simp only [ByteArray.size_append', ByteArray.size_mk', List.size_toArray, List.length_cons, List.length_nil, Nat.reduceAdd] at c14b3))
       (try (have c14b4 := c14b1; simp only [ByteArray.size_append', ByteArray.size_mk', List.size_toArray, List.length_cons, List.length_nil, Nat.reduceAdd] at c14b4))
       (try (have c14b5 := c14b2; simp only [ByteArray.size_append', ByteArray.size_mk', List.size_toArray, List.length_cons, List.length_nil, Nat.reduceAdd] at c14b5))
       by_cases c15 : (((t155 ++ (⟨#[67, 111, 110, 116, 101, 110, 116, 45, 76, 101, 110, 103, 116, 104, 58, 32]⟩ : ByteArray)) ++ t156) ++ (⟨#[13, 10]⟩ : ByteArray)).size + 17 ≤ 9223372036854775807
       ·rw [if_pos c15] at H
        have c15b0 := eq_true c15
        have c15b1 : decide ((((t155 ++ (⟨#[67, 111, 110, 116, 101, 110, 116, 45, 76, 101, 110, 103, 116, 104, 58, 32]⟩ : ByteArray)) ++ t156) ++ (⟨#[13, 10]⟩ : ByteArray)).size + 17 ≤ 9223372036854775807) = true := decide_eq_true c15
        try have c15b2 : (9223372036854775807 < (((t155 ++ (⟨#[67, 111, 110, 116, 101, 110, 116, 45, 76, 101, 110, 103, 116, 104, 58, 32]⟩ : ByteArray)) ++ t156) ++ (⟨#[13, 10]⟩ : ByteArray)).size + 17) = False := eq_false (Nat.not_lt.2 c15)
        (try (have c15b3 := c15b0; simp only [ByteArray.size_append', ByteArray.size_mk', List.size_toArray, List.length_cons, List.length_nil, Nat.reduceAdd] at c15b3))
        (try (have c15b4 := c15b1; simp only [ByteArray.size_append', ByteArray.size_mk', List.size_toArray, List.length_cons, List.length_nil, Nat.reduceAdd] at c15b4))
        (try (have c15b5 := c15b2; simp only [ByteArray.size_append', ByteArray.size_mk', List.size_toArray, List.length_cons, List.length_nil, Nat.reduceAdd] at c15b5))
        obtain rfl := Option.some.inj H
        go_enter Tryd.func76, Tryd.ntmps76
        go_wp2_with (first | ((with_reducible refine gate_dst (N := 2) rfl ?_); refine box_event ?hg (N := 2) ?hd (cs := #[.int .i64 a0_0, .slice A0_1 l0_1.length c0_1, .string a0_2, .bool true]) (t := 24) ?hr ?_; (case hd => rfl); (case hg => rfl); (case hr => first | (go_simp; done) | (go_simp; rfl)); intro gb151 hg w16 hbox hb; have BK151 := Aq6 (hbox); have GW151 := Aq6 ((by rw [hg]; exact (below_size tq6_6) : w.heap.size ≤ gb151)); have GE151 := Aq6 ((by rw [hg]; exact (below_size tq6_6) : w.heap.size ≤ gb151)); replace HB := Aq6 (below_step tq6_6 hb); clear hb hbox hg; have hcz17_0 : w16.cell? ⟨gb151, 0, none⟩ = some (.int .i64 a0_0) := (blk_cell BK151.out 0).trans rfl; have hcz17_1 : w16.cell? ⟨gb151, 1, none⟩ = some (.slice A0_1 l0_1.length c0_1) := (blk_cell BK151.out 1).trans rfl; have hcz17_2 : w16.cell? ⟨gb151, 2, none⟩ = some (.string a0_2) := (blk_cell BK151.out 2).trans rfl; have hcz17_3 : w16.cell? ⟨gb151, 3, none⟩ = some (.bool true) := (blk_cell BK151.out 3).trans rfl; have hfz17_0 := blk_frozen BK151.out 0; have hfz17_1 := blk_frozen BK151.out 1; have hfz17_2 := blk_frozen BK151.out 2; have hfz17_3 := blk_frozen BK151.out 3) | ((with_reducible refine gate_callee (f := 15) rfl ?_); refine goesL_ (some 15) rfl rfl Tryd.func15 (by kernel_rfl) rfl #[.agg #[.int .i64 a0_0, .slice A0_1 l0_1.length c0_1, .string (⟨#[]⟩ : ByteArray), .bool true], .bool true] rfl tq6_7 ?_; (with_reducible refine (reply_Render.calls k a0_0 _ _ l0_1 (⟨#[]⟩ : ByteArray) true true t152 t153 _ ?side1 ?side2 A6.out ?side3).mono ?_); (case side1 => exact Kd.C_below HR0_1.out (tq6_8 GE151.out)); (case side2 => exact HC0_1.out); (case side3 => exact HG.out.step (tq6_8 GE151.out) rfl); rintro e w18 ⟨rfl, hb⟩; refine ⟨_, rfl, ?_⟩; replace BK151 := Aq6 (blk_below (g := gb151) (o := .cells #[.int .i64 a0_0, .slice A0_1 l0_1.length c0_1, .string (⟨#[]⟩ : ByteArray), .bool true] 24 (0, 0)) (by (with_reducible repeat (first | refine blk_drewN ?_ _ | refine blk_drew ?_ | refine blk_alloc ?_ _)); refine blk_put (cs := #[.int .i64 a0_0, .slice A0_1 l0_1.length c0_1, .string a0_2, .bool true]) ?_ 2 _ rfl; (with_reducible repeat (first | refine blk_drewN ?_ _ | refine blk_drew ?_ | refine blk_alloc ?_ _)); exact BK151.out) hb); replace HB := Aq6 (below_step (tq6_8 GE151.out) hb); (try clear hb); (try clear hb2); (try clear hk); (try clear hi); (try simp only [errW_none, errW_some])) | ((with_reducible refine gate_callee (f := 95) rfl ?_); refine goesL_ (some 19) rfl rfl Tryd.func95 (by kernel_rfl) rfl #[.string t152, .string (⟨#[13, 10, 13, 10]⟩ : ByteArray)] rfl tq6_7 ?_; (with_reducible refine (strings_TrimSuffix.calls t152 (⟨#[13, 10, 13, 10]⟩ : ByteArray) t154 _ A7.out).mono ?_); rintro e w' ⟨rfl, ⟨nd, rfl⟩⟩; refine ⟨_, rfl, ?_⟩; have hcz19_0 : w18.cell? ⟨gb151, 0, none⟩ = some (.int .i64 a0_0) := (blk_cell BK151.out 0).trans rfl; have hcz19_1 : w18.cell? ⟨gb151, 1, none⟩ = some (.slice A0_1 l0_1.length c0_1) := (blk_cell BK151.out 1).trans rfl; have hcz19_2 : w18.cell? ⟨gb151, 2, none⟩ = some (.string (⟨#[]⟩ : ByteArray)) := (blk_cell BK151.out 2).trans rfl; have hcz19_3 : w18.cell? ⟨gb151, 3, none⟩ = some (.bool true) := (blk_cell BK151.out 3).trans rfl; have hfz19_0 := blk_frozen BK151.out 0; have hfz19_1 := blk_frozen BK151.out 1; have hfz19_2 := blk_frozen BK151.out 2; have hfz19_3 := blk_frozen BK151.out 3) | ((with_reducible refine gate_callee (f := 95) rfl ?_); refine goesL_ (some 25) rfl rfl Tryd.func95 (by kernel_rfl) rfl #[.string t154, .string ((⟨#[67, 111, 110, 116, 101, 110, 116, 45, 76, 101, 110, 103, 116, 104, 58, 32, 48, 13, 10]⟩ : ByteArray) ++ (⟨#[67, 111, 110, 110, 101, 99, 116, 105, 111, 110, 58, 32, 99, 108, 111, 115, 101]⟩ : ByteArray))] rfl tq6_7 ?_; (with_reducible refine (strings_TrimSuffix.calls t154 ((⟨#[67, 111, 110, 116, 101, 110, 116, 45, 76, 101, 110, 103, 116, 104, 58, 32, 48, 13, 10]⟩ : ByteArray) ++ (⟨#[67, 111, 110, 110, 101, 99, 116, 105, 111, 110, 58, 32, 99, 108, 111, 115, 101]⟩ : ByteArray)) t155 _ A10.out).mono ?_); rintro e w' ⟨rfl, ⟨nd, rfl⟩⟩; refine ⟨_, rfl, ?_⟩) | ((with_reducible refine gate_callee (f := 39) rfl ?_); refine goesL_ (some 28) rfl rfl Tryd.func39 (by kernel_rfl) rfl #[.int .i64 a1] rfl tq6_7 ?_; (with_reducible refine (strconv_Itoa_39.calls a1 t156 _ A12.out ?side1).mono ?_); (case side1 => exact HG.out.step (tq6_8 GE151.out) rfl); rintro e w20 ⟨rfl, hb⟩; refine ⟨_, rfl, ?_⟩; replace BK151 := Aq6 (blk_below (g := gb151) (o := .cells #[.int .i64 a0_0, .slice A0_1 l0_1.length c0_1, .string (⟨#[]⟩ : ByteArray), .bool true] 24 (0, 0)) (tq6_5 BK151.out) hb); replace HB := Aq6 (below_step (tq6_8 GE151.out) hb); (try clear hb); (try clear hb2); (try clear hk); (try clear hi)))
        go_ret
        exact ⟨tq6_4, (tq6_8 GE151.out)⟩
       ·rw [if_neg c15] at H
        exact absurd H (by simp)
      ·rw [if_neg c14] at H
       exact absurd H (by simp)
     ·rw [if_neg c13] at H
      exact absurd H (by simp)
    ·rw [if_neg c11] at H
     exact absurd H (by simp)
   ·rw [if_neg c9] at H
    exact absurd H (by simp)
  ·replace c8 := Bool.eq_false_iff.mpr c8
   subst c8
   have H1 : (if 19 + 22 ≤ 9223372036854775807 then ((strings_TrimSuffix.f t154 ((⟨#[67, 111, 110, 116, 101, 110, 116, 45, 76, 101, 110, 103, 116, 104, 58, 32, 48, 13, 10]⟩ : ByteArray) ++ (⟨#[67, 111, 110, 110, 101, 99, 116, 105, 111, 110, 58, 32, 107, 101, 101, 112, 45, 97, 108, 105, 118, 101]⟩ : ByteArray))).bind fun t157 => (if t157.size + 16 ≤ 9223372036854775807 then ((strconv_Itoa_39.f a1).bind fun t158 => (if (t157 ++ (⟨#[67, 111, 110, 116, 101, 110, 116, 45, 76, 101, 110, 103, 116, 104, 58, 32]⟩ : ByteArray)).size + t158.size ≤ 9223372036854775807 then (if ((t157 ++ (⟨#[67, 111, 110, 116, 101, 110, 116, 45, 76, 101, 110, 103, 116, 104, 58, 32]⟩ : ByteArray)) ++ t158).size + 2 ≤ 9223372036854775807 then (if (((t157 ++ (⟨#[67, 111, 110, 116, 101, 110, 116, 45, 76, 101, 110, 103, 116, 104, 58, 32]⟩ : ByteArray)) ++ t158) ++ (⟨#[13, 10]⟩ : ByteArray)).size + 22 ≤ 9223372036854775807 then (some ((((t157 ++ (⟨#[67, 111, 110, 116, 101, 110, 116, 45, 76, 101, 110, 103, 116, 104, 58, 32]⟩ : ByteArray)) ++ t158) ++ (⟨#[13, 10]⟩ : ByteArray)) ++ (⟨#[67, 111, 110, 110, 101, 99, 116, 105, 111, 110, 58, 32, 107, 101, 101, 112, 45, 97, 108, 105, 118, 101]⟩ : ByteArray))) else (none)) else (none)) else (none))) else (none))) else (none)) = some r := by rw [if_neg (show ¬ (false = true) by decide)] at H; exact H
   clear H
   have H := H1
   clear H1
   by_cases c21 : 19 + 22 ≤ 9223372036854775807
   ·rw [if_pos c21] at H
    have c21b0 := eq_true c21
    have c21b1 : decide (19 + 22 ≤ 9223372036854775807) = true := decide_eq_true c21
    try have c21b2 : (9223372036854775807 < 19 + 22) = False := eq_false (Nat.not_lt.2 c21)
    replace H := Option.bind_eq_some_iff.mp H
    obtain ⟨t157, A220, H⟩ := H
    replace H : (if t157.size + 16 ≤ 9223372036854775807 then ((strconv_Itoa_39.f a1).bind fun t158 => (if (t157 ++ (⟨#[67, 111, 110, 116, 101, 110, 116, 45, 76, 101, 110, 103, 116, 104, 58, 32]⟩ : ByteArray)).size + t158.size ≤ 9223372036854775807 then (if ((t157 ++ (⟨#[67, 111, 110, 116, 101, 110, 116, 45, 76, 101, 110, 103, 116, 104, 58, 32]⟩ : ByteArray)) ++ t158).size + 2 ≤ 9223372036854775807 then (if (((t157 ++ (⟨#[67, 111, 110, 116, 101, 110, 116, 45, 76, 101, 110, 103, 116, 104, 58, 32]⟩ : ByteArray)) ++ t158) ++ (⟨#[13, 10]⟩ : ByteArray)).size + 22 ≤ 9223372036854775807 then (some ((((t157 ++ (⟨#[67, 111, 110, 116, 101, 110, 116, 45, 76, 101, 110, 103, 116, 104, 58, 32]⟩ : ByteArray)) ++ t158) ++ (⟨#[13, 10]⟩ : ByteArray)) ++ (⟨#[67, 111, 110, 110, 101, 99, 116, 105, 111, 110, 58, 32, 107, 101, 101, 112, 45, 97, 108, 105, 118, 101]⟩ : ByteArray))) else (none)) else (none)) else (none))) else (none)) = some r := H
    have A22 := Aq6 A220
    clear A220
    by_cases c23 : t157.size + 16 ≤ 9223372036854775807
    ·rw [if_pos c23] at H
     have c23b0 := eq_true c23
     have c23b1 : decide (t157.size + 16 ≤ 9223372036854775807) = true := decide_eq_true c23
     try have c23b2 : (9223372036854775807 < t157.size + 16) = False := eq_false (Nat.not_lt.2 c23)
     replace H := Option.bind_eq_some_iff.mp H
     obtain ⟨t158, A240, H⟩ := H
     replace H : (if (t157 ++ (⟨#[67, 111, 110, 116, 101, 110, 116, 45, 76, 101, 110, 103, 116, 104, 58, 32]⟩ : ByteArray)).size + t158.size ≤ 9223372036854775807 then (if ((t157 ++ (⟨#[67, 111, 110, 116, 101, 110, 116, 45, 76, 101, 110, 103, 116, 104, 58, 32]⟩ : ByteArray)) ++ t158).size + 2 ≤ 9223372036854775807 then (if (((t157 ++ (⟨#[67, 111, 110, 116, 101, 110, 116, 45, 76, 101, 110, 103, 116, 104, 58, 32]⟩ : ByteArray)) ++ t158) ++ (⟨#[13, 10]⟩ : ByteArray)).size + 22 ≤ 9223372036854775807 then (some ((((t157 ++ (⟨#[67, 111, 110, 116, 101, 110, 116, 45, 76, 101, 110, 103, 116, 104, 58, 32]⟩ : ByteArray)) ++ t158) ++ (⟨#[13, 10]⟩ : ByteArray)) ++ (⟨#[67, 111, 110, 110, 101, 99, 116, 105, 111, 110, 58, 32, 107, 101, 101, 112, 45, 97, 108, 105, 118, 101]⟩ : ByteArray))) else (none)) else (none)) else (none)) = some r := H
     have A24 := Aq6 A240
     clear A240
     by_cases c25 : (t157 ++ (⟨#[67, 111, 110, 116, 101, 110, 116, 45, 76, 101, 110, 103, 116, 104, 58, 32]⟩ : ByteArray)).size + t158.size ≤ 9223372036854775807
     ·rw [if_pos c25] at H
      have c25b0 := eq_true c25
      have c25b1 : decide ((t157 ++ (⟨#[67, 111, 110, 116, 101, 110, 116, 45, 76, 101, 110, 103, 116, 104, 58, 32]⟩ : ByteArray)).size + t158.size ≤ 9223372036854775807) = true := decide_eq_true c25
      try have c25b2 : (9223372036854775807 < (t157 ++ (⟨#[67, 111, 110, 116, 101, 110, 116, 45, 76, 101, 110, 103, 116, 104, 58, 32]⟩ : ByteArray)).size + t158.size) = False := eq_false (Nat.not_lt.2 c25)
      (try (have c25b3 := c25b0; simp only [ByteArray.size_append', ByteArray.size_mk', List.size_toArray, List.length_cons, List.length_nil, Nat.reduceAdd] at c25b3))
      (try (have c25b4 := c25b1; simp only [ByteArray.size_append', ByteArray.size_mk', List.size_toArray, List.length_cons, List.length_nil, Nat.reduceAdd] at c25b4))
      (try (have c25b5 := c25b2; simp only [ByteArray.size_append', ByteArray.size_mk', List.size_toArray, List.length_cons, List.length_nil, Nat.reduceAdd] at c25b5))
      by_cases c26 : ((t157 ++ (⟨#[67, 111, 110, 116, 101, 110, 116, 45, 76, 101, 110, 103, 116, 104, 58, 32]⟩ : ByteArray)) ++ t158).size + 2 ≤ 9223372036854775807
      ·rw [if_pos c26] at H
       have c26b0 := eq_true c26
       have c26b1 : decide (((t157 ++ (⟨#[67, 111, 110, 116, 101, 110, 116, 45, 76, 101, 110, 103, 116, 104, 58, 32]⟩ : ByteArray)) ++ t158).size + 2 ≤ 9223372036854775807) = true := decide_eq_true c26
       try have c26b2 : (9223372036854775807 < ((t157 ++ (⟨#[67, 111, 110, 116, 101, 110, 116, 45, 76, 101, 110, 103, 116, 104, 58, 32]⟩ : ByteArray)) ++ t158).size + 2) = False := eq_false (Nat.not_lt.2 c26)
       (try (have c26b3 := c26b0; simp only [ByteArray.size_append', ByteArray.size_mk', List.size_toArray, List.length_cons, List.length_nil, Nat.reduceAdd] at c26b3))
       (try (have c26b4 := c26b1; simp only [ByteArray.size_append', ByteArray.size_mk', List.size_toArray, List.length_cons, List.length_nil, Nat.reduceAdd] at c26b4))
       (try (have c26b5 := c26b2; simp only [ByteArray.size_append', ByteArray.size_mk', List.size_toArray, List.length_cons, List.length_nil, Nat.reduceAdd] at c26b5))
       by_cases c27 : (((t157 ++ (⟨#[67, 111, 110, 116, 101, 110, 116, 45, 76, 101, 110, 103, 116, 104, 58, 32]⟩ : ByteArray)) ++ t158) ++ (⟨#[13, 10]⟩ : ByteArray)).size + 22 ≤ 9223372036854775807
       ·rw [if_pos c27] at H
        have c27b0 := eq_true c27
        have c27b1 : decide ((((t157 ++ (⟨#[67, 111, 110, 116, 101, 110, 116, 45, 76, 101, 110, 103, 116, 104, 58, 32]⟩ : ByteArray)) ++ t158) ++ (⟨#[13, 10]⟩ : ByteArray)).size + 22 ≤ 9223372036854775807) = true := decide_eq_true c27
        try have c27b2 : (9223372036854775807 < (((t157 ++ (⟨#[67, 111, 110, 116, 101, 110, 116, 45, 76, 101, 110, 103, 116, 104, 58, 32]⟩ : ByteArray)) ++ t158) ++ (⟨#[13, 10]⟩ : ByteArray)).size + 22) = False := eq_false (Nat.not_lt.2 c27)
        (try (have c27b3 := c27b0; simp only [ByteArray.size_append', ByteArray.size_mk', List.size_toArray, List.length_cons, List.length_nil, Nat.reduceAdd] at c27b3))
        (try (have c27b4 := c27b1; simp only [ByteArray.size_append', ByteArray.size_mk', List.size_toArray, List.length_cons, List.length_nil, Nat.reduceAdd] at c27b4))
        (try (have c27b5 := c27b2; simp only [ByteArray.size_append', ByteArray.size_mk', List.size_toArray, List.length_cons, List.length_nil, Nat.reduceAdd] at c27b5))
        obtain rfl := Option.some.inj H
        go_enter Tryd.func76, Tryd.ntmps76
        go_wp2_with (first | ((with_reducible refine gate_dst (N := 2) rfl ?_); refine box_event ?hg (N := 2) ?hd (cs := #[.int .i64 a0_0, .slice A0_1 l0_1.length c0_1, .string a0_2, .bool false]) (t := 24) ?hr ?_; (case hd => rfl); (case hg => rfl); (case hr => first | (go_simp; done) | (go_simp; rfl)); intro gb151 hg w28 hbox hb; have BK151 := Aq6 (hbox); have GW151 := Aq6 ((by rw [hg]; exact (below_size tq6_6) : w.heap.size ≤ gb151)); have GE151 := Aq6 ((by rw [hg]; exact (below_size tq6_6) : w.heap.size ≤ gb151)); replace HB := Aq6 (below_step tq6_6 hb); clear hb hbox hg; have hcz29_0 : w28.cell? ⟨gb151, 0, none⟩ = some (.int .i64 a0_0) := (blk_cell BK151.out 0).trans rfl; have hcz29_1 : w28.cell? ⟨gb151, 1, none⟩ = some (.slice A0_1 l0_1.length c0_1) := (blk_cell BK151.out 1).trans rfl; have hcz29_2 : w28.cell? ⟨gb151, 2, none⟩ = some (.string a0_2) := (blk_cell BK151.out 2).trans rfl; have hcz29_3 : w28.cell? ⟨gb151, 3, none⟩ = some (.bool false) := (blk_cell BK151.out 3).trans rfl; have hfz29_0 := blk_frozen BK151.out 0; have hfz29_1 := blk_frozen BK151.out 1; have hfz29_2 := blk_frozen BK151.out 2; have hfz29_3 := blk_frozen BK151.out 3) | ((with_reducible refine gate_callee (f := 15) rfl ?_); refine goesL_ (some 15) rfl rfl Tryd.func15 (by kernel_rfl) rfl #[.agg #[.int .i64 a0_0, .slice A0_1 l0_1.length c0_1, .string (⟨#[]⟩ : ByteArray), .bool false], .bool true] rfl tq6_7 ?_; (with_reducible refine (reply_Render.calls k a0_0 _ _ l0_1 (⟨#[]⟩ : ByteArray) false true t152 t153 _ ?side1 ?side2 A6.out ?side3).mono ?_); (case side1 => exact Kd.C_below HR0_1.out (tq6_8 GE151.out)); (case side2 => exact HC0_1.out); (case side3 => exact HG.out.step (tq6_8 GE151.out) rfl); rintro e w30 ⟨rfl, hb⟩; refine ⟨_, rfl, ?_⟩; replace BK151 := Aq6 (blk_below (g := gb151) (o := .cells #[.int .i64 a0_0, .slice A0_1 l0_1.length c0_1, .string (⟨#[]⟩ : ByteArray), .bool false] 24 (0, 0)) (by (with_reducible repeat (first | refine blk_drewN ?_ _ | refine blk_drew ?_ | refine blk_alloc ?_ _)); refine blk_put (cs := #[.int .i64 a0_0, .slice A0_1 l0_1.length c0_1, .string a0_2, .bool false]) ?_ 2 _ rfl; (with_reducible repeat (first | refine blk_drewN ?_ _ | refine blk_drew ?_ | refine blk_alloc ?_ _)); exact BK151.out) hb); replace HB := Aq6 (below_step (tq6_8 GE151.out) hb); (try clear hb); (try clear hb2); (try clear hk); (try clear hi); (try simp only [errW_none, errW_some])) | ((with_reducible refine gate_callee (f := 95) rfl ?_); refine goesL_ (some 19) rfl rfl Tryd.func95 (by kernel_rfl) rfl #[.string t152, .string (⟨#[13, 10, 13, 10]⟩ : ByteArray)] rfl tq6_7 ?_; (with_reducible refine (strings_TrimSuffix.calls t152 (⟨#[13, 10, 13, 10]⟩ : ByteArray) t154 _ A7.out).mono ?_); rintro e w' ⟨rfl, ⟨nd, rfl⟩⟩; refine ⟨_, rfl, ?_⟩; have hcz31_0 : w30.cell? ⟨gb151, 0, none⟩ = some (.int .i64 a0_0) := (blk_cell BK151.out 0).trans rfl; have hcz31_1 : w30.cell? ⟨gb151, 1, none⟩ = some (.slice A0_1 l0_1.length c0_1) := (blk_cell BK151.out 1).trans rfl; have hcz31_2 : w30.cell? ⟨gb151, 2, none⟩ = some (.string (⟨#[]⟩ : ByteArray)) := (blk_cell BK151.out 2).trans rfl; have hcz31_3 : w30.cell? ⟨gb151, 3, none⟩ = some (.bool false) := (blk_cell BK151.out 3).trans rfl; have hfz31_0 := blk_frozen BK151.out 0; have hfz31_1 := blk_frozen BK151.out 1; have hfz31_2 := blk_frozen BK151.out 2; have hfz31_3 := blk_frozen BK151.out 3) | ((with_reducible refine gate_callee (f := 95) rfl ?_); refine goesL_ (some 25) rfl rfl Tryd.func95 (by kernel_rfl) rfl #[.string t154, .string ((⟨#[67, 111, 110, 116, 101, 110, 116, 45, 76, 101, 110, 103, 116, 104, 58, 32, 48, 13, 10]⟩ : ByteArray) ++ (⟨#[67, 111, 110, 110, 101, 99, 116, 105, 111, 110, 58, 32, 107, 101, 101, 112, 45, 97, 108, 105, 118, 101]⟩ : ByteArray))] rfl tq6_7 ?_; (with_reducible refine (strings_TrimSuffix.calls t154 ((⟨#[67, 111, 110, 116, 101, 110, 116, 45, 76, 101, 110, 103, 116, 104, 58, 32, 48, 13, 10]⟩ : ByteArray) ++ (⟨#[67, 111, 110, 110, 101, 99, 116, 105, 111, 110, 58, 32, 107, 101, 101, 112, 45, 97, 108, 105, 118, 101]⟩ : ByteArray)) t157 _ A22.out).mono ?_); rintro e w' ⟨rfl, ⟨nd, rfl⟩⟩; refine ⟨_, rfl, ?_⟩) | ((with_reducible refine gate_callee (f := 39) rfl ?_); refine goesL_ (some 28) rfl rfl Tryd.func39 (by kernel_rfl) rfl #[.int .i64 a1] rfl tq6_7 ?_; (with_reducible refine (strconv_Itoa_39.calls a1 t158 _ A24.out ?side1).mono ?_); (case side1 => exact HG.out.step (tq6_8 GE151.out) rfl); rintro e w32 ⟨rfl, hb⟩; refine ⟨_, rfl, ?_⟩; replace BK151 := Aq6 (blk_below (g := gb151) (o := .cells #[.int .i64 a0_0, .slice A0_1 l0_1.length c0_1, .string (⟨#[]⟩ : ByteArray), .bool false] 24 (0, 0)) (tq6_5 BK151.out) hb); replace HB := Aq6 (below_step (tq6_8 GE151.out) hb); (try clear hb); (try clear hb2); (try clear hk); (try clear hi)))
        go_ret
        exact ⟨tq6_4, (tq6_8 GE151.out)⟩
       ·rw [if_neg c27] at H
        exact absurd H (by simp)
      ·rw [if_neg c26] at H
       exact absurd H (by simp)
     ·rw [if_neg c25] at H
      exact absurd H (by simp)
    ·rw [if_neg c23] at H
     exact absurd H (by simp)
   ·rw [if_neg c21] at H
    exact absurd H (by simp)

-- NOT PRINTED: function 96 (stringslite_Cut)

-- NOT PRINTED: function 111 (stringslite_HasPrefix)

/-! ### reply_size: function 78 -/
mutual
def reply_size.j0 : Nat → ByteArray → Option (Int)
 | 0, _ => none
 | k + 1, x3 => if x3.toList = ([] : List UInt8) then (reply_size.j1 k x3 true) else (if (x3.size : Int) > 7 then (reply_size.j1 k x3 true) else (if 0 < (x3.size : Int) then (if (bt x3 0) = 48 then (reply_size.j1 k x3 (x3.toList != ([48] : List UInt8))) else (reply_size.j1 k x3 false)) else (none)))
def reply_size.j1 : Nat → ByteArray → Bool → Option (Int)
 | 0, _, _ => none
 | k + 1, x3, x26 => if x26 = true then (some (-1)) else (reply_size.l0 k x3 0 (x3.size : Int) 0)
def reply_size.l0 : Nat → ByteArray → Int → Int → Int → Option (Int)
 | 0, _, _, _, _ => none
 | k + 1, x3, x4, x28, x29 => if x29 < x28 then (if 0 ≤ x29 then (if x29 < (x3.size : Int) then (if (bt x3 x29) < 48 then (some (-1)) else (if (bt x3 x29) > 57 then (some (-1)) else (reply_size.l0 k x3 (wrap64 ((wrap64 (10 * x4)) + (((bt x3 x29) - 48) % 256))) x28 (wrap64 (x29 + 1))))) else (none)) else (none)) else (if x4 > 1048576 then (some (-1)) else (some x4))
end
def reply_size.f (k : Nat) (a0 : ByteArray) : Option (Int) := (strings_HasPrefix.f a0 (⟨#[67, 111, 110, 116, 101, 110, 116, 45, 76, 101, 110, 103, 116, 104, 58, 32]⟩ : ByteArray)).bind fun t159 => (if t159 = true then (if 16 ≤ (a0.size : Int) then (reply_size.j0 k (a0.extract 16 a0.size)) else (none)) else (some (-1)))
theorem reply_size.mono_l : ∀ k, (∀ y0, LeO (reply_size.j0 k y0) (reply_size.j0 (k + 1) y0)) ∧ (∀ y0 y1, LeO (reply_size.j1 k y0 y1) (reply_size.j1 (k + 1) y0 y1)) ∧ (∀ y0 y1 y2 y3, LeO (reply_size.l0 k y0 y1 y2 y3) (reply_size.l0 (k + 1) y0 y1 y2 y3))
 | 0 => ⟨fun _ r h => by simp [reply_size.j0] at h, fun _ _ r h => by simp [reply_size.j1] at h, fun _ _ _ _ r h => by simp [reply_size.l0] at h⟩
 | k + 1 => by
  obtain ⟨ih0, ih1, ih2⟩ := reply_size.mono_l k
  refine ⟨?_, ?_, ?_⟩
  ·intro y0
   unfold reply_size.j0
   repeat' first
   | (with_reducible exact ih0 _)
   | (with_reducible exact ih1 _ _)
   | (with_reducible exact ih2 _ _ _ _)
   | (with_reducible exact LeO.refl _)
   | (with_reducible exact LeO.none _)
   | (with_reducible refine LeO.ite ?_ ?_)
   | (with_reducible refine LeO.bind ?_ (fun _ => ?_))
   | exact ih0 _
   | exact ih1 _ _
   | exact ih2 _ _ _ _
   | exact LeO.none _
   | refine LeO.ite ?_ ?_
   | refine LeO.bind ?_ (fun _ => ?_)
  ·intro y0 y1
   unfold reply_size.j1
   repeat' first
   | (with_reducible exact ih0 _)
   | (with_reducible exact ih1 _ _)
   | (with_reducible exact ih2 _ _ _ _)
   | (with_reducible exact LeO.refl _)
   | (with_reducible exact LeO.none _)
   | (with_reducible refine LeO.ite ?_ ?_)
   | (with_reducible refine LeO.bind ?_ (fun _ => ?_))
   | exact ih0 _
   | exact ih1 _ _
   | exact ih2 _ _ _ _
   | exact LeO.none _
   | refine LeO.ite ?_ ?_
   | refine LeO.bind ?_ (fun _ => ?_)
  ·intro y0 y1 y2 y3
   unfold reply_size.l0
   repeat' first
   | (with_reducible exact ih0 _)
   | (with_reducible exact ih1 _ _)
   | (with_reducible exact ih2 _ _ _ _)
   | (with_reducible exact LeO.refl _)
   | (with_reducible exact LeO.none _)
   | (with_reducible refine LeO.ite ?_ ?_)
   | (with_reducible refine LeO.bind ?_ (fun _ => ?_))
   | exact ih0 _
   | exact ih1 _ _
   | exact ih2 _ _ _ _
   | exact LeO.none _
   | refine LeO.ite ?_ ?_
   | refine LeO.bind ?_ (fun _ => ?_)
theorem reply_size.mono : ∀ a0 k, LeO (reply_size.f k a0) (reply_size.f (k + 1) a0) := by
 intro a0 k
 obtain ⟨ih0, ih1, ih2⟩ := reply_size.mono_l k
 unfold reply_size.f
 repeat' first
   | (with_reducible exact ih0 _)
   | (with_reducible exact ih1 _ _)
   | (with_reducible exact ih2 _ _ _ _)
   | (with_reducible exact LeO.refl _)
   | (with_reducible exact LeO.none _)
   | (with_reducible refine LeO.ite ?_ ?_)
   | (with_reducible refine LeO.bind ?_ (fun _ => ?_))
   | exact ih0 _
   | exact ih1 _ _
   | exact ih2 _ _ _ _
   | exact LeO.none _
   | refine LeO.ite ?_ ?_
   | refine LeO.bind ?_ (fun _ => ?_)
set_option maxHeartbeats 8000000 in
set_option maxRecDepth 100000 in
theorem reply_size.calls (k : Nat) (a0 : ByteArray) (r : Int) (w : World) (h : reply_size.f k a0 = some r) :
  Calls Tryd.prog 78 #[.string a0] w fun e w' => e = .returned (.int .i64 r) ∧ Drawn0 w w' := by
 have H : ((strings_HasPrefix.f a0 (⟨#[67, 111, 110, 116, 101, 110, 116, 45, 76, 101, 110, 103, 116, 104, 58, 32]⟩ : ByteArray)).bind fun t159 => (if t159 = true then (if 16 ≤ (a0.size : Int) then (reply_size.j0 k (a0.extract 16 a0.size)) else (none)) else (some (-1)))) = some r := h
 clear h
 replace H := Option.bind_eq_some_iff.mp H
 obtain ⟨t159, A20, H⟩ := H
 replace H : (if t159 = true then (if 16 ≤ (a0.size : Int) then (reply_size.j0 k (a0.extract 16 a0.size)) else (none)) else (some (-1))) = some r := H
 have A2 := Aq6 A20
 clear A20
 by_cases c3 : t159 = true
 ·subst c3
  have H1 : (if 16 ≤ (a0.size : Int) then (reply_size.j0 k (a0.extract 16 a0.size)) else (none)) = some r := by rw [if_pos rfl] at H; exact H
  clear H
  have H := H1
  clear H1
  have HC4 := Aq6 H
  clear H
  go_enter Tryd.func78, Tryd.ntmps78
  go_upto_region 3 with (first | ((with_reducible refine gate_callee (f := 97) rfl ?_); refine goesL_ (some 7) rfl rfl Tryd.func97 (by kernel_rfl) rfl #[.string a0, .string (⟨#[67, 111, 110, 116, 101, 110, 116, 45, 76, 101, 110, 103, 116, 104, 58, 32]⟩ : ByteArray)] rfl tq6_7 ?_; (with_reducible refine (strings_HasPrefix.calls a0 (⟨#[67, 111, 110, 116, 101, 110, 116, 45, 76, 101, 110, 103, 116, 104, 58, 32]⟩ : ByteArray) true _ A2.out).mono ?_); rintro e w' ⟨rfl, ⟨nd, rfl⟩⟩; refine ⟨_, rfl, ?_⟩))
  (try simp only [Act.put, List.setIfInBounds_toArray, List.set_cons_zero, List.set_cons_succ])
  go_cut [3] (fun v3 wc => ∃ (kq : Nat) (x3_3 : ByteArray), v3 = .string x3_3 ∧ Aside0 (reply_size.j0 kq x3_3 = some r) ∧ Aside0 (kq ≤ k) ∧ Drawn0 w wc)
  case first =>
   have H := HC4.out
   clear HC4
   by_cases c5 : 16 ≤ (a0.size : Int)
   ·rw [if_pos c5] at H
    have c5b0 := eq_true c5
    have c5b1 : decide (16 ≤ (a0.size : Int)) = true := decide_eq_true c5
    clear c5
    have H' := Aq6 H
    clear H
    go_wp2
    go_meet
    case rel => exact ⟨_, (a0.extract 16 a0.size), tq6_0, H', ⟨by first | omega | exact Nat.le_refl _⟩, tq6_3⟩
   ·rw [if_neg c5] at H
    exact absurd H (by simp)
  case rest =>
   clear HC4
   try clear p2
   try clear c3
   try clear c5
   try clear c5b0
   try clear c5b1
   obtain ⟨kq, x3_3, rfl, HA, HJ3, ⟨mc3, rfl⟩⟩ := hcut
   cases kq with
   | zero => exact absurd HA.out (by simp [reply_size.j0])
   | succ kj3 =>
    have H := HA.out
    clear HA
    simp only [reply_size.j0] at H
    have HC6 := Aq6 H
    clear H
    go_upto_region 4 with (fail)
    go_cut [26] (fun v26 wc => ∃ (kq : Nat) (x26_5 : Bool), v26 = .bool x26_5 ∧ Aside0 (reply_size.j1 kq x3_3 x26_5 = some r) ∧ Aside0 (kq ≤ kj3) ∧ Drawn0 w wc)
    case first =>
     have H := HC6.out
     clear HC6
     by_cases c7 : x3_3.toList = ([] : List UInt8)
     ·rw [if_pos c7] at H
      have c7b0 : (x3_3.toList == ([] : List UInt8)) = true := beq_iff_eq.mpr c7
      have c7b1 : (x3_3.toList != ([] : List UInt8)) = false := bne_eq_false_iff_eq.mpr c7
      clear c7
      (first | rw [c7b0] | (simp only [i64_w, i32_w]; rw [c7b0]) | skip)
      have H' := Aq6 H
      clear H
      go_wp2
      go_meet
      case rel => exact ⟨_, (true), tq6_0, H', ⟨(tq6_1 HJ3.out)⟩, tq6_3⟩
     ·rw [if_neg c7] at H
      have c7b0 : (x3_3.toList == ([] : List UInt8)) = false := beq_eq_false_iff_ne.mpr c7
      have c7b1 : (x3_3.toList != ([] : List UInt8)) = true := bne_iff_ne.mpr c7
      (first | rw [c7b0] | (simp only [i64_w, i32_w]; rw [c7b0]) | skip)
      by_cases c8 : (x3_3.size : Int) > 7
      ·rw [if_pos c8] at H
       have c8b0 : decide (7 < (x3_3.size : Int)) = true := decide_eq_true c8
       have c8b1 : decide (7 < x3_3.size) = true := decide_eq_true (by omega)
       clear c8
       have H' := Aq6 H
       clear H
       go_wp2
       go_meet
       case rel => exact ⟨_, (true), tq6_0, H', ⟨(tq6_1 HJ3.out)⟩, tq6_3⟩
      ·rw [if_neg c8] at H
       have c8b0 : decide (7 < (x3_3.size : Int)) = false := decide_eq_false c8
       have c8b1 : decide (7 < x3_3.size) = false := decide_eq_false (by omega)
       clear c8
       by_cases c9 : 0 < (x3_3.size : Int)
       ·rw [if_pos c9] at H
        have c9b0 : decide (0 < (x3_3.size : Int)) = true := decide_eq_true c9
        have c9b1 : decide (0 < x3_3.size) = true := decide_eq_true (by omega)
        clear c9
        by_cases c11 : (bt x3_3 0) = 48
        ·rw [if_pos c11] at H
         have c11b0 : ((bt x3_3 0) == 48) = true := beq_iff_eq.mpr c11
         have c11b1 : ((bt x3_3 0) != 48) = false := bne_eq_false_iff_eq.mpr c11
         clear c11
         have H' := Aq6 H
         clear H
         have p10 : 0 ≤ (0 : Int) := (by omega)
         have q10 : 0 < x3_3.size := (by have : (0 : Int) < (x3_3.size : Int) := of_decide_eq_true tq6_2; omega)
         have hx10 : ∀ h : 0 < x3_3.size, ((x3_3[0]'h).toNat : Int) = bt x3_3 0 := bt_at x3_3 0
         clear p10
         have qi10 : (0 < (x3_3.size : Int)) = True := eq_true (of_decide_eq_true tq6_2)
         replace q10 := eq_true q10
         go_wp2
         go_meet
         case rel => exact ⟨_, ((x3_3.toList != ([48] : List UInt8))), tq6_0, H', ⟨(tq6_1 HJ3.out)⟩, tq6_3⟩
        ·rw [if_neg c11] at H
         have c11b0 : ((bt x3_3 0) == 48) = false := beq_eq_false_iff_ne.mpr c11
         have c11b1 : ((bt x3_3 0) != 48) = true := bne_iff_ne.mpr c11
         have H' := Aq6 H
         clear H
         have p10 : 0 ≤ (0 : Int) := (by omega)
         have q10 : 0 < x3_3.size := (by have : (0 : Int) < (x3_3.size : Int) := of_decide_eq_true tq6_2; omega)
         have hx10 : ∀ h : 0 < x3_3.size, ((x3_3[0]'h).toNat : Int) = bt x3_3 0 := bt_at x3_3 0
         clear p10
         have qi10 : (0 < (x3_3.size : Int)) = True := eq_true (of_decide_eq_true tq6_2)
         replace q10 := eq_true q10
         go_wp2
         go_meet
         case rel => exact ⟨_, (false), tq6_0, H', ⟨(tq6_1 HJ3.out)⟩, tq6_3⟩
       ·rw [if_neg c9] at H
        exact absurd H (by simp)
    case rest =>
     clear HC6
     try clear c1
     try clear p1
     try clear q1
     try clear hx1
     try clear qi1
     try clear p2
     try clear c3
     try clear c5
     try clear c5b0
     try clear c5b1
     try clear c7
     try clear c7b0
     try clear c7b1
     try clear c8
     try clear c8b0
     try clear c8b1
     try clear c9
     try clear c9b0
     try clear c9b1
     try clear p10
     try clear q10
     try clear hx10
     try clear qi10
     try clear c11
     try clear c11b0
     try clear c11b1
     try clear p10
     try clear p2
     try clear q10
     obtain ⟨kq, x26_5, rfl, HA, HJ5, ⟨mc5, rfl⟩⟩ := hcut
     cases kq with
     | zero => exact absurd HA.out (by simp [reply_size.j1])
     | succ kj5 =>
      have H := HA.out
      clear HA
      simp only [reply_size.j1] at H
      by_cases c12 : x26_5 = true
      ·subst c12
       have H1 : (some (-1)) = some r := by rw [if_pos rfl] at H; exact H
       clear H
       have H := H1
       clear H1
       obtain rfl := Option.some.inj H
       go_wp2
       go_ret
       exact ⟨tq6_0, tq6_3⟩
      ·replace c12 := Bool.eq_false_iff.mpr c12
       subst c12
       have H1 : (reply_size.l0 kj5 x3_3 0 (x3_3.size : Int) 0) = some r := by rw [if_neg (show ¬ (false = true) by decide)] at H; exact H
       clear H
       have H := H1
       clear H1
       have H' := Aq6 H
       clear H
       go_wp2
       go_loopg [4, 29] kj5 (fun kq v4 v29 w' => ∃ (x4_3 : Int) (x29_3 : Int), v4 = .int .i64 x4_3 ∧ v29 = .int .i64 x29_3 ∧ Aside0 (reply_size.l0 kq x3_3 x4_3 (x3_3.size : Int) x29_3 = some r) ∧ Aside0 (kq ≤ kj5) ∧ Drawn0 w w')
       case atStart => exact ⟨(0), (0), tq6_0, tq6_0, H', ⟨Nat.le_refl _⟩, tq6_3⟩
       case round =>
        clear H'
        try clear c1
        try clear p1
        try clear q1
        try clear hx1
        try clear qi1
        try clear p2
        try clear c3
        try clear c5
        try clear c5b0
        try clear c5b1
        try clear c7
        try clear c7b0
        try clear c7b1
        try clear c8
        try clear c8b0
        try clear c8b1
        try clear c9
        try clear c9b0
        try clear c9b1
        try clear p10
        try clear q10
        try clear hx10
        try clear qi10
        try clear c11
        try clear c11b0
        try clear c11b1
        try clear c12
        try clear p1
        try clear p10
        try clear p2
        try clear q1
        try clear q10
        obtain ⟨x4_3, x29_3, rfl, rfl, HA, HK3, ⟨m3, rfl⟩⟩ := hrel
        cases gk with
        | zero => exact absurd HA.out (by simp [reply_size.l0])
        | succ k3 =>
         have H := HA.out
         clear HA
         simp only [reply_size.l0] at H
         by_cases c13 : x29_3 < (x3_3.size : Int)
         ·rw [if_pos c13] at H
          have c13b0 : decide (x29_3 < (x3_3.size : Int)) = true := decide_eq_true c13
          clear c13
          by_cases c14 : 0 ≤ x29_3
          ·rw [if_pos c14] at H
           have c14b0 : decide (0 ≤ x29_3) = true := decide_eq_true c14
           clear c14
           by_cases c15 : x29_3 < (x3_3.size : Int)
           ·rw [if_pos c15] at H
            have c15b0 : decide (x29_3 < (x3_3.size : Int)) = true := decide_eq_true c15
            clear c15
            by_cases c17 : (bt x3_3 x29_3) < 48
            ·rw [if_pos c17] at H
             have c17b0 : decide ((bt x3_3 x29_3) < 48) = true := decide_eq_true c17
             clear c17
             obtain rfl := Option.some.inj H
             have p16 : 0 ≤ (x29_3 : Int) := of_decide_eq_true tq6_2
             have q16 : x29_3 < (x3_3.size : Int) := of_decide_eq_true tq6_2
             have hx16 := bt_at x3_3 x29_3
             replace p16 := eq_true p16
             replace q16 := eq_true q16
             go_wp2
             go_ret
             exact ⟨tq6_0, tq6_3⟩
            ·rw [if_neg c17] at H
             have c17b0 : decide ((bt x3_3 x29_3) < 48) = false := decide_eq_false c17
             clear c17
             by_cases c19 : (bt x3_3 x29_3) > 57
             ·rw [if_pos c19] at H
              have c19b0 : decide (57 < (bt x3_3 x29_3)) = true := decide_eq_true c19
              clear c19
              obtain rfl := Option.some.inj H
              have p16 : 0 ≤ (x29_3 : Int) := of_decide_eq_true tq6_2
              have q16 : x29_3 < (x3_3.size : Int) := of_decide_eq_true tq6_2
              have hx16 := bt_at x3_3 x29_3
              replace p16 := eq_true p16
              replace q16 := eq_true q16
              have p18 : 0 ≤ (x29_3 : Int) := of_decide_eq_true tq6_2
              have q18 : x29_3 < (x3_3.size : Int) := of_decide_eq_true tq6_2
              have hx18 := bt_at x3_3 x29_3
              replace p18 := eq_true p18
              replace q18 := eq_true q18
              go_wp2
              go_ret
              exact ⟨tq6_0, tq6_3⟩
             ·rw [if_neg c19] at H
              have c19b0 : decide (57 < (bt x3_3 x29_3)) = false := decide_eq_false c19
              clear c19
              have H' := Aq6 H
              clear H
              have p16 : 0 ≤ (x29_3 : Int) := of_decide_eq_true tq6_2
              have q16 : x29_3 < (x3_3.size : Int) := of_decide_eq_true tq6_2
              have hx16 := bt_at x3_3 x29_3
              replace p16 := eq_true p16
              replace q16 := eq_true q16
              have p18 : 0 ≤ (x29_3 : Int) := of_decide_eq_true tq6_2
              have q18 : x29_3 < (x3_3.size : Int) := of_decide_eq_true tq6_2
              have hx18 := bt_at x3_3 x29_3
              replace p18 := eq_true p18
              replace q18 := eq_true q18
              have p20 : 0 ≤ (x29_3 : Int) := of_decide_eq_true tq6_2
              have q20 : x29_3 < (x3_3.size : Int) := of_decide_eq_true tq6_2
              have hx20 := bt_at x3_3 x29_3
              replace p20 := eq_true p20
              replace q20 := eq_true q20
              go_wp2
              go_roundg k3
              case measure => have := HJ3.out; have := HJ5.out; have := HK3.out; omega
              case rel => exact ⟨(wrap64 ((wrap64 (10 * x4_3)) + (((bt x3_3 x29_3) - 48) % 256))), (wrap64 (x29_3 + 1)), tq6_0, tq6_0, H', ⟨by have := HJ3.out; have := HJ5.out; have := HK3.out; omega⟩, tq6_3⟩
           ·rw [if_neg c15] at H
            exact absurd H (by simp)
          ·rw [if_neg c14] at H
           exact absurd H (by simp)
         ·rw [if_neg c13] at H
          have c13b0 : decide (x29_3 < (x3_3.size : Int)) = false := decide_eq_false c13
          clear c13
          by_cases c21 : x4_3 > 1048576
          ·rw [if_pos c21] at H
           have c21b0 : decide (1048576 < x4_3) = true := decide_eq_true c21
           clear c21
           obtain rfl := Option.some.inj H
           go_wp2
           go_ret
           exact ⟨tq6_0, tq6_3⟩
          ·rw [if_neg c21] at H
           have c21b0 : decide (1048576 < x4_3) = false := decide_eq_false c21
           clear c21
           obtain rfl := Option.some.inj H
           go_wp2
           go_ret
           exact ⟨tq6_0, tq6_3⟩
 ·replace c3 := Bool.eq_false_iff.mpr c3
  subst c3
  have H1 : (some (-1)) = some r := by rw [if_neg (show ¬ (false = true) by decide)] at H; exact H
  clear H
  have H := H1
  clear H1
  obtain rfl := Option.some.inj H
  go_enter Tryd.func78, Tryd.ntmps78
  go_wp2_with (first | ((with_reducible refine gate_callee (f := 97) rfl ?_); refine goesL_ (some 7) rfl rfl Tryd.func97 (by kernel_rfl) rfl #[.string a0, .string (⟨#[67, 111, 110, 116, 101, 110, 116, 45, 76, 101, 110, 103, 116, 104, 58, 32]⟩ : ByteArray)] rfl tq6_7 ?_; (with_reducible refine (strings_HasPrefix.calls a0 (⟨#[67, 111, 110, 116, 101, 110, 116, 45, 76, 101, 110, 103, 116, 104, 58, 32]⟩ : ByteArray) false _ A2.out).mono ?_); rintro e w' ⟨rfl, ⟨nd, rfl⟩⟩; refine ⟨_, rfl, ?_⟩))
  go_ret
  exact ⟨tq6_0, tq6_3⟩

end Go.Proofs.YtdlfdmbaejhaaaaDoor.Q
