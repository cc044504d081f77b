/- What the document's own Token and Value answer, as plain functions of the bytes. Conditions: a text has at most 140737488351232 bytes. -/
import Derived.Test.YtdlfdmbaejhaaaaDoorPGram
import Derived.Test.YtdlfdmbaejhaaaaDoorQ9
import Derived.Test.YtdlfdmbaejhaaaaDoorQ10
set_option linter.unusedVariables false
set_option linter.unusedSimpArgs false
namespace Go.Proofs.YtdlfdmbaejhaaaaDoor.Q
open Go.RowKit Go.Proofs.YtdlfdmbaejhaaaaDoorW.PrintWords Go.Proofs.YtdlfdmbaejhaaaaDoorW.PrintLast Go.Proofs.YtdlfdmbaejhaaaaDoorW.PrintMore

theorem tokR_at : ∀ c : Fin 256, usherref6_TokenByte.f 40 (c.val : Int) = some (has 1 (c.val : Int)) := by decide +kernel
theorem valR_at : ∀ c : Fin 256, usherref6_ValueByte.f (c.val : Int) = some (has 4 (c.val : Int)) := by decide +kernel
theorem whiteR_at : ∀ c : Fin 256, usherref6_White.f (c.val : Int) = some (has 8 (c.val : Int)) := by decide +kernel
theorem tokR (c : Int) (h0 : 0 ≤ c) (h1 : c ≤ 255) : Ev (fun k => usherref6_TokenByte.f k c) (has 1 c) := by
  have := tokR_at ⟨c.toNat, by omega⟩
  simp only [Int.toNat_of_nonneg h0] at this
  exact Ev.of (usherref6_TokenByte.mono c) this
theorem valR (c : Int) (h0 : 0 ≤ c) (h1 : c ≤ 255) : usherref6_ValueByte.f c = some (has 4 c) := by
  have := valR_at ⟨c.toNat, by omega⟩
  simpa only [Int.toNat_of_nonneg h0] using this
theorem whiteR (c : Int) (h0 : 0 ≤ c) (h1 : c ≤ 255) : usherref6_White.f c = some (has 8 c) := by
  have := whiteR_at ⟨c.toNat, by omega⟩
  simpa only [Int.toNat_of_nonneg h0] using this
theorem usherref6_Token.ev (s : ByteArray) (hs : s.size ≤ 140737488351232) : Ev (fun k => usherref6_Token.f k s) (!(bytesOf s).isEmpty && (bytesOf s).all (has 1)) := by
  have hl := bytesOf_length s
  have hne : (s.toList != ([] : List UInt8)) = !(bytesOf s).isEmpty := by
    rw [Bool.eq_iff_iff]; simp [toList_nil]
  have H := Ev.loop (F := fun k (i : Int) => usherref6_Token.l0 k s i) (r := fun i => !(bytesOf s).isEmpty && ((bytesOf s).drop i.toNat).all (has 1)) (fun i => 0 ≤ i ∧ i ≤ s.size) (fun i => s.size - i.toNat) (by
    rintro i ⟨h0, h1⟩ ih
    by_cases hi : i < (s.size : Int)
    · have hn0 : (bytesOf s).isEmpty = false := by
        rw [List.isEmpty_eq_false_iff_exists_mem]
        exact ⟨_, List.getElem_mem (n := 0) (by omega)⟩
      have hn : i.toNat + 1 = (i + 1).toNat := by omega
      simp only [usherref6_Token.l0, if_pos hi, if_pos h0]
      refine (tokR _ (bt_range s i).1 (bt_range s i).2).bind ?_
      rw [wrap64_of (by omega), drop_cons (bytesOf s) i.toNat 0 (by omega), List.all_cons, ← bt_eq]
      cases hb : has 1 (bt s i)
      · simpa using Ev.now false
      · simp only [if_true, Bool.true_and]
        rw [hn]
        exact ih (i + 1) ⟨by omega, by omega⟩ (by omega)
    · simp only [usherref6_Token.l0, if_neg hi]
      rw [List.drop_eq_nil_of_le (by omega), hne]
      exact Ev.eq (Ev.now _) (by simp)) 0 ⟨by omega, by omega⟩
  simpa [usherref6_Token.f] using H
theorem usherref6_Value.ev (s : ByteArray) (hs : s.size ≤ 140737488351232) : Ev (fun k => usherref6_Value.f k s) (if bytesOf s = [] then true else valueL (bytesOf s)) := by
  have hl := bytesOf_length s
  have H := Ev.loop (F := fun k (i : Int) => usherref6_Value.l0 k s i) (r := fun i => ((bytesOf s).drop i.toNat).all (has 4) && (if bytesOf s = [] then true else !has 8 ((bytesOf s).headD 0) && !has 8 ((bytesOf s).getLastD 0))) (fun i => 0 ≤ i ∧ i ≤ s.size) (fun i => s.size - i.toNat) (by
    rintro i ⟨h0, h1⟩ ih
    by_cases hi : i < (s.size : Int)
    · have hn : i.toNat + 1 = (i + 1).toNat := by omega
      simp only [usherref6_Value.l0, if_pos hi, if_pos h0, valR _ (bt_range s i).1 (bt_range s i).2, Option.bind_some]
      rw [wrap64_of (by omega), drop_cons (bytesOf s) i.toNat 0 (by omega), List.all_cons, ← bt_eq]
      cases hb : has 4 (bt s i)
      · simpa using Ev.now false
      · simp only [if_true, Bool.true_and]
        rw [hn]
        exact ih (i + 1) ⟨by omega, by omega⟩ (by omega)
    · simp only [usherref6_Value.l0, if_neg hi]
      rw [List.drop_eq_nil_of_le (by omega)]
      by_cases hn : s.toList = []
      · rw [if_pos (toList_nil.1 hn)]
        exact Ev.if_pos hn (Ev.now _)
      · have hp := size_pos hn
        rw [if_neg (fun h => hn (toList_nil.2 h))]
        refine Ev.if_neg hn ?_
        simp only [whiteR _ (bt_range s _).1 (bt_range s _).2, Option.bind_some]
        simp only [bt_zero, bt_last s hs hp]
        rw [if_pos (show (0 : Int) < (s.size : Int) by omega), if_pos (show 0 ≤ wrap64 ((s.size : Int) - 1) by rw [wrap64_of (by omega)]; omega), if_pos (show wrap64 ((s.size : Int) - 1) < (s.size : Int) by rw [wrap64_of (by omega)]; omega)]
        cases has 8 ((bytesOf s).headD 0) <;> simp only [if_true, Bool.false_eq_true, if_false, Bool.not_true, Bool.not_false, Bool.and_true, Bool.and_false, Bool.true_and, Bool.false_and, List.all_nil] <;> exact Ev.now _) 0 ⟨by omega, by omega⟩
  have e : (if bytesOf s = [] then true else valueL (bytesOf s)) = (((bytesOf s).drop (0 : Int).toNat).all (has 4) && (if bytesOf s = [] then true else !has 8 ((bytesOf s).headD 0) && !has 8 ((bytesOf s).getLastD 0))) := by
    by_cases hn : bytesOf s = []
    · simp [hn]
    · simp [hn, valueL, Bool.and_assoc]
  rw [e]
  simpa only [usherref6_Value.f] using H
end Go.Proofs.YtdlfdmbaejhaaaaDoor.Q
