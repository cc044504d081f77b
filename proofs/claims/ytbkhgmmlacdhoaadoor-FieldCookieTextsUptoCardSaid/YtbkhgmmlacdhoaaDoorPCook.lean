/- What field.may and the document's CookieValue answer, as plain functions of the bytes. Conditions: a text has at most 140737488351232 bytes. -/
import Derived.Test.YtbkhgmmlacdhoaaDoorQ6
import Derived.Test.YtbkhgmmlacdhoaaDoorQ6
import Derived.Test.YtbkhgmmlacdhoaaDoorPGram
set_option linter.unusedVariables false
set_option linter.unusedSimpArgs false
namespace Go.Proofs.YtbkhgmmlacdhoaaDoor.Q
open Go.RowKit Go.Proofs.YtbkhgmmlacdhoaaDoorW.PrintWords Go.Proofs.YtbkhgmmlacdhoaaDoorW.PrintLast Go.Proofs.YtbkhgmmlacdhoaaDoorW.PrintMore
def tokL (l : List Int) : Bool := !l.isEmpty && l.all (has 1)
def cookL (l : List Int) : Bool := l.all (has 2)
theorem field_may.ev (a b : ByteArray) (ha : a.size ≤ 140737488351232) (hb : b.size ≤ 140737488351232) : Ev (fun k => field_may.f k a b) (tokL (bytesOf a) && cookL (bytesOf b)) := by
  simp only [field_may.f]
  refine (field_Token.ev a ha).bind ?_
  have e : (!(bytesOf a).isEmpty && (bytesOf a).all (has 1)) = tokL (bytesOf a) := rfl
  rw [e]
  cases h : tokL (bytesOf a)
  · exact Ev.if_neg (by simp) (Ev.now _)
  · refine Ev.if_pos rfl ?_
    refine (field_all.ev b 2 hb).bind ?_
    exact Ev.now _
theorem cookR_at : ∀ c : Fin 256, has 2 (c.val : Int) = (decide (33 ≤ (c.val : Int)) && decide ((c.val : Int) ≤ 126) && decide ((c.val : Int) ≠ 34) && decide ((c.val : Int) ≠ 44) && decide ((c.val : Int) ≠ 59) && decide ((c.val : Int) ≠ 92)) := by decide +kernel
theorem cookR (c : Int) (h0 : 0 ≤ c) (h1 : c ≤ 255) : has 2 c = (decide (33 ≤ c) && decide (c ≤ 126) && decide (c ≠ 34) && decide (c ≠ 44) && decide (c ≠ 59) && decide (c ≠ 92)) := by
  have := cookR_at ⟨c.toNat, by omega⟩
  simpa only [Int.toNat_of_nonneg h0] using this
theorem usherref6_CookieValue.ev (s : ByteArray) (hs : s.size ≤ 140737488351232) : Ev (fun k => usherref6_CookieValue.f k s) (cookL (bytesOf s)) := by
  have hl := bytesOf_length s
  have H := Ev.loop (F := fun k (i : Int) => usherref6_CookieValue.l0 k s i) (r := fun i => cookL ((bytesOf s).drop i.toNat)) (fun i => 0 ≤ i ∧ i ≤ s.size) (fun i => s.size - i.toNat) (by
    rintro i ⟨h0, h1⟩ ih
    by_cases hi : i < (s.size : Int)
    · simp only [usherref6_CookieValue.l0]
      refine Ev.if_pos hi (Ev.if_pos h0 ?_)
      rw [wrap64_of (by omega), drop_cons (bytesOf s) i.toNat 0 (by omega)]
      have hn : i.toNat + 1 = (i + 1).toNat := by omega
      have hr := bt_range s i
      have hk := cookR (bt s i) hr.1 hr.2
      have e : cookL ((bytesOf s).getD i.toNat 0 :: (bytesOf s).drop (i.toNat + 1)) = (has 2 (bt s i) && cookL ((bytesOf s).drop (i + 1).toNat)) := by
        rw [← bt_eq, hn]; rfl
      rw [e, hk]
      have ih1 := ih (i + 1) ⟨by omega, by omega⟩ (by omega)
      generalize bt s i = c at *
      by_cases c1 : c < 33
      · exact Ev.if_pos c1 (Ev.eq (Ev.now _) (by simp [show ¬ 33 ≤ c by omega]))
      · refine Ev.if_neg c1 ?_
        by_cases c2 : c > 126
        · exact Ev.if_pos c2 (Ev.eq (Ev.now _) (by simp [show ¬ c ≤ 126 by omega]))
        · refine Ev.if_neg c2 ?_
          by_cases c3 : c = 34
          · exact Ev.if_pos c3 (Ev.eq (Ev.now _) (by simp [c3]))
          · refine Ev.if_neg c3 ?_
            by_cases c4 : c = 44
            · exact Ev.if_pos c4 (Ev.eq (Ev.now _) (by simp [c4]))
            · refine Ev.if_neg c4 ?_
              by_cases c5 : c = 59
              · exact Ev.if_pos c5 (Ev.eq (Ev.now _) (by simp [c5]))
              · refine Ev.if_neg c5 ?_
                by_cases c6 : c = 92
                · exact Ev.if_pos c6 (Ev.eq (Ev.now _) (by simp [c6]))
                · refine Ev.if_neg c6 (Ev.eq ih1 ?_)
                  simp [c3, c4, c5, c6, show 33 ≤ c by omega, show c ≤ 126 by omega]
    · simp only [usherref6_CookieValue.l0]
      refine Ev.if_neg hi ?_
      rw [List.drop_eq_nil_of_le (by omega)]
      exact Ev.now true) 0 ⟨by omega, by omega⟩
  simpa [usherref6_CookieValue.f] using H
end Go.Proofs.YtbkhgmmlacdhoaaDoor.Q
