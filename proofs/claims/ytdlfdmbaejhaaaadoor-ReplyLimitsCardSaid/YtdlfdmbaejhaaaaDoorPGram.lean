/- What field.Token, Value and Trim answer, as plain functions of the bytes. Conditions: a text has at most 140737488351232 bytes. -/
import Derived.Test.YtdlfdmbaejhaaaaDoorQ2
import Derived.Test.YtdlfdmbaejhaaaaDoorQ3
import Derived.Test.YtdlfdmbaejhaaaaDoorTool
import Derived.Test.YtdlfdmbaejhaaaaDoorIs
set_option linter.unusedVariables false
set_option linter.unusedSimpArgs false
namespace Go.Proofs.YtdlfdmbaejhaaaaDoor.Q
open Go.RowKit Go.Proofs.YtdlfdmbaejhaaaaDoorW.PrintWords Go.Proofs.YtdlfdmbaejhaaaaDoorW.PrintLast Go.Proofs.YtdlfdmbaejhaaaaDoorW.PrintMore

/-- Has the byte c one of these flags? -/
def has (k c : Int) : Bool := bits .and .u8 (kindsL.getD c.toNat 0) k != 0
theorem is_some (c k : Int) (h0 : 0 ≤ c) (h1 : c ≤ 255) : field_is.f c k = some (has k c) := by
  unfold field_is.f has; rw [if_pos ⟨h0, by omega⟩]
theorem is_bt (s : ByteArray) (i : Int) (k : Int) : field_is.f (bt s i) k = some (has k (bt s i)) := is_some _ _ (bt_range s i).1 (bt_range s i).2

theorem field_all.ev (s : ByteArray) (a : Int) (hs : s.size ≤ 140737488351232) : Ev (fun k => field_all.f k s a) ((bytesOf s).all (has a)) := by
  have hl := bytesOf_length s
  have H := Ev.loop (F := fun k (i : Int) => field_all.l0 k s a (s.size : Int) i) (r := fun i => ((bytesOf s).drop i.toNat).all (has a)) (fun i => 0 ≤ i ∧ i ≤ s.size) (fun i => s.size - i.toNat) (by
    rintro i ⟨h0, h1⟩ ih
    by_cases hi : i < (s.size : Int)
    · simp only [field_all.l0, if_pos hi, if_pos h0, is_bt, Option.bind_some]
      rw [wrap64_of (by omega), drop_cons (bytesOf s) i.toNat 0 (by omega), List.all_cons, ← bt_eq]
      have hn : i.toNat + 1 = (i + 1).toNat := by omega
      cases hb : has a (bt s i)
      · simpa using Ev.now false
      · simp only [if_true, Bool.true_and]
        rw [hn]
        exact ih (i + 1) ⟨by omega, by omega⟩ (by omega)
    · simp only [field_all.l0, if_neg hi]
      rw [List.drop_eq_nil_of_le (by omega)]
      exact Ev.now true) 0 ⟨by omega, by omega⟩
  simpa [field_all.f] using H
theorem field_Token.ev (s : ByteArray) (hs : s.size ≤ 140737488351232) : Ev (fun k => field_Token.f k s) (!(bytesOf s).isEmpty && (bytesOf s).all (has 1)) := by
  simp only [field_Token.f]
  by_cases hn : s.toList = []
  · rw [toList_nil.1 hn]
    exact Ev.if_pos hn (Ev.now _)
  · have : (bytesOf s).isEmpty = false := by simpa using fun h => hn (toList_nil.2 h)
    rw [this]
    refine Ev.if_neg hn ?_
    simpa using (field_all.ev s 1 hs).bind (f := fun _ t => some t) (Ev.now _)
/-- May these bytes be a field's value? -/
def valueL (l : List Int) : Bool := l.all (has 4) && !has 8 (l.headD 0) && !has 8 (l.getLastD 0)
theorem bt_zero (s : ByteArray) : bt s 0 = (bytesOf s).headD 0 := by rw [bt_eq]; cases bytesOf s <;> rfl
theorem bt_last (s : ByteArray) (hs : s.size ≤ 140737488351232) (h : 0 < s.size) : bt s (wrap64 ((s.size : Int) - 1)) = (bytesOf s).getLastD 0 := by
  have hl := bytesOf_length s
  rw [wrap64_of (by omega), bt_eq, List.getLastD_eq_getLast?, List.getLast?_eq_getElem?, List.getD_eq_getElem?_getD, hl]
  congr 2; omega
theorem size_pos {s : ByteArray} (h : ¬ s.toList = []) : 0 < s.size := by
  have hl := bytesOf_length s
  rcases Nat.eq_zero_or_pos s.size with h0 | h0
  · exact absurd (toList_nil.2 (List.eq_nil_of_length_eq_zero (by omega))) h
  · exact h0
theorem field_Value.ev (s : ByteArray) (hs : s.size ≤ 140737488351232) : Ev (fun k => field_Value.f k s) (if bytesOf s = [] then true else valueL (bytesOf s)) := by
  simp only [field_Value.f]
  by_cases hn : s.toList = []
  · rw [if_pos (toList_nil.1 hn)]
    exact Ev.if_pos hn (Ev.now _)
  · have hp := size_pos hn
    rw [if_neg (fun h => hn (toList_nil.2 h))]
    refine Ev.if_neg hn ((field_all.ev s 4 hs).bind ?_)
    simp only [is_bt, Option.bind_some]
    simp only [bt_zero, bt_last s hs hp]
    rw [if_pos (show (0 : Int) < (s.size : Int) by omega), if_pos (show 0 ≤ wrap64 ((s.size : Int) - 1) by rw [wrap64_of (by omega)]; omega), if_pos (show wrap64 ((s.size : Int) - 1) < (s.size : Int) by rw [wrap64_of (by omega)]; omega)]
    unfold valueL
    cases (bytesOf s).all (has 4) <;> cases has 8 ((bytesOf s).headD 0) <;> simp only [if_true, Bool.false_eq_true, if_false, Bool.not_true, Bool.not_false, Bool.and_true, Bool.and_false, Bool.true_and, Bool.false_and] <;> exact Ev.now _
/-! ### Trim -/
def isW (c : Int) : Bool := has 8 c
def trimL (l : List Int) : List Int := l.dropWhile isW
def trimR (l : List Int) : List Int := (l.reverse.dropWhile isW).reverse
def trimB (l : List Int) : List Int := trimR (trimL l)
theorem trimR_yes {l : List Int} (h : l ≠ []) (hw : isW (l.getLastD 0) = true) : trimR l = trimR l.dropLast := by
  obtain ⟨m, a, rfl⟩ : ∃ m a, l = m ++ [a] := ⟨l.dropLast, l.getLast h, (List.dropLast_concat_getLast h).symm⟩
  simp at hw
  simp [trimR, hw]
theorem trimR_no {l : List Int} (h : l ≠ []) (hw : isW (l.getLastD 0) = false) : trimR l = l := by
  obtain ⟨m, a, rfl⟩ : ∃ m a, l = m ++ [a] := ⟨l.dropLast, l.getLast h, (List.dropLast_concat_getLast h).symm⟩
  simp at hw
  simp [trimR, hw]
theorem trimR_mem {l : List Int} {x : Int} (h : x ∈ trimR l) : x ∈ l := by
  unfold trimR at h
  have := (List.dropWhile_sublist isW).subset (List.mem_reverse.1 h)
  exact List.mem_reverse.1 this
theorem bytes_trimR (s : ByteArray) : bytesOf (strOfNums (trimR (bytesOf s))) = trimR (bytesOf s) := bytesOf_strOfNums fun x hx => bytesOf_range (trimR_mem hx)
theorem extract_last (s : ByteArray) (hs : s.size ≤ 140737488351232) (h : 0 < s.size) : bytesOf (s.extract 0 (wrap64 ((s.size : Int) - 1)).toNat) = (bytesOf s).dropLast := by
  have hl := bytesOf_length s
  rw [wrap64_of (by omega), bytesOf_extract, List.drop_zero, List.dropLast_eq_take, hl]
  congr 1; omega
theorem field_Trim.ev1 (s : ByteArray) (hs : s.size ≤ 140737488351232) : Ev (fun k => field_Trim.l1 k s) (strOfNums (trimR (bytesOf s))) := by
  refine Ev.loop (F := field_Trim.l1) (r := fun s => strOfNums (trimR (bytesOf s))) (fun s => s.size ≤ 140737488351232) (fun s => s.size) ?_ s hs
  intro s hs ih
  simp only [field_Trim.l1]
  by_cases hn : s.toList = []
  · refine Ev.eq (Ev.if_pos hn (Ev.now _)) (ext_bytes ?_)
    rw [bytes_trimR, toList_nil.1 hn]; rfl
  · have hp := size_pos hn
    have hb : bytesOf s ≠ [] := fun h => hn (toList_nil.2 h)
    refine Ev.if_neg hn ?_
    refine Ev.if_pos (by rw [wrap64_of (by omega)]; omega) (Ev.if_pos (by rw [wrap64_of (by omega)]; omega) ?_)
    simp only [is_bt, Option.bind_some]
    simp only [bt_last s hs hp]
    by_cases hw : has 8 ((bytesOf s).getLastD 0) = true
    · rw [trimR_yes hb hw]
      refine Ev.if_pos hw ?_
      refine Ev.if_pos (by rw [wrap64_of (by omega)]; omega) ?_
      rw [← extract_last s hs hp]
      have hsz : (s.extract 0 (wrap64 ((s.size : Int) - 1)).toNat).size < s.size := by
        rw [← bytesOf_length, extract_last s hs hp, List.length_dropLast, bytesOf_length]; omega
      exact ih _ (by omega) hsz
    · refine Ev.eq (Ev.if_neg hw (Ev.now _)) (ext_bytes ?_)
      rw [bytes_trimR, trimR_no hb (by simpa [isW] using hw)]
theorem field_Trim.evj (s : ByteArray) (hs : s.size ≤ 140737488351232) : Ev (fun k => field_Trim.j1 k s) (strOfNums (trimR (bytesOf s))) :=
  Ev.step (f := fun k => field_Trim.l1 k s) (fun k => by rw [field_Trim.j1]) (field_Trim.ev1 s hs)
theorem field_Trim.ev (s : ByteArray) (hs : s.size ≤ 140737488351232) : Ev (fun k => field_Trim.f k s) (strOfNums (trimB (bytesOf s))) := by
  refine Ev.loop (F := field_Trim.l0) (r := fun s => strOfNums (trimB (bytesOf s))) (fun s => s.size ≤ 140737488351232) (fun s => s.size) ?_ s hs
  intro s hs ih
  simp only [field_Trim.l0]
  by_cases hn : s.toList = []
  · refine Ev.if_pos hn ?_
    have := field_Trim.evj s hs
    rwa [show trimB (bytesOf s) = trimR (bytesOf s) by rw [toList_nil.1 hn]; rfl]
  · have hp := size_pos hn
    have hb : bytesOf s ≠ [] := fun h => hn (toList_nil.2 h)
    refine Ev.if_neg hn ?_
    refine Ev.if_pos (by omega) ?_
    simp only [is_bt, Option.bind_some]
    obtain ⟨c, m, hc⟩ : ∃ c m, bytesOf s = c :: m := by
      cases h : bytesOf s with
      | nil => exact absurd h hb
      | cons c m => exact ⟨c, m, rfl⟩
    have h0 : bt s 0 = c := by rw [bt_zero, hc]; rfl
    simp only [h0]
    by_cases hw : has 8 c = true
    · have e : bytesOf (s.extract 1 s.size) = m := by rw [bytesOf_extract_to_end, hc]; rfl
      have he : trimB (bytesOf s) = trimB (bytesOf (s.extract 1 s.size)) := by
        rw [e, hc]; simp [trimB, trimL, isW, hw]
      rw [he]
      refine Ev.if_pos hw ?_
      refine Ev.if_pos (by omega) ?_
      have hsz : (s.extract 1 s.size).size < s.size := by
        rw [← bytesOf_length, e, ← bytesOf_length s, hc]; simp
      exact ih _ (by omega) hsz
    · refine Ev.if_neg hw ?_
      rw [show trimB (bytesOf s) = trimR (bytesOf s) by rw [hc]; simp [trimB, trimL, isW, hw]]
      exact field_Trim.evj s hs
end Go.Proofs.YtdlfdmbaejhaaaaDoor.Q
