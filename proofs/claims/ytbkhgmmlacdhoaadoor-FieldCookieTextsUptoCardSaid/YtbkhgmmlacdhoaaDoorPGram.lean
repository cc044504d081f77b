/- What field.Token, Value and Trim, and the document's own, answer, as plain functions of the bytes. Conditions: a text has at most 140737488351232 bytes. -/
import Derived.Test.YtbkhgmmlacdhoaaDoorQ5
import Derived.Test.YtbkhgmmlacdhoaaDoorTool
import Derived.Test.YtbkhgmmlacdhoaaDoorIs
set_option linter.unusedVariables false
set_option linter.unusedSimpArgs false
namespace Go.Proofs.YtbkhgmmlacdhoaaDoor.Q
open Go.RowKit Go.Proofs.YtbkhgmmlacdhoaaDoorW.PrintWords Go.Proofs.YtbkhgmmlacdhoaaDoorW.PrintLast Go.Proofs.YtbkhgmmlacdhoaaDoorW.PrintMore

/-- Has the byte c one of these flags? -/
def has (k c : Int) : Bool := bits .and .u8 (kindsL.getD c.toNat 0) k != 0
theorem is_some (c k : Int) (h0 : 0 ≤ c) (h1 : c ≤ 255) : field_is.f c k = some (has k c) := by
  unfold field_is.f has; rw [if_pos ⟨h0, by omega⟩]
theorem is_bt (s : ByteArray) (i : Int) (k : Int) : field_is.f (bt s i) k = some (has k (bt s i)) := is_some _ _ (bt_range s i).1 (bt_range s i).2

theorem field_all.ev (s : ByteArray) (a : Int) (hs : s.size ≤ 140737488351232) : Ev (fun k => field_all.f k s a) ((bytesOf s).all (has a)) := by
  have hl := bytesOf_length s
  have H := Ev.loop (F := fun k (i : Int) => field_all.l0 k s a (s.size : Int) i) (r := fun i => ((bytesOf s).drop i.toNat).all (has a)) (fun i => 0 ≤ i ∧ i ≤ s.size) (fun i => s.size - i.toNat) (by
    rintro i ⟨h0, h1⟩ ih
    by_cases hi : i < (s.size : Int)
    · simp only [field_all.l0, if_pos hi, if_pos h0, is_bt, Option.bind_some]
      rw [wrap64_of (by omega), drop_cons (bytesOf s) i.toNat 0 (by omega), List.all_cons, ← bt_eq]
      have hn : i.toNat + 1 = (i + 1).toNat := by omega
      cases hb : has a (bt s i)
      · simpa using Ev.now false
      · simp only [if_true, Bool.true_and]
        rw [hn]
        exact ih (i + 1) ⟨by omega, by omega⟩ (by omega)
    · simp only [field_all.l0, if_neg hi]
      rw [List.drop_eq_nil_of_le (by omega)]
      exact Ev.now true) 0 ⟨by omega, by omega⟩
  simpa [field_all.f] using H
theorem field_Token.ev (s : ByteArray) (hs : s.size ≤ 140737488351232) : Ev (fun k => field_Token.f k s) (!(bytesOf s).isEmpty && (bytesOf s).all (has 1)) := by
  simp only [field_Token.f]
  by_cases hn : s.toList = []
  · rw [toList_nil.1 hn]
    exact Ev.if_pos hn (Ev.now _)
  · have : (bytesOf s).isEmpty = false := by simpa using fun h => hn (toList_nil.2 h)
    rw [this]
    refine Ev.if_neg hn ?_
    simpa using (field_all.ev s 1 hs).bind (f := fun _ t => some t) (Ev.now _)
theorem tokR_at : ∀ c : Fin 256, usherref6_TokenByte.f 40 (c.val : Int) = some (has 1 (c.val : Int)) := by decide +kernel
theorem valR_at : ∀ c : Fin 256, usherref6_ValueByte.f (c.val : Int) = some (has 4 (c.val : Int)) := by decide +kernel
theorem whiteR_at : ∀ c : Fin 256, usherref6_White.f (c.val : Int) = some (has 8 (c.val : Int)) := by decide +kernel
theorem tokR (c : Int) (h0 : 0 ≤ c) (h1 : c ≤ 255) : Ev (fun k => usherref6_TokenByte.f k c) (has 1 c) := by
  have := tokR_at ⟨c.toNat, by omega⟩
  simp only [Int.toNat_of_nonneg h0] at this
  exact Ev.of (usherref6_TokenByte.mono c) this
theorem valR (c : Int) (h0 : 0 ≤ c) (h1 : c ≤ 255) : usherref6_ValueByte.f c = some (has 4 c) := by
  have := valR_at ⟨c.toNat, by omega⟩
  simpa only [Int.toNat_of_nonneg h0] using this
theorem whiteR (c : Int) (h0 : 0 ≤ c) (h1 : c ≤ 255) : usherref6_White.f c = some (has 8 c) := by
  have := whiteR_at ⟨c.toNat, by omega⟩
  simpa only [Int.toNat_of_nonneg h0] using this
theorem usherref6_Token.ev (s : ByteArray) (hs : s.size ≤ 140737488351232) : Ev (fun k => usherref6_Token.f k s) (!(bytesOf s).isEmpty && (bytesOf s).all (has 1)) := by
  have hl := bytesOf_length s
  have hne : (s.toList != ([] : List UInt8)) = !(bytesOf s).isEmpty := by
    rw [Bool.eq_iff_iff]; simp [toList_nil]
  have H := Ev.loop (F := fun k (i : Int) => usherref6_Token.l0 k s i) (r := fun i => !(bytesOf s).isEmpty && ((bytesOf s).drop i.toNat).all (has 1)) (fun i => 0 ≤ i ∧ i ≤ s.size) (fun i => s.size - i.toNat) (by
    rintro i ⟨h0, h1⟩ ih
    by_cases hi : i < (s.size : Int)
    · have hn0 : (bytesOf s).isEmpty = false := by
        rw [List.isEmpty_eq_false_iff_exists_mem]
        exact ⟨_, List.getElem_mem (n := 0) (by omega)⟩
      have hn : i.toNat + 1 = (i + 1).toNat := by omega
      simp only [usherref6_Token.l0, if_pos hi, if_pos h0]
      refine (tokR _ (bt_range s i).1 (bt_range s i).2).bind ?_
      rw [wrap64_of (by omega), drop_cons (bytesOf s) i.toNat 0 (by omega), List.all_cons, ← bt_eq]
      cases hb : has 1 (bt s i)
      · simpa using Ev.now false
      · simp only [if_true, Bool.true_and]
        rw [hn]
        exact ih (i + 1) ⟨by omega, by omega⟩ (by omega)
    · simp only [usherref6_Token.l0, if_neg hi]
      rw [List.drop_eq_nil_of_le (by omega), hne]
      exact Ev.eq (Ev.now _) (by simp)) 0 ⟨by omega, by omega⟩
  simpa [usherref6_Token.f] using H
/-- May these bytes be a field's value? -/
def valueL (l : List Int) : Bool := l.all (has 4) && !has 8 (l.headD 0) && !has 8 (l.getLastD 0)
theorem bt_zero (s : ByteArray) : bt s 0 = (bytesOf s).headD 0 := by rw [bt_eq]; cases bytesOf s <;> rfl
theorem bt_last (s : ByteArray) (hs : s.size ≤ 140737488351232) (h : 0 < s.size) : bt s (wrap64 ((s.size : Int) - 1)) = (bytesOf s).getLastD 0 := by
  have hl := bytesOf_length s
  rw [wrap64_of (by omega), bt_eq, List.getLastD_eq_getLast?, List.getLast?_eq_getElem?, List.getD_eq_getElem?_getD, hl]
  congr 2; omega
theorem size_pos {s : ByteArray} (h : ¬ s.toList = []) : 0 < s.size := by
  have hl := bytesOf_length s
  rcases Nat.eq_zero_or_pos s.size with h0 | h0
  · exact absurd (toList_nil.2 (List.eq_nil_of_length_eq_zero (by omega))) h
  · exact h0
theorem field_Value.ev (s : ByteArray) (hs : s.size ≤ 140737488351232) : Ev (fun k => field_Value.f k s) (if bytesOf s = [] then true else valueL (bytesOf s)) := by
  simp only [field_Value.f]
  by_cases hn : s.toList = []
  · rw [if_pos (toList_nil.1 hn)]
    exact Ev.if_pos hn (Ev.now _)
  · have hp := size_pos hn
    rw [if_neg (fun h => hn (toList_nil.2 h))]
    refine Ev.if_neg hn ((field_all.ev s 4 hs).bind ?_)
    simp only [is_bt, Option.bind_some]
    simp only [bt_zero, bt_last s hs hp]
    rw [if_pos (show (0 : Int) < (s.size : Int) by omega), if_pos (show 0 ≤ wrap64 ((s.size : Int) - 1) by rw [wrap64_of (by omega)]; omega), if_pos (show wrap64 ((s.size : Int) - 1) < (s.size : Int) by rw [wrap64_of (by omega)]; omega)]
    unfold valueL
    cases (bytesOf s).all (has 4) <;> cases has 8 ((bytesOf s).headD 0) <;> simp only [if_true, Bool.false_eq_true, if_false, Bool.not_true, Bool.not_false, Bool.and_true, Bool.and_false, Bool.true_and, Bool.false_and] <;> exact Ev.now _
theorem usherref6_Value.ev (s : ByteArray) (hs : s.size ≤ 140737488351232) : Ev (fun k => usherref6_Value.f k s) (if bytesOf s = [] then true else valueL (bytesOf s)) := by
  have hl := bytesOf_length s
  have H := Ev.loop (F := fun k (i : Int) => usherref6_Value.l0 k s i) (r := fun i => ((bytesOf s).drop i.toNat).all (has 4) && (if bytesOf s = [] then true else !has 8 ((bytesOf s).headD 0) && !has 8 ((bytesOf s).getLastD 0))) (fun i => 0 ≤ i ∧ i ≤ s.size) (fun i => s.size - i.toNat) (by
    rintro i ⟨h0, h1⟩ ih
    by_cases hi : i < (s.size : Int)
    · have hn : i.toNat + 1 = (i + 1).toNat := by omega
      simp only [usherref6_Value.l0, if_pos hi, if_pos h0, valR _ (bt_range s i).1 (bt_range s i).2, Option.bind_some]
      rw [wrap64_of (by omega), drop_cons (bytesOf s) i.toNat 0 (by omega), List.all_cons, ← bt_eq]
      cases hb : has 4 (bt s i)
      · simpa using Ev.now false
      · simp only [if_true, Bool.true_and]
        rw [hn]
        exact ih (i + 1) ⟨by omega, by omega⟩ (by omega)
    · simp only [usherref6_Value.l0, if_neg hi]
      rw [List.drop_eq_nil_of_le (by omega)]
      by_cases hn : s.toList = []
      · rw [if_pos (toList_nil.1 hn)]
        exact Ev.if_pos hn (Ev.now _)
      · have hp := size_pos hn
        rw [if_neg (fun h => hn (toList_nil.2 h))]
        refine Ev.if_neg hn ?_
        simp only [whiteR _ (bt_range s _).1 (bt_range s _).2, Option.bind_some]
        simp only [bt_zero, bt_last s hs hp]
        rw [if_pos (show (0 : Int) < (s.size : Int) by omega), if_pos (show 0 ≤ wrap64 ((s.size : Int) - 1) by rw [wrap64_of (by omega)]; omega), if_pos (show wrap64 ((s.size : Int) - 1) < (s.size : Int) by rw [wrap64_of (by omega)]; omega)]
        cases has 8 ((bytesOf s).headD 0) <;> simp only [if_true, Bool.false_eq_true, if_false, Bool.not_true, Bool.not_false, Bool.and_true, Bool.and_false, Bool.true_and, Bool.false_and, List.all_nil] <;> exact Ev.now _) 0 ⟨by omega, by omega⟩
  have e : (if bytesOf s = [] then true else valueL (bytesOf s)) = (((bytesOf s).drop (0 : Int).toNat).all (has 4) && (if bytesOf s = [] then true else !has 8 ((bytesOf s).headD 0) && !has 8 ((bytesOf s).getLastD 0))) := by
    by_cases hn : bytesOf s = []
    · simp [hn]
    · simp [hn, valueL, Bool.and_assoc]
  rw [e]
  simpa only [usherref6_Value.f] using H
/-! ### Trim -/
def isW (c : Int) : Bool := has 8 c
def trimL (l : List Int) : List Int := l.dropWhile isW
def trimR (l : List Int) : List Int := (l.reverse.dropWhile isW).reverse
def trimB (l : List Int) : List Int := trimR (trimL l)
theorem trimR_nil : trimR [] = [] := rfl
theorem trimR_yes {l : List Int} (h : l ≠ []) (hw : isW (l.getLastD 0) = true) : trimR l = trimR l.dropLast := by
  obtain ⟨m, a, rfl⟩ : ∃ m a, l = m ++ [a] := ⟨l.dropLast, l.getLast h, (List.dropLast_concat_getLast h).symm⟩
  simp at hw
  simp [trimR, hw]
theorem trimR_no {l : List Int} (h : l ≠ []) (hw : isW (l.getLastD 0) = false) : trimR l = l := by
  obtain ⟨m, a, rfl⟩ : ∃ m a, l = m ++ [a] := ⟨l.dropLast, l.getLast h, (List.dropLast_concat_getLast h).symm⟩
  simp at hw
  simp [trimR, hw]
theorem trimR_mem {l : List Int} {x : Int} (h : x ∈ trimR l) : x ∈ l := by
  unfold trimR at h
  have := (List.dropWhile_sublist isW).subset (List.mem_reverse.1 h)
  exact List.mem_reverse.1 this
theorem trimL_mem {l : List Int} {x : Int} (h : x ∈ trimL l) : x ∈ l := (List.dropWhile_sublist isW).subset h
theorem bytes_trimR (s : ByteArray) : bytesOf (strOfNums (trimR (bytesOf s))) = trimR (bytesOf s) := bytesOf_strOfNums fun x hx => bytesOf_range (trimR_mem hx)
theorem bytes_trimB (s : ByteArray) : bytesOf (strOfNums (trimB (bytesOf s))) = trimB (bytesOf s) := bytesOf_strOfNums fun x hx => bytesOf_range (trimL_mem (trimR_mem hx))
theorem extract_last (s : ByteArray) (hs : s.size ≤ 140737488351232) (h : 0 < s.size) : bytesOf (s.extract 0 (wrap64 ((s.size : Int) - 1)).toNat) = (bytesOf s).dropLast := by
  have hl := bytesOf_length s
  rw [wrap64_of (by omega), bytesOf_extract, List.drop_zero, List.dropLast_eq_take, hl]
  congr 1; omega
theorem extract_size (s : ByteArray) (a b : Nat) : (s.extract a b).size ≤ s.size := by
  have h1 := bytesOf_length (s.extract a b)
  have h2 := bytesOf_length s
  rw [bytesOf_extract] at h1
  simp only [List.length_drop, List.length_take] at h1
  omega
theorem field_Trim.ev1 (s : ByteArray) (hs : s.size ≤ 140737488351232) : Ev (fun k => field_Trim.l1 k s) (strOfNums (trimR (bytesOf s))) := by
  refine Ev.loop (F := field_Trim.l1) (r := fun s => strOfNums (trimR (bytesOf s))) (fun s => s.size ≤ 140737488351232) (fun s => s.size) ?_ s hs
  intro s hs ih
  simp only [field_Trim.l1]
  by_cases hn : s.toList = []
  · refine Ev.eq (Ev.if_pos hn (Ev.now _)) (ext_bytes ?_)
    rw [bytes_trimR, toList_nil.1 hn]; rfl
  · have hp := size_pos hn
    have hb : bytesOf s ≠ [] := fun h => hn (toList_nil.2 h)
    refine Ev.if_neg hn ?_
    refine Ev.if_pos (by rw [wrap64_of (by omega)]; omega) (Ev.if_pos (by rw [wrap64_of (by omega)]; omega) ?_)
    simp only [is_bt, Option.bind_some]
    simp only [bt_last s hs hp]
    by_cases hw : has 8 ((bytesOf s).getLastD 0) = true
    · rw [trimR_yes hb hw]
      refine Ev.if_pos hw ?_
      refine Ev.if_pos (by rw [wrap64_of (by omega)]; omega) ?_
      rw [← extract_last s hs hp]
      have hsz : (s.extract 0 (wrap64 ((s.size : Int) - 1)).toNat).size < s.size := by
        rw [← bytesOf_length, extract_last s hs hp, List.length_dropLast, bytesOf_length]; omega
      exact ih _ (by omega) hsz
    · refine Ev.eq (Ev.if_neg hw (Ev.now _)) (ext_bytes ?_)
      rw [bytes_trimR, trimR_no hb (by simpa [isW] using hw)]
theorem field_Trim.evj (s : ByteArray) (hs : s.size ≤ 140737488351232) : Ev (fun k => field_Trim.j1 k s) (strOfNums (trimR (bytesOf s))) :=
  Ev.step (f := fun k => field_Trim.l1 k s) (fun k => by rw [field_Trim.j1]) (field_Trim.ev1 s hs)
theorem field_Trim.ev (s : ByteArray) (hs : s.size ≤ 140737488351232) : Ev (fun k => field_Trim.f k s) (strOfNums (trimB (bytesOf s))) := by
  refine Ev.loop (F := field_Trim.l0) (r := fun s => strOfNums (trimB (bytesOf s))) (fun s => s.size ≤ 140737488351232) (fun s => s.size) ?_ s hs
  intro s hs ih
  simp only [field_Trim.l0]
  by_cases hn : s.toList = []
  · refine Ev.if_pos hn ?_
    have := field_Trim.evj s hs
    rwa [show trimB (bytesOf s) = trimR (bytesOf s) by rw [toList_nil.1 hn]; rfl]
  · have hp := size_pos hn
    have hb : bytesOf s ≠ [] := fun h => hn (toList_nil.2 h)
    refine Ev.if_neg hn ?_
    refine Ev.if_pos (by omega) ?_
    simp only [is_bt, Option.bind_some]
    obtain ⟨c, m, hc⟩ : ∃ c m, bytesOf s = c :: m := by
      cases h : bytesOf s with
      | nil => exact absurd h hb
      | cons c m => exact ⟨c, m, rfl⟩
    have h0 : bt s 0 = c := by rw [bt_zero, hc]; rfl
    simp only [h0]
    by_cases hw : has 8 c = true
    · have e : bytesOf (s.extract 1 s.size) = m := by rw [bytesOf_extract_to_end, hc]; rfl
      have he : trimB (bytesOf s) = trimB (bytesOf (s.extract 1 s.size)) := by
        rw [e, hc]; simp [trimB, trimL, isW, hw]
      rw [he]
      refine Ev.if_pos hw ?_
      refine Ev.if_pos (by omega) ?_
      have hsz : (s.extract 1 s.size).size < s.size := by
        rw [← bytesOf_length, e, ← bytesOf_length s, hc]; simp
      exact ih _ (by omega) hsz
    · refine Ev.if_neg hw ?_
      rw [show trimB (bytesOf s) = trimR (bytesOf s) by rw [hc]; simp [trimB, trimL, isW, hw]]
      exact field_Trim.evj s hs
theorem white_iff (c : Int) (h0 : 0 ≤ c) (h1 : c ≤ 255) : isW c = (decide (c = 32) || decide (c = 9)) := by
  have h := whiteR c h0 h1
  unfold usherref6_White.f at h
  unfold isW
  by_cases e : c = 32
  · rw [if_pos e] at h; injection h with h; rw [← h]; simp [e]
  · rw [if_neg e] at h; injection h with h; rw [← h, Bool.eq_iff_iff]; simp [e]
/-- The bytes of s from lo to hi. -/
def cutI (s : ByteArray) (lo hi : Int) : List Int := ((bytesOf s).take hi.toNat).drop lo.toNat
theorem usherref6_Trim.ev1 (s : ByteArray) (hs : s.size ≤ 140737488351232) (lo : Int) (hlo : 0 ≤ lo) : ∀ hi : Int, lo ≤ hi ∧ hi ≤ s.size → Ev (fun k => usherref6_Trim.l1 k s lo hi) (strOfNums (trimR (cutI s lo hi))) := by
  have hl := bytesOf_length s
  refine Ev.loop (F := fun k hi => usherref6_Trim.l1 k s lo hi) (r := fun hi => strOfNums (trimR (cutI s lo hi))) (fun hi => lo ≤ hi ∧ hi ≤ s.size) (fun hi => hi.toNat) ?_
  rintro hi ⟨h1, h2⟩ ih
  have hend : lo ≤ hi → trimR (cutI s lo hi) = cutI s lo hi → (some (s.extract lo.toNat hi.toNat)) = some (strOfNums (trimR (cutI s lo hi))) := fun _ e => by
    rw [e]; congr 1; apply ext_bytes
    rw [bytesOf_extract, bytesOf_strOfNums]; · rfl
    intro x hx
    exact bytesOf_range (List.mem_of_mem_take (List.mem_of_mem_drop hx))
  simp only [usherref6_Trim.l1]
  by_cases hgt : hi > lo
  · refine Ev.if_pos hgt ?_
    have hw1 : wrap64 (hi - 1) = hi - 1 := wrap64_of (by omega)
    simp only [hw1]
    refine Ev.if_pos (by omega) (Ev.if_pos (by omega) ?_)
    have hcut : cutI s lo hi = cutI s lo (hi - 1) ++ [bt s (hi - 1)] := by
      unfold cutI
      obtain ⟨n, hn⟩ : ∃ n : Nat, hi.toNat = n + 1 := ⟨hi.toNat - 1, by omega⟩
      have hn2 : (hi - 1).toNat = n := by omega
      rw [bt_eq, hn2, hn, take_snoc (bytesOf s) n 0 (by omega), List.drop_append_of_le_length (by simp; omega)]
    have hne : cutI s lo hi ≠ [] := by rw [hcut]; simp
    have hlast : (cutI s lo hi).getLastD 0 = bt s (hi - 1) := by rw [hcut]; simp
    have hdl : (cutI s lo hi).dropLast = cutI s lo (hi - 1) := by rw [hcut]; simp
    have hrec := ih (hi - 1) ⟨by omega, by omega⟩ (by omega)
    have hwi := white_iff (bt s (hi - 1)) (bt_range s _).1 (bt_range s _).2
    by_cases e1 : bt s (hi - 1) = 32
    · rw [trimR_yes hne (by rw [hlast, hwi]; simp [e1]), hdl]
      exact Ev.if_pos e1 hrec
    · refine Ev.if_neg e1 ?_
      by_cases e2 : bt s (hi - 1) = 9
      · rw [trimR_yes hne (by rw [hlast, hwi]; simp [e2]), hdl]
        exact Ev.if_pos e2 hrec
      · refine Ev.if_neg e2 ?_
        rw [if_pos hlo, if_pos h1, if_pos h2, hend h1 (trimR_no hne (by rw [hlast, hwi]; simp [e1, e2]))]
        exact Ev.now _
  · refine Ev.if_neg hgt ?_
    have he : cutI s lo hi = [] := by
      unfold cutI; apply List.drop_eq_nil_of_le; simp; omega
    rw [if_pos hlo, if_pos h1, if_pos h2, hend h1 (by rw [he]; rfl)]
    exact Ev.now _
theorem usherref6_Trim.ev (s : ByteArray) (hs : s.size ≤ 140737488351232) : Ev (fun k => usherref6_Trim.f k s) (strOfNums (trimB (bytesOf s))) := by
  have hl := bytesOf_length s
  have H := Ev.loop (F := fun k i => usherref6_Trim.l0 k s i) (r := fun i => strOfNums (trimB ((bytesOf s).drop i.toNat))) (fun i => 0 ≤ i ∧ i ≤ s.size) (fun i => s.size - i.toNat) (by
    rintro i ⟨h0, h1⟩ ih
    have hj : Ev (fun k => usherref6_Trim.j1 k s i) (strOfNums (trimR ((bytesOf s).drop i.toNat))) := by
      refine Ev.step (f := fun k => usherref6_Trim.l1 k s i (s.size : Int)) (fun k => by rw [usherref6_Trim.j1]) ?_
      have := usherref6_Trim.ev1 s hs i h0 s.size ⟨h1, by omega⟩
      rwa [show cutI s i (s.size : Int) = (bytesOf s).drop i.toNat by unfold cutI; rw [List.take_of_length_le (by omega)]] at this
    simp only [usherref6_Trim.l0]
    by_cases hi : i < (s.size : Int)
    · have hn : i.toNat + 1 = (i + 1).toNat := by omega
      have hwi := white_iff (bt s i) (bt_range s _).1 (bt_range s _).2
      have hd := drop_cons (bytesOf s) i.toNat 0 (by omega)
      rw [← bt_eq, hn] at hd
      have hrec := ih (i + 1) ⟨by omega, by omega⟩ (by omega)
      rw [wrap64_of (by omega)]
      refine Ev.if_pos hi (Ev.if_pos h0 ?_)
      by_cases e1 : bt s i = 32
      · have hw : isW (bt s i) = true := by rw [hwi]; simp [e1]
        rw [show trimB ((bytesOf s).drop i.toNat) = trimB ((bytesOf s).drop (i + 1).toNat) by rw [hd]; simp only [trimB, trimL, List.dropWhile_cons, hw, if_true]]
        exact Ev.if_pos e1 hrec
      · refine Ev.if_neg e1 ?_
        by_cases e2 : bt s i = 9
        · have hw : isW (bt s i) = true := by rw [hwi]; simp [e2]
          rw [show trimB ((bytesOf s).drop i.toNat) = trimB ((bytesOf s).drop (i + 1).toNat) by rw [hd]; simp only [trimB, trimL, List.dropWhile_cons, hw, if_true]]
          exact Ev.if_pos e2 hrec
        · refine Ev.if_neg e2 ?_
          rwa [show trimB ((bytesOf s).drop i.toNat) = trimR ((bytesOf s).drop i.toNat) by rw [hd]; simp [trimB, trimL, hwi, e1, e2]]
    · refine Ev.if_neg hi ?_
      rwa [show trimB ((bytesOf s).drop i.toNat) = trimR ((bytesOf s).drop i.toNat) by rw [List.drop_eq_nil_of_le (by omega)]; rfl]) 0 ⟨by omega, by omega⟩
  simpa [usherref6_Trim.f] using H
theorem FieldGrammars_pure (s : ByteArray) (hs : s.size ≤ 140737488351232) : ∃ k, usherlaw6_FieldGrammars.f k s = some true := by
  refine Ev.rounds (g := fun k => usherlaw6_FieldGrammars.f k s) ?_
  simp only [usherlaw6_FieldGrammars.f]
  refine (field_Token.ev s hs).bind ((usherref6_Token.ev s hs).bind ?_)
  rw [beq_self_eq_true]
  refine Ev.if_pos rfl ?_
  refine (field_Value.ev s hs).bind ((usherref6_Value.ev s hs).bind ?_)
  rw [beq_self_eq_true]
  refine Ev.if_pos rfl ?_
  refine (field_Trim.ev s hs).bind ((usherref6_Trim.ev s hs).bind ?_)
  rw [beq_self_eq_true]
  exact Ev.now _
end Go.Proofs.YtbkhgmmlacdhoaaDoor.Q
