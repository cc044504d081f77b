/- FieldMedias answers true. Conditions: the text has at most 140737488351232 bytes. -/
import Derived.Test.YtbkhgmmlacdhoaaDoorQ4
import Derived.Test.YtbkhgmmlacdhoaaDoorMediaF
import Derived.Test.YtbkhgmmlacdhoaaDoorNum
set_option linter.unusedVariables false
set_option linter.unusedSimpArgs false
namespace Go.Proofs.YtbkhgmmlacdhoaaDoor.Q
open Go.RowKit Go.Proofs.YtbkhgmmlacdhoaaDoorW.PrintWords Go.Proofs.YtbkhgmmlacdhoaaDoorW.PrintLast Go.Proofs.YtbkhgmmlacdhoaaDoorW.PrintMore
theorem tokB_at : ∀ c : Fin 256, usherref6_TokenByte.f 40 (c.val : Int) = some (isB 1 (c.val : Int)) := by decide +kernel
theorem valB_at : ∀ c : Fin 256, usherref6_ValueByte.f (c.val : Int) = some (isB 4 (c.val : Int)) := by decide +kernel
theorem whiteB_at : ∀ c : Fin 256, isB 8 (c.val : Int) = (decide ((c.val : Int) = 32) || decide ((c.val : Int) = 9)) := by decide +kernel
theorem tokB (c : Int) (h0 : 0 ≤ c) (h1 : c ≤ 255) : Ev (fun k => usherref6_TokenByte.f k c) (isB 1 c) := by
  have := tokB_at ⟨c.toNat, by omega⟩
  simp only [Int.toNat_of_nonneg h0] at this
  exact Ev.of (usherref6_TokenByte.mono c) this
theorem valB (c : Int) (h0 : 0 ≤ c) (h1 : c ≤ 255) : usherref6_ValueByte.f c = some (isB 4 c) := by
  have := valB_at ⟨c.toNat, by omega⟩
  simpa only [Int.toNat_of_nonneg h0] using this
theorem whiteB (c : Int) (h0 : 0 ≤ c) (h1 : c ≤ 255) : isB 8 c = (decide (c = 32) || decide (c = 9)) := by
  have := whiteB_at ⟨c.toNat, by omega⟩
  simpa only [Int.toNat_of_nonneg h0] using this
theorem wrapN (n : Nat) (h : n < 9223372036854775807) : wrap64 ((n : Int) + 1) = ((n + 1 : Nat) : Int) := by rw [wrap64_of (by omega)]; omega
theorem isB_59 : isB 1 59 = false := by decide +kernel
/-! ### small letters -/
def lowS (s : ByteArray) : ByteArray := strOfNums ((bytesOf s).map lowI)
theorem low_some (s : ByteArray) (hs : s.size ≤ 140737488351232) : field_low.f s = some (lowS s) := by unfold field_low.f lowS; rw [if_pos hs]
theorem small_at : ∀ c : Fin 256, usherref6_small.f (c.val : Int) = some (lowI (c.val : Int)) := by decide +kernel
theorem small_some (s : ByteArray) (i : Int) : usherref6_small.f (bt s i) = some (lowI (bt s i)) := by
  have hb := bt_range s i
  have := small_at ⟨(bt s i).toNat, by omega⟩
  simpa only [Int.toNat_of_nonneg hb.1] using this
theorem Lower.ev (s : ByteArray) (hs : s.size ≤ 140737488351232) : Ev (fun k => usherref6_Lower.f k s) (lowS s) := by
  have hl := bytesOf_length s
  have H := Ev.loop (F := fun k (i : Nat) => usherref6_Lower.l0 k s (((bytesOf s).take i).map lowI) (i : Int)) (r := fun _ => lowS s) (fun i => i ≤ s.size) (fun i => s.size - i) (by
    intro i hi ih
    by_cases h : i < s.size
    · simp only [usherref6_Lower.l0]
      refine Ev.if_pos (by omega) (Ev.if_pos (by omega) ?_)
      simp only [small_some, Option.bind_some]
      refine Ev.if_pos (by simp; omega) ?_
      rw [wrap64_of (by omega), bt_nat]
      have hn : (i : Int) + 1 = ((i + 1 : Nat) : Int) := by omega
      have hm : ((bytesOf s).take i).map lowI ++ [lowI ((bytesOf s).getD i 0)] = ((bytesOf s).take (i + 1)).map lowI := by
        rw [take_snoc (bytesOf s) i 0 (by omega), List.map_append]; rfl
      rw [hn, hm]
      exact ih (i + 1) (by omega) (by omega)
    · simp only [usherref6_Lower.l0]
      refine Ev.if_neg (by omega) ?_
      rw [List.take_of_length_le (by omega)]
      exact Ev.now _) 0 (by omega)
  simpa [usherref6_Lower.f] using H
theorem bytes_lowS (s : ByteArray) : bytesOf (lowS s) = (bytesOf s).map lowI := by
  unfold lowS
  refine bytesOf_strOfNums ?_
  intro x hx
  obtain ⟨c, hc, rfl⟩ := List.mem_map.1 hx
  have := bytesOf_range hc
  unfold lowI
  split
  · split <;> omega
  · omega
theorem low_join (s : ByteArray) (p q : Nat) (h1 : p < q) (h2 : q ≤ s.size) (h : bt s (p : Int) = 47) : (lowS (s.extract 0 p) ++ (⟨#[47]⟩ : ByteArray)) ++ lowS (s.extract (p + 1) q) = lowS (s.extract 0 q) := by
  have hl := bytesOf_length s
  refine ext_bytes ?_
  rw [bytesOf_append, bytesOf_append, bytes_lowS, bytes_lowS, bytes_lowS, bytesOf_extract, bytesOf_extract, bytesOf_extract]
  have e : bytesOf (⟨#[47]⟩ : ByteArray) = [lowI 47] := by decide
  rw [e, List.drop_zero, List.drop_zero]
  have e2 : (bytesOf s).take q = (bytesOf s).take p ++ [47] ++ ((bytesOf s).take q).drop (p + 1) := by
    have h3 := (List.take_append_drop (p + 1) ((bytesOf s).take q)).symm
    rw [List.take_take, Nat.min_eq_left (by omega), take_snoc (bytesOf s) p 0 (by omega), ← bt_nat, h] at h3
    exact h3
  conv => rhs; rw [e2]
  simp
/-! ### parts -/
theorem runTo_idem (s : ByteArray) (k : Int) (i : Nat) : runTo s k (runTo s k i) = runTo s k i := by
  refine runTo_no s k _ ?_
  rintro ⟨h1, h2⟩
  have hl := bytesOf_length s
  have hge := runTo_ge s k i
  unfold runTo at h1 h2
  have hd : ∀ l : List Int, ∀ j : Nat, (l.takeWhile (isB k)).length = j → j < l.length → isB k (l.getD j 0) = false := by
    intro l
    induction l with
    | nil => intro j _ hj; simp at hj
    | cons a l ih =>
      intro j hj hlt
      by_cases ha : isB k a = true
      · rw [List.takeWhile_cons, if_pos ha] at hj
        cases j with
        | zero => simp at hj
        | succ j =>
          simp only [List.length_cons, Nat.add_right_cancel_iff] at hj hlt
          have := ih j hj (by omega)
          simpa using this
      · rw [List.takeWhile_cons, if_neg ha] at hj
        simp at hj
        subst hj
        simpa using ha
  have := hd ((bytesOf s).drop i) _ rfl (by rw [List.length_drop]; omega)
  rw [bt_nat] at h2
  rw [List.getD_eq_getElem?_getD, List.getElem?_drop, ← List.getD_eq_getElem?_getD] at this
  rw [this] at h2
  cases h2
theorem token.ev (s : ByteArray) (hs : s.size ≤ 140737488351232) (i : Nat) (hi : i ≤ s.size) : Ev (fun k => usherref6_token.f k s (i : Int)) ((runTo s 1 i : Nat) : Int) := by
  have H := Ev.loop (F := fun k (i : Nat) => usherref6_token.l0 k s (i : Int)) (r := fun i => ((runTo s 1 i : Nat) : Int)) (fun i => i ≤ s.size) (fun i => s.size - i) (by
    intro i hi ih
    simp only [usherref6_token.l0]
    by_cases h : i < s.size
    · refine Ev.if_pos (by omega) (Ev.if_pos (by omega) ((tokB _ (bt_range s _).1 (bt_range s _).2).bind ?_))
      rw [wrap64_of (by omega), show (i : Int) + 1 = ((i + 1 : Nat) : Int) by omega]
      by_cases hb : isB 1 (bt s (i : Int)) = true
      · rw [runTo_yes s 1 i h hb]
        exact Ev.if_pos hb (ih (i + 1) (by omega) (by omega))
      · rw [runTo_no s 1 i (fun h => hb h.2)]
        exact Ev.if_neg hb (Ev.now _)
    · rw [runTo_no s 1 i (fun h' => h h'.1)]
      exact Ev.if_neg (by omega) (Ev.now _)) i hi
  exact H
theorem white.ev (s : ByteArray) (hs : s.size ≤ 140737488351232) (i : Nat) (hi : i ≤ s.size) : Ev (fun k => usherref6_white.f k s (i : Int)) ((runTo s 8 i : Nat) : Int) := by
  have H := Ev.loop (F := fun k (i : Nat) => usherref6_white.l0 k s (i : Int)) (r := fun i => ((runTo s 8 i : Nat) : Int)) (fun i => i ≤ s.size) (fun i => s.size - i) (by
    intro i hi ih
    simp only [usherref6_white.l0]
    by_cases h : i < s.size
    · refine Ev.if_pos (by omega) (Ev.if_pos (by omega) ?_)
      have hw := whiteB _ (bt_range s (i : Int)).1 (bt_range s (i : Int)).2
      rw [wrap64_of (by omega), show (i : Int) + 1 = ((i + 1 : Nat) : Int) by omega]
      by_cases e1 : bt s (i : Int) = 32
      · rw [runTo_yes s 8 i h (by rw [hw]; simp [e1])]
        exact Ev.if_pos e1 (ih (i + 1) (by omega) (by omega))
      · refine Ev.if_neg e1 ?_
        by_cases e2 : bt s (i : Int) = 9
        · rw [runTo_yes s 8 i h (by rw [hw]; simp [e2])]
          exact Ev.if_pos e2 (ih (i + 1) (by omega) (by omega))
        · rw [runTo_no s 8 i (fun h' => by rw [hw] at h'; simp [e1, e2] at h')]
          exact Ev.if_neg e2 (Ev.now _)
    · rw [runTo_no s 8 i (fun h' => h h'.1)]
      exact Ev.if_neg (by omega) (Ev.now _)) i hi
  exact H
/-- Where a quoted text ends, as the document has it. -/
def quotedR (s : ByteArray) (i : Nat) : Int := if (quotedL ((bytesOf s).drop i)).1 = true then ((i + (quotedL ((bytesOf s).drop i)).2 : Nat) : Int) else -1
theorem quoted.evj (s : ByteArray) (hs : s.size ≤ 140737488351232) (j : Nat) (r : Int) (h : j < s.size → isB 4 (bt s (j : Int)) = true → Ev (fun k => usherref6_quoted.l0 k s ((j + 1 : Nat) : Int)) r) :
    Ev (fun k => usherref6_quoted.j1 k s (j : Int)) (if j < s.size ∧ isB 4 (bt s (j : Int)) = true then r else -1) := by
  by_cases hj : j < s.size
  · refine Ev.step (f := fun k => if (j : Int) ≥ (s.size : Int) then (some (-1)) else (if 0 ≤ (j : Int) then (if (j : Int) < (s.size : Int) then ((usherref6_ValueByte.f (bt s (j : Int))).bind fun t111 => (if t111 = true then (usherref6_quoted.l0 k s (wrap64 ((j : Int) + 1))) else (some (-1)))) else (none)) else (none))) (fun k => by rw [usherref6_quoted.j1]) ?_
    refine Ev.if_neg (by omega) (Ev.if_pos (by omega) (Ev.if_pos (by omega) ?_))
    simp only [valB _ (bt_range s (j : Int)).1 (bt_range s (j : Int)).2, Option.bind_some]
    rw [wrap64_of (by omega), show (j : Int) + 1 = ((j + 1 : Nat) : Int) by omega]
    by_cases hb : isB 4 (bt s (j : Int)) = true
    · rw [if_pos ⟨hj, hb⟩]
      exact Ev.if_pos hb (h hj hb)
    · rw [if_neg (fun x => hb x.2)]
      exact Ev.if_neg hb (Ev.now _)
  · rw [if_neg (fun x => hj x.1)]
    refine Ev.step (f := fun _ => some (-1)) (fun k => by rw [usherref6_quoted.j1, if_pos (by omega)]) (Ev.now _)
theorem quoted.ev (s : ByteArray) (hs : s.size ≤ 140737488351232) (i : Nat) (hi : i ≤ s.size) : Ev (fun k => usherref6_quoted.l0 k s (i : Int)) (quotedR s i) := by
  have hl := bytesOf_length s
  refine Ev.loop (F := fun k (i : Nat) => usherref6_quoted.l0 k s (i : Int)) (r := fun i => quotedR s i) (fun i => i ≤ s.size) (fun i => s.size - i) ?_ i hi
  clear hi i
  intro i hi ih
  simp only [usherref6_quoted.l0]
  by_cases h : i < s.size
  · have hd : (bytesOf s).drop i = bt s (i : Int) :: (bytesOf s).drop (i + 1) := by
      rw [bt_nat]; exact drop_cons _ i 0 (by omega)
    refine Ev.if_pos (by omega) (Ev.if_pos (by omega) ?_)
    rw [wrap64_of (by omega), show (i : Int) + 1 = ((i + 1 : Nat) : Int) by omega]
    by_cases e1 : bt s (i : Int) = 34
    · refine Ev.eq (Ev.if_pos e1 (Ev.now _)) ?_
      unfold quotedR
      rw [hd, e1, quotedL_quote, if_pos rfl]
    · refine Ev.if_neg e1 ?_
      by_cases e2 : bt s (i : Int) = 92
      · refine Ev.if_pos e2 ?_
        refine Ev.eq (quoted.evj s hs (i + 1) (quotedR s (i + 2)) (fun h1 _ => ih (i + 2) (by omega) (by omega))) ?_
        unfold quotedR
        rw [hd, e2]
        by_cases h1 : i + 1 < s.size
        · have hd1 : (bytesOf s).drop (i + 1) = bt s ((i + 1 : Nat) : Int) :: (bytesOf s).drop (i + 2) := by
            rw [bt_nat]; exact drop_cons _ (i + 1) 0 (by omega)
          rw [hd1]
          cases hb : isB 4 (bt s ((i + 1 : Nat) : Int))
          · rw [quotedL_slash_no _ _ hb, if_neg (by simp), if_neg (by simp)]
          · rw [quotedL_slash_yes _ _ hb, if_pos ⟨h1, rfl⟩]
            dsimp only
            cases (quotedL ((bytesOf s).drop (i + 2))).1
            · rfl
            · simp only [if_true]; omega
        · rw [if_neg (fun x => h1 x.1), List.drop_eq_nil_of_le (by omega), quotedL_slash_end, if_neg (by simp)]
      · refine Ev.if_neg e2 ?_
        refine Ev.eq (quoted.evj s hs i (quotedR s (i + 1)) (fun h1 _ => ih (i + 1) (by omega) (by omega))) ?_
        unfold quotedR
        rw [hd]
        cases hb : isB 4 (bt s (i : Int))
        · rw [quotedL_no _ _ e1 e2 hb, if_neg (by simp), if_neg (by simp)]
        · rw [quotedL_yes _ _ e1 e2 hb, if_pos ⟨h, rfl⟩]
          dsimp only
          cases (quotedL ((bytesOf s).drop (i + 1))).1
          · rfl
          · simp only [if_true]; omega
  · refine Ev.eq (Ev.if_neg (by omega) (Ev.now _)) ?_
    unfold quotedR
    rw [List.drop_eq_nil_of_le (by omega)]; rfl
theorem quotedL_le : ∀ (n : Nat) (l : List Int), l.length ≤ n → (quotedL l).2 ≤ l.length := by
  intro n
  induction n with
  | zero => intro l h; cases l with
    | nil => exact Nat.le_refl _
    | cons a l => simp at h
  | succ n ih =>
    intro l h
    cases l with
    | nil => exact Nat.le_refl _
    | cons c l =>
      cases l with
      | nil => unfold quotedL; split <;> simp
      | cons d r =>
        simp only [List.length_cons] at h
        have h1 := ih r (by omega)
        have h2 := ih (d :: r) (by simp only [List.length_cons]; omega)
        simp only [List.length_cons] at h2
        unfold quotedL
        simp only [List.length_cons]
        repeat' split
        all_goals dsimp only
        all_goals omega
theorem paramP_le (s : ByteArray) (i : Nat) (hi : i ≤ s.size) : (paramP s i).2 ≤ s.size := by
  have hl := bytesOf_length s
  unfold paramP
  split
  · exact hi
  · split
    · rename_i h
      split
      · rename_i h34
        have := quotedL_le _ ((bytesOf s).drop (runTo s 1 i + 1 + 1)) (Nat.le_refl _)
        rw [List.length_drop] at this
        dsimp only; omega
      · exact runTo_le s 1 _ (by omega)
    · exact hi
/-- Where a parameter ends, as the document has it. -/
theorem parameter.evj1f (s : ByteArray) (hs : s.size ≤ 140737488351232) (q : Nat) (hq : q ≤ s.size) : Ev (fun k => usherref6_parameter.j1 k s (q : Int) false) (if runTo s 1 q = q then -1 else ((runTo s 1 q : Nat) : Int)) := by
  refine Ev.step (f := fun k => (usherref6_token.f k s (q : Int)).bind fun t114 => (if t114 = (q : Int) then (some (-1)) else (some t114))) (fun k => by rw [usherref6_parameter.j1, if_neg (by simp)]) ?_
  refine (token.ev s hs q hq).bind ?_
  obtain ⟨z, hz⟩ : ∃ z, runTo s 1 q = z := ⟨_, rfl⟩
  rw [hz]
  by_cases h : z = q
  · rw [if_pos h]
    exact Ev.if_pos (by omega) (Ev.now _)
  · rw [if_neg h]
    exact Ev.if_neg (by omega) (Ev.now _)
theorem parameter.evj1t (s : ByteArray) (hs : s.size ≤ 140737488351232) (q : Nat) (hq : q + 1 ≤ s.size) : Ev (fun k => usherref6_parameter.j1 k s (q : Int) true) (quotedR s (q + 1)) := by
  refine Ev.step (f := fun k => (usherref6_quoted.f k s (q : Int)).bind fun t113 => (some t113)) (fun k => by rw [usherref6_parameter.j1, if_pos rfl]) ?_
  refine Ev.bind (a := quotedR s (q + 1)) ?_ (Ev.now _)
  simp only [usherref6_quoted.f]
  rw [wrap64_of (by omega), show (q : Int) + 1 = ((q + 1 : Nat) : Int) by omega]
  exact quoted.ev s hs (q + 1) hq
theorem parameter.ev (s : ByteArray) (hs : s.size ≤ 140737488351232) (i : Nat) (hi : i ≤ s.size) : Ev (fun k => usherref6_parameter.f k s (i : Int)) (if (paramP s i).1 = true then (((paramP s i).2 : Nat) : Int) else -1) := by
  have hge := runTo_ge s 1 i
  have hle := runTo_le s 1 i hi
  have hj0 : ∀ t, Ev (fun k => usherref6_parameter.j0 k s t true) (-1) := fun t => Ev.step (f := fun _ => some (-1)) (fun k => by rw [usherref6_parameter.j0, if_pos rfl]) (Ev.now _)
  simp only [usherref6_parameter.f]
  refine (token.ev s hs i hi).bind ?_
  obtain ⟨p, hp⟩ : ∃ p, runTo s 1 i = p := ⟨_, rfl⟩
  rw [hp] at hge hle ⊢
  by_cases h0 : p = i
  · have hP : paramP s i = (false, i) := by unfold paramP; rw [hp, if_pos h0]
    rw [hP]
    exact Ev.if_pos (by omega) (hj0 _)
  · refine Ev.if_neg (by omega) ?_
    by_cases h1 : p < s.size
    · refine Ev.if_neg (by omega) (Ev.if_pos (by omega) (Ev.if_pos (by omega) ?_))
      by_cases h61 : bt s (p : Int) = 61
      · have c61 : p < s.size ∧ bt s (p : Int) = 61 := ⟨h1, h61⟩
        have hw : wrap64 ((p : Int) + 1) = ((p + 1 : Nat) : Int) := by rw [wrap64_of (by omega)]; omega
        rw [show (bt s (p : Int) != 61) = false by simp [h61]]
        refine Ev.step (f := fun k => if (wrap64 ((p : Int) + 1)) < (s.size : Int) then (if 0 ≤ (wrap64 ((p : Int) + 1)) then (usherref6_parameter.j1 k s (wrap64 ((p : Int) + 1)) ((bt s (wrap64 ((p : Int) + 1))) == 34)) else (none)) else (usherref6_parameter.j1 k s (wrap64 ((p : Int) + 1)) false)) (fun k => by rw [usherref6_parameter.j0, if_neg (by simp)]) ?_
        rw [hw]
        by_cases h34 : p + 1 < s.size ∧ bt s ((p + 1 : Nat) : Int) = 34
        · have hP : paramP s i = ((quotedL ((bytesOf s).drop (p + 1 + 1))).1, p + 1 + 1 + (quotedL ((bytesOf s).drop (p + 1 + 1))).2) := by
            unfold paramP; rw [hp, if_neg h0, if_pos c61, if_pos h34]
          rw [hP]
          refine Ev.if_pos (by omega) (Ev.if_pos (by omega) ?_)
          rw [h34.2]
          exact parameter.evj1t s hs (p + 1) (by omega)
        · have hP : paramP s i = (decide (runTo s 1 (p + 1) ≠ p + 1), runTo s 1 (p + 1)) := by
            unfold paramP; rw [hp, if_neg h0, if_pos c61, if_neg h34]
          rw [hP]
          have hF := parameter.evj1f s hs (p + 1) (by omega)
          have e : (if decide (runTo s 1 (p + 1) ≠ p + 1) = true then ((runTo s 1 (p + 1) : Nat) : Int) else -1) = (if runTo s 1 (p + 1) = p + 1 then -1 else ((runTo s 1 (p + 1) : Nat) : Int)) := by
            by_cases hz : runTo s 1 (p + 1) = p + 1
            · rw [if_pos hz, if_neg (by simp [hz])]
            · rw [if_neg hz, if_pos (by simp [hz])]
          dsimp only
          rw [e]
          by_cases h2 : p + 1 < s.size
          · refine Ev.if_pos (by omega) (Ev.if_pos (by omega) ?_)
            rw [show (bt s ((p + 1 : Nat) : Int) == 34) = false by rw [beq_eq_false_iff_ne]; exact fun x => h34 ⟨h2, x⟩]
            exact hF
          · exact Ev.if_neg (by omega) hF
      · have hP : paramP s i = (false, i) := by
          unfold paramP; rw [hp, if_neg h0, if_neg (fun x => h61 x.2)]
        rw [hP, show (bt s (p : Int) != 61) = true by simpa using h61]
        exact hj0 _
    · have hP : paramP s i = (false, i) := by
        unfold paramP; rw [hp, if_neg h0, if_neg (fun x => h1 x.1)]
      rw [hP]
      exact Ev.if_pos (by omega) (hj0 _)
/-! ### Media -/
theorem Media.evj2f (s : ByteArray) (hs : s.size ≤ 140737488351232) (e : Nat) (he : e ≤ s.size) (a n : Int) : Ev (fun k => usherref6_Media.j2 k s (e : Int) a n false) (lowS (s.extract 0 e), 0) := by
  refine Ev.step (f := fun k => if 0 ≤ (e : Int) then (if (e : Int) ≤ (s.size : Int) then ((usherref6_Lower.f k (s.extract 0 ((e : Int)).toNat)).bind fun t121 => (some (t121, 0))) else (none)) else (none)) (fun k => by rw [usherref6_Media.j2, if_neg (by simp)]) ?_
  refine Ev.if_pos (by omega) (Ev.if_pos (by omega) ?_)
  rw [Int.toNat_natCast]
  exact (Lower.ev _ (by rw [ByteArray.size_extract]; omega)).bind (Ev.now _)
theorem paramsF_no (f : Nat) (s : ByteArray) (i p : Nat) (hp : runTo s 8 i = p) (h : i < s.size) (hn : ¬ (p < s.size ∧ bt s (p : Int) = 59)) : paramsF (f + 1) s i = false := by
  show (if s.size ≤ i then true else _) = false
  rw [if_neg (by omega), hp, if_neg hn]
theorem paramsF_end (f : Nat) (s : ByteArray) (i : Nat) (h : ¬ i < s.size) : paramsF (f + 1) s i = true := by
  show (if s.size ≤ i then true else _) = true
  rw [if_pos (by omega)]
theorem paramsF_on (f : Nat) (s : ByteArray) (i p q : Nat) (hp : runTo s 8 i = p) (hq : runTo s 8 (p + 1) = q) (h : i < s.size) (hy : p < s.size ∧ bt s (p : Int) = 59) :
    paramsF (f + 1) s i = (if q < s.size ∧ isB 1 (bt s (q : Int)) = true then (if (paramP s q).1 = true then paramsF f s (paramP s q).2 else false) else paramsF f s q) := by
  show (if s.size ≤ i then true else _) = _
  rw [if_neg (by omega), hp, if_pos hy, hq]
/-- What the document's rounds over the parameters answer. -/
def mediaE (s : ByteArray) (e : Nat) (b : Bool) : ByteArray × Int := if b = true then (lowS (s.extract 0 e), 0) else ((⟨#[]⟩ : ByteArray), 2)
theorem Media.ev0 (s : ByteArray) (hs : s.size ≤ 140737488351232) (e : Nat) (he : e ≤ s.size) : ∀ f i n : Nat, n ≤ i → i ≤ s.size → s.size - i < f →
    Ev (fun k => usherref6_Media.l0 k s (e : Int) (i : Int) (n : Int)) (mediaE s e (paramsF f s i)) := by
  intro f
  induction f with
  | zero => intro i n _ _ h; exact absurd h (Nat.not_lt_zero _)
  | succ f ih =>
  intro i n hn hi hf
  refine Ev.step (f := fun k => if (n : Int) ≤ (s.size : Int) then (usherref6_Media.j2 k s (e : Int) (i : Int) (n : Int) (decide ((i : Int) < (s.size : Int)))) else (usherref6_Media.j2 k s (e : Int) (i : Int) (n : Int) false)) (fun k => by rw [usherref6_Media.l0]) ?_
  refine Ev.if_pos (by omega) ?_
  by_cases h : i < s.size
  · rw [decide_eq_true (show (i : Int) < (s.size : Int) by omega)]
    have hge := runTo_ge s 8 i
    have hle := runTo_le s 8 i hi
    refine Ev.step (f := fun k => (usherref6_white.f k s (i : Int)).bind fun t122 => (if t122 ≥ (s.size : Int) then (usherref6_Media.j3 k s (e : Int) (n : Int) t122 true) else (if 0 ≤ t122 then (if t122 < (s.size : Int) then (usherref6_Media.j3 k s (e : Int) (n : Int) t122 ((bt s t122) != 59)) else (none)) else (none)))) (fun k => by rw [usherref6_Media.j2, if_pos rfl]) ?_
    refine (white.ev s hs i hi).bind ?_
    have hno : ∀ t, Ev (fun k => usherref6_Media.j3 k s (e : Int) (n : Int) t true) (mediaE s e false) := fun t => Ev.step (f := fun _ => some (mediaE s e false)) (fun k => by rw [usherref6_Media.j3, if_pos rfl]; rfl) (Ev.now _)
    obtain ⟨p, hpe⟩ : ∃ p, runTo s 8 i = p := ⟨_, rfl⟩
    rw [hpe] at hge hle ⊢
    by_cases hp : p < s.size
    · refine Ev.if_neg (by omega) (Ev.if_pos (by omega) (Ev.if_pos (by omega) ?_))
      by_cases h59 : bt s (p : Int) = 59
      · have hge2 := runTo_ge s 8 (p + 1)
        have hle2 := runTo_le s 8 (p + 1) (by omega)
        have hid := runTo_idem s 8 (p + 1)
        have hwh := white.ev s hs (p + 1) (by omega)
        obtain ⟨q, hqe⟩ : ∃ q, runTo s 8 (p + 1) = q := ⟨_, rfl⟩
        rw [paramsF_on f s i p q hpe hqe h ⟨hp, h59⟩]
        rw [hqe] at hge2 hle2 hid hwh
        have ne : (bt s (p : Int) != 59) = false := by simp [h59]
        rw [ne]
        refine Ev.step (f := fun k => (usherref6_white.f k s (wrap64 ((p : Int) + 1))).bind fun t123 => (if t123 < (s.size : Int) then (if 0 ≤ t123 then (usherref6_Media.j4 k s (e : Int) t123 (n : Int) ((bt s t123) != 59)) else (none)) else (usherref6_Media.j4 k s (e : Int) t123 (n : Int) false))) (fun k => by rw [usherref6_Media.j3, if_neg (by simp)]) ?_
        have hbn : n < 9223372036854775807 := by omega
        rw [wrapN p (by omega)]
        refine hwh.bind ?_
        have hj4 : Ev (fun k => usherref6_Media.j4 k s (e : Int) (q : Int) (n : Int) false) (mediaE s e (paramsF f s q)) := by
          refine Ev.step (f := fun k => usherref6_Media.l0 k s (e : Int) (q : Int) (wrap64 ((n : Int) + 1))) (fun k => by rw [usherref6_Media.j4, if_neg (by simp)]) ?_
          rw [wrapN n hbn]
          exact ih q (n + 1) (by omega) hle2 (by omega)
        by_cases hq : q < s.size
        · refine Ev.if_pos (by omega) (Ev.if_pos (by omega) ?_)
          by_cases hq59 : bt s (q : Int) = 59
          · have cn : ¬ (q < s.size ∧ isB 1 (bt s (q : Int)) = true) := by rw [hq59, isB_59]; simp
            have ne2 : (bt s (q : Int) != 59) = false := by simp [hq59]
            rw [if_neg cn, ne2]
            exact hj4
          · have ne2 : (bt s (q : Int) != 59) = true := by simpa using hq59
            rw [ne2]
            refine Ev.step (f := fun k => (usherref6_parameter.f k s (q : Int)).bind fun t124 => (if t124 < 0 then (some ((⟨#[]⟩ : ByteArray), 2)) else (usherref6_Media.l0 k s (e : Int) t124 (wrap64 ((n : Int) + 1))))) (fun k => by rw [usherref6_Media.j4, if_pos rfl]) ?_
            have hpe := parameter.ev s hs q (by omega)
            rw [wrapN n hbn]
            have hpl := paramP_le s q (by omega)
            have hpg := paramP_ge s q (by omega)
            by_cases hb : isB 1 (bt s (q : Int)) = true
            · have cy : q < s.size ∧ isB 1 (bt s (q : Int)) = true := ⟨hq, hb⟩
              rw [if_pos cy]
              by_cases hP : (paramP s q).1 = true
              · rw [if_pos hP] at hpe
                rw [if_pos hP]
                refine hpe.bind ?_
                refine Ev.if_neg (by omega) ?_
                exact ih (paramP s q).2 (n + 1) (by omega) hpl (by omega)
              · rw [if_neg hP] at hpe
                rw [if_neg hP]
                exact hpe.bind (Ev.if_pos (by decide) (Ev.now _))
            · have cn : ¬ (q < s.size ∧ isB 1 (bt s (q : Int)) = true) := fun x => hb x.2
              rw [if_neg cn]
              have hr : runTo s 1 q = q := runTo_no s 1 q (fun x => hb x.2)
              have hP : (paramP s q).1 = false := by unfold paramP; rw [if_pos hr]
              rw [hP, if_neg (by simp)] at hpe
              obtain ⟨f, rfl⟩ : ∃ m, f = m + 1 := ⟨f - 1, by omega⟩
              rw [paramsF_no f s q q hid hq (fun x => hq59 x.2)]
              exact hpe.bind (Ev.if_pos (by decide) (Ev.now _))
        · refine Ev.if_neg (by omega) ?_
          have cn : ¬ (q < s.size ∧ isB 1 (bt s (q : Int)) = true) := fun x => hq x.1
          rw [if_neg cn]
          exact hj4
      · have ne : (bt s (p : Int) != 59) = true := by simpa using h59
        rw [paramsF_no f s i p hpe h (fun x => h59 x.2), ne]
        exact hno _
    · rw [paramsF_no f s i p hpe h (fun x => hp x.1)]
      exact Ev.if_pos (by omega) (hno _)
  · rw [paramsF_end f s i h, decide_eq_false (show ¬ (i : Int) < (s.size : Int) by omega)]
    exact Media.evj2f s hs e he _ _
theorem Media.ev (s : ByteArray) (hs : s.size ≤ 140737488351232) : Ev (fun k => usherref6_Media.f k s) (match mediaK s with | none => ((⟨#[]⟩ : ByteArray), 2) | some (_, q) => (lowS (s.extract 0 q), 0)) := by
  have hle := runTo_le s 1 0 (Nat.zero_le _)
  have hj0 : ∀ t, Ev (fun k => usherref6_Media.j0 k s t true) ((⟨#[]⟩ : ByteArray), 2) := fun t => Ev.step (f := fun _ => some ((⟨#[]⟩ : ByteArray), 2)) (fun k => by rw [usherref6_Media.j0, if_pos rfl]) (Ev.now _)
  simp only [usherref6_Media.f]
  refine (token.ev s hs 0 (Nat.zero_le _)).bind ?_
  obtain ⟨p, hpe⟩ : ∃ p, runTo s 1 0 = p := ⟨_, rfl⟩
  rw [hpe] at hle ⊢
  by_cases h0 : p = 0
  · have hK : mediaK s = none := by unfold mediaK; rw [hpe, if_pos h0]
    rw [hK]
    exact Ev.if_pos (by omega) (hj0 _)
  · refine Ev.if_neg (by omega) ?_
    by_cases h1 : p < s.size
    · refine Ev.if_neg (by omega) (Ev.if_pos (by omega) (Ev.if_pos (by omega) ?_))
      by_cases h47 : bt s (p : Int) = 47
      · have c47 : p < s.size ∧ bt s (p : Int) = 47 := ⟨h1, h47⟩
        rw [show (bt s (p : Int) != 47) = false by simp [h47]]
        refine Ev.step (f := fun k => (usherref6_token.f k s (wrap64 ((p : Int) + 1))).bind fun t120 => (if t120 = (wrap64 ((p : Int) + 1)) then (some ((⟨#[]⟩ : ByteArray), 2)) else (usherref6_Media.l0 k s t120 t120 0))) (fun k => by rw [usherref6_Media.j0, if_neg (by simp)]) ?_
        rw [wrap64_of (by omega), show (p : Int) + 1 = ((p + 1 : Nat) : Int) by omega]
        refine (token.ev s hs (p + 1) (by omega)).bind ?_
        have hle2 := runTo_le s 1 (p + 1) (by omega)
        obtain ⟨q, hqe⟩ : ∃ q, runTo s 1 (p + 1) = q := ⟨_, rfl⟩
        rw [hqe] at hle2 ⊢
        by_cases hz : q = p + 1
        · have hK : mediaK s = none := by unfold mediaK; rw [hpe, if_neg h0, if_pos c47, hqe, if_pos hz]
          rw [hK]
          exact Ev.if_pos (by omega) (Ev.now _)
        · refine Ev.if_neg (by omega) ?_
          refine Ev.eq (Media.ev0 s hs q hle2 (s.size + 1) q 0 (Nat.zero_le _) hle2 (by omega)) ?_
          unfold mediaE
          have hK : mediaK s = if paramsF (s.size + 1) s q = true then some (p, q) else none := by unfold mediaK; rw [hpe, if_neg h0, if_pos c47, hqe, if_neg hz]
          rw [hK]
          cases paramsF (s.size + 1) s q <;> rfl
      · have hK : mediaK s = none := by unfold mediaK; rw [hpe, if_neg h0, if_neg (fun x => h47 x.2)]
        rw [hK, show (bt s (p : Int) != 47) = true by simpa using h47]
        exact hj0 _
    · have hK : mediaK s = none := by unfold mediaK; rw [hpe, if_neg h0, if_neg (fun x => h1 x.1)]
      rw [hK]
      exact Ev.if_pos (by omega) (hj0 _)
theorem Media_some (s : ByteArray) (hs : s.size ≤ 140737488351232) : field_Media.f s = some (match mediaK s with | none => ((⟨#[]⟩ : ByteArray), some 2) | some (_, q) => (lowS (s.extract 0 q), none)) := by
  have hl := bytesOf_length s
  unfold field_Media.f
  rw [if_pos hs]
  have hle := runTo_le s 1 0 (Nat.zero_le _)
  cases hK : mediaK s with
  | none => rfl
  | some x =>
    obtain ⟨p, q⟩ := x
    have hq : p < q ∧ q ≤ s.size ∧ bt s (p : Int) = 47 := by
      unfold mediaK at hK
      have hle2 := runTo_le s 1 (runTo s 1 0 + 1)
      have hge2 := runTo_ge s 1 (runTo s 1 0 + 1)
      split at hK
      · cases hK
      · split at hK
        · rename_i h47
          split at hK
          · cases hK
          · split at hK
            · simp only [Option.some.injEq, Prod.mk.injEq] at hK
              obtain ⟨rfl, rfl⟩ := hK
              exact ⟨by omega, hle2 (by omega), h47.2⟩
            · cases hK
        · cases hK
    dsimp only
    have z1 : (s.extract 0 p).size ≤ 140737488351232 := by rw [ByteArray.size_extract]; omega
    have z2 : (s.extract (p + 1) q).size ≤ 140737488351232 := by rw [ByteArray.size_extract]; omega
    have hsz : ∀ t : ByteArray, (lowS t).size = t.size := fun t => by rw [size_eq, bytes_lowS, List.length_map, ← size_eq]
    rw [low_some _ z1, low_some _ z2, Option.bind_some, Option.bind_some, if_pos (by rw [hsz, hsz]; omega), low_join s p q hq.1 hq.2.1 hq.2.2]
theorem FieldMedias_pure (s : ByteArray) (hs : s.size ≤ 140737488351232) : ∃ k, usherlaw6_FieldMedias.f k s = some true := by
  refine Ev.rounds (g := fun k => usherlaw6_FieldMedias.f k s) ?_
  simp only [usherlaw6_FieldMedias.f, Media_some s hs, Option.bind_some]
  refine (Media.ev s hs).bind ?_
  cases mediaK s with
  | none => exact Ev.if_pos rfl (Ev.now _)
  | some x => exact Ev.if_pos rfl (Ev.now _)
end Go.Proofs.YtbkhgmmlacdhoaaDoor.Q
