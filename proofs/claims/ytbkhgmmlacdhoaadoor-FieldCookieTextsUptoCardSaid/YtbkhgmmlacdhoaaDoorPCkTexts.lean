/- FieldCookieTexts answers true: what field.CookieText and the document's own write. Conditions: the input's bulk is at most 1048576. -/
import Derived.Test.YtbkhgmmlacdhoaaDoorQ8
import Derived.Test.YtbkhgmmlacdhoaaDoorPCook
import Derived.Test.YtbkhgmmlacdhoaaDoorPPairs
import Derived.Test.YtbkhgmmlacdhoaaDoorCkText
set_option linter.unusedVariables false
set_option linter.unusedSimpArgs false
namespace Go.Proofs.YtbkhgmmlacdhoaaDoor.Q
open Go.RowKit Go.Proofs.YtbkhgmmlacdhoaaDoorW.PrintWords Go.Proofs.YtbkhgmmlacdhoaaDoorW.PrintLast Go.Proofs.YtbkhgmmlacdhoaaDoorW.PrintMore
def mayP (p : S71) : Bool := tokL (bytesOf p.f0) && cookL (bytesOf p.f1)
def SzP (p : S71) : Prop := p.f0.size ≤ 140737488351232 ∧ p.f1.size ≤ 140737488351232
def bulkP (l : List S71) : Nat := (l.map fun p => p.f0.size + p.f1.size).sum
theorem maysF.ev : ∀ l : List S71, (∀ p ∈ l, SzP p) → Ev (fun k => maysF k l) (l.map mayP)
  | [], _ => Ev.now _
  | p :: l, h => by
    have hp := h p (List.mem_cons_self ..)
    have e : (fun k => maysF k (p :: l)) = fun k => (field_may.f k p.f0 p.f1).bind fun b => (maysF k l).bind fun bs => some (b :: bs) := by
      funext k; unfold maysF; rw [List.mapM_cons]; rfl
    rw [e]
    exact (field_may.ev p.f0 p.f1 hp.1 hp.2).bind ((maysF.ev l (fun q hq => h q (List.mem_cons_of_mem _ hq))).bind (Ev.now _))
theorem piece_len (p : S71) : (pieceL p).length = p.f0.size + p.f1.size + 1 := by
  unfold pieceL; rw [bytesOf_length, ByteArray.size_append, ByteArray.size_append]; show p.f0.size + 1 + p.f1.size = _; omega
theorem bulkP_take (l : List S71) (i : Nat) (hi : i < l.length) : bulkP (l.take (i + 1)) = bulkP (l.take i) + ((l.getD i z71).f0.size + (l.getD i z71).f1.size) := by
  unfold bulkP; rw [take_snoc l i z71 hi, List.map_append, List.sum_append]; simp
theorem textTo_len (l : List S71) : ∀ i, i ≤ l.length → (textTo l i).length ≤ bulkP (l.take i) + 3 * i
  | 0, _ => by simp [textTo]
  | i + 1, h => by
    have ih := textTo_len l i (by omega)
    rw [textTo_succ, List.length_append, List.length_append, piece_len, bulkP_take l i (by omega)]
    have : (if 0 < i then [59, 32] else ([] : List Int)).length ≤ 2 := by split <;> simp
    omega
theorem bulkP_take_le (l : List S71) (i : Nat) : bulkP (l.take i) ≤ bulkP l := by
  have h := congrArg bulkP (List.take_append_drop i l)
  have e : bulkP (l.take i ++ l.drop i) = bulkP (l.take i) + bulkP (l.drop i) := by unfold bulkP; rw [List.map_append, List.sum_append]
  omega
theorem textTo_bound (l : List S71) (h16 : ¬ 16 < l.length) (hb : bulkP l ≤ 1048576) (i : Nat) (hi : i ≤ l.length) : (textTo l i).length ≤ 1048624 := by
  have h1 := textTo_len l i hi
  have h2 := bulkP_take_le l i
  omega
/-- What both answer; the refusal by its number. -/
def cText (l : List S71) : ByteArray × Int := if 16 < l.length then ((⟨#[]⟩ : ByteArray), 3) else if l.all mayP = true then (strOfNums (textTo l l.length), 0) else ((⟨#[]⟩ : ByteArray), 2)
def errOf (c : Int) : Option Int := if c = 0 then none else some c
theorem CookieText.ev (l : List S71) (hs : ∀ p ∈ l, SzP p) (hb : bulkP l ≤ 1048576) : Ev (fun k => field_CookieText.f k l) ((cText l).1, errOf (cText l).2) := by
  simp only [field_CookieText.f]
  unfold cText
  by_cases h16 : 16 < l.length
  · rw [if_pos h16]
    exact Ev.if_pos h16 (Ev.now _)
  · rw [if_neg h16]
    refine Ev.if_neg h16 (Ev.if_pos (by have := textTo_bound l h16 hb l.length (Nat.le_refl _); omega) ?_)
    refine (maysF.ev l hs).bind ?_
    have e : (l.map mayP).all id = l.all mayP := by rw [List.all_map]; rfl
    rw [e]
    cases h : l.all mayP
    · exact Ev.if_neg (by simp) (Ev.now _)
    · exact Ev.if_pos rfl (Ev.now _)
theorem strOf_size (xs : List Int) : (strOfNums xs).size = xs.length := by
  show (strOfNums xs).data.size = _
  rw [← Array.length_toList, strOfNums_data, List.length_map]
theorem CookieTextR.ev (l : List S71) (hs : ∀ p ∈ l, SzP p) (hb : bulkP l ≤ 1048576) : Ev (fun k => usherref6_CookieText.f k l) (cText l) := by
  simp only [usherref6_CookieText.f]
  unfold cText
  by_cases h16 : 16 < l.length
  · rw [if_pos h16]
    exact Ev.if_pos (by omega) (Ev.now _)
  · rw [if_neg h16]
    refine Ev.if_neg (by omega) ?_
    have H := Ev.loop (F := fun k (i : Nat) => usherref6_CookieText.l0 k l (strOfNums (textTo l i)) (i : Int)) (r := fun i => if (l.drop i).all mayP = true then (strOfNums (textTo l l.length), (0 : Int)) else ((⟨#[]⟩ : ByteArray), 2)) (fun i => i ≤ l.length) (fun i => l.length - i) (by
      intro i hi ih
      by_cases h : i < l.length
      · simp only [usherref6_CookieText.l0]
        refine Ev.if_pos (by omega) (Ev.if_pos (by omega) ?_)
        have hp := hs _ (by rw [List.getD_eq_getElem?_getD, List.getElem?_eq_getElem h]; exact List.getElem_mem h : l.getD i z71 ∈ l)
        rw [rdP_nat, drop_cons l i z71 h]
        have htx := textTo_succ l i
        have hbd := textTo_bound l h16 hb i hi
        have hl1 := textTo_range l i
        generalize hx : l.getD i z71 = x at *
        refine (usherref6_Token.ev x.f0 hp.1).bind ((usherref6_CookieValue.ev x.f1 hp.2).bind ?_)
        have et : (!(bytesOf x.f0).isEmpty && (bytesOf x.f0).all (has 1)) = tokL (bytesOf x.f0) := rfl
        rw [et, List.all_cons]
        have hsz : (strOfNums (textTo l i)).size = (textTo l i).length := strOf_size _
        have step : ∀ b : Bool, b = mayP x → Ev (fun k => usherref6_CookieText.j1 k l (strOfNums (textTo l i)) (i : Int) (!b)) (if (mayP x && (l.drop (i + 1)).all mayP) = true then (strOfNums (textTo l l.length), (0 : Int)) else ((⟨#[]⟩ : ByteArray), 2)) := by
          rintro b rfl
          refine Ev.step (f := fun k => usherref6_CookieText.j1 (k + 1) l (strOfNums (textTo l i)) (i : Int) (!mayP x)) (fun _ => rfl) ?_
          simp only [usherref6_CookieText.j1, rdP_nat, hx]
          cases hm : mayP x
          · exact Ev.if_pos (by simp) (Ev.now _)
          · refine Ev.if_neg (by simp) ?_
            rw [Bool.true_and, wrap64_of (by omega)]
            have hn : (i : Int) + 1 = ((i + 1 : Nat) : Int) := by omega
            rw [hn]
            have hp1 := hp.1
            have hp2 := hp.2
            by_cases h0 : 0 < i
            · refine Ev.if_pos (by omega) ?_
              rw [if_pos h0] at htx
              have ex : ((((strOfNums (textTo l i)) ++ (⟨#[59, 32]⟩ : ByteArray)) ++ x.f0) ++ (⟨#[61]⟩ : ByteArray)) ++ x.f1 = strOfNums (textTo l (i + 1)) := by
                apply ext_bytes
                rw [bytesOf_strOfNums (textTo_range l (i + 1)), htx]
                unfold pieceL
                simp only [bytesOf_append, bytesOf_strOfNums hl1, List.append_assoc]
                rfl
              rw [ex]
              refine Ev.if_pos ?_ (Ev.if_pos (by omega) (Ev.if_pos (by omega) (Ev.if_pos ?_ (Ev.if_pos ?_ (Ev.if_pos ?_ (ih (i + 1) (by omega) (by omega)))))))
              all_goals (simp only [ByteArray.size_append', ByteArray.size_mk', List.size_toArray, List.length_cons, List.length_nil, Nat.reduceAdd, hsz]; omega)
            · refine Ev.if_neg (by omega) ?_
              rw [if_neg h0] at htx
              have ex : (((strOfNums (textTo l i)) ++ x.f0) ++ (⟨#[61]⟩ : ByteArray)) ++ x.f1 = strOfNums (textTo l (i + 1)) := by
                apply ext_bytes
                rw [bytesOf_strOfNums (textTo_range l (i + 1)), htx]
                unfold pieceL
                simp only [bytesOf_append, bytesOf_strOfNums hl1, List.append_assoc, List.nil_append]
              rw [ex]
              refine Ev.if_pos (by omega) (Ev.if_pos (by omega) (Ev.if_pos ?_ (Ev.if_pos ?_ (Ev.if_pos ?_ (ih (i + 1) (by omega) (by omega))))))
              all_goals (simp only [ByteArray.size_append', ByteArray.size_mk', List.size_toArray, List.length_cons, List.length_nil, Nat.reduceAdd, hsz]; omega)
        cases h1 : tokL (bytesOf x.f0)
        · refine Ev.if_neg (by simp) ?_
          have := step false (by unfold mayP; rw [h1]; rfl)
          simpa using this
        · refine Ev.if_pos rfl ?_
          exact step _ (by unfold mayP; rw [h1]; rfl)
      · simp only [usherref6_CookieText.l0]
        refine Ev.if_neg (by omega) ?_
        rw [List.drop_eq_nil_of_le (by omega)]
        have : i = l.length := by omega
        subst this
        exact Ev.now _) 0 (by omega)
    have e0 : strOfNums (textTo l 0) = (⟨#[]⟩ : ByteArray) := rfl
    simpa [e0] using H
theorem Num_errOf (l : List S71) : usherkit_Num.f (errOf (cText l).2) = some (cText l).2 := by
  unfold cText
  split
  · rfl
  · split <;> rfl
theorem bulkP_turn (l : List S71) : bulkP (turnS l) = bulkP l := by
  unfold bulkP turnS
  rw [List.map_map]
  congr 1
  refine List.map_congr_left fun p _ => ?_
  simp only [Function.comp]; omega
theorem FieldCookieTexts_pure (l : List S71) (hl : l.length * 32 ≤ 140737488351232 ∧ ∀ p ∈ l, SzP p) (hb : bulkP l ≤ 1048576) : ∃ k, usherlaw6_FieldCookieTexts.f k l = some true := by
  refine Ev.rounds (g := fun k => usherlaw6_FieldCookieTexts.f k l) ?_
  have hln : l.length ≤ 4398046510976 := by have := hl.1; omega
  have htk : (l ++ [behS, behS]).take ((l.length : Int)).toNat = l := by simp
  have hst : ∀ p ∈ turnS l, SzP p := by
    intro p hp
    obtain ⟨q, hq, rfl⟩ := List.mem_map.1 hp
    exact ⟨(hl.2 q hq).2, (hl.2 q hq).1⟩
  simp only [usherlaw6_FieldCookieTexts.f]
  refine (spare.ev l hln).bind ?_
  refine Ev.if_pos (by omega) (Ev.if_pos (by simp; omega) ?_)
  rw [htk]
  refine (CookieText.ev l hl.2 hb).bind ((copied.ev l hln).bind ((CookieTextR.ev l hl.2 hb).bind ?_))
  refine Ev.if_pos rfl ?_
  simp only [Num_errOf, Option.bind_some]
  refine Ev.if_pos (by simp) ?_
  refine (kept.ev l hln).bind ?_
  refine Ev.step (f := fun k => usherlaw6_FieldCookieTexts.j0 (k + 1) l (l ++ [behS, behS]) (!true)) (fun _ => rfl) ?_
  simp only [usherlaw6_FieldCookieTexts.j0]
  refine Ev.if_neg (by simp) (Ev.if_pos (by omega) (Ev.if_pos (by simp; omega) ?_))
  rw [htk]
  refine (turn.ev l hln).bind ((CookieText.ev _ hst (by rw [bulkP_turn]; exact hb)).bind ((copied.ev l hln).bind ((turn.ev l hln).bind ((CookieTextR.ev _ hst (by rw [bulkP_turn]; exact hb)).bind ?_))))
  refine Ev.if_pos rfl ?_
  simp only [Num_errOf, Option.bind_some, beq_self_eq_true]
  exact Ev.now _
end Go.Proofs.YtbkhgmmlacdhoaaDoor.Q
