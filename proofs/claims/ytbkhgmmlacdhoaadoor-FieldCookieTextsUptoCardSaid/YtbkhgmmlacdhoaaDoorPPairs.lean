/- What usherlaw6.copied, spare, turn, kept and usherref0.SamePairs answer, as plain functions of the list. Conditions: a list has at most 4398046510976 members. -/
import Derived.Test.YtbkhgmmlacdhoaaDoorQ5
import Derived.Test.YtbkhgmmlacdhoaaDoorQ7
import Derived.Test.YtbkhgmmlacdhoaaDoorQ7
import Derived.Test.YtbkhgmmlacdhoaaDoorKept6
import Derived.Test.YtbkhgmmlacdhoaaDoorTool
set_option linter.unusedVariables false
set_option linter.unusedSimpArgs false
namespace Go.Proofs.YtbkhgmmlacdhoaaDoor.Q
open Go.RowKit Go.Proofs.YtbkhgmmlacdhoaaDoorW.PrintWords Go.Proofs.YtbkhgmmlacdhoaaDoorW.PrintLast Go.Proofs.YtbkhgmmlacdhoaaDoorW.PrintMore

theorem rdP_nat (l : List S71) (i : Nat) : rd_T71 l (i : Int) = l.getD i z71 := by unfold rd_T71; simp
theorem copied.ev (l : List S71) (hl : l.length ≤ 4398046510976) : Ev (fun k => usherlaw6_copied.f k l) l := by
  have H := Ev.loop (F := fun k (i : Nat) => usherlaw6_copied.l0 k l (l.take i) (i : Int)) (r := fun _ => l) (fun i => i ≤ l.length) (fun i => l.length - i) (by
    intro i hi ih
    by_cases h : i < l.length
    · simp only [usherlaw6_copied.l0]
      refine Ev.if_pos (by omega) (Ev.if_pos (by omega) (Ev.if_pos (by rw [List.length_take]; omega) ?_))
      rw [rdP_nat, wrap64_of (by omega)]
      have hn : (i : Int) + 1 = ((i + 1 : Nat) : Int) := by omega
      rw [hn, ← take_snoc l i z71 h]
      exact ih (i + 1) (by omega) (by omega)
    · simp only [usherlaw6_copied.l0]
      refine Ev.if_neg (by omega) ?_
      rw [List.take_of_length_le (by omega)]
      exact Ev.now l) 0 (by omega)
  simpa [usherlaw6_copied.f] using H
def behS : S71 := ⟨behT, behT⟩
theorem spare.ev (l : List S71) (hl : l.length ≤ 4398046510976) : Ev (fun k => usherlaw6_spare.f k l) (l ++ [behS, behS]) := by
  simp only [usherlaw6_spare.f]
  refine (copied.ev l hl).bind ?_
  simp only [usherlaw6_behind.f, Option.bind_some]
  refine Ev.if_pos (by omega) (Ev.if_pos (by simp; omega) ?_)
  have : l ++ [behS, behS] = l ++ [(⟨⟨#[98, 101, 104, 105, 110, 100]⟩, ⟨#[98, 101, 104, 105, 110, 100]⟩⟩ : S71)] ++ [⟨⟨#[98, 101, 104, 105, 110, 100]⟩, ⟨#[98, 101, 104, 105, 110, 100]⟩⟩] := by
    rw [List.append_assoc]; rfl
  rw [this]
  exact Ev.now _
theorem S_eq {x y : S71} (h0 : x.f0 = y.f0) (h1 : x.f1 = y.f1) : x = y := by
  obtain ⟨a, b⟩ := x; obtain ⟨c, d⟩ := y; cases h0; cases h1; rfl
noncomputable instance decS : DecidableEq S71 := fun _ _ => Classical.propDecidable _
theorem samePairs.ev (l m : List S71) (hl : l.length ≤ 4398046510976) : Ev (fun k => usherref0_SamePairs.f k l m) (decide (l = m)) := by
  simp only [usherref0_SamePairs.f]
  by_cases he : l.length = m.length
  · refine Ev.if_pos (by omega) ?_
    have H := Ev.loop (F := fun k (i : Nat) => usherref0_SamePairs.l0 k l m (i : Int)) (r := fun i => decide (l.drop i = m.drop i)) (fun i => i ≤ l.length) (fun i => l.length - i) (by
      intro i hi ih
      by_cases h : i < l.length
      · simp only [usherref0_SamePairs.l0]
        refine Ev.if_pos (by omega) (Ev.if_pos (by omega) (Ev.if_pos (by omega) ?_))
        rw [rdP_nat, rdP_nat, wrap64_of (by omega)]
        have hn : (i : Int) + 1 = ((i + 1 : Nat) : Int) := by omega
        rw [hn, drop_cons l i z71 h, drop_cons m i z71 (by omega)]
        simp only [toList_beq]
        have ih1 := ih (i + 1) (by omega) (by omega)
        generalize l.getD i z71 = x at *
        generalize m.getD i z71 = y at *
        by_cases hx : x = y
        · subst hx
          refine Ev.if_neg (by simp) ?_
          refine Ev.eq ih1 ?_
          simp
        · refine Ev.if_pos ?_ (Ev.eq (Ev.now false) ?_)
          · by_cases h0 : x.f0 = y.f0
            · have h1 : x.f1 ≠ y.f1 := fun h1 => hx (S_eq h0 h1)
              simp [h1]
            · simp [h0]
          · simp [hx]
      · simp only [usherref0_SamePairs.l0]
        refine Ev.if_neg (by omega) ?_
        rw [List.drop_eq_nil_of_le (by omega), List.drop_eq_nil_of_le (by omega)]
        exact Ev.eq (Ev.now true) (by simp)) 0 (by omega)
    simpa using H
  · refine Ev.if_neg (by omega) (Ev.eq (Ev.now false) ?_)
    symm
    apply decide_eq_false
    intro h; rw [h] at he; exact he rfl
theorem samePairs_self.ev (l : List S71) (hl : l.length ≤ 4398046510976) : Ev (fun k => usherref0_SamePairs.f k l l) true := Ev.eq (samePairs.ev l l hl) (by simp)
/-- Names and values change places. -/
def turnS (l : List S71) : List S71 := l.map fun x => ⟨x.f1, x.f0⟩
theorem turn.ev (l : List S71) (hl : l.length ≤ 4398046510976) : Ev (fun k => usherlaw6_turn.f k l) (turnS l) := by
  have H := Ev.loop (F := fun k (i : Nat) => usherlaw6_turn.l0 k ((turnS l).take i ++ l.drop i) (i : Int)) (r := fun _ => turnS l) (fun i => i ≤ l.length) (fun i => l.length - i) (by
    intro i hi ih
    have hs : (turnS l).length = l.length := by simp [turnS]
    have hlen : ((turnS l).take i ++ l.drop i).length = l.length := by simp [hs]; omega
    by_cases h : i < l.length
    · simp only [usherlaw6_turn.l0]
      refine Ev.if_pos (by rw [hlen]; omega) (Ev.if_pos (by omega) ?_)
      rw [rdP_nat, wrap64_of (by omega)]
      have hn : (i : Int) + 1 = ((i + 1 : Nat) : Int) := by omega
      have hg : ((turnS l).take i ++ l.drop i).getD i z71 = l.getD i z71 := by
        rw [List.getD_eq_getElem?_getD, List.getElem?_append_right (by simp; omega)]
        simp [hs, Nat.min_eq_left hi, List.getD_eq_getElem?_getD]
      have hset : ((turnS l).take i ++ l.drop i).set i (⟨(l.getD i z71).f1, (l.getD i z71).f0⟩ : S71) = (turnS l).take (i + 1) ++ l.drop (i + 1) := by
        rw [take_snoc (turnS l) i ⟨z71.f1, z71.f0⟩ (by omega), List.set_append_right _ _ (by simp; omega)]
        have : i - ((turnS l).take i).length = 0 := by simp [hs]; omega
        rw [this, drop_cons l i z71 h, List.set_cons_zero]
        simp [turnS, List.getD_eq_getElem?_getD, List.getElem?_eq_getElem h]
      rw [hg, hn, show ((i : Int)).toNat = i by omega, hset]
      exact ih (i + 1) (by omega) (by omega)
    · simp only [usherlaw6_turn.l0]
      refine Ev.if_neg (by rw [hlen]; omega) ?_
      have : (turnS l).take i ++ l.drop i = turnS l := by
        rw [List.take_of_length_le (by omega), List.drop_eq_nil_of_le (by omega), List.append_nil]
      rw [this]
      exact Ev.now _) 0 (by omega)
  simpa [usherlaw6_turn.f] using H
theorem kept.ev (l : List S71) (hl : l.length ≤ 4398046510976) : Ev (fun k => usherlaw6_kept.f k (l ++ [behS, behS]) l) true := by
  simp only [usherlaw6_kept.f]
  refine Ev.if_pos ⟨by omega, by simp, ?_⟩ ?_
  · have h0 : rd_T71 (l ++ [behS, behS]) (l.length : Int) = behS := by rw [rdP_nat]; simp [List.getD_eq_getElem?_getD]
    have h1 : rd_T71 (l ++ [behS, behS]) ((l.length : Int) + 1) = behS := by
      rw [show (l.length : Int) + 1 = ((l.length + 1 : Nat) : Int) by omega, rdP_nat]; simp [List.getD_eq_getElem?_getD]
    rw [h0, h1]
    simp [isBeh, behS]
  · have : (l ++ [behS, behS]).take l.length = l := by simp
    rw [this]
    refine (samePairs_self.ev l hl).bind ?_
    exact Ev.if_pos rfl (Ev.now _)
end Go.Proofs.YtbkhgmmlacdhoaaDoor.Q
