/- The call of field's media.parameter. Conditions: the text has at most 140737488351232 bytes, the place is in it. -/
import Derived.Test.YtbkhgmmlacdhoaaDoorMedia
set_option linter.unusedVariables false
set_option linter.unusedSimpArgs false
namespace Go.Proofs.YtbkhgmmlacdhoaaDoor.Q
open Go.RowKit Go.Proofs.YtbkhgmmlacdhoaaDoorW.PrintWords Go.Proofs.YtbkhgmmlacdhoaaDoorW.PrintLast Go.Proofs.YtbkhgmmlacdhoaaDoorW.PrintMore
/-- One parameter from place i on: is it one, and where it ends. -/
def paramP (s : ByteArray) (i : Nat) : Bool × Nat :=
  if runTo s 1 i = i then (false, i)
  else if runTo s 1 i < s.size ∧ bt s (runTo s 1 i : Nat) = 61 then
    if runTo s 1 i + 1 < s.size ∧ bt s ((runTo s 1 i + 1 : Nat) : Int) = 34 then ((quotedL ((bytesOf s).drop (runTo s 1 i + 1 + 1))).1, runTo s 1 i + 1 + 1 + (quotedL ((bytesOf s).drop (runTo s 1 i + 1 + 1))).2)
    else (decide (runTo s 1 (runTo s 1 i + 1) ≠ runTo s 1 i + 1), runTo s 1 (runTo s 1 i + 1))
  else (false, i)
theorem extract_empty (s : ByteArray) (i j : Nat) (hi : i ≤ j) (hj : j ≤ s.size) : (s.extract i j).toList.isEmpty = decide (j = i) := by
  have hl : (s.extract i j).toList.length = j - i := by
    rw [ByteArray.toList_eq, Array.length_toList]
    show (s.extract i j).size = _
    rw [ByteArray.size_extract]; omega
  cases h : (s.extract i j).toList with
  | nil => rw [h] at hl; simp at hl; simp; omega
  | cons a l => rw [h] at hl; simp at hl; simp; omega
set_option maxHeartbeats 8000000 in
set_option maxRecDepth 100000 in
theorem media_parameter [Sent] (g : Nat) (t : TypeId) (s : ByteArray) (i : Nat) (w : World) (h : Cur g t s i w) (hs : s.size ≤ 140737488351232) (hi : i ≤ s.size) (w0 : World) (hG : Glob [8] w0) (hB0 : Below w0.heap.size w0 w) (hg : w0.heap.size ≤ g) :
    Calls Tryd.prog 97 #[.pointer (some ⟨g, 0, none⟩)] w fun e w' => e = .returned (.bool (paramP s i).1) ∧ ((paramP s i).1 = true → Cur g t s (paramP s i).2 w' ∧ (paramP s i).2 ≤ s.size) ∧ Only g w w' := by
  have HC := Aside0.mk h
  have HG := Aside0.mk hG
  have HB0 := Aside0.mk hB0
  have hge := runTo_ge s 1 i
  have hle := runTo_le s 1 i hi
  have hem := extract_empty s i (runTo s 1 i) hge hle
  generalize hpp : paramP s i = pp
  unfold paramP at hpp
  have HR := Aside0.mk (cursor_run g t s i 1 w h hs hi w0 hG hB0 hg)
  clear h hG hB0
  generalize runTo s 1 i = j at *
  generalize htk : s.extract i j = tok at *
  clear htk
  by_cases h0 : j = i
  · rw [if_pos h0] at hpp
    subst hpp
    rw [h0, decide_eq_true rfl] at hem
    go_enter Tryd.func97, Tryd.ntmps97
    go_wp2_with (fail)
    refine HR.out.mono ?_
    rintro e w1 ⟨rfl, hC1, hO1⟩
    have HC1 := Aside0.mk hC1
    have HO1 := Aside0.mk hO1
    clear hC1 hO1
    dsimp only
    go_wp2_with (fail)
    go_ret
    exact ⟨rfl, (fun h => absurd h (by decide)), HO1.out⟩
  · rw [if_neg h0] at hpp
    rw [decide_eq_false h0] at hem
    by_cases h61 : j < s.size ∧ bt s (j : Int) = 61
    · rw [if_pos h61] at hpp
      by_cases h34 : j + 1 < s.size ∧ bt s ((j + 1 : Nat) : Int) = 34
      · rw [if_pos h34] at hpp
        subst hpp
        go_enter Tryd.func97, Tryd.ntmps97
        go_wp2_with (fail)
        refine HR.out.mono ?_
        rintro e w1 ⟨rfl, hC1, hO1⟩
        have HC1 := Aside0.mk hC1
        have HO1 := Aside0.mk hO1
        clear hC1 hO1
        dsimp only
        go_wp2_with (fail)
        refine (cursor_eat_yes g t s j 61 _ ?hcu hs h61.1 h61.2).mono ?_
        case hcu => exact HC1.out
        rintro e w2 ⟨rfl, hC2, hO2⟩
        have HC2 := Aside0.mk hC2
        have HO2 := Aside0.mk (HO1.out.trans hO2)
        clear hC2 hO2
        dsimp only
        go_wp2_with (fail)
        refine (cursor_eat_yes g t s (j + 1) 34 _ ?hcu hs h34.1 h34.2).mono ?_
        case hcu => exact HC2.out
        rintro e w3 ⟨rfl, hC3, hO3⟩
        have HC3 := Aside0.mk hC3
        have HO3 := Aside0.mk (HO2.out.trans hO3)
        clear hC3 hO3
        dsimp only
        go_wp2_with (fail)
        refine (media_quoted g t s (j + 1 + 1) _ ?hcu hs (by omega) w0 HG.out ?hbw hg).mono ?_
        case hcu => exact HC3.out
        case hbw => exact HB0.out.trans (HO3.out.below hg)
        rintro e w4 ⟨rfl, hC4, hO4⟩
        dsimp only
        go_wp2_with (fail)
        go_ret
        exact ⟨rfl, hC4, HO3.out.trans hO4⟩
      · rw [if_neg h34] at hpp
        subst hpp
        have hge2 := runTo_ge s 1 (j + 1)
        have hle2 := runTo_le s 1 (j + 1) (by omega)
        have hem2 := extract_empty s (j + 1) (runTo s 1 (j + 1)) hge2 hle2
        go_enter Tryd.func97, Tryd.ntmps97
        go_wp2_with (fail)
        refine HR.out.mono ?_
        rintro e w1 ⟨rfl, hC1, hO1⟩
        have HC1 := Aside0.mk hC1
        have HO1 := Aside0.mk hO1
        clear hC1 hO1
        dsimp only
        go_wp2_with (fail)
        refine (cursor_eat_yes g t s j 61 _ ?hcu hs h61.1 h61.2).mono ?_
        case hcu => exact HC1.out
        rintro e w2 ⟨rfl, hC2, hO2⟩
        have HC2 := Aside0.mk hC2
        have HO2 := Aside0.mk (HO1.out.trans hO2)
        clear hC2 hO2
        dsimp only
        go_wp2_with (fail)
        refine (cursor_eat_no g t s (j + 1) 34 _ ?hcu h34).mono ?_
        case hcu => exact HC2.out
        rintro e w3 ⟨rfl, ⟨m, rfl⟩⟩
        dsimp only
        go_wp2_with (fail)
        refine (cursor_run g t s (j + 1) 1 _ ?hcu hs (by omega) w0 HG.out ?hbw hg).mono ?_
        case hcu => exact HC2.out
        case hbw => exact pw_below_drewN (HB0.out.trans (HO2.out.below hg)) _
        rintro e w4 ⟨rfl, hC4, hO4⟩
        dsimp only
        go_wp2_with (fail)
        go_ret
        refine ⟨?_, fun _ => ⟨hC4, hle2⟩, HO2.out.trans ((Only.drewN (Only.refl _ _) _).trans hO4)⟩
        exact (congrArg (fun b => Ending.returned (Value.bool b)) (decide_not (p := runTo s 1 (j + 1) = j + 1))).symm
    · rw [if_neg h61] at hpp
      subst hpp
      go_enter Tryd.func97, Tryd.ntmps97
      go_wp2_with (fail)
      refine HR.out.mono ?_
      rintro e w1 ⟨rfl, hC1, hO1⟩
      have HC1 := Aside0.mk hC1
      have HO1 := Aside0.mk hO1
      clear hC1 hO1
      dsimp only
      go_wp2_with (fail)
      refine (cursor_eat_no g t s j 61 _ ?hcu h61).mono ?_
      case hcu => exact HC1.out
      rintro e w2 ⟨rfl, ⟨m, rfl⟩⟩
      dsimp only
      go_wp2_with (fail)
      go_ret
      exact ⟨rfl, (fun h => absurd h (by decide)), Only.drewN HO1.out _⟩
theorem paramP_ge (s : ByteArray) (i : Nat) (hi : i ≤ s.size) : i ≤ (paramP s i).2 := by
  have h1 := runTo_ge s 1 i
  have h2 := runTo_ge s 1 (runTo s 1 i + 1)
  unfold paramP
  split
  · exact Nat.le_refl _
  · split
    · split
      · dsimp only; omega
      · dsimp only; omega
    · exact Nat.le_refl _
/-- All parameters from place i on: are they so to the end. -/
def paramsF : Nat → ByteArray → Nat → Bool
  | 0, _, _ => false
  | f + 1, s, i =>
    if s.size ≤ i then true
    else if runTo s 8 i < s.size ∧ bt s (runTo s 8 i : Nat) = 59 then
      (if runTo s 8 (runTo s 8 i + 1) < s.size ∧ isB 1 (bt s (runTo s 8 (runTo s 8 i + 1) : Nat)) = true then
        (if (paramP s (runTo s 8 (runTo s 8 i + 1))).1 = true then paramsF f s (paramP s (runTo s 8 (runTo s 8 i + 1))).2 else false)
      else paramsF f s (runTo s 8 (runTo s 8 i + 1)))
    else false
end Go.Proofs.YtbkhgmmlacdhoaaDoor.Q
