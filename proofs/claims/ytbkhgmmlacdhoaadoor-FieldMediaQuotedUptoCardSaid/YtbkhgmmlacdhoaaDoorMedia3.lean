/- The call of field's media.parameters. Conditions: the text has at most 140737488351232 bytes, the place is in it. -/
import Derived.Test.YtbkhgmmlacdhoaaDoorMedia2
set_option linter.unusedVariables false
set_option linter.unusedSimpArgs false
namespace Go.Proofs.YtbkhgmmlacdhoaaDoor.Q
open Go.RowKit Go.Proofs.YtbkhgmmlacdhoaaDoorW.PrintWords Go.Proofs.YtbkhgmmlacdhoaaDoorW.PrintLast Go.Proofs.YtbkhgmmlacdhoaaDoorW.PrintMore
set_option maxHeartbeats 8000000 in
set_option maxRecDepth 100000 in
theorem media_parameters [Sent] (g : Nat) (t : TypeId) (s : ByteArray) (i : Nat) (w : World) (h : Cur g t s i w) (hs : s.size ≤ 140737488351232) (hi : i ≤ s.size) (w0 : World) (hG : Glob [8] w0) (hB0 : Below w0.heap.size w0 w) (hg : w0.heap.size ≤ g) :
    Calls Tryd.prog 64 #[.pointer (some ⟨g, 0, none⟩)] w fun e w' => e = .returned (.bool (paramsF (s.size + 1) s i)) ∧ Only g w w' := by
  have HC := Aside0.mk h
  have HG := Aside0.mk hG
  have HB0 := Aside0.mk hB0
  clear h hG hB0
  generalize hq0 : paramsF (s.size + 1) s i = q0
  have HQ0 := Aside0.mk hq0
  clear hq0
  go_enter Tryd.func64, Tryd.ntmps64
  go_wp2
  go_loopw [] (fun wr => ∃ j f : Nat, j ≤ s.size ∧ s.size - j < f ∧ Aside0 (paramsF f s j = q0) ∧ Aside0 (Cur g t s j wr) ∧ Aside0 (Only g w wr)) (fun wr => s.size - placeOf g wr)
  case atStart => exact ⟨i, s.size + 1, hi, by omega, HQ0, HC, ⟨Only.refl _ _⟩⟩
  case round =>
    obtain ⟨j, f, hj, hf, HQ, HJ, HO⟩ := hrel
    obtain ⟨f, rfl⟩ : ∃ f', f = f' + 1 := ⟨f - 1, by omega⟩
    have hq := HQ.out
    unfold paramsF at hq
    by_cases hlt : j < s.size
    · rw [if_neg (by omega)] at hq
      have hge1 := runTo_ge s 8 j
      have hle1 := runTo_le s 8 j hj
      go_wp2_with (fail)
      refine (cursor_end_b g t s j false _ ?hcu (decide_eq_false (by omega))).mono ?_
      case hcu => exact HJ.out
      rintro e w1 ⟨rfl, ⟨m, rfl⟩⟩
      dsimp only
      go_wp2_with (fail)
      refine (cursor_run g t s j 8 _ ?hcu hs hj w0 HG.out ?hbw hg).mono ?_
      case hcu => exact HJ.out
      case hbw => exact pw_below_drewN (HB0.out.trans (HO.out.below hg)) _
      rintro e w2 ⟨rfl, hC2, hO2⟩
      generalize runTo s 8 j = p at *
      have HC2 := Aside0.mk hC2
      have HO2 := Aside0.mk ((Only.drewN HO.out _).trans hO2)
      clear hC2 hO2
      dsimp only
      by_cases h59 : p < s.size ∧ bt s (p : Int) = 59
      · rw [if_pos h59] at hq
        have hp := runTo_ge s 8 (p + 1)
        have hp2 := runTo_le s 8 (p + 1) (by omega)
        have HQ1 := Aside0.mk hq
        clear hq
        go_wp2_with (fail)
        refine (cursor_eat_yes g t s p 59 _ ?hcu hs h59.1 h59.2).mono ?_
        case hcu => exact HC2.out
        rintro e w3 ⟨rfl, hC3, hO3⟩
        have HC3 := Aside0.mk hC3
        have HO3 := Aside0.mk (HO2.out.trans hO3)
        clear hC3 hO3
        dsimp only
        go_wp2_with (fail)
        refine (cursor_run g t s (p + 1) 8 _ ?hcu hs (by omega) w0 HG.out ?hbw hg).mono ?_
        case hcu => exact HC3.out
        case hbw => exact HB0.out.trans (HO3.out.below hg)
        rintro e w4 ⟨rfl, hC4, hO4⟩
        have HC4 := Aside0.mk hC4
        have HO4 := Aside0.mk (HO3.out.trans hO4)
        clear hC4 hO4
        generalize runTo s 8 (p + 1) = q at *
        dsimp only
        by_cases hq1 : q < s.size ∧ isB 1 (bt s (q : Int)) = true
        · have hq2 := HQ1.out
          rw [if_pos hq1] at hq2
          have hqs := hq1.1
          have hr := bt_range s (q : Int)
          have hf := isB_some (bt s (q : Int)) 1 hr.1 hr.2
          rw [hq1.2] at hf
          have HF := Aside0.mk hf
          have hpg := paramP_ge s q hp2
          have HP := Aside0.mk (media_parameter g t s q)
          clear hf hr hq1
          generalize paramP s q = pp at *
          obtain ⟨pb, pe⟩ := pp
          dsimp only at hq2 hpg
          cases pb with
          | true =>
            rw [if_pos rfl] at hq2
            have HQ2 := Aside0.mk hq2
            clear hq2
            go_wp2_with (fail)
            refine (cursor_end_b g t s q false _ ?hcu (decide_eq_false (by omega))).mono ?_
            case hcu => exact HC4.out
            rintro e w5 ⟨rfl, ⟨m5, rfl⟩⟩
            dsimp only
            go_wp2_with (fail)
            refine (cursor_next g t s q _ ?hcu hqs).mono ?_
            case hcu => exact HC4.out
            rintro e w6 ⟨rfl, ⟨m6, rfl⟩⟩
            dsimp only
            go_wp2_with (fail)
            refine (field_is.calls (bt s (q : Int)) 1 true _ HF.out (HG.out.step ?hbw (by rfl))).mono ?_
            case hbw => repeat (first | exact HB0.out.trans (HO4.out.below hg) | apply pw_below_drewN)
            rintro e w7 ⟨rfl, ⟨m7, rfl⟩⟩
            dsimp only
            go_wp2_with (fail)
            refine (HP.out _ ?hcu hs hp2 w0 HG.out ?hbw hg).mono ?_
            case hcu => exact HC4.out
            case hbw => repeat (first | exact HB0.out.trans (HO4.out.below hg) | apply pw_below_drewN)
            rintro e w8 ⟨rfl, hC8, hO8⟩
            obtain ⟨hC8, hpe⟩ := hC8 (by simp)
            have HC8 := Aside0.mk hC8
            have HO8 := Aside0.mk ((show Only g w _ by repeat (first | exact HO4.out | apply Only.drewN)).trans hO8)
            clear hC8 hO8
            dsimp only at *
            go_wp2_with (fail)
            refine ⟨⟨pe, f, by omega, by omega, HQ2, ⟨show Cur g t s (pe) _ from HC8.out⟩, ⟨by repeat (first | exact HO8.out | apply Only.drewN)⟩⟩, ?_⟩
            rw [placeOf_cur HJ.out]
            exact Nat.lt_of_le_of_lt (Nat.le_of_eq (congrArg (fun p => s.size - p) (placeOf_cur (show Cur g t s (pe) _ from HC8.out)))) (by omega)
          | false =>
            rw [if_neg (by decide)] at hq2
            have HQ2 := Aside0.mk hq2
            clear hq2
            go_wp2_with (fail)
            refine (cursor_end_b g t s q false _ ?hcu (decide_eq_false (by omega))).mono ?_
            case hcu => exact HC4.out
            rintro e w5 ⟨rfl, ⟨m5, rfl⟩⟩
            dsimp only
            go_wp2_with (fail)
            refine (cursor_next g t s q _ ?hcu hqs).mono ?_
            case hcu => exact HC4.out
            rintro e w6 ⟨rfl, ⟨m6, rfl⟩⟩
            dsimp only
            go_wp2_with (fail)
            refine (field_is.calls (bt s (q : Int)) 1 true _ HF.out (HG.out.step ?hbw (by rfl))).mono ?_
            case hbw => repeat (first | exact HB0.out.trans (HO4.out.below hg) | apply pw_below_drewN)
            rintro e w7 ⟨rfl, ⟨m7, rfl⟩⟩
            dsimp only
            go_wp2_with (fail)
            refine (HP.out _ ?hcu hs hp2 w0 HG.out ?hbw hg).mono ?_
            case hcu => exact HC4.out
            case hbw => repeat (first | exact HB0.out.trans (HO4.out.below hg) | apply pw_below_drewN)
            rintro e w8 ⟨rfl, _, hO8⟩
            have HO8 := Aside0.mk ((show Only g w _ by repeat (first | exact HO4.out | apply Only.drewN)).trans hO8)
            clear hO8
            dsimp only at *
            go_wp2_with (fail)
            go_ret
            exact ⟨by rw [← HQ2.out]; rfl, HO8.out⟩
        · have hq2 := HQ1.out
          rw [if_neg hq1] at hq2
          have HQ2 := Aside0.mk hq2
          clear hq2
          by_cases hqs : q < s.size
          · have hr := bt_range s (q : Int)
            have hf := isB_some (bt s (q : Int)) 1 hr.1 hr.2
            have hb : isB 1 (bt s (q : Int)) = false := by
              cases hb : isB 1 (bt s (q : Int))
              · rfl
              · exact absurd ⟨hqs, hb⟩ hq1
            rw [hb] at hf
            have HF := Aside0.mk hf
            clear hf hb hr hq1
            go_wp2_with (fail)
            refine (cursor_end_b g t s q false _ ?hcu (decide_eq_false (by omega))).mono ?_
            case hcu => exact HC4.out
            rintro e w5 ⟨rfl, ⟨m5, rfl⟩⟩
            dsimp only
            go_wp2_with (fail)
            refine (cursor_next g t s q _ ?hcu hqs).mono ?_
            case hcu => exact HC4.out
            rintro e w6 ⟨rfl, ⟨m6, rfl⟩⟩
            dsimp only
            go_wp2_with (fail)
            refine (field_is.calls (bt s (q : Int)) 1 false _ HF.out (HG.out.step ?hbw (by rfl))).mono ?_
            case hbw => repeat (first | exact HB0.out.trans (HO4.out.below hg) | apply pw_below_drewN)
            rintro e w7 ⟨rfl, ⟨m7, rfl⟩⟩
            dsimp only
            go_wp2_with (fail)
            refine ⟨⟨q, f, by omega, by omega, HQ2, ⟨show Cur g t s (q) _ from HC4.out⟩, ⟨by repeat (first | exact HO4.out | apply Only.drewN)⟩⟩, ?_⟩
            rw [placeOf_cur HJ.out]
            exact Nat.lt_of_le_of_lt (Nat.le_of_eq (congrArg (fun p => s.size - p) (placeOf_cur (show Cur g t s (q) _ from HC4.out)))) (by omega)
          · have hqs2 : s.size ≤ q := by omega
            clear hq1
            go_wp2_with (fail)
            refine (cursor_end_b g t s q true _ ?hcu (decide_eq_true hqs2)).mono ?_
            case hcu => exact HC4.out
            rintro e w5 ⟨rfl, ⟨m5, rfl⟩⟩
            dsimp only
            go_wp2_with (fail)
            refine ⟨⟨q, f, by omega, by omega, HQ2, ⟨show Cur g t s (q) _ from HC4.out⟩, ⟨by repeat (first | exact HO4.out | apply Only.drewN)⟩⟩, ?_⟩
            rw [placeOf_cur HJ.out]
            exact Nat.lt_of_le_of_lt (Nat.le_of_eq (congrArg (fun p => s.size - p) (placeOf_cur (show Cur g t s (q) _ from HC4.out)))) (by omega)
      · rw [if_neg h59] at hq
        have HQ1 := Aside0.mk hq
        clear hq
        go_wp2_with (fail)
        refine (cursor_eat_no g t s p 59 _ ?hcu h59).mono ?_
        case hcu => exact HC2.out
        rintro e w3 ⟨rfl, ⟨m3, rfl⟩⟩
        dsimp only
        go_wp2_with (fail)
        go_ret
        exact ⟨by rw [← HQ1.out]; rfl, Only.drewN HO2.out _⟩
    · rw [if_pos (by omega)] at hq
      have HQ1 := Aside0.mk hq
      clear hq
      go_wp2_with (fail)
      refine (cursor_end_b g t s j true _ ?hcu (decide_eq_true (by omega))).mono ?_
      case hcu => exact HJ.out
      rintro e w1 ⟨rfl, ⟨m, rfl⟩⟩
      dsimp only
      go_wp2_with (fail)
      go_ret
      exact ⟨by rw [← HQ1.out]; rfl, Only.drewN HO.out _⟩
end Go.Proofs.YtbkhgmmlacdhoaaDoor.Q
