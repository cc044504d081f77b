/- The calls of field's media: quoted, parameter, parameters. Conditions: the text has at most 140737488351232 bytes, the place is in it. -/
import Derived.Test.YtbkhgmmlacdhoaaDoorCursor
set_option linter.unusedVariables false
set_option linter.unusedSimpArgs false
namespace Go.Proofs.YtbkhgmmlacdhoaaDoor.Q
open Go.RowKit Go.Proofs.YtbkhgmmlacdhoaaDoorW.PrintWords Go.Proofs.YtbkhgmmlacdhoaaDoorW.PrintLast Go.Proofs.YtbkhgmmlacdhoaaDoorW.PrintMore
theorem cursor_end_b (g : Nat) (t : TypeId) (s : ByteArray) (i : Nat) (b : Bool) (w : World) (h : Cur g t s i w) (hb : decide (s.size ≤ i) = b) :
    Calls Tryd.prog 95 #[.pointer (some ⟨g, 0, none⟩)] w fun e w' => e = .returned (.bool b) ∧ Drawn0 w w' := by
  subst hb; exact cursor_end g t s i w h
/-- Behind a first quote: does the text go on as a quoted one, and how many bytes belong to it. -/
def quotedL : List Int → Bool × Nat
  | [] => (false, 0)
  | [c] => if c = 34 then (true, 1) else (false, 1)
  | c :: d :: r => if c = 34 then (true, 1) else if c = 92 then (if isB 4 d = true then ((quotedL r).1, (quotedL r).2 + 2) else (false, 1)) else if isB 4 c = true then ((quotedL (d :: r)).1, (quotedL (d :: r)).2 + 1) else (false, 1)
theorem quotedL_quote (r : List Int) : quotedL (34 :: r) = (true, 1) := by
  cases r <;> simp [quotedL]
theorem quotedL_slash_end : quotedL [92] = (false, 1) := by simp [quotedL]
theorem quotedL_slash_no (d : Int) (r : List Int) (h : isB 4 d = false) : quotedL (92 :: d :: r) = (false, 1) := by simp [quotedL, h]
theorem quotedL_slash_yes (d : Int) (r : List Int) (h : isB 4 d = true) : quotedL (92 :: d :: r) = ((quotedL r).1, (quotedL r).2 + 2) := by simp [quotedL, h]
theorem quotedL_no (c : Int) (r : List Int) (h1 : c ≠ 34) (h2 : c ≠ 92) (h : isB 4 c = false) : (quotedL (c :: r)).1 = false := by
  cases r <;> simp [quotedL, h1, h2, h]
theorem quotedL_yes (c : Int) (r : List Int) (h1 : c ≠ 34) (h2 : c ≠ 92) (h : isB 4 c = true) : quotedL (c :: r) = ((quotedL r).1, (quotedL r).2 + 1) := by
  cases r <;> simp [quotedL, h1, h2, h]

set_option maxHeartbeats 8000000 in
set_option maxRecDepth 100000 in
theorem media_quoted [Sent] (g : Nat) (t : TypeId) (s : ByteArray) (i : Nat) (w : World) (h : Cur g t s i w) (hs : s.size ≤ 140737488351232) (hi : i ≤ s.size) (w0 : World) (hG : Glob [8] w0) (hB0 : Below w0.heap.size w0 w) (hg : w0.heap.size ≤ g) :
    Calls Tryd.prog 112 #[.pointer (some ⟨g, 0, none⟩)] w fun e w' => e = .returned (.bool (quotedL ((bytesOf s).drop i)).1) ∧ ((quotedL ((bytesOf s).drop i)).1 = true → Cur g t s (i + (quotedL ((bytesOf s).drop i)).2) w' ∧ i + (quotedL ((bytesOf s).drop i)).2 ≤ s.size) ∧ Only g w w' := by
  have HC := Aside0.mk h
  have HG := Aside0.mk hG
  have HB0 := Aside0.mk hB0
  clear h hG hB0
  generalize hq0 : quotedL ((bytesOf s).drop i) = q0
  have HQ0 := Aside0.mk hq0
  clear hq0
  go_enter Tryd.func112, Tryd.ntmps112
  go_wp2
  go_loopw [] (fun wr => ∃ j : Nat, i ≤ j ∧ j ≤ s.size ∧ Aside0 ((quotedL ((bytesOf s).drop j)).1 = q0.1 ∧ j + (quotedL ((bytesOf s).drop j)).2 = i + q0.2) ∧ Aside0 (Cur g t s j wr) ∧ Aside0 (Only g w wr)) (fun wr => s.size - placeOf g wr)
  case atStart => exact ⟨i, Nat.le_refl _, hi, ⟨by rw [HQ0.out]; exact ⟨rfl, rfl⟩⟩, HC, ⟨Only.refl _ _⟩⟩
  case round =>
    obtain ⟨j, hij, hj, HQ, HJ, HO⟩ := hrel
    have d0 := HJ.out.c0
    have d1 := HJ.out.c1
    have fz := HJ.out.fz
    by_cases hlt : j < s.size
    · have hd0 : decide (s.size ≤ j) = false := decide_eq_false (by omega)
      have hr := bt_range s (j : Int)
      have hdrop := drop_cons (bytesOf s) j 0 (by rw [bytesOf_length]; exact hlt)
      rw [← bt_nat] at hdrop
      have HD := Aside0.mk hdrop
      clear hdrop
      have HK := Aside0.mk (cursor_next g t s j)
      have HE := Aside0.mk (cursor_end_b g t s)
      have HS := Aside0.mk (fun n => Cur.set (show Cur g t s j (wr.drewN n) from HJ.out) (j + 1))
      generalize hcc : bt s (j : Int) = c at *
      by_cases h34 : c = 34
      · subst h34
        go_wp2_with (first | (go_at_call 95; refine (HE.out j false _ ?hcu hd0).mono ?_; (case hcu => exact HJ.out); rintro e w' ⟨rfl, ⟨m, rfl⟩⟩) | (go_at_call 96; refine (HK.out _ ?hcu hlt).mono ?_; (case hcu => exact HJ.out); rintro e w' ⟨rfl, ⟨m2, rfl⟩⟩))
        go_ret
        have hq := HQ.out
        rw [HD.out, quotedL_quote] at hq
        have hq1 : q0.1 = true := hq.1.symm
        have hq2 : i + q0.2 = j + 1 := hq.2.symm
        refine ⟨by rw [hq1]; rfl, fun _ => ⟨?_, by omega⟩, ?_⟩
        · rw [hq2]
          exact HS.out _
        · repeat (first | exact Only.set (Only.drewN HO.out _) _ | apply Only.drewN | apply Only.set)
      · have n34 : (c == 34) = false := beq_false_of_ne h34
        by_cases h92 : c = 92
        · subst h92
          by_cases hlt2 : j + 1 < s.size
          · have hd1 : decide (s.size ≤ j + 1) = false := decide_eq_false (by omega)
            have hr2 := bt_range s ((j + 1 : Nat) : Int)
            have hdrop2 := drop_cons (bytesOf s) (j + 1) 0 (by rw [bytesOf_length]; exact hlt2)
            rw [← bt_nat] at hdrop2
            have HD2 := Aside0.mk hdrop2
            clear hdrop2
            have HK2 := Aside0.mk (cursor_next g t s (j + 1))
            have hf := isB_some (bt s ((j + 1 : Nat) : Int)) 4 hr2.1 hr2.2
            have HI := Aside0.mk (fun W (hb : Below w0.heap.size w0 W) => field_is.calls (bt s ((j + 1 : Nat) : Int)) 4 _ W hf (HG.out.step hb (by rfl)))
            clear hf
            generalize hcc2 : bt s ((j + 1 : Nat) : Int) = d at *
            cases hb : isB 4 d with
            | false =>
              rw [hb] at HI
              go_wp2_with (first | (go_at_call 95; refine (HE.out j false _ ?hcu hd0).mono ?_; (case hcu => exact HJ.out); rintro e w' ⟨rfl, ⟨m, rfl⟩⟩) | (go_at_call 96; refine (HK.out _ ?hcu hlt).mono ?_; (case hcu => exact HJ.out); rintro e w' ⟨rfl, ⟨m2, rfl⟩⟩) | (go_at_call 95; refine (HE.out (j + 1) false _ ?hcu hd1).mono ?_; (case hcu => exact HS.out _); rintro e w' ⟨rfl, ⟨m3, rfl⟩⟩) | (go_at_call 96; refine (HK2.out _ ?hcu hlt2).mono ?_; (case hcu => exact HS.out _); rintro e w' ⟨rfl, ⟨m4, rfl⟩⟩) | (go_at_call 49; refine (HI.out _ ?hbw).mono ?_; (case hbw => repeat (first | exact HB0.out.trans ((Only.set (Only.drewN HO.out _) _).below hg) | apply pw_below_drewN)); rintro e w' ⟨rfl, ⟨m5, rfl⟩⟩))
              go_ret
              have hq := HQ.out
              rw [HD.out, HD2.out, quotedL_slash_no d _ hb] at hq
              have hq1 : q0.1 = false := hq.1.symm
              refine ⟨by rw [hq1]; rfl, fun h => ?_, ?_⟩
              · rw [hq1] at h; cases h
              · repeat (first | exact Only.set (Only.drewN HO.out _) _ | apply Only.drewN | apply Only.set)
            | true =>
              rw [hb] at HI
              go_wp2_with (first | (go_at_call 95; refine (HE.out j false _ ?hcu hd0).mono ?_; (case hcu => exact HJ.out); rintro e w' ⟨rfl, ⟨m, rfl⟩⟩) | (go_at_call 96; refine (HK.out _ ?hcu hlt).mono ?_; (case hcu => exact HJ.out); rintro e w' ⟨rfl, ⟨m2, rfl⟩⟩) | (go_at_call 95; refine (HE.out (j + 1) false _ ?hcu hd1).mono ?_; (case hcu => exact HS.out _); rintro e w' ⟨rfl, ⟨m3, rfl⟩⟩) | (go_at_call 96; refine (HK2.out _ ?hcu hlt2).mono ?_; (case hcu => exact HS.out _); rintro e w' ⟨rfl, ⟨m4, rfl⟩⟩) | (go_at_call 49; refine (HI.out _ ?hbw).mono ?_; (case hbw => repeat (first | exact HB0.out.trans ((Only.set (Only.drewN HO.out _) _).below hg) | apply pw_below_drewN)); rintro e w' ⟨rfl, ⟨m5, rfl⟩⟩))
              have hq := HQ.out
              rw [HD.out, HD2.out, quotedL_slash_yes d _ hb] at hq
              refine ⟨⟨j + 1 + 1, by omega, by omega, ⟨hq.1, by have := hq.2; dsimp only at this; omega⟩, ⟨Cur.set (show Cur g t s (j + 1) _ from HS.out _) (j + 1 + 1)⟩, ⟨by repeat (first | exact Only.set (Only.drewN HO.out _) _ | apply Only.drewN | apply Only.set)⟩⟩, ?_⟩
              rw [placeOf_cur HJ.out]
              exact Nat.lt_of_le_of_lt (Nat.le_of_eq (congrArg (fun p => s.size - p) (placeOf_cur (show Cur g t s (j + 1 + 1) _ from Cur.set (show Cur g t s (j + 1) _ from HS.out _) (j + 1 + 1))))) (by omega)
          · have hd1 : decide (s.size ≤ j + 1) = true := decide_eq_true (by omega)
            go_wp2_with (first | (go_at_call 95; refine (HE.out j false _ ?hcu hd0).mono ?_; (case hcu => exact HJ.out); rintro e w' ⟨rfl, ⟨m, rfl⟩⟩) | (go_at_call 96; refine (HK.out _ ?hcu hlt).mono ?_; (case hcu => exact HJ.out); rintro e w' ⟨rfl, ⟨m2, rfl⟩⟩) | (go_at_call 95; refine (HE.out (j + 1) true _ ?hcu hd1).mono ?_; (case hcu => exact HS.out _); rintro e w' ⟨rfl, ⟨m3, rfl⟩⟩))
            go_ret
            have hq := HQ.out
            rw [HD.out, List.drop_eq_nil_of_le (by rw [bytesOf_length]; omega), quotedL_slash_end] at hq
            have hq1 : q0.1 = false := hq.1.symm
            refine ⟨by rw [hq1]; rfl, fun h => ?_, ?_⟩
            · rw [hq1] at h; cases h
            · repeat (first | exact Only.set (Only.drewN HO.out _) _ | apply Only.drewN | apply Only.set)
        · have n92 : (c == 92) = false := beq_false_of_ne h92
          have hf := isB_some c 4 hr.1 hr.2
          have HI := Aside0.mk (fun W (hb : Below w0.heap.size w0 W) => field_is.calls c 4 _ W hf (HG.out.step hb (by rfl)))
          clear hf
          cases hb : isB 4 c with
          | false =>
            rw [hb] at HI
            go_wp2_with (first | (go_at_call 95; refine (HE.out j false _ ?hcu hd0).mono ?_; (case hcu => exact HJ.out); rintro e w' ⟨rfl, ⟨m, rfl⟩⟩) | (go_at_call 96; refine (HK.out _ ?hcu hlt).mono ?_; (case hcu => exact HJ.out); rintro e w' ⟨rfl, ⟨m2, rfl⟩⟩) | (go_at_call 49; refine (HI.out _ ?hbw).mono ?_; (case hbw => repeat (first | exact HB0.out.trans ((Only.set (Only.drewN HO.out _) _).below hg) | apply pw_below_drewN)); rintro e w' ⟨rfl, ⟨m5, rfl⟩⟩))
            go_ret
            have hq := HQ.out
            rw [HD.out] at hq
            have hq1 : q0.1 = false := hq.1.symm.trans (quotedL_no c _ h34 h92 hb)
            refine ⟨by rw [hq1]; rfl, fun h => ?_, ?_⟩
            · rw [hq1] at h; cases h
            · repeat (first | exact Only.set (Only.drewN HO.out _) _ | apply Only.drewN | apply Only.set)
          | true =>
            rw [hb] at HI
            go_wp2_with (first | (go_at_call 95; refine (HE.out j false _ ?hcu hd0).mono ?_; (case hcu => exact HJ.out); rintro e w' ⟨rfl, ⟨m, rfl⟩⟩) | (go_at_call 96; refine (HK.out _ ?hcu hlt).mono ?_; (case hcu => exact HJ.out); rintro e w' ⟨rfl, ⟨m2, rfl⟩⟩) | (go_at_call 49; refine (HI.out _ ?hbw).mono ?_; (case hbw => repeat (first | exact HB0.out.trans ((Only.set (Only.drewN HO.out _) _).below hg) | apply pw_below_drewN)); rintro e w' ⟨rfl, ⟨m5, rfl⟩⟩))
            have hq := HQ.out
            rw [HD.out, quotedL_yes c _ h34 h92 hb] at hq
            refine ⟨⟨j + 1, by omega, by omega, ⟨hq.1, by have := hq.2; dsimp only at this; omega⟩, ⟨show Cur g t s (j + 1) _ from HS.out _⟩, ⟨by repeat (first | exact Only.set (Only.drewN HO.out _) _ | apply Only.drewN | apply Only.set)⟩⟩, ?_⟩
            rw [placeOf_cur HJ.out]
            exact Nat.lt_of_le_of_lt (Nat.le_of_eq (congrArg (fun p => s.size - p) (placeOf_cur (show Cur g t s (j + 1) _ from HS.out _)))) (by omega)
    · have hd0 : decide (s.size ≤ j) = true := decide_eq_true (by omega)
      have HE := Aside0.mk (cursor_end_b g t s)
      go_wp2_with (first | (go_at_call 95; refine (HE.out j true _ ?hcu hd0).mono ?_; (case hcu => exact HJ.out); rintro e w' ⟨rfl, ⟨m, rfl⟩⟩))
      go_ret
      have hq := HQ.out
      rw [List.drop_eq_nil_of_le (by rw [bytesOf_length]; omega)] at hq
      have hq1 : q0.1 = false := hq.1.symm
      refine ⟨by rw [hq1]; rfl, fun h => ?_, ?_⟩
      · rw [hq1] at h; cases h
      · repeat (first | exact HO.out | apply Only.drewN)
end Go.Proofs.YtbkhgmmlacdhoaaDoor.Q
