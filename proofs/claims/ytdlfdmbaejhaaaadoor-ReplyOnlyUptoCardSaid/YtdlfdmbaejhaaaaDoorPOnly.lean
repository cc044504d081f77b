/- ReplyOnly answers true. Conditions: what goes in has at most 1048576 bytes in all. -/
import Derived.Test.YtdlfdmbaejhaaaaDoorQ13
import Derived.Test.YtdlfdmbaejhaaaaDoorPSmall
set_option linter.unusedVariables false
set_option linter.unusedSimpArgs false
namespace Go.Proofs.YtdlfdmbaejhaaaaDoor.Q
open Go.RowKit Go.Proofs.YtdlfdmbaejhaaaaDoorW.PrintWords Go.Proofs.YtdlfdmbaejhaaaaDoorW.PrintLast Go.Proofs.YtdlfdmbaejhaaaaDoorW.PrintMore
theorem Has.ev (s sub : ByteArray) (hs : s.size ≤ 2147483648) (h1 : 1 ≤ sub.size) (h2 : sub.size ≤ 1000) : Ev (fun k => usherkit_Has.f k s sub) (decide (0 ≤ Lib.index (U s) (U sub))) := by
  have hz := size_U s
  have hzs := size_U sub
  have H := Ev.loop (F := fun k (i : Nat) => usherkit_Has.l0 k s sub (i : Int)) (r := fun i => decide (0 ≤ Lib.index ((U s).drop i) (U sub))) (fun i => i ≤ (U s).length) (fun i => (U s).length - i) (by
    intro i hi ih
    simp only [usherkit_Has.l0]
    rw [wrap64_of (x := (i : Int) + (sub.size : Int)) (by omega)]
    by_cases h : i + sub.size ≤ (U s).length
    · refine Ev.if_pos (by omega) (Ev.if_pos (by omega) (Ev.if_pos (by omega) ?_))
      have hil : i < (U s).length := by omega
      have ex : (s.extract ((i : Nat) : Int).toNat ((i : Int) + (sub.size : Int)).toNat).toList = ((U s).drop i).take (U sub).length := by
        rw [toList_U, U_extract, Int.toNat_natCast, show ((i : Int) + (sub.size : Int)).toNat = i + (U sub).length by omega, List.drop_take]
        congr 1; omega
      rw [ex, toList_U]
      have hd := List.drop_eq_getElem_cons hil
      have hpre : (U sub).isPrefixOf ((U s).drop i) = true ↔ ((U s).drop i).take (U sub).length = U sub := by
        rw [List.isPrefixOf_iff_prefix, List.prefix_iff_eq_take]
        exact eq_comm
      have hstep : Lib.index ((U s).drop i) (U sub) = if (U sub).isPrefixOf ((U s).drop i) = true then 0 else if Lib.index ((U s).drop (i + 1)) (U sub) == -1 then -1 else Lib.index ((U s).drop (i + 1)) (U sub) + 1 := by
        rw [hd]; rfl
      have hge := Lib.index_ge ((U s).drop (i + 1)) (U sub)
      by_cases hp : ((U s).drop i).take (U sub).length = U sub
      · rw [if_pos (hpre.2 hp)] at hstep
        rw [hstep]
        exact Ev.if_pos hp (Ev.now _)
      · rw [if_neg (fun e => hp (hpre.1 e))] at hstep
        refine Ev.if_neg hp ?_
        rw [wrap64_of (by omega)]
        refine Ev.eq (ih (i + 1) (by omega) (by omega)) ?_
        rw [hstep]
        by_cases hm : Lib.index ((U s).drop (i + 1)) (U sub) = -1
        · rw [hm]; rfl
        · have : (Lib.index ((U s).drop (i + 1)) (U sub) == -1) = false := by rw [beq_eq_false_iff_ne]; exact hm
          rw [this, if_neg (by simp), decide_eq_true (p := 0 ≤ Lib.index ((U s).drop (i + 1)) (U sub)) (by omega), decide_eq_true (by omega)]
    · refine Ev.if_neg (by omega) ?_
      have hr := Lib.index_room ((U s).drop i) (U sub)
      rw [List.length_drop] at hr
      exact Ev.eq (Ev.now _) (decide_eq_false (fun e => by have := hr e; omega)).symm) 0 (by omega)
  simpa [usherkit_Has.f] using H
/-- What is read is the text of that answer. -/
theorem readU_only (t : List UInt8) : (Lib.index t emptyL < 0 ∧ readU t = shortR) ∨ (0 ≤ Lib.index t emptyL ∧ (readU t = shortR ∨ readU t = textR ∨ ∃ p gs b c, Valid p gs b.length ∧ (textU p gs b c false).length ≤ t.length ∧ t.take (textU p gs b c false).length = textU p gs b c false ∧ readU t = (p.1, gs.map unP, mk b, c, ((textU p gs b c false).length : Int), none))) := by
  by_cases hn : Lib.index t emptyL < 0
  · refine .inl ⟨hn, ?_⟩
    unfold readU; rw [if_pos hn]
  · refine .inr ⟨by omega, ?_⟩
    have hroom := Lib.index_room t emptyL (by omega)
    have h4 : emptyL.length = 4 := rfl
    obtain ⟨i, hi⟩ : ∃ i : Nat, Lib.index t emptyL = i := ⟨(Lib.index t emptyL).toNat, by omega⟩
    rcases Lib.index_spec t emptyL with ⟨e, _⟩ | ⟨j, e, hj, ho, _⟩
    · omega
    · obtain rfl : j = i := by omega
      unfold readU
      rw [hi, if_neg (by omega)]
      dsimp only
      rw [Int.toNat_natCast]
      by_cases hok : (scanU (t.take j) (splitU (mk (t.take j))) (-1) 0 0 []).2.2.2.2.2 = true
      · rw [if_pos hok]
        obtain ⟨p, gs, n, c, hv, hx, hres⟩ := scan_size _ hok
        rw [hres]
        dsimp only
        by_cases hsh : (t.length : Int) - ((j : Int) + 4) < (n : Int)
        · rw [if_pos hsh]; exact .inl rfl
        · rw [if_neg hsh]
          refine .inr (.inr ⟨p, gs, (t.drop (j + 4)).take n, c, ?_, ?_⟩)
          · rw [List.length_take, List.length_drop, Nat.min_eq_left (by omega)]; exact hv
          · have hln : ((t.drop (j + 4)).take n).length = n := by rw [List.length_take, List.length_drop]; omega
            have hocc : (t.drop j).take 4 = emptyL := by
              unfold Lib.occAt at ho
              rw [List.isPrefixOf_iff_prefix, List.prefix_iff_eq_take] at ho
              exact ho.symm
            have et : t = t.take j ++ (emptyL ++ t.drop (j + 4)) := by
              have e1 : t.drop j = emptyL ++ t.drop (j + 4) := by
                rw [← hocc]
                have := (List.take_append_drop 4 (t.drop j)).symm
                rw [List.drop_drop] at this
                exact this
              rw [← e1, List.take_append_drop]
            have etx : textU p gs ((t.drop (j + 4)).take n) c false = t.take j ++ (emptyL ++ (t.drop (j + 4)).take n) := by
              unfold textU; rw [if_neg (by simp), hln, ← hx]; rfl
            have hjl : (t.take j).length = j := by rw [List.length_take]; omega
            have hlen : (textU p gs ((t.drop (j + 4)).take n) c false).length = j + 4 + n := by
              rw [etx, List.length_append, List.length_append, hln, hjl]; omega
            refine ⟨by omega, ?_, ?_⟩
            · rw [hlen, etx]
              conv => lhs; rw [et]
              rw [List.take_append, hjl, List.take_of_length_le (by omega), List.take_append, h4, List.take_of_length_le (l := emptyL) (by omega)]
              congr 3; omega
            · rw [hlen, Int.toNat_natCast]
              have : ((j : Int) + 4 + (n : Int)) = ((j + 4 + n : Nat) : Int) := by omega
              rw [this]
      · rw [if_neg hok]; exact .inr (.inl rfl)
theorem ReplyOnly_pure (x : ByteArray) (_ : x.size ≤ 140737488351232) (hbk : x.size ≤ 1048576) : ∃ k, usherlaw8_ReplyOnly.f k x = some true := by
  refine Ev.rounds (g := fun k => usherlaw8_ReplyOnly.f k x) ?_
  have hz := size_U x
  have hh : usherkit_Head.f x 1048576 = some x := by rw [Head_some x (by omega), List.take_of_length_le (by omega), mk_U]
  obtain ⟨p, hp, h200⟩ : ∃ p ∈ phrasesL, p.1 = 200 := by
    have : phrasesL.any (fun p => decide (p.1 = 200)) = true := by decide +kernel
    obtain ⟨p, hp, h⟩ := List.any_eq_true.1 this
    exact ⟨p, hp, of_decide_eq_true h⟩
  have hv : Valid p [] (U x).length := ⟨hp, by simp, rfl, by omega⟩
  have hren := Render_valid hv (by simp [bulkP]) false false
  rw [h200] at hren
  have hl := textU_len hp hv false false
  have hbz : bulkP [] = 0 := rfl
  have hms := mk_size (textU p [] (U x) false false)
  have hread := reply_Read.ev (mk (textU p [] (U x) false false)) (by omega)
  have hback := readU_back hv false []
  rw [List.append_nil] at hback
  rw [U_mk, hback, h200, mk_U] at hread
  simp only [usherlaw8_ReplyOnly.f, hh, Option.bind_some]
  refine hren.bind (hread.bind (Ev.if_pos rfl (Ev.if_pos rfl (Ev.if_pos (by trivial) ?_))))
  dsimp only
  rw [bne_self_eq_false]
  refine Ev.step (f := fun k => _) (fun k => by rw [usherlaw8_ReplyOnly.j0]) ?_
  refine Ev.if_neg (by simp) ?_
  have hR := reply_Read.ev x (by omega)
  have hE : Ev (fun k => usherlaw8_ended.f k x) (decide (0 ≤ Lib.index (U x) emptyL)) := by
    simp only [usherlaw8_ended.f]
    exact (Has.ev x (⟨#[13, 10, 13, 10]⟩ : ByteArray) (by omega) (by decide) (by decide)).bind (Ev.now _)
  have self0 := SameReply_self 0 [] (⟨#[]⟩ : ByteArray) false (by simp)
  rcases readU_only (U x) with ⟨hn, hr⟩ | ⟨hn, hr | hr | ⟨p, gs, b, c, hv, hle, htk, hr⟩⟩
  · rw [hr] at hR
    rw [decide_eq_false (by omega)] at hE
    refine hR.bind (hE.bind ?_)
    simp only [shortR]
    refine Ev.if_neg (by simp) (self0.bind ?_)
    exact Ev.at_ (fun k => by rfl)
  · rw [hr] at hR
    rw [decide_eq_true hn] at hE
    refine hR.bind (hE.bind ?_)
    simp only [shortR]
    refine Ev.if_neg (by simp) (self0.bind ?_)
    exact Ev.at_ (fun k => by rfl)
  · rw [hr] at hR
    rw [decide_eq_true hn] at hE
    refine hR.bind (hE.bind ?_)
    simp only [textR]
    refine Ev.if_neg (by simp) (self0.bind ?_)
    exact Ev.at_ (fun k => by rfl)
  · rw [hr] at hR
    rw [decide_eq_true hn] at hE
    have hbl : bulkP gs ≤ 35184372088832 := by
      have h1 : bulkP gs ≤ (joinL (headLs p gs b.length c)).length + 2 := by
        have hj := congrArg List.length (linesU_join (headLs p gs b.length c) (by simp [headLs]))
        have h2 : (linesU (headLs p gs b.length c)).length = (stU p).length + 2 + bulkP gs + (linesU (tailLs b.length c)).length := by
          show (stU p ++ (crlf ++ linesU (gs.map fieldU ++ tailLs b.length c))).length = _
          rw [linesU_app]; simp only [List.length_append, linesU_fields]; have : crlf.length = 2 := rfl; omega
        rw [List.length_append] at hj
        have : crlf.length = 2 := rfl
        omega
      have h2 : (joinL (headLs p gs b.length c)).length ≤ (textU p gs b c false).length := by unfold textU; rw [List.length_append]; omega
      omega
    have hren := Render_valid (b := mk b) (by rw [U_mk]; exact hv) hbl c false
    rw [U_mk] at hren
    refine hR.bind (hE.bind (Ev.if_pos rfl (hren.bind (Ev.if_pos rfl (Ev.if_pos rfl (Ev.if_pos ?_ (Ev.if_pos ?_ (Ev.if_pos ?_ ?_))))))))
    · rw [mk_size]
    · dsimp only; omega
    · dsimp only; omega
    · have e : x.extract 0 ((((textU p gs b c false).length : Nat) : Int)).toNat = mk (textU p gs b c false) := U_inj (by rw [U_extract, U_mk, Int.toNat_natCast, htk]; simp)
      dsimp only
      rw [e, beq_self_eq_true]
      exact Ev.now _
end Go.Proofs.YtdlfdmbaejhaaaaDoor.Q
