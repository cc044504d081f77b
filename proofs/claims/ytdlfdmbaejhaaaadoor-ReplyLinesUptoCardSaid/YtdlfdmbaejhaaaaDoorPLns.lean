/- ReplyLines answers true. Conditions: what goes in has at most 1048576 bytes in all. -/
import Derived.Test.YtdlfdmbaejhaaaaDoorQ18
import Derived.Test.YtdlfdmbaejhaaaaDoorPCore
import Derived.Test.YtdlfdmbaejhaaaaDoorPHd
import Derived.Test.YtdlfdmbaejhaaaaDoorPOwn
set_option linter.unusedVariables false
set_option linter.unusedSimpArgs false
namespace Go.Proofs.YtdlfdmbaejhaaaaDoor.Q
open Go.RowKit Go.Proofs.YtdlfdmbaejhaaaaDoorW.PrintWords Go.Proofs.YtdlfdmbaejhaaaaDoorW.PrintLast Go.Proofs.YtdlfdmbaejhaaaaDoorW.PrintMore
theorem lineEnds.ev (s : ByteArray) (hs : s.size ≤ 1099511627776) : Ev (fun k => usherlaw8_lineEnds.f k s) ((((U s).count 10 : Nat) : Int), (((U s).count 13 : Nat) : Int)) := by
  have hz := size_U s
  have H : ∀ (d i a b : Nat), i + d = (U s).length → a ≤ i → b ≤ i → Ev (fun k => usherlaw8_lineEnds.l0 k s (a : Int) (b : Int) (i : Int)) (((a + ((U s).drop i).count 10 : Nat) : Int), ((b + ((U s).drop i).count 13 : Nat) : Int)) := by
    intro d
    induction d with
    | zero =>
      intro i a b hi _ _
      refine Ev.step (f := fun k => some ((a : Int), (b : Int))) (fun k => by rw [usherlaw8_lineEnds.l0, if_neg (by omega)]) ?_
      rw [List.drop_eq_nil_of_le (by omega)]
      exact Ev.now _
    | succ d ih =>
      intro i a b hi ha hb
      have hlt : i < (U s).length := by omega
      rw [drop_get _ hlt]
      refine Ev.step (fun k => rfl) ?_
      simp only [usherlaw8_lineEnds.l0]
      refine Ev.if_pos (by omega) (Ev.if_pos (by omega) ?_)
      simp only [bt_U s i hlt]
      generalize (U s)[i] = x at *
      have wi : wrap64 ((i : Int) + 1) = ((i + 1 : Nat) : Int) := by rw [wrap64_of (by omega)]; omega
      have wa : wrap64 ((a : Int) + 1) = ((a + 1 : Nat) : Int) := by rw [wrap64_of (by clear wi; omega)]; clear wi; omega
      have wb : wrap64 ((b : Int) + 1) = ((b + 1 : Nat) : Int) := by rw [wrap64_of (by clear wi wa; omega)]; clear wi wa; omega
      rw [wi, wa, wb]
      clear wi wa wb
      have hx : ∀ c : UInt8, ((x.toNat : Int) = (c.toNat : Int)) ↔ x = c := fun c => ⟨fun h => UInt8.toNat_inj.1 (by omega), fun h => by rw [h]⟩
      by_cases h10 : x = 10
      · subst h10
        refine Ev.if_pos (by decide) (Ev.if_neg (by decide) ?_)
        refine Ev.eq (ih (i + 1) (a + 1) b (by omega) (by omega) (by omega)) ?_
        rw [List.count_cons_self, List.count_cons_of_ne (by decide)]
        congr 2; omega
      · refine Ev.if_neg (fun h => h10 ((hx 10).1 h)) ?_
        by_cases h13 : x = 13
        · subst h13
          refine Ev.if_pos (by decide) ?_
          refine Ev.eq (ih (i + 1) a (b + 1) (by omega) (by omega) (by omega)) ?_
          rw [List.count_cons_self, List.count_cons_of_ne (by decide)]
          congr 2; omega
        · refine Ev.if_neg (fun h => h13 ((hx 13).1 h)) ?_
          refine Ev.eq (ih (i + 1) a b (by omega) (by omega) (by omega)) ?_
          rw [List.count_cons_of_ne h10, List.count_cons_of_ne h13]
  have := H (U s).length 0 0 0 (by omega) (by omega) (by omega)
  simp only [Nat.zero_add, List.drop_zero] at this
  simp only [usherlaw8_lineEnds.f]
  exact this
theorem joinL_count (c : UInt8) (hc : crlf.count c = 1) : ∀ ls : List (List UInt8), ls ≠ [] → (∀ l ∈ ls, c ∉ l) → (joinL ls).count c + 1 = ls.length := by
  intro ls
  induction ls with
  | nil => intro h; exact absurd rfl h
  | cons a ls ih =>
    intro _ h
    have ha : a.count c = 0 := List.count_eq_zero.2 (h a List.mem_cons_self)
    cases ls with
    | nil => show a.count c + 1 = 1; rw [ha]
    | cons b ls =>
      have := ih (by simp) (fun l hl => h l (List.mem_cons_of_mem _ hl))
      rw [joinL_cons a (b :: ls) (by simp), List.count_append, List.count_append, ha, hc]
      simp only [List.length_cons] at this ⊢
      omega
theorem stU_no10 : ∀ p ∈ phrasesL, (10 : UInt8) ∉ stU p := by decide +kernel
theorem head_no10 {p : Int × List UInt8} {fs : List PU} {n : Nat} (h : Valid p fs n) (c : Bool) : ∀ l ∈ headLs p fs n c, (10 : UInt8) ∉ l := by
  intro l hl
  unfold headLs at hl
  rcases List.mem_cons.1 hl with rfl | hl
  · exact stU_no10 p h.phr
  · rcases List.mem_append.1 hl with hl | hl
    · obtain ⟨q, hq, rfl⟩ := List.mem_map.1 hl
      have h2 := mayP_of (List.all_eq_true.1 h.may q hq)
      have ht := tokU_bytes h2.1
      have hv := valU_bytes h2.2
      intro hb
      unfold fieldU at hb
      simp only [List.mem_append, List.mem_cons, List.not_mem_nil, or_false] at hb
      rcases hb with hb | (hb | hb) | hb
      · exact (ht.2 _ hb).2.1 rfl
      · exact absurd hb (by decide)
      · exact absurd hb (by decide)
      · exact (hv _ hb).2 rfl
    · simp only [tailLs, List.mem_cons, List.not_mem_nil, or_false] at hl
      rcases hl with rfl | rfl
      · intro hb
        rw [List.mem_append] at hb
        rcases hb with hb | hb
        · revert hb; decide
        · rw [itoa_nat] at hb
          have := List.all_eq_true.1 (dec_props n).1 _ hb
          exact absurd this (by decide)
      · cases c <;> decide
theorem stat_eq : ∀ i : Fin 17, usherlaw8_statuses.c0 ((i.val : Nat) : Int) = reply_phrases.c0 ((i.val : Nat) : Int) := by decide +kernel
theorem mayBe_l1.ev (kn : Bool) (s : Int) (fs : List S26) (b : ByteArray) (c : Bool) (hf : fs.length < 4398046511104) (hx : ∀ x ∈ fs, x.f0.size ≤ 1099511627776 ∧ x.f1.size ≤ 1099511627776) :
    Ev (fun k => usherlaw8_mayBe.l1 k kn 0 s fs b c) (kn && (fs.map pU).all mayP) := by
  have H : ∀ (d i : Nat), i + d = fs.length → Ev (fun k => usherlaw8_mayBe.l1 k kn (i : Int) s fs b c) (kn && ((fs.drop i).map pU).all mayP) := by
    intro d
    induction d with
    | zero =>
      intro i hi
      refine Ev.step (f := fun k => some kn) (fun k => by rw [usherlaw8_mayBe.l1, if_neg (by omega)]) ?_
      rw [List.drop_eq_nil_of_le (by omega)]
      simpa using Ev.now _
    | succ d ih =>
      intro i hi
      have hlt : i < fs.length := by omega
      have hm := hx _ (List.getElem_mem hlt)
      have hrd : rd_T26 fs (i : Int) = fs[i] := by simp [rd_T26, rdOf, hlt]
      refine Ev.step (fun k => rfl) ?_
      simp only [usherlaw8_mayBe.l1, hrd]
      refine Ev.if_pos (by omega) (Ev.if_pos (by omega) ?_)
      rw [List.drop_eq_getElem_cons hlt, List.map_cons, List.all_cons]
      have hT := field_Token.ev fs[i].f0 (by omega)
      have hV := field_Value.ev fs[i].f1 (by omega)
      have hO := own.ev fs[i].f0 (by omega)
      rw [tok_U] at hT
      rw [val_U] at hV
      have hn := ih (i + 1) (by omega)
      rw [wrap64_of (by omega), show (i : Int) + 1 = ((i + 1 : Nat) : Int) by omega]
      refine hT.bind (hV.bind (hO.bind ?_))
      have e : mayP (pU fs[i]) = (tokU (U fs[i].f0) && valU (U fs[i].f1) && !ownB (U fs[i].f0)) := rfl
      rw [e]
      cases tokU (U fs[i].f0)
      · refine Ev.if_neg (by simp) ?_
        simpa using Ev.now false
      · refine Ev.if_pos rfl ?_
        cases valU (U fs[i].f1)
        · refine Ev.if_neg (by simp) ?_
          simpa using Ev.now false
        · refine Ev.if_pos rfl ?_
          cases ownB (U fs[i].f0)
          · refine Ev.if_neg (by simp) ?_
            simpa using hn
          · refine Ev.if_pos rfl ?_
            simpa using Ev.now false
  have := H fs.length 0 (by omega)
  simpa using this
theorem mayBe.ev (s : Int) (fs : List S26) (b : ByteArray) (c : Bool) (hf : fs.length < 4398046511104) (hx : ∀ x ∈ fs, x.f0.size ≤ 1099511627776 ∧ x.f1.size ≤ 1099511627776) :
    Ev (fun k => usherlaw8_mayBe.f k s fs b c) ((phrOf phrasesL s).isSome && (fs.map pU).all mayP) := by
  have H : ∀ (d i : Nat) (kn : Bool), i + d = 17 → Ev (fun k => usherlaw8_mayBe.l0 k kn (i : Int) s fs b c) ((kn || (phrOf (phrasesL.drop i) s).isSome) && (fs.map pU).all mayP) := by
    intro d
    induction d with
    | zero =>
      intro i kn hi
      refine Ev.step (f := fun k => usherlaw8_mayBe.l1 k kn 0 s fs b c) (fun k => by rw [usherlaw8_mayBe.l0, if_neg (by omega)]) ?_
      have e : phrasesL.drop i = [] := List.drop_eq_nil_of_le (by rw [phr_len]; omega)
      rw [e]
      simpa [phrOf] using mayBe_l1.ev kn s fs b c hf hx
    | succ d ih =>
      intro i kn hi
      obtain ⟨p, hd, _, hc0, _⟩ := phr_at i (by omega)
      have hs := stat_eq ⟨i, by omega⟩
      simp only at hs
      refine Ev.step (fun k => rfl) ?_
      simp only [usherlaw8_mayBe.l0, hs, hc0]
      refine Ev.if_pos (by omega) (Ev.if_pos (by omega) ?_)
      rw [wrap64_of (by omega), show (i : Int) + 1 = ((i + 1 : Nat) : Int) by omega, hd]
      have e : phrOf (p :: phrasesL.drop (i + 1)) s = if p.1 = s then some p else phrOf (phrasesL.drop (i + 1)) s := rfl
      rw [e]
      by_cases h : p.1 = s
      · rw [if_pos h]
        refine Ev.if_pos h (Ev.eq (ih (i + 1) true (by omega)) ?_)
        simp
      · rw [if_neg h]
        exact Ev.if_neg h (ih (i + 1) kn (by omega))
  have := H 17 0 false (by omega)
  simp only [usherlaw8_mayBe.f]
  exact Ev.eq this (by simp)
theorem ReplyLines_pure (s : Int) (fs : List S26) (b : ByteArray) (c : Bool)
    (_ : (Lit.int .i64 s).wf = true) (hf : fs.length * 32 ≤ 140737488351232 ∧ ∀ x ∈ fs, x.f0.size ≤ 140737488351232 ∧ x.f1.size ≤ 140737488351232) (_ : b.size ≤ 140737488351232)
    (hbk : 0 + ((fs.map fun x => x.f0.size + x.f1.size).sum + (b.size + 0)) ≤ 1048576) : ∃ k, usherlaw8_ReplyLines.f k s fs b c = some true := by
  refine Ev.rounds (g := fun k => usherlaw8_ReplyLines.f k s fs b c) ?_
  have hl := hf.1
  have hx : ∀ x ∈ fs, x.f0.size ≤ 1099511627776 ∧ x.f1.size ≤ 1099511627776 := fun x hx => by have := bulk_mem hx; omega
  have hbu := bulk_of fs
  have hlm : (fs.map pU).length = fs.length := List.length_map ..
  have hmb := mayBe.ev s fs (mk ((U b).take 1048576)) c (by omega) hx
  have hR := reply_Render.ev s fs (mk ((U b).take 1048576)) c true (by omega)
  rw [U_mk] at hR
  have htk : ((U b).take 1048576).length ≤ 1048576 := by rw [List.length_take]; omega
  simp only [usherlaw8_ReplyLines.f, Head_some b (by omega), Option.bind_some]
  refine hR.bind ?_
  by_cases h64 : 64 < fs.length
  · have hr : renderU s (fs.map pU) ((U b).take 1048576) c true = ([], some 3) := by unfold renderU; rw [if_pos (by omega)]
    rw [hr]
    exact Ev.if_pos (by omega) (Ev.if_pos (by dsimp only; rw [toList_U, U_mk]) (Ev.now _))
  · refine Ev.if_neg (by omega) (hmb.bind ?_)
    cases hp : phrOf phrasesL s with
    | none =>
      have hr : renderU s (fs.map pU) ((U b).take 1048576) c true = ([], some 1) := by unfold renderU; rw [if_neg (by omega), hp]
      rw [hr]
      exact Ev.if_neg (by simp) (Ev.if_pos (by dsimp only; rw [toList_U, U_mk]) (Ev.now _))
    | some p =>
      cases hm : (fs.map pU).all mayP with
      | false =>
        have hr : renderU s (fs.map pU) ((U b).take 1048576) c true = ([], some 1) := by
          unfold renderU; rw [if_neg (by omega), hp]; dsimp only; rw [hm]; rfl
        rw [hr]
        exact Ev.if_neg (by simp) (Ev.if_pos (by dsimp only; rw [toList_U, U_mk]) (Ev.now _))
      | true =>
        have hr : renderU s (fs.map pU) ((U b).take 1048576) c true = (textU p (fs.map pU) ((U b).take 1048576) c true, none) := by
          unfold renderU; rw [if_neg (by omega), hp]; dsimp only; rw [hm]; rfl
        rw [hr]
        have hpm := phrOf_mem phrasesL s p hp
        have hv : Valid p (fs.map pU) ((U b).take 1048576).length := ⟨hpm.1, by omega, hm, htk⟩
        have hL := textU_len hpm.1 hv c true
        have hms := mk_size (textU p (fs.map pU) ((U b).take 1048576) c true)
        have hE := lineEnds.ev (mk (textU p (fs.map pU) ((U b).take 1048576) c true)) (by omega)
        rw [U_mk] at hE
        have hh := head_lines hv c
        have hlen : (headLs p (fs.map pU) ((U b).take 1048576).length c).length = fs.length + 3 := by
          unfold headLs tailLs
          rw [List.length_cons, List.length_append, List.length_map, hlm]; rfl
        have c10 := joinL_count 10 rfl _ hh.1 (head_no10 hv c)
        have c13 := joinL_count 13 rfl _ hh.1 (fun l hl hb => hh.2.1 l hl 13 hb rfl)
        have t10 : (textU p (fs.map pU) ((U b).take 1048576) c true).count 10 = fs.length + 4 := by
          unfold textU
          rw [if_pos rfl, List.count_append, List.append_nil]
          have : ([13, 10, 13, 10] : List UInt8).count 10 = 2 := by decide
          omega
        have t13 : (textU p (fs.map pU) ((U b).take 1048576) c true).count 13 = fs.length + 4 := by
          unfold textU
          rw [if_pos rfl, List.count_append, List.append_nil]
          have : ([13, 10, 13, 10] : List UInt8).count 13 = 2 := by decide
          omega
        rw [t10, t13] at hE
        refine Ev.if_pos (by simp) (hE.bind ?_)
        refine Ev.if_pos rfl (Ev.if_pos (by rw [wrap64_of (by omega)]; omega) ?_)
        simpa using Ev.now true
end Go.Proofs.YtdlfdmbaejhaaaaDoor.Q
