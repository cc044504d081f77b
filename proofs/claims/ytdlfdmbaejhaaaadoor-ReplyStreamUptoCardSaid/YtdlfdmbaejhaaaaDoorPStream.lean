/- ReplyStream answers true. Conditions: what goes in has at most 1048576 bytes in all. -/
import Derived.Test.YtdlfdmbaejhaaaaDoorQ14
import Derived.Test.YtdlfdmbaejhaaaaDoorPSmall
set_option linter.unusedVariables false
set_option linter.unusedSimpArgs false
namespace Go.Proofs.YtdlfdmbaejhaaaaDoor.Q
open Go.RowKit Go.Proofs.YtdlfdmbaejhaaaaDoorW.PrintWords Go.Proofs.YtdlfdmbaejhaaaaDoorW.PrintLast Go.Proofs.YtdlfdmbaejhaaaaDoorW.PrintMore
/-- An answer that may be, small enough to be written. -/
def Fine (q : S24) : Prop := ∃ p gs, p ∈ phrasesL ∧ Valid p gs (U q.f2).length ∧ bulkP gs ≤ 1048896 ∧ q.f0 = p.1 ∧ q.f1 = gs.map unP
/-- The text that is written of it. -/
noncomputable def wireOf (q : S24) : List UInt8 := (renderU q.f0 (q.f1.map pU) (U q.f2) q.f3 false).1
theorem Fine.wire {q : S24} {p : Int × List UInt8} {gs : List PU} (hp : p ∈ phrasesL) (hv : Valid p gs (U q.f2).length) (e0 : q.f0 = p.1) (e1 : q.f1 = gs.map unP) : wireOf q = textU p gs (U q.f2) q.f3 false := by
  unfold wireOf
  rw [e0, e1, map_unP, renderU_valid hv]
theorem Fine.render {q : S24} (h : Fine q) : Ev (fun k => reply_Render.f k q.f0 q.f1 q.f2 q.f3 false) (mk (wireOf q), none) := by
  obtain ⟨p, gs, hp, hv, hz, e0, e1⟩ := h
  rw [Fine.wire hp hv e0 e1, e0, e1]
  exact Render_valid hv (by omega) q.f3 false
theorem Fine.len {q : S24} (h : Fine q) : 4 ≤ (wireOf q).length ∧ (wireOf q).length ≤ 3000000 := by
  obtain ⟨p, gs, hp, hv, hz, e0, e1⟩ := h
  rw [Fine.wire hp hv e0 e1]
  have h1 := textU_len hp hv q.f3 false
  have h2 := hv.big
  refine ⟨?_, by omega⟩
  unfold textU; rw [List.length_append, List.length_append]; simp only [List.length_cons, List.length_nil]; omega
theorem Fine.read {q : S24} (h : Fine q) (r : List UInt8) (hr : r.length ≤ 2000000000) : Ev (fun k => reply_Read.f k (mk (wireOf q ++ r))) (q.f0, q.f1, q.f2, q.f3, ((wireOf q).length : Int), none) := by
  have hl := h.len
  obtain ⟨p, gs, hp, hv, hz, e0, e1⟩ := h
  have hR := reply_Read.ev (mk (wireOf q ++ r)) (by rw [mk_size, List.length_append]; omega)
  rw [Fine.wire hp hv e0 e1] at *
  rw [U_mk, readU_back hv, mk_U] at hR
  rw [e0, e1]
  exact hR
theorem Fine.cnt {q : S24} (h : Fine q) : q.f1.length ≤ 64 := by
  obtain ⟨p, gs, hp, hv, hz, e0, e1⟩ := h
  rw [e1, List.length_map]; exact hv.cnt
noncomputable def wires (qs : List S24) : List UInt8 := (qs.map wireOf).flatten
theorem rdR (l : List S24) (i : Nat) (h : i < l.length) : rd_T24 l (i : Int) = l[i] := by unfold rd_T24; simp [List.getD_eq_getElem?_getD, List.getElem?_eq_getElem h]
theorem stream_l2.ev (qs : List S24) (hq : ∀ q ∈ qs, Fine q) (hl : qs.length ≤ 4611686018427387904) (hw : (wires qs).length ≤ 16777216) : Ev (fun k => usherlaw8_ReplyStream.l2 k (mk (wires qs)) qs 0) true := by
  have H := Ev.loop (F := fun k (i : Nat) => usherlaw8_ReplyStream.l2 k (mk (wires (qs.drop i))) qs (i : Int)) (r := fun _ => true) (fun i => i ≤ qs.length ∧ (wires (qs.drop i)).length ≤ 16777216) (fun i => qs.length - i) (by
    rintro i ⟨hi, hwi⟩ ih
    simp only [usherlaw8_ReplyStream.l2]
    by_cases h : i < qs.length
    · have hd : qs.drop i = qs[i] :: qs.drop (i + 1) := List.drop_eq_getElem_cons h
      have hf := hq _ (List.getElem_mem h)
      have hwd : wires (qs.drop i) = wireOf qs[i] ++ wires (qs.drop (i + 1)) := by rw [hd]; rfl
      rw [hwd, List.length_append] at hwi
      have hlen := hf.len
      rw [rdR qs i h, hwd]
      generalize qs[i] = q at *
      refine Ev.if_pos (by omega) ((hf.read (wires (qs.drop (i + 1))) (by omega)).bind (Ev.if_pos (by omega) ((SameReply_self q.f0 q.f1 q.f2 q.f3 (by have := hf.cnt; omega)).bind ?_)))
      have hms := mk_size (wireOf q ++ wires (qs.drop (i + 1)))
      rw [List.length_append] at hms
      dsimp only
      refine Ev.if_pos rfl (Ev.if_pos rfl (Ev.if_neg (by omega) (Ev.if_neg (by omega) (Ev.if_pos (by omega) (Ev.if_pos (by omega) ?_)))))
      have ex : (mk (wireOf q ++ wires (qs.drop (i + 1)))).extract (((wireOf q).length : Nat) : Int).toNat (mk (wireOf q ++ wires (qs.drop (i + 1)))).size = mk (wires (qs.drop (i + 1))) := U_inj (by
        rw [U_extract_end, U_mk, U_mk, Int.toNat_natCast, List.drop_left])
      rw [ex, wrap64_of (by omega)]
      exact ih (i + 1) ⟨by omega, by omega⟩ (by omega)
    · refine Ev.if_neg (by omega) ?_
      rw [List.drop_eq_nil_of_le (by omega)]
      refine Ev.eq (Ev.now _) ?_
      rw [toList_U, U_mk]; rfl) 0 ⟨by omega, by simpa using hw⟩
  simpa using H
theorem stream_l1.ev (qs : List S24) (hq : ∀ q ∈ qs, Fine q) (hl : qs.length ≤ 4611686018427387904) : Ev (fun k => usherlaw8_ReplyStream.l1 k (⟨#[]⟩ : ByteArray) qs 0) true := by
  have H := Ev.loop (F := fun k (i : Nat) => usherlaw8_ReplyStream.l1 k (mk (wires (qs.take i))) qs (i : Int)) (r := fun _ => true) (fun i => i ≤ qs.length ∧ (wires (qs.take i)).length ≤ 16777216) (fun i => qs.length - i) (by
    rintro i ⟨hi, hwi⟩ ih
    simp only [usherlaw8_ReplyStream.l1]
    by_cases h : i < qs.length
    · have hf := hq _ (List.getElem_mem h)
      have hwt : wires (qs.take (i + 1)) = wires (qs.take i) ++ wireOf qs[i] := by
        have : qs.take (i + 1) = qs.take i ++ [qs[i]] := (List.take_append_getElem h).symm
        unfold wires
        rw [this, List.map_append, List.flatten_append]
        simp
      have hlen := hf.len
      rw [rdR qs i h]
      have hlt : (wires (qs.take (i + 1))).length = (wires (qs.take i)).length + (wireOf qs[i]).length := by rw [hwt, List.length_append]
      generalize qs[i] = q at *
      refine Ev.if_pos (by omega) (Ev.if_pos (by omega) (hf.render.bind (Ev.if_pos rfl ?_)))
      have h1 := mk_size (wires (qs.take i))
      have h2 := mk_size (wireOf q)
      dsimp only
      rw [wrap64_of (x := ((mk (wires (qs.take i))).size : Int) + ((mk (wireOf q)).size : Int)) (by omega)]
      by_cases hb : ((mk (wires (qs.take i))).size : Int) + ((mk (wireOf q)).size : Int) > 16777216
      · exact Ev.if_pos hb (Ev.now _)
      · refine Ev.if_neg hb (Ev.if_pos (by omega) ?_)
        rw [wrap64_of (by omega)]
        have := ih (i + 1) ⟨by omega, by omega⟩ (by omega)
        rw [hwt, mk_app] at this
        exact this
    · refine Ev.if_neg (by omega) ?_
      have e : qs.take i = qs := List.take_of_length_le (by omega)
      rw [e] at hwi ⊢
      exact stream_l2.ev qs hq hl hwi) 0 ⟨by omega, by simp [wires]⟩
  simpa [wires, mk] using H
theorem first_fine : Fine ⟨404, [], ⟨#[102, 105, 114, 115, 116]⟩, false⟩ := by
  obtain ⟨p, hp, h⟩ : ∃ p ∈ phrasesL, p.1 = 404 := by
    have : phrasesL.any (fun p => decide (p.1 = 404)) = true := by decide +kernel
    obtain ⟨p, hp, h⟩ := List.any_eq_true.1 this
    exact ⟨p, hp, of_decide_eq_true h⟩
  exact ⟨p, [], hp, ⟨hp, by simp, rfl, by decide⟩, by simp [bulkP], h.symm, rfl⟩
theorem stream_l0.ev (l : List S24) (hl : l.length ≤ 2513169434850) (hs : ∀ q ∈ l, Small q.f1 q.f2) : Ev (fun k => usherlaw8_ReplyStream.l0 k l (⟨#[]⟩ : ByteArray) [⟨404, [], ⟨#[102, 105, 114, 115, 116]⟩, false⟩] 0) true := by
  refine Ev.loop (F := fun k (x : List S24 × Nat) => usherlaw8_ReplyStream.l0 k l (⟨#[]⟩ : ByteArray) x.1 (x.2 : Int)) (r := fun _ => true) (fun x => x.2 ≤ l.length ∧ x.1.length ≤ x.2 + 1 ∧ ∀ q ∈ x.1, Fine q) (fun x => l.length - x.2) (by
    rintro ⟨a, i⟩ ⟨hi, ha, hf⟩ ih
    dsimp only at hi ha hf
    simp only [usherlaw8_ReplyStream.l0]
    by_cases h : i < l.length
    · have hq := hs _ (List.getElem_mem h)
      rw [rdR l i h]
      generalize l[i] = q at *
      obtain ⟨p, gs, hp, hv, hz, ht⟩ := hq.tidy' q.f0 q.f3
      refine Ev.if_pos (by omega) (Ev.if_pos (by omega) (ht.bind (Ev.if_pos (by omega) ?_)))
      rw [wrap64_of (by omega)]
      refine ih (a ++ [⟨p.1, gs.map unP, q.f2, q.f3⟩], i + 1) ⟨by dsimp only; omega, by simp; omega, ?_⟩ (by dsimp only; omega)
      intro x hx
      rcases List.mem_append.1 hx with hx | hx
      · exact hf x hx
      · obtain rfl := List.mem_singleton.1 hx
        exact ⟨p, gs, hp, hv, hz, rfl, rfl⟩
    · exact Ev.if_neg (by omega) (stream_l1.ev a hf (by omega))) ([⟨404, [], ⟨#[102, 105, 114, 115, 116]⟩, false⟩], 0) ⟨by dsimp only; omega, by simp, ?_⟩
  intro q hq
  obtain rfl := List.mem_singleton.1 hq
  exact first_fine
theorem ReplyStream_pure (l : List S24)
    (hl : l.length * 56 ≤ 140737488351232 ∧ ∀ q ∈ l, (Lit.int .i64 q.f0).wf = true ∧ (q.f1.length * 32 ≤ 140737488351232 ∧ ∀ x ∈ q.f1, x.f0.size ≤ 140737488351232 ∧ x.f1.size ≤ 140737488351232) ∧ q.f2.size ≤ 140737488351232 ∧ True)
    (hbk : (l.map fun q => 0 + (q.f1.map fun x => x.f0.size + x.f1.size).sum + q.f2.size + 0).sum ≤ 1048576) : ∃ k, usherlaw8_ReplyStream.f k l = some true := by
  refine Ev.rounds (g := fun k => usherlaw8_ReplyStream.f k l) ?_
  simp only [usherlaw8_ReplyStream.f]
  refine Ev.if_pos (by decide) ?_
  have hsum : ∀ (l : List S24), ∀ q ∈ l, 0 + (q.f1.map fun x => x.f0.size + x.f1.size).sum + q.f2.size + 0 ≤ (l.map fun q => 0 + (q.f1.map fun x => x.f0.size + x.f1.size).sum + q.f2.size + 0).sum := by
    intro l
    induction l with
    | nil => intro q h; cases h
    | cons y l ih =>
      intro q h
      rw [List.map_cons, List.sum_cons]
      rcases List.mem_cons.1 h with rfl | h
      · omega
      · have := ih q h; omega
  exact stream_l0.ev l (by have := hl.1; omega) fun q hq => ⟨by have := (hl.2 q hq).2.1.1; omega, by have := hsum l q hq; omega, by have := hsum l q hq; omega⟩
end Go.Proofs.YtdlfdmbaejhaaaaDoor.Q
