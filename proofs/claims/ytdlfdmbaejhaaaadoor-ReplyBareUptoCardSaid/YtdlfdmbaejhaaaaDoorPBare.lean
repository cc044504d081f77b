/- ReplyBare answers true. Conditions: what goes in has at most 1048576 bytes in all. -/
import Derived.Test.YtdlfdmbaejhaaaaDoorQ15
import Derived.Test.YtdlfdmbaejhaaaaDoorPSmall
set_option linter.unusedVariables false
set_option linter.unusedSimpArgs false
namespace Go.Proofs.YtdlfdmbaejhaaaaDoor.Q
open Go.RowKit Go.Proofs.YtdlfdmbaejhaaaaDoorW.PrintWords Go.Proofs.YtdlfdmbaejhaaaaDoorW.PrintLast Go.Proofs.YtdlfdmbaejhaaaaDoorW.PrintMore
theorem textU_bare (p : Int × List UInt8) (fs : List PU) (b : List UInt8) (c : Bool) : textU p fs b c false = textU p fs b c true ++ b := by
  unfold textU; rw [if_neg (by simp), if_pos rfl, List.append_nil, List.append_assoc]
theorem ReplyBare_pure (s : Int) (fs : List S26) (b : ByteArray) (c : Bool) (rest : ByteArray) (n : Int)
    (_ : (Lit.int .i64 s).wf = true) (hf : fs.length * 32 ≤ 140737488351232 ∧ ∀ x ∈ fs, x.f0.size ≤ 140737488351232 ∧ x.f1.size ≤ 140737488351232) (_ : b.size ≤ 140737488351232) (_ : rest.size ≤ 140737488351232) (_ : (Lit.int .i64 n).wf = true)
    (hbk : (0 + (fs.map fun x => x.f0.size + x.f1.size).sum + b.size + 0) + (rest.size + 0) ≤ 1048576) : ∃ k, usherlaw8_ReplyBare.f k s fs b c rest n = some true := by
  refine Ev.rounds (g := fun k => usherlaw8_ReplyBare.f k s fs b c rest n) ?_
  have hS : Small fs b := ⟨by have := hf.1; omega, by omega, by omega⟩
  obtain ⟨p, gs, hp, hv, hz, ht⟩ := hS.tidy' s c
  have hl := textU_len hp hv c false
  have hl2 := textU_len hp hv c true
  have hb := size_U b
  simp only [usherlaw8_ReplyBare.f]
  refine ht.bind ((Render_valid hv (by omega) c false).bind ((Render_valid hv (by omega) c true).bind ?_))
  dsimp only
  have hms := mk_size (textU p gs (U b) c true)
  have hpos : 4 ≤ (textU p gs (U b) c true).length := by
    unfold textU; rw [List.length_append, List.length_append]; simp only [List.length_cons, List.length_nil]; omega
  refine Ev.if_pos rfl (Ev.if_pos rfl (Ev.if_neg (by rw [toList_U, U_mk]; intro e; rw [e] at hpos; simp at hpos) (Ev.if_pos (by omega) ?_)))
  have hne : ((mk (textU p gs (U b) c false)).toList != (mk (textU p gs (U b) c true) ++ b).toList) = false := by
    rw [toList_U, toList_U, U_app, U_mk, U_mk, textU_bare]; simp
  rw [hne]
  refine Ev.step (f := fun k => _) (fun k => by rw [usherlaw8_ReplyBare.j0]) ?_
  refine Ev.if_neg (by simp) ?_
  have hR := reply_Read.ev (mk (textU p gs (U b) c true)) (by omega)
  rw [U_mk] at hR
  by_cases hnil : U b = []
  · have e : textU p gs (U b) c true = textU p gs (U b) c false ++ [] := by rw [textU_bare, hnil]; simp
    rw [e, readU_back hv, mk_U] at hR
    rw [e]
    refine hR.bind (Ev.if_pos (by rw [toList_U]; exact hnil) ((SameReply_self p.1 (gs.map unP) b c (by rw [List.length_map]; have := hv.cnt; omega)).bind (Ev.if_pos rfl (Ev.if_pos ?_ (Ev.now _)))))
    rw [List.append_nil, mk_size]
  · have hlen : 0 < (U b).length := List.length_pos_iff.2 hnil
    have e : textU p gs (U b) c true = (textU p gs (U b) c false).take (textU p gs (U b) c true).length := by rw [textU_bare, List.take_left]
    have hlt : (textU p gs (U b) c true).length < (textU p gs (U b) c false).length := by rw [textU_bare p gs (U b) c, List.length_append]; omega
    rw [e, readU_cut hv c _ hlt] at hR
    rw [← e] at hR
    refine hR.bind (Ev.if_neg (by rw [toList_U]; exact hnil) ?_)
    simp only [shortR]
    exact Ev.if_pos (by trivial) (Ev.at_ (fun k => by rfl))
end Go.Proofs.YtdlfdmbaejhaaaaDoor.Q
