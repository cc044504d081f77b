/- ReplyBack answers true. Conditions: what goes in has at most 1048576 bytes in all. -/
import Derived.Test.YtdlfdmbaejhaaaaDoorQ11b
import Derived.Test.YtdlfdmbaejhaaaaDoorPSmall
set_option linter.unusedVariables false
set_option linter.unusedSimpArgs false
namespace Go.Proofs.YtdlfdmbaejhaaaaDoor.Q
open Go.RowKit Go.Proofs.YtdlfdmbaejhaaaaDoorW.PrintWords Go.Proofs.YtdlfdmbaejhaaaaDoorW.PrintLast Go.Proofs.YtdlfdmbaejhaaaaDoorW.PrintMore
theorem ReplyBack_pure (s : Int) (fs : List S26) (b : ByteArray) (c : Bool) (rest : ByteArray) (n : Int)
    (_ : (Lit.int .i64 s).wf = true) (hf : fs.length * 32 ≤ 140737488351232 ∧ ∀ x ∈ fs, x.f0.size ≤ 140737488351232 ∧ x.f1.size ≤ 140737488351232) (_ : b.size ≤ 140737488351232) (_ : rest.size ≤ 140737488351232) (_ : (Lit.int .i64 n).wf = true)
    (hbk : (0 + (fs.map fun x => x.f0.size + x.f1.size).sum + b.size + 0) + (rest.size + 0) ≤ 1048576) : ∃ k, usherlaw8_ReplyBack.f k s fs b c rest n = some true := by
  refine Ev.rounds (g := fun k => usherlaw8_ReplyBack.f k s fs b c rest n) ?_
  have hS : Small fs b := ⟨by have := hf.1; omega, by omega, by omega⟩
  obtain ⟨p, gs, hp, hv, hz, ht⟩ := hS.tidy' s c
  have hl := textU_len hp hv c false
  have hb := size_U b
  have hr := size_U rest
  simp only [usherlaw8_ReplyBack.f]
  refine ht.bind ((Render_valid hv (by omega) c false).bind ?_)
  dsimp only
  have hms := mk_size (textU p gs (U b) c false)
  refine Ev.if_pos (by omega) ?_
  have hR : Ev (fun k => reply_Read.f k (mk (textU p gs (U b) c false) ++ rest)) (p.1, gs.map unP, b, c, ((textU p gs (U b) c false).length : Int), none) := by
    have := reply_Read.ev (mk (textU p gs (U b) c false) ++ rest) (by rw [ByteArray.size_append, hms]; omega)
    rw [U_app, U_mk, readU_back hv, mk_U] at this
    exact this
  refine hR.bind ((SameReply_self p.1 (gs.map unP) b c (by rw [List.length_map]; have := hv.cnt; omega)).bind ?_)
  dsimp only
  refine Ev.if_pos rfl (Ev.if_pos rfl (Ev.if_pos (by rw [hms]) (Ev.now _)))
end Go.Proofs.YtdlfdmbaejhaaaaDoor.Q
