/- ReplyCut answers true. Conditions: what goes in has at most 1048576 bytes in all. -/
import Derived.Test.YtdlfdmbaejhaaaaDoorQ12b
import Derived.Test.YtdlfdmbaejhaaaaDoorPSmall
set_option linter.unusedVariables false
set_option linter.unusedSimpArgs false
namespace Go.Proofs.YtdlfdmbaejhaaaaDoor.Q
open Go.RowKit Go.Proofs.YtdlfdmbaejhaaaaDoorW.PrintWords Go.Proofs.YtdlfdmbaejhaaaaDoorW.PrintLast Go.Proofs.YtdlfdmbaejhaaaaDoorW.PrintMore
theorem ReplyCut_pure (s : Int) (fs : List S26) (b : ByteArray) (c : Bool) (rest : ByteArray) (n : Int)
    (_ : (Lit.int .i64 s).wf = true) (hf : fs.length * 32 ≤ 140737488351232 ∧ ∀ x ∈ fs, x.f0.size ≤ 140737488351232 ∧ x.f1.size ≤ 140737488351232) (_ : b.size ≤ 140737488351232) (_ : rest.size ≤ 140737488351232) (_ : (Lit.int .i64 n).wf = true)
    (hbk : (0 + (fs.map fun x => x.f0.size + x.f1.size).sum + b.size + 0) + (rest.size + 0) ≤ 1048576) : ∃ k, usherlaw8_ReplyCut.f k s fs b c rest n = some true := by
  refine Ev.rounds (g := fun k => usherlaw8_ReplyCut.f k s fs b c rest n) ?_
  have hS : Small fs b := ⟨by have := hf.1; omega, by omega, by omega⟩
  obtain ⟨p, gs, hp, hv, hz, ht⟩ := hS.tidy' s c
  have hl := textU_len hp hv c false
  have hb := size_U b
  simp only [usherlaw8_ReplyCut.f]
  refine ht.bind ((Render_valid hv (by omega) c false).bind ?_)
  dsimp only
  have hms := mk_size (textU p gs (U b) c false)
  have hpos : 4 ≤ (textU p gs (U b) c false).length := by
    unfold textU; rw [List.length_append, List.length_append]; simp only [List.length_cons, List.length_nil]; omega
  have hne : ((mk (textU p gs (U b) c false)).toList == ([] : List UInt8)) = false := by
    rw [toList_U, U_mk, beq_eq_false_iff_ne]
    intro e; rw [e] at hpos; simp at hpos
  obtain ⟨t, hpk, htl⟩ := Pick_some n ((mk (textU p gs (U b) c false)).size : Int) (by omega) (by omega)
  refine Ev.if_pos rfl ?_
  rw [hne]
  refine Ev.step (f := fun k => _) (fun k => by rw [usherlaw8_ReplyCut.j0]) ?_
  refine Ev.if_neg (by simp) ?_
  simp only [hpk, Option.bind_some]
  refine Ev.if_pos (by omega) (Ev.if_pos (by omega) ?_)
  have ex : (mk (textU p gs (U b) c false)).extract 0 ((t : Nat) : Int).toNat = mk ((textU p gs (U b) c false).take t) := U_inj (by rw [U_extract, U_mk, U_mk]; simp)
  have hR := reply_Read.ev (mk ((textU p gs (U b) c false).take t)) (by rw [mk_size, List.length_take]; omega)
  rw [U_mk, readU_cut hv c t (by omega)] at hR
  rw [ex]
  refine hR.bind ?_
  simp only [shortR]
  refine (SameReply_self 0 [] (⟨#[]⟩ : ByteArray) false (by simp)).bind ?_
  refine Ev.if_pos (by trivial) (Ev.if_pos (by trivial) ?_)
  exact Ev.at_ (fun k => by rfl)
end Go.Proofs.YtdlfdmbaejhaaaaDoor.Q
