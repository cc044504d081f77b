/- The phrases of the program and of the document are the same, at every number. -/
import Derived.Test.YtbkhgmmlacdhoaaDoorQ2
import Derived.Test.YtbkhgmmlacdhoaaDoorTool
import Derived.Test.YtbkhgmmlacdhoaaDoorReason
set_option linter.unusedVariables false
set_option linter.unusedSimpArgs false
namespace Go.Proofs.YtbkhgmmlacdhoaaDoor.Q
open Go.RowKit Go.Proofs.YtbkhgmmlacdhoaaDoorW.PrintWords Go.Proofs.YtbkhgmmlacdhoaaDoorW.PrintLast Go.Proofs.YtbkhgmmlacdhoaaDoorW.PrintMore

theorem phrase_cons (x : Int × List UInt8) (r : List (Int × List UInt8)) (s : Int) : some (phraseOf (x :: r) s) = if s = x.1 then some ⟨x.2.toArray⟩ else some (phraseOf r s) := by
  simp only [phraseOf, eq_comm (a := s)]
  split <;> rfl
theorem reasonR (a0 : Int) : usherref8_Reason.f a0 = some (phraseOf phrasesL a0) := by
  have e : phraseOf [] a0 = ⟨#[]⟩ := rfl
  simp only [usherref8_Reason.f, usherref8_rarer.f, phrasesL, phrase_cons, e, opt_bind_some]
theorem ReplyReasonExact_pure (a0 : Int) (_ : (Lit.int .i64 a0).wf = true) : ∃ k, usherlaw8_ReplyReasonExact.f k a0 = some true := by
  refine Ev.rounds (g := fun k => usherlaw8_ReplyReasonExact.f k a0) ?_
  have H : Ev (fun k => usherlaw8_ReplyReasonExact.l0 k 190) true := by
    refine Ev.loop (F := fun k i => usherlaw8_ReplyReasonExact.l0 k i) (r := fun _ => true) (fun i => 190 ≤ i ∧ i ≤ 520) (fun i => 520 - i.toNat) ?_ 190 ⟨by omega, by omega⟩
    rintro i ⟨h0, h1⟩ ih
    simp only [usherlaw8_ReplyReasonExact.l0]
    by_cases hi : i < 520
    · refine Ev.if_pos hi ?_
      simp only [reasonR, reply_Reason.f, Option.bind_some]
      refine Ev.if_pos trivial ?_
      rw [wrap64_of (by omega)]
      exact ih (i + 1) ⟨by omega, by omega⟩ (by omega)
    · exact Ev.if_neg hi (Ev.now _)
  simp only [usherlaw8_ReplyReasonExact.f, reasonR, reply_Reason.f, Option.bind_some]
  exact Ev.if_pos trivial H
end Go.Proofs.YtbkhgmmlacdhoaaDoor.Q
