/- What usherkit.Pick answers: a number below its bound. Conditions: the bound is from 1 to 2^62. -/
import Derived.Test.YtdlfdmbaejhaaaaDoorQ14
import Derived.Test.YtdlfdmbaejhaaaaDoorTool
set_option linter.unusedVariables false
set_option linter.unusedSimpArgs false
namespace Go.Proofs.YtdlfdmbaejhaaaaDoor.Q
open Go.RowKit Go.Proofs.YtdlfdmbaejhaaaaDoorW.PrintWords Go.Proofs.YtdlfdmbaejhaaaaDoorW.PrintLast Go.Proofs.YtdlfdmbaejhaaaaDoorW.PrintMore
theorem Pick_some (a n : Int) (h : 1 ≤ n) (hn : n ≤ 4611686018427387904) : ∃ t : Nat, usherkit_Pick.f a n = some (t : Int) ∧ (t : Int) < n := by
  have h1 := Int.tmod_lt_of_pos a (show 0 < n by omega)
  have h2 := Int.lt_tmod_of_pos a (show 0 < n by omega)
  unfold usherkit_Pick.f
  rw [if_neg (by omega), if_neg (by omega)]
  by_cases hp : Int.tmod a n < 0
  · rw [if_pos hp, wrap64_of (by omega)]
    exact ⟨(Int.tmod a n + n).toNat, by rw [Int.toNat_of_nonneg (by omega)], by omega⟩
  · rw [if_neg hp]
    exact ⟨(Int.tmod a n).toNat, by rw [Int.toNat_of_nonneg (by omega)], by omega⟩
end Go.Proofs.YtdlfdmbaejhaaaaDoor.Q
