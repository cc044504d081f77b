/- What usherkit.Head answers. Conditions: a text has at most 2^62 bytes. -/
import Derived.Test.YtdlfdmbaejhaaaaDoorQ16
import Derived.Test.YtdlfdmbaejhaaaaDoorLines
set_option linter.unusedVariables false
set_option linter.unusedSimpArgs false
namespace Go.Proofs.YtdlfdmbaejhaaaaDoor.Q
open Go.RowKit Go.Proofs.YtdlfdmbaejhaaaaDoorW.PrintWords Go.Proofs.YtdlfdmbaejhaaaaDoorW.PrintLast Go.Proofs.YtdlfdmbaejhaaaaDoorW.PrintMore
theorem Head_some (s : ByteArray) (hs : s.size ≤ 4611686018427387904) : usherkit_Head.f s 1048576 = some (mk ((U s).take 1048576)) := by
  have hz := size_U s
  unfold usherkit_Head.f
  rw [if_neg (by omega)]
  by_cases h : (1048576 : Int) ≥ (s.size : Int)
  · rw [if_pos h, List.take_of_length_le (by omega), mk_U]
  · rw [if_neg h, if_pos (by omega), if_pos (by omega)]
    exact congrArg some (U_inj (by rw [U_extract, U_mk]; rfl))
end Go.Proofs.YtdlfdmbaejhaaaaDoor.Q
