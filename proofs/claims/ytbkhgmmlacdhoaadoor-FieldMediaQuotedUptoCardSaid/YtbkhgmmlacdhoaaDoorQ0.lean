/- The plain Lean functions that calls of the program answer, and proofs that they do. Printed by program out of the translation; Lean checks it. -/
import Derived.Test.YtbkhgmmlacdhoaaDoorProg
import Derived.Below
import Derived.Deep.Draws
import Derived.Deep.AppendLies
import Derived.Maps.AppendAt
import Derived.OwnWalk
import Derived.Laws.BytesArg
import Derived.Laws.MakeOwn
import Derived.Laws.OwnMore
import Derived.Deep.OwnRows
import Derived.Tactics
import Derived.Lib.ConvBytes
import Derived.Laws.Slices
import Derived.WalkKit
import Derived.KernelRfl
import Derived.RowKit3
import Derived.Deep.LoopGhost
import Derived.Deep.QuietTactic
import Derived.BigQuiet
import Derived.WideLaws
import Derived.Deep.DeepCutAuto
import Derived.Deep.CutBlock
import Derived.Deep.RegionHeld3
import Derived.Laws.Rows
import Derived.Lib.AppendStr
import Derived.ArgAppend
import Derived.Laws.IdiomCopy
import Derived.OrdersHeld
import Derived.Laws.BitsLemmas
import Derived.RowKit
import Derived.Test.YtbkhgmmlacdhoaaDoorWWords
import Derived.Test.YtbkhgmmlacdhoaaDoorWLast
import Derived.Test.YtbkhgmmlacdhoaaDoorWTab
import Derived.Test.YtbkhgmmlacdhoaaDoorWFour
import Derived.Test.YtbkhgmmlacdhoaaDoorWQPut
import Derived.Test.YtbkhgmmlacdhoaaDoorWApart
import Derived.Test.YtbkhgmmlacdhoaaDoorWArr
import Derived.Test.YtbkhgmmlacdhoaaDoorWZeros
import Derived.Test.YtbkhgmmlacdhoaaDoorWFoot
import Derived.Test.YtbkhgmmlacdhoaaDoorWKept
import Derived.Test.YtbkhgmmlacdhoaaDoorWShare
import Derived.Test.YtbkhgmmlacdhoaaDoorWN
import Derived.Test.YtbkhgmmlacdhoaaDoorWFootNe
import Derived.Test.YtbkhgmmlacdhoaaDoorWAt
import Derived.Test.YtbkhgmmlacdhoaaDoorWEqStruct
import Derived.Test.YtbkhgmmlacdhoaaDoorWRepsOne
import Derived.Test.YtbkhgmmlacdhoaaDoorWInv
import Derived.Test.YtbkhgmmlacdhoaaDoorWInvWords
import Derived.Test.YtbkhgmmlacdhoaaDoorWGuard
import Derived.Test.YtbkhgmmlacdhoaaDoorWNEv
import Derived.Test.YtbkhgmmlacdhoaaDoorWMore
import Derived.Test.YtbkhgmmlacdhoaaDoorGlob
namespace Go.Proofs.YtbkhgmmlacdhoaaDoor.Q
open Go.RowKit Go.Proofs.YtbkhgmmlacdhoaaDoorW.PrintWords Go.Proofs.YtbkhgmmlacdhoaaDoorW.PrintLast Go.Proofs.YtbkhgmmlacdhoaaDoorW.PrintMore
attribute [local go_sem] max2_int min2_int max_two min_two max_three min_three max_four min_four   -- for this text's walks alone
set_option linter.unusedVariables false
set_option linter.unusedSimpArgs false




theorem info5 : (Tryd.prog.info? 5).map (fun i => (i.zero, i.size, i.bytes)) = some (some (.int .u8 0), 1, 1) := by kernel_rfl
-- the values' own types

end Go.Proofs.YtbkhgmmlacdhoaaDoor.Q
