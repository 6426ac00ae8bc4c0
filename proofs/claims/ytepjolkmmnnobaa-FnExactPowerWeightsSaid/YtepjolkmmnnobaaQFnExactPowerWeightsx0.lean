-- Written by wprint.py (this session's program over the kit's print) out of the translation.
import Derived.Test.YtepjolkmmnnobaaProg
import Derived.Below
import Derived.Deep.Draws
import Derived.Deep.AppendLies
import Derived.Maps.AppendAt
import Derived.OwnWalk
import Derived.Laws.BytesArg
import Derived.Laws.MakeOwn
import Derived.Laws.OwnMore
import Derived.Deep.OwnRows
import Derived.Tactics
import Derived.Lib.ConvBytes
import Derived.Laws.Slices
import Derived.WalkKit
import Derived.KernelRfl
import Derived.RowKit3
import Derived.Deep.LoopGhost
import Derived.Deep.QuietTactic
import Derived.BigQuiet
import Derived.WideLaws
import Derived.Deep.DeepCutAuto
import Derived.Deep.CutBlock
import Derived.Deep.RegionHeld3
import Derived.Laws.Rows
import Derived.Lib.AppendStr
import Derived.ArgAppend
import Derived.Laws.IdiomCopy
import Derived.OrdersHeld
import Derived.Laws.BitsLemmas
import Derived.RowKit
import Derived.Test.YtepjolkmmnnobaaWWords
import Derived.Test.YtepjolkmmnnobaaWLast
import Derived.Test.YtepjolkmmnnobaaWTab
import Derived.Test.YtepjolkmmnnobaaWFour
import Derived.Test.YtepjolkmmnnobaaWQPut
import Derived.Test.YtepjolkmmnnobaaWApart
import Derived.Test.YtepjolkmmnnobaaWArr
import Derived.Test.YtepjolkmmnnobaaWZeros
import Derived.Test.YtepjolkmmnnobaaWFoot
import Derived.Test.YtepjolkmmnnobaaWKept
import Derived.Test.YtepjolkmmnnobaaWShare
import Derived.Test.YtepjolkmmnnobaaWN
import Derived.Test.YtepjolkmmnnobaaWFootNe
import Derived.Test.YtepjolkmmnnobaaWAt
import Derived.Test.YtepjolkmmnnobaaWEqStruct
import Derived.Test.YtepjolkmmnnobaaWRepsOne
import Derived.Test.YtepjolkmmnnobaaWInv
import Derived.Test.YtepjolkmmnnobaaWInvWords
import Derived.Test.YtepjolkmmnnobaaWGuard
import Derived.Test.YtepjolkmmnnobaaWNEv
import Derived.Test.YtepjolkmmnnobaaWMore
namespace Go.Proofs.Ytepjolkmmnnobaa.QFnExactPowerWeights
open Go.RowKit Go.Proofs.YtepjolkmmnnobaaW.PrintWords Go.Proofs.YtepjolkmmnnobaaW.PrintLast Go.Proofs.YtepjolkmmnnobaaW.PrintMore
attribute [local go_sem] max2_int min2_int max_two min_two max_three min_three max_four min_four   -- for this text's walks alone
set_option linter.unusedVariables false
set_option linter.unusedSimpArgs false



def errW : Option Int → Value
  | none => .nilIface
  | some c => .iface 0 (.int .i64 c)
theorem errW_none : errW none = .nilIface := rfl
theorem errW_some (c : Int) : errW (some c) = .iface 0 (.int .i64 c) := rfl

theorem info3 : (Try.prog.info? 3).map (fun i => (i.zero, i.size, i.bytes)) = some (some (.int .i64 0), 1, 8) := by kernel_rfl
-- the values' own types

end Go.Proofs.Ytepjolkmmnnobaa.QFnExactPowerWeights
