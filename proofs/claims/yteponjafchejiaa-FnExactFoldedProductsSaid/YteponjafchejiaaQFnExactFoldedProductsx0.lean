-- Written by wprint.py (this session's program over the kit's print) out of the translation.
import Derived.Test.YteponjafchejiaaProg
import Derived.Below
import Derived.Deep.Draws
import Derived.Deep.AppendLies
import Derived.Maps.AppendAt
import Derived.OwnWalk
import Derived.Laws.BytesArg
import Derived.Laws.MakeOwn
import Derived.Laws.OwnMore
import Derived.Deep.OwnRows
import Derived.Tactics
import Derived.Lib.ConvBytes
import Derived.Laws.Slices
import Derived.WalkKit
import Derived.KernelRfl
import Derived.RowKit3
import Derived.Deep.LoopGhost
import Derived.Deep.QuietTactic
import Derived.BigQuiet
import Derived.WideLaws
import Derived.Deep.DeepCutAuto
import Derived.Deep.CutBlock
import Derived.Deep.RegionHeld3
import Derived.Laws.Rows
import Derived.Lib.AppendStr
import Derived.ArgAppend
import Derived.Laws.IdiomCopy
import Derived.OrdersHeld
import Derived.Laws.BitsLemmas
import Derived.RowKit
import Derived.Lib.LazyBuf
import Derived.Maps.OwnSet
import Derived.Test.YteponjafchejiaaWWords
import Derived.Test.YteponjafchejiaaWLast
import Derived.Test.YteponjafchejiaaWTab
import Derived.Test.YteponjafchejiaaWFour
import Derived.Test.YteponjafchejiaaWQPut
import Derived.Test.YteponjafchejiaaWApart
import Derived.Test.YteponjafchejiaaWArr
import Derived.Test.YteponjafchejiaaWZeros
import Derived.Test.YteponjafchejiaaWFoot
import Derived.Test.YteponjafchejiaaWKept
import Derived.Test.YteponjafchejiaaWShare
import Derived.Test.YteponjafchejiaaWN
import Derived.Test.YteponjafchejiaaWFootNe
import Derived.Test.YteponjafchejiaaWAt
import Derived.Test.YteponjafchejiaaWEqStruct
import Derived.Test.YteponjafchejiaaWRepsOne
import Derived.Test.YteponjafchejiaaWInv
import Derived.Test.YteponjafchejiaaWInvWords
import Derived.Test.YteponjafchejiaaWGuard
import Derived.Test.YteponjafchejiaaWNEv
import Derived.Test.YteponjafchejiaaWMore
namespace Go.Proofs.Yteponjafchejiaa.QFnExactFoldedProducts
open Go.RowKit Go.Proofs.YteponjafchejiaaW.PrintWords Go.Proofs.YteponjafchejiaaW.PrintLast Go.Proofs.YteponjafchejiaaW.PrintMore
attribute [local go_sem] max2_int min2_int max_two min_two max_three min_three max_four min_four   -- for this text's walks alone
set_option linter.unusedVariables false
set_option linter.unusedSimpArgs false



def errW : Option Int → Value
  | none => .nilIface
  | some c => .iface 0 (.int .i64 c)
theorem errW_none : errW none = .nilIface := rfl
theorem errW_some (c : Int) : errW (some c) = .iface 0 (.int .i64 c) := rfl

theorem info3 : (Try.prog.info? 3).map (fun i => (i.zero, i.size, i.bytes)) = some (some (.int .i64 0), 1, 8) := by kernel_rfl
-- the values' own types

end Go.Proofs.Yteponjafchejiaa.QFnExactFoldedProducts
