-- Written by wprint.py (this session's program over the kit's print) out of the translation.
import Derived.Test.YtljehmhiclccgaaProg
import Derived.Below
import Derived.Deep.Draws
import Derived.Deep.AppendLies
import Derived.Maps.AppendAt
import Derived.OwnWalk
import Derived.Laws.BytesArg
import Derived.Laws.MakeOwn
import Derived.Laws.OwnMore
import Derived.Deep.OwnRows
import Derived.Tactics
import Derived.Lib.ConvBytes
import Derived.Laws.Slices
import Derived.WalkKit
import Derived.KernelRfl
import Derived.RowKit3
import Derived.Deep.LoopGhost
import Derived.Deep.QuietTactic
import Derived.BigQuiet
import Derived.WideLaws
import Derived.Deep.DeepCutAuto
import Derived.Deep.CutBlock
import Derived.Deep.RegionHeld3
import Derived.Laws.Rows
import Derived.Lib.AppendStr
import Derived.ArgAppend
import Derived.Laws.IdiomCopy
import Derived.OrdersHeld
import Derived.Laws.BitsLemmas
import Derived.RowKit
import Derived.Lib.LazyBuf
import Derived.Maps.OwnSet
import Derived.DeepKeys4
import Derived.Test.YtljehmhiclccgaaWWords
import Derived.Test.YtljehmhiclccgaaWLast
import Derived.Test.YtljehmhiclccgaaWTab
import Derived.Test.YtljehmhiclccgaaWFour
import Derived.Test.YtljehmhiclccgaaWQPut
import Derived.Test.YtljehmhiclccgaaWApart
import Derived.Test.YtljehmhiclccgaaWArr
import Derived.Test.YtljehmhiclccgaaWZeros
import Derived.Test.YtljehmhiclccgaaWFoot
import Derived.Test.YtljehmhiclccgaaWKept
import Derived.Test.YtljehmhiclccgaaWShare
import Derived.Test.YtljehmhiclccgaaWN
import Derived.Test.YtljehmhiclccgaaWFootNe
import Derived.Test.YtljehmhiclccgaaWAt
import Derived.Test.YtljehmhiclccgaaWEqStruct
import Derived.Test.YtljehmhiclccgaaWRepsOne
import Derived.Test.YtljehmhiclccgaaWInv
import Derived.Test.YtljehmhiclccgaaWInvWords
import Derived.Test.YtljehmhiclccgaaWGuard
import Derived.Test.YtljehmhiclccgaaWNEv
import Derived.Test.YtljehmhiclccgaaWMore
namespace Go.Proofs.Ytljehmhiclccgaa.QFnExactPairPeriod
open Go.RowKit Go.Proofs.YtljehmhiclccgaaW.PrintWords Go.Proofs.YtljehmhiclccgaaW.PrintLast Go.Proofs.YtljehmhiclccgaaW.PrintMore
attribute [local go_sem] max2_int min2_int max_two min_two max_three min_three max_four min_four   -- for this text's walks alone
set_option linter.unusedVariables false
set_option linter.unusedSimpArgs false



def errW : Option Int → Value
  | none => .nilIface
  | some c => .iface 0 (.int .i64 c)
theorem errW_none : errW none = .nilIface := rfl
theorem errW_some (c : Int) : errW (some c) = .iface 0 (.int .i64 c) := rfl

-- the values' own types

end Go.Proofs.Ytljehmhiclccgaa.QFnExactPairPeriod
