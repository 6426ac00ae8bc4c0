-- Written by wprint.py (this session's program over the kit's print) out of the translation.
import Derived.Test.YtgancmcbldmjaaaProg
import Derived.Below
import Derived.Deep.Draws
import Derived.Deep.AppendLies
import Derived.Maps.AppendAt
import Derived.OwnWalk
import Derived.Laws.BytesArg
import Derived.Laws.MakeOwn
import Derived.Laws.OwnMore
import Derived.Deep.OwnRows
import Derived.Tactics
import Derived.Lib.ConvBytes
import Derived.Laws.Slices
import Derived.WalkKit
import Derived.KernelRfl
import Derived.RowKit3
import Derived.Deep.LoopGhost
import Derived.Deep.QuietTactic
import Derived.BigQuiet
import Derived.WideLaws
import Derived.Deep.DeepCutAuto
import Derived.Deep.CutBlock
import Derived.Deep.RegionHeld3
import Derived.Laws.Rows
import Derived.Lib.AppendStr
import Derived.ArgAppend
import Derived.Laws.IdiomCopy
import Derived.OrdersHeld
import Derived.Laws.BitsLemmas
import Derived.RowKit
import Derived.Lib.LazyBuf
import Derived.Maps.OwnSet
import Derived.Test.YtgancmcbldmjaaaWWords
import Derived.Test.YtgancmcbldmjaaaWLast
import Derived.Test.YtgancmcbldmjaaaWTab
import Derived.Test.YtgancmcbldmjaaaWFour
import Derived.Test.YtgancmcbldmjaaaWQPut
import Derived.Test.YtgancmcbldmjaaaWApart
import Derived.Test.YtgancmcbldmjaaaWArr
import Derived.Test.YtgancmcbldmjaaaWZeros
import Derived.Test.YtgancmcbldmjaaaWFoot
import Derived.Test.YtgancmcbldmjaaaWKept
import Derived.Test.YtgancmcbldmjaaaWShare
import Derived.Test.YtgancmcbldmjaaaWN
import Derived.Test.YtgancmcbldmjaaaWFootNe
import Derived.Test.YtgancmcbldmjaaaWAt
import Derived.Test.YtgancmcbldmjaaaWEqStruct
import Derived.Test.YtgancmcbldmjaaaWRepsOne
import Derived.Test.YtgancmcbldmjaaaWInv
import Derived.Test.YtgancmcbldmjaaaWInvWords
import Derived.Test.YtgancmcbldmjaaaWGuard
import Derived.Test.YtgancmcbldmjaaaWNEv
import Derived.Test.YtgancmcbldmjaaaWMore
namespace Go.Proofs.Ytgancmcbldmjaaa.QFnWeightsMirrored
open Go.RowKit Go.Proofs.YtgancmcbldmjaaaW.PrintWords Go.Proofs.YtgancmcbldmjaaaW.PrintLast Go.Proofs.YtgancmcbldmjaaaW.PrintMore
attribute [local go_sem] max2_int min2_int max_two min_two max_three min_three max_four min_four   -- for this text's walks alone
set_option linter.unusedVariables false
set_option linter.unusedSimpArgs false



def errW : Option Int → Value
  | none => .nilIface
  | some c => .iface 0 (.int .i64 c)
theorem errW_none : errW none = .nilIface := rfl
theorem errW_some (c : Int) : errW (some c) = .iface 0 (.int .i64 c) := rfl

theorem info3 : (Try.prog.info? 3).map (fun i => (i.zero, i.size, i.bytes)) = some (some (.int .i64 0), 1, 8) := by kernel_rfl
-- the values' own types

end Go.Proofs.Ytgancmcbldmjaaa.QFnWeightsMirrored
