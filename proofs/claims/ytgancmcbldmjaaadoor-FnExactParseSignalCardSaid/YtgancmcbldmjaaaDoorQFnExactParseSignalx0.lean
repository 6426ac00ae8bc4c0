-- Written by wprint.py (this session's program over the kit's print) out of the translation.
import Derived.Test.YtgancmcbldmjaaaDoorProg
import Derived.Below
import Derived.Deep.Draws
import Derived.Deep.AppendLies
import Derived.Maps.AppendAt
import Derived.OwnWalk
import Derived.Laws.BytesArg
import Derived.Laws.MakeOwn
import Derived.Laws.OwnMore
import Derived.Deep.OwnRows
import Derived.Tactics
import Derived.Lib.ConvBytes
import Derived.Laws.Slices
import Derived.WalkKit
import Derived.KernelRfl
import Derived.RowKit3
import Derived.Deep.LoopGhost
import Derived.Deep.QuietTactic
import Derived.BigQuiet
import Derived.WideLaws
import Derived.Deep.DeepCutAuto
import Derived.Deep.CutBlock
import Derived.Deep.RegionHeld3
import Derived.Laws.Rows
import Derived.Lib.AppendStr
import Derived.ArgAppend
import Derived.Laws.IdiomCopy
import Derived.OrdersHeld
import Derived.Laws.BitsLemmas
import Derived.RowKit
import Derived.Lib.LazyBuf
import Derived.Test.YtgancmcbldmjaaaDoorTab
import Derived.Test.YtgancmcbldmjaaaDoorWWords
import Derived.Test.YtgancmcbldmjaaaDoorWLast
import Derived.Test.YtgancmcbldmjaaaDoorWTab
import Derived.Test.YtgancmcbldmjaaaDoorWFour
import Derived.Test.YtgancmcbldmjaaaDoorWQPut
import Derived.Test.YtgancmcbldmjaaaDoorWApart
import Derived.Test.YtgancmcbldmjaaaDoorWArr
import Derived.Test.YtgancmcbldmjaaaDoorWZeros
import Derived.Test.YtgancmcbldmjaaaDoorWFoot
import Derived.Test.YtgancmcbldmjaaaDoorWKept
import Derived.Test.YtgancmcbldmjaaaDoorWShare
import Derived.Test.YtgancmcbldmjaaaDoorWN
import Derived.Test.YtgancmcbldmjaaaDoorWFootNe
import Derived.Test.YtgancmcbldmjaaaDoorWAt
import Derived.Test.YtgancmcbldmjaaaDoorWEqStruct
import Derived.Test.YtgancmcbldmjaaaDoorWRepsOne
import Derived.Test.YtgancmcbldmjaaaDoorWInv
import Derived.Test.YtgancmcbldmjaaaDoorWInvWords
import Derived.Test.YtgancmcbldmjaaaDoorWGuard
import Derived.Test.YtgancmcbldmjaaaDoorWNEv
import Derived.Test.YtgancmcbldmjaaaDoorWMore
namespace Go.Proofs.YtgancmcbldmjaaaDoor.QFnExactParseSignal
open Go.RowKit Go.Proofs.YtgancmcbldmjaaaDoorW.PrintWords Go.Proofs.YtgancmcbldmjaaaDoorW.PrintLast Go.Proofs.YtgancmcbldmjaaaDoorW.PrintMore
attribute [local go_sem] max2_int min2_int max_two min_two max_three min_three max_four min_four   -- for this text's walks alone
set_option linter.unusedVariables false
set_option linter.unusedSimpArgs false



def errW : Option Int → Value
  | none => .nilIface
  | some c => .iface 50 (.pointer (some ⟨c.toNat, 0, none⟩))
theorem errW_none : errW none = .nilIface := rfl
theorem errW_some (c : Int) : errW (some c) = .iface 50 (.pointer (some ⟨c.toNat, 0, none⟩)) := rfl

theorem info3 : (Tryd.prog.info? 3).map (fun i => (i.zero, i.size, i.bytes)) = some (some (.int .i64 0), 1, 8) := by kernel_rfl
theorem info5 : (Tryd.prog.info? 5).map (fun i => (i.zero, i.size, i.bytes)) = some (some (.int .u8 0), 1, 1) := by kernel_rfl
-- the values' own types

end Go.Proofs.YtgancmcbldmjaaaDoor.QFnExactParseSignal
