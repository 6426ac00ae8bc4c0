-- Written by wprint.py (this session's program over the kit's print) out of the translation.
import Derived.Test.YtadbbbmlhcbffaaProg
import Derived.Below
import Derived.Deep.Draws
import Derived.Deep.AppendLies
import Derived.Maps.AppendAt
import Derived.OwnWalk
import Derived.Laws.BytesArg
import Derived.Laws.MakeOwn
import Derived.Laws.OwnMore
import Derived.Deep.OwnRows
import Derived.Tactics
import Derived.Lib.ConvBytes
import Derived.Laws.Slices
import Derived.WalkKit
import Derived.KernelRfl
import Derived.RowKit3
import Derived.Deep.LoopGhost
import Derived.Deep.QuietTactic
import Derived.BigQuiet
import Derived.WideLaws
import Derived.Deep.DeepCutAuto
import Derived.Deep.CutBlock
import Derived.Deep.RegionHeld3
import Derived.Laws.Rows
import Derived.Lib.AppendStr
import Derived.ArgAppend
import Derived.Laws.IdiomCopy
import Derived.OrdersHeld
import Derived.Laws.BitsLemmas
import Derived.RowKit
import Derived.Test.YtadbbbmlhcbffaaWWords
import Derived.Test.YtadbbbmlhcbffaaWLast
import Derived.Test.YtadbbbmlhcbffaaWTab
import Derived.Test.YtadbbbmlhcbffaaWFour
import Derived.Test.YtadbbbmlhcbffaaWQPut
import Derived.Test.YtadbbbmlhcbffaaWApart
import Derived.Test.YtadbbbmlhcbffaaWArr
import Derived.Test.YtadbbbmlhcbffaaWZeros
import Derived.Test.YtadbbbmlhcbffaaWFoot
import Derived.Test.YtadbbbmlhcbffaaWKept
import Derived.Test.YtadbbbmlhcbffaaWShare
import Derived.Test.YtadbbbmlhcbffaaWN
import Derived.Test.YtadbbbmlhcbffaaWFootNe
import Derived.Test.YtadbbbmlhcbffaaWAt
import Derived.Test.YtadbbbmlhcbffaaWEqStruct
import Derived.Test.YtadbbbmlhcbffaaWRepsOne
import Derived.Test.YtadbbbmlhcbffaaWInv
import Derived.Test.YtadbbbmlhcbffaaWInvWords
import Derived.Test.YtadbbbmlhcbffaaWGuard
import Derived.Test.YtadbbbmlhcbffaaWNEv
import Derived.Test.YtadbbbmlhcbffaaWMore
namespace Go.Proofs.Ytadbbbmlhcbffaa.QFnExactIsShrinking
open Go.RowKit Go.Proofs.YtadbbbmlhcbffaaW.PrintWords Go.Proofs.YtadbbbmlhcbffaaW.PrintLast Go.Proofs.YtadbbbmlhcbffaaW.PrintMore
attribute [local go_sem] max2_int min2_int max_two min_two max_three min_three max_four min_four   -- for this text's walks alone
set_option linter.unusedVariables false
set_option linter.unusedSimpArgs false



def errW : Option Int → Value
  | none => .nilIface
  | some c => .iface 0 (.int .i64 c)
theorem errW_none : errW none = .nilIface := rfl
theorem errW_some (c : Int) : errW (some c) = .iface 0 (.int .i64 c) := rfl

-- the values' own types

end Go.Proofs.Ytadbbbmlhcbffaa.QFnExactIsShrinking
