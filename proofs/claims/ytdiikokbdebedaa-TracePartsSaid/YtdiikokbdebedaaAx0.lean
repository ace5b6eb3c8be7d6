-- Written for this claim by the session's own turn of the kit's print program (wip/tools/xprint.py).
import Derived.Test.YtdiikokbdebedaaProg
import Derived.Below
import Derived.Deep.Draws
import Derived.Deep.AppendLies
import Derived.Maps.AppendAt
import Derived.OwnWalk
import Derived.Laws.BytesArg
import Derived.Laws.MakeOwn
import Derived.Laws.OwnMore
import Derived.Deep.OwnRows
import Derived.Tactics
import Derived.Lib.ConvBytes
import Derived.Laws.Slices
import Derived.WalkKit
import Derived.KernelRfl
import Derived.RowKit3
import Derived.Deep.LoopGhost
import Derived.Deep.QuietTactic
import Derived.BigQuiet
import Derived.WideLaws
import Derived.Deep.DeepCutAuto
import Derived.Deep.CutBlock
import Derived.Deep.RegionHeld3
import Derived.Laws.Rows
import Derived.Lib.AppendStr
import Derived.ArgAppend
import Derived.Laws.IdiomCopy
import Derived.OrdersHeld
import Derived.Laws.BitsLemmas
import Derived.RowKit
import Derived.Test.YtdiikokbdebedaaSq
import Derived.Test.YtdiikokbdebedaaWWords
import Derived.Test.YtdiikokbdebedaaWLast
import Derived.Test.YtdiikokbdebedaaWTab
import Derived.Test.YtdiikokbdebedaaWFour
import Derived.Test.YtdiikokbdebedaaWQPut
import Derived.Test.YtdiikokbdebedaaWApart
import Derived.Test.YtdiikokbdebedaaWArr
import Derived.Test.YtdiikokbdebedaaWZeros
import Derived.Test.YtdiikokbdebedaaWFoot
import Derived.Test.YtdiikokbdebedaaWKept
import Derived.Test.YtdiikokbdebedaaWShare
import Derived.Test.YtdiikokbdebedaaWN
import Derived.Test.YtdiikokbdebedaaWFootNe
import Derived.Test.YtdiikokbdebedaaWAt
import Derived.Test.YtdiikokbdebedaaWEqStruct
import Derived.Test.YtdiikokbdebedaaWRepsOne
import Derived.Test.YtdiikokbdebedaaWInv
import Derived.Test.YtdiikokbdebedaaWInvWords
import Derived.Test.YtdiikokbdebedaaWGuard
import Derived.Test.YtdiikokbdebedaaWNEv
import Derived.Test.YtdiikokbdebedaaWMore
namespace Go.Proofs.Ytdiikokbdebedaa.A
open Go.RowKit Go.Proofs.Ytdiikokbdebedaa.Sq Go.Proofs.YtdiikokbdebedaaW.PrintWords Go.Proofs.YtdiikokbdebedaaW.PrintLast Go.Proofs.YtdiikokbdebedaaW.PrintMore
attribute [local go_sem] max2_int min2_int max_two min_two max_three min_three max_four min_four   -- for this text's walks alone
set_option linter.unusedVariables false
set_option linter.unusedSimpArgs false



def errW : Option Int → Value
  | none => .nilIface
  | some c => .iface 0 (.int .i64 c)
theorem errW_none : errW none = .nilIface := rfl
theorem errW_some (c : Int) : errW (some c) = .iface 0 (.int .i64 c) := rfl

theorem info5 : (Try.prog.info? 5).map (fun i => (i.zero, i.size, i.bytes)) = some (some (.int .u8 0), 1, 1) := by kernel_rfl
-- the values' own types


end Go.Proofs.Ytdiikokbdebedaa.A
