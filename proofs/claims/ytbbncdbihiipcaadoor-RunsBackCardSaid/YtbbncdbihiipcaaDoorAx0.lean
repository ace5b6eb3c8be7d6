-- Written for this claim by the session's own turn of the kit's print program (wip/tools/xprint.py).
import Derived.Test.YtbbncdbihiipcaaDoorProg
import Derived.Below
import Derived.Deep.Draws
import Derived.Deep.AppendLies
import Derived.Maps.AppendAt
import Derived.OwnWalk
import Derived.Laws.BytesArg
import Derived.Laws.MakeOwn
import Derived.Laws.OwnMore
import Derived.Deep.OwnRows
import Derived.Tactics
import Derived.Lib.ConvBytes
import Derived.Laws.Slices
import Derived.WalkKit
import Derived.KernelRfl
import Derived.RowKit3
import Derived.Deep.LoopGhost
import Derived.Deep.QuietTactic
import Derived.BigQuiet
import Derived.WideLaws
import Derived.Deep.DeepCutAuto
import Derived.Deep.CutBlock
import Derived.Deep.RegionHeld3
import Derived.Laws.Rows
import Derived.Lib.AppendStr
import Derived.ArgAppend
import Derived.Laws.IdiomCopy
import Derived.OrdersHeld
import Derived.Laws.BitsLemmas
import Derived.RowKit
import Derived.Test.YtbbncdbihiipcaaDoorSq
import Derived.Test.YtbbncdbihiipcaaDoorWWords
import Derived.Test.YtbbncdbihiipcaaDoorWLast
import Derived.Test.YtbbncdbihiipcaaDoorWTab
import Derived.Test.YtbbncdbihiipcaaDoorWFour
import Derived.Test.YtbbncdbihiipcaaDoorWQPut
import Derived.Test.YtbbncdbihiipcaaDoorWApart
import Derived.Test.YtbbncdbihiipcaaDoorWArr
import Derived.Test.YtbbncdbihiipcaaDoorWZeros
import Derived.Test.YtbbncdbihiipcaaDoorWFoot
import Derived.Test.YtbbncdbihiipcaaDoorWKept
import Derived.Test.YtbbncdbihiipcaaDoorWShare
import Derived.Test.YtbbncdbihiipcaaDoorWN
import Derived.Test.YtbbncdbihiipcaaDoorWFootNe
import Derived.Test.YtbbncdbihiipcaaDoorWAt
import Derived.Test.YtbbncdbihiipcaaDoorWEqStruct
import Derived.Test.YtbbncdbihiipcaaDoorWRepsOne
import Derived.Test.YtbbncdbihiipcaaDoorWInv
import Derived.Test.YtbbncdbihiipcaaDoorWInvWords
import Derived.Test.YtbbncdbihiipcaaDoorWGuard
import Derived.Test.YtbbncdbihiipcaaDoorWNEv
import Derived.Test.YtbbncdbihiipcaaDoorWMore
namespace Go.Proofs.YtbbncdbihiipcaaDoor.A
open Go.RowKit Go.Proofs.YtbbncdbihiipcaaDoor.Sq Go.Proofs.YtbbncdbihiipcaaDoorW.PrintWords Go.Proofs.YtbbncdbihiipcaaDoorW.PrintLast Go.Proofs.YtbbncdbihiipcaaDoorW.PrintMore
attribute [local go_sem] max2_int min2_int max_two min_two max_three min_three max_four min_four   -- for this text's walks alone
set_option linter.unusedVariables false
set_option linter.unusedSimpArgs false



def errW : Option Int → Value
  | none => .nilIface
  | some c => .iface 0 (.int .i64 c)
theorem errW_none : errW none = .nilIface := rfl
theorem errW_some (c : Int) : errW (some c) = .iface 0 (.int .i64 c) := rfl

theorem info5 : (Tryd.prog.info? 5).map (fun i => (i.zero, i.size, i.bytes)) = some (some (.int .u8 0), 1, 1) := by kernel_rfl
-- the values' own types


end Go.Proofs.YtbbncdbihiipcaaDoor.A
