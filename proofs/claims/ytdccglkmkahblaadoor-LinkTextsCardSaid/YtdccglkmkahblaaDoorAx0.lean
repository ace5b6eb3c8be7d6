-- Written for this claim by the session's own turn of the kit's print program (wip/tools/xprint.py).
import Derived.Test.YtdccglkmkahblaaDoorProg
import Derived.Below
import Derived.Deep.Draws
import Derived.Deep.AppendLies
import Derived.Maps.AppendAt
import Derived.OwnWalk
import Derived.Laws.BytesArg
import Derived.Laws.MakeOwn
import Derived.Laws.OwnMore
import Derived.Deep.OwnRows
import Derived.Tactics
import Derived.Lib.ConvBytes
import Derived.Laws.Slices
import Derived.WalkKit
import Derived.KernelRfl
import Derived.RowKit3
import Derived.Deep.LoopGhost
import Derived.Deep.QuietTactic
import Derived.BigQuiet
import Derived.WideLaws
import Derived.Deep.DeepCutAuto
import Derived.Deep.CutBlock
import Derived.Deep.RegionHeld3
import Derived.Laws.Rows
import Derived.Lib.AppendStr
import Derived.ArgAppend
import Derived.Laws.IdiomCopy
import Derived.OrdersHeld
import Derived.Laws.BitsLemmas
import Derived.RowKit
import Derived.Test.YtdccglkmkahblaaDoorFl
import Derived.Test.YtdccglkmkahblaaDoorSq
import Derived.Test.YtdccglkmkahblaaDoorWWords
import Derived.Test.YtdccglkmkahblaaDoorWLast
import Derived.Test.YtdccglkmkahblaaDoorWTab
import Derived.Test.YtdccglkmkahblaaDoorWFour
import Derived.Test.YtdccglkmkahblaaDoorWQPut
import Derived.Test.YtdccglkmkahblaaDoorWApart
import Derived.Test.YtdccglkmkahblaaDoorWArr
import Derived.Test.YtdccglkmkahblaaDoorWZeros
import Derived.Test.YtdccglkmkahblaaDoorWFoot
import Derived.Test.YtdccglkmkahblaaDoorWKept
import Derived.Test.YtdccglkmkahblaaDoorWShare
import Derived.Test.YtdccglkmkahblaaDoorWN
import Derived.Test.YtdccglkmkahblaaDoorWFootNe
import Derived.Test.YtdccglkmkahblaaDoorWAt
import Derived.Test.YtdccglkmkahblaaDoorWEqStruct
import Derived.Test.YtdccglkmkahblaaDoorWRepsOne
import Derived.Test.YtdccglkmkahblaaDoorWInv
import Derived.Test.YtdccglkmkahblaaDoorWInvWords
import Derived.Test.YtdccglkmkahblaaDoorWGuard
import Derived.Test.YtdccglkmkahblaaDoorWNEv
import Derived.Test.YtdccglkmkahblaaDoorWMore
namespace Go.Proofs.YtdccglkmkahblaaDoor.A
open Go.RowKit Go.Proofs.YtdccglkmkahblaaDoor.Fl Go.Proofs.YtdccglkmkahblaaDoor.Sq Go.Proofs.YtdccglkmkahblaaDoorW.PrintWords Go.Proofs.YtdccglkmkahblaaDoorW.PrintLast Go.Proofs.YtdccglkmkahblaaDoorW.PrintMore
attribute [local go_sem] max2_int min2_int max_two min_two max_three min_three max_four min_four   -- for this text's walks alone
set_option linter.unusedVariables false
set_option linter.unusedSimpArgs false



def errW : Option Int → Value
  | none => .nilIface
  | some c => .iface 0 (.int .i64 c)
theorem errW_none : errW none = .nilIface := rfl
theorem errW_some (c : Int) : errW (some c) = .iface 0 (.int .i64 c) := rfl

-- the values' own types


end Go.Proofs.YtdccglkmkahblaaDoor.A
