-- Written for this claim by the session's own turn of the kit's print program (wip/tools/xprint.py).
import Derived.Test.YtdccglkmkahblaaProg
import Derived.Below
import Derived.Deep.Draws
import Derived.Deep.AppendLies
import Derived.Maps.AppendAt
import Derived.OwnWalk
import Derived.Laws.BytesArg
import Derived.Laws.MakeOwn
import Derived.Laws.OwnMore
import Derived.Deep.OwnRows
import Derived.Tactics
import Derived.Lib.ConvBytes
import Derived.Laws.Slices
import Derived.WalkKit
import Derived.KernelRfl
import Derived.RowKit3
import Derived.Deep.LoopGhost
import Derived.Deep.QuietTactic
import Derived.BigQuiet
import Derived.WideLaws
import Derived.Deep.DeepCutAuto
import Derived.Deep.CutBlock
import Derived.Deep.RegionHeld3
import Derived.Laws.Rows
import Derived.Lib.AppendStr
import Derived.ArgAppend
import Derived.Laws.IdiomCopy
import Derived.OrdersHeld
import Derived.Laws.BitsLemmas
import Derived.RowKit
import Derived.Test.YtdccglkmkahblaaSq
import Derived.Test.YtdccglkmkahblaaHd
import Derived.Test.YtdccglkmkahblaaWWords
import Derived.Test.YtdccglkmkahblaaWLast
import Derived.Test.YtdccglkmkahblaaWTab
import Derived.Test.YtdccglkmkahblaaWFour
import Derived.Test.YtdccglkmkahblaaWQPut
import Derived.Test.YtdccglkmkahblaaWApart
import Derived.Test.YtdccglkmkahblaaWArr
import Derived.Test.YtdccglkmkahblaaWZeros
import Derived.Test.YtdccglkmkahblaaWFoot
import Derived.Test.YtdccglkmkahblaaWKept
import Derived.Test.YtdccglkmkahblaaWShare
import Derived.Test.YtdccglkmkahblaaWN
import Derived.Test.YtdccglkmkahblaaWFootNe
import Derived.Test.YtdccglkmkahblaaWAt
import Derived.Test.YtdccglkmkahblaaWEqStruct
import Derived.Test.YtdccglkmkahblaaWRepsOne
import Derived.Test.YtdccglkmkahblaaWInv
import Derived.Test.YtdccglkmkahblaaWInvWords
import Derived.Test.YtdccglkmkahblaaWGuard
import Derived.Test.YtdccglkmkahblaaWNEv
import Derived.Test.YtdccglkmkahblaaWMore
namespace Go.Proofs.Ytdccglkmkahblaa.P
open Go.RowKit Go.Proofs.Ytdccglkmkahblaa.Sq Go.Proofs.Ytdccglkmkahblaa.Hand Go.Proofs.YtdccglkmkahblaaW.PrintWords Go.Proofs.YtdccglkmkahblaaW.PrintLast Go.Proofs.YtdccglkmkahblaaW.PrintMore
attribute [local go_sem] max2_int min2_int max_two min_two max_three min_three max_four min_four   -- for this text's walks alone
set_option linter.unusedVariables false
set_option linter.unusedSimpArgs false



def errW : Option Int → Value
  | none => .nilIface
  | some c => .iface 0 (.int .i64 c)
theorem errW_none : errW none = .nilIface := rfl
theorem errW_some (c : Int) : errW (some c) = .iface 0 (.int .i64 c) := rfl

theorem info5 : (Try.prog.info? 5).map (fun i => (i.zero, i.size, i.bytes)) = some (some (.int .u8 0), 1, 1) := by kernel_rfl
-- the values' own types


end Go.Proofs.Ytdccglkmkahblaa.P
