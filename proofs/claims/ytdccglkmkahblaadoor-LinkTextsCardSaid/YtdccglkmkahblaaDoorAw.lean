/- The page's examples of link come out as the page says. -/
import Derived.Test.YtdccglkmkahblaaDoorPx1
namespace Go.Proofs.YtdccglkmkahblaaDoor.Bq
open Go.RowKit Go.Proofs.YtdccglkmkahblaaDoor.P Go.Proofs.YtdccglkmkahblaaDoor.Hand Go.Proofs.YtdccglkmkahblaaDoorW.PrintWords Go.Proofs.YtdccglkmkahblaaDoorW.PrintLast Go.Proofs.YtdccglkmkahblaaDoorW.PrintMore

theorem awake_eq (k : Nat) : mosaiclaw29_awake.f (k + 6) = some true := by
  induction k with
  | zero => decide +kernel
  | succ k ih => exact mosaiclaw29_awake.mono (k + 6) _ ih

end Go.Proofs.YtdccglkmkahblaaDoor.Bq
