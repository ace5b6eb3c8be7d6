/- The page's examples of link come out as the page says. -/
import Derived.Test.YtdccglkmkahblaaPx1
namespace Go.Proofs.Ytdccglkmkahblaa.Bq
open Go.RowKit Go.Proofs.Ytdccglkmkahblaa.P Go.Proofs.Ytdccglkmkahblaa.Hand Go.Proofs.YtdccglkmkahblaaW.PrintWords Go.Proofs.YtdccglkmkahblaaW.PrintLast Go.Proofs.YtdccglkmkahblaaW.PrintMore

theorem awake_eq (k : Nat) : mosaiclaw29_awake.f (k + 6) = some true := by
  induction k with
  | zero => decide +kernel
  | succ k ih => exact mosaiclaw29_awake.mono (k + 6) _ ih

end Go.Proofs.Ytdccglkmkahblaa.Bq
