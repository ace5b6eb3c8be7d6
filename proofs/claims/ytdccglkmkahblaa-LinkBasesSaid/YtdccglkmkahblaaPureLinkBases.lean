/- Base 32, written and read, is what the reference says: any bytes. No condition. -/
import Derived.Test.YtdccglkmkahblaaPx2
import Derived.Test.YtdccglkmkahblaaBu
import Derived.Test.YtdccglkmkahblaaAw
namespace Go.Proofs.Ytdccglkmkahblaa.Pure
open Go.RowKit Go.Proofs.Ytdccglkmkahblaa.P Go.Proofs.Ytdccglkmkahblaa.Hand Go.Proofs.Ytdccglkmkahblaa.Bq Go.Proofs.YtdccglkmkahblaaW.PrintWords Go.Proofs.YtdccglkmkahblaaW.PrintLast

theorem LinkBases : mosaiclaw29_LinkBases.Pure := by
  intro a _
  refine ⟨20000 + 6, ?_⟩
  unfold mosaiclaw29_LinkBases.f
  rw [awake_eq]
  by_cases h : (a.size : Int) > 400
  · rw [if_pos h]; rfl
  · rw [if_neg h]
    obtain ⟨r, h1, h2⟩ := unbase32_both a (by omega) (20000 + 6) (20000 + 6) (by omega) (by omega)
    rw [h1, h2]
    simp only [Option.bind_some]
    rw [refBase32_eq a _ (by omega) (by omega), link_Base32.f, if_pos (show a.size ≤ 100000 by omega)]
    simp only [Option.bind_some, if_true, beq_self_eq_true]

end Go.Proofs.Ytdccglkmkahblaa.Pure
