/- Escaped bytes, and the bytes of what is escaped, are what the reference says: any bytes. No condition. -/
import Derived.Test.YtdccglkmkahblaaPx5
import Derived.Test.YtdccglkmkahblaaEq
import Derived.Test.YtdccglkmkahblaaAw
namespace Go.Proofs.Ytdccglkmkahblaa.Pure
open Go.RowKit Go.Proofs.Ytdccglkmkahblaa.P Go.Proofs.Ytdccglkmkahblaa.Hand Go.Proofs.Ytdccglkmkahblaa.Bq Go.Proofs.YtdccglkmkahblaaW.PrintWords Go.Proofs.YtdccglkmkahblaaW.PrintLast

theorem LinkEscapes : mosaiclaw29_LinkEscapes.Pure := by
  intro a _
  refine ⟨20000 + 6, ?_⟩
  unfold mosaiclaw29_LinkEscapes.f
  rw [awake_eq]
  by_cases h : (a.size : Int) > 400
  · rw [if_pos h]; rfl
  · rw [if_neg h]
    obtain ⟨r, h1, h2⟩ := unescape_both a (by omega) (20000 + 6) (by omega)
    rw [h1, h2]
    simp only [Option.bind_some]
    rw [refEscape_eq a _ (by omega) (by omega), link_Escape.f, if_pos (show a.size ≤ 100000 by omega)]
    simp only [Option.bind_some, if_true, beq_self_eq_true]

end Go.Proofs.Ytdccglkmkahblaa.Pure
