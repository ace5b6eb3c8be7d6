/- Which link any text says: the program's answer is the document's. In plain words, of the printed law. -/
import Derived.Test.YtdccglkmkahblaaDoorPx15
import Derived.Test.YtdccglkmkahblaaDoorPb
namespace Go.Proofs.YtdccglkmkahblaaDoor.Pure
open Go.RowKit Go.Proofs.YtdccglkmkahblaaDoor.P Go.Proofs.YtdccglkmkahblaaDoor.Hand Go.Proofs.YtdccglkmkahblaaDoor.Rl Go.Proofs.YtdccglkmkahblaaDoorW.PrintWords Go.Proofs.YtdccglkmkahblaaDoorW.PrintLast

theorem LinkReads : mosaiclaw29_LinkReads.Pure := by
  intro a0 _
  by_cases h : (a0.size : Int) > 600
  · refine ⟨6, ?_⟩
    unfold mosaiclaw29_LinkReads.f
    rw [if_pos h, awake_at 6 (by omega)]; rfl
  · rcases both a0 (by omega) with ⟨h1, m, h2⟩ | ⟨a, b, n, p, h1, ⟨m, h2⟩, h3⟩
    · refine ⟨m + 2000, ?_⟩
      unfold mosaiclaw29_LinkReads.f
      have hR : mosaiclaw29_Ref.f noLink.1 noLink.2.1 noLink.2.2.1 noLink.2.2.2.1 = some (⟨#[]⟩, ⟨#[]⟩, [], []) := by unfold mosaiclaw29_Ref.f; rw [if_pos (by decide)]; rfl
      have hS := same ⟨#[]⟩ ⟨#[]⟩ [] [] (by simp) (by simp) (m + 2000) (by omega)
      have h2' := h2 (m + 2000) (by omega)
      simp only at h2'
      rw [if_neg h, h1, Option.bind_some, h2', Option.bind_some, awake_at (m + 2000) (by omega), Option.bind_some, if_pos rfl, hR, Option.bind_some]
      show (mosaicref29_Same.f (m + 2000) ⟨#[]⟩ ⟨#[]⟩ [] [] ⟨#[]⟩ ⟨#[]⟩ [] []).bind _ = _
      rw [hS, Option.bind_some, if_pos rfl]; rfl
    · refine ⟨m + 2000, ?_⟩
      unfold mosaiclaw29_LinkReads.f
      obtain ⟨hC, _⟩ := text_ok a b n p 6000 (by omega) a0 h3
      obtain ⟨r, hr, hM⟩ := Tx.check_eq a b n p 6000 (by omega)
      rw [hC] at hr
      have hM := hM (Option.some.inj hr).symm
      have h6 := hM.few
      have hl := hM.len
      have hR : mosaiclaw29_Ref.f a b n p = some (a, b, n, p.map pc) := by unfold mosaiclaw29_Ref.f; rw [if_pos (by omega)]
      have hS := same a b n (p.map pc) (by omega) (by rw [List.length_map]; omega) (m + 2000) (by omega)
      have h2' := h2 (m + 2000) (by omega)
      simp only at h2'
      rw [if_neg h, h1, Option.bind_some, h2', Option.bind_some, awake_at (m + 2000) (by omega), Option.bind_some, if_pos rfl]
      show (mosaiclaw29_Ref.f a b n p).bind _ = _
      rw [hR, Option.bind_some]
      show (mosaicref29_Same.f (m + 2000) a b n (p.map pc) a b n (p.map pc)).bind _ = _
      rw [hS, Option.bind_some, if_pos rfl]; rfl
end Go.Proofs.YtdccglkmkahblaaDoor.Pure
