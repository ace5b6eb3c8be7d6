/- The text of any set, and the set of any text: the program's are the document's. -/
import Derived.Test.YtbbncdbihiipcaaDoorPx6
import Derived.Test.YtbbncdbihiipcaaDoorTz
namespace Go.Proofs.YtbbncdbihiipcaaDoor.Th
open Go.RowKit Go.Proofs.YtbbncdbihiipcaaDoor.P Go.Proofs.YtbbncdbihiipcaaDoorW.PrintWords Go.Proofs.YtbbncdbihiipcaaDoorW.PrintLast Go.Proofs.YtbbncdbihiipcaaDoor.Ru

theorem of_Ev {F : Nat → Option Bool} (h : Ev F true) : ∃ k, F k = some true := by
  obtain ⟨k, hk⟩ := h
  exact ⟨k, hk k (Nat.le_refl _)⟩
theorem pureRunsTexts : mosaiclaw25_RunsTexts.Pure := by
  intro n s t _ hs ht
  have haw : Ev (fun k => mosaiclaw25_RunsTexts.j0 k n s t true) true := by
    refine Ev.step (fun k => by rw [mosaiclaw25_RunsTexts.j0, if_pos rfl]) ?_
    exact Ev.bind (G := fun t182 _ => (some t182)) awake (Ev.const _)
  refine of_Ev (F := fun k => mosaiclaw25_RunsTexts.f k n s t) ?_
  by_cases h30 : s.size > 30
  · refine Ev.congr (fun k => ?_) haw
    unfold mosaiclaw25_RunsTexts.f; rw [if_pos (by omega)]
  · by_cases h400 : t.size > 1000
    · refine Ev.congr (fun k => ?_) haw
      unfold mosaiclaw25_RunsTexts.f; rw [if_neg (by omega), decide_eq_true (by omega)]
    · refine Ev.congr (G := fun k => mosaiclaw25_RunsTexts.j0 k n s t false) (fun k => by unfold mosaiclaw25_RunsTexts.f; rw [if_neg (by omega), decide_eq_false (by omega)]) ?_
      obtain ⟨u, u1, u2⟩ := both_read n t (by omega)
      have p1 := prog_text n s
      have p2 := ref_text n s hs
      generalize (if chk n s = true then (textB n s, (0 : Int)) else (⟨#[]⟩, 3)) = P at *
      refine Ev.step (G := fun k => _) (fun k => by rw [mosaiclaw25_RunsTexts.j0, if_neg (by simp)]) ?_
      refine Ev.bind (G := fun bt343 k => _) p1 ?_
      refine Ev.bind (G := fun bt345 k => _) p2 ?_
      refine Ev.bind (G := fun bt347 k => _) u1 ?_
      refine Ev.bind (G := fun bt349 k => _) u2 ?_
      refine Ev.bind (G := fun t351 k => _) awake ?_
      refine Ev.of fun k => ?_
      rw [if_pos rfl, if_pos rfl, if_pos rfl, if_pos rfl]
      simp
end Go.Proofs.YtbbncdbihiipcaaDoor.Th
namespace Go.Proofs.YtbbncdbihiipcaaDoor.Pure
open Go.Proofs.YtbbncdbihiipcaaDoor.P
theorem RunsTexts : mosaiclaw25_RunsTexts.Pure := Th.pureRunsTexts
end Go.Proofs.YtbbncdbihiipcaaDoor.Pure
