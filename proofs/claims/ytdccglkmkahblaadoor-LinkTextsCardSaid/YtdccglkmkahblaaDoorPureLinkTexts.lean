/- Which links may be, their texts, and the nearest node: in plain words, of the printed law. -/
import Derived.Test.YtdccglkmkahblaaDoorPx11
import Derived.Test.YtdccglkmkahblaaDoorTt
import Derived.Test.YtdccglkmkahblaaDoorAw
namespace Go.Proofs.YtdccglkmkahblaaDoor.Pure
open Go.RowKit Go.Proofs.YtdccglkmkahblaaDoor.P Go.Proofs.YtdccglkmkahblaaDoor.Tx Go.Proofs.YtdccglkmkahblaaDoor.Hand Go.Proofs.YtdccglkmkahblaaDoorW.PrintWords Go.Proofs.YtdccglkmkahblaaDoorW.PrintLast

theorem few_is (a b : ByteArray) (n : List Int) (p : List S34) : ∃ r, mosaiclaw29_few.f a b n p = some r ∧ (r = true → p.length ≤ 20) := by
  unfold mosaiclaw29_few.f
  repeat' split
  all_goals refine ⟨_, rfl, ?_⟩
  all_goals first
    | (intro h; simp at h; done)
    | (intro h; simp at h; omega)
theorem LinkTexts : mosaiclaw29_LinkTexts.Pure := by
  intro a b n p x y _ _
  refine ⟨3000, ?_⟩
  unfold mosaiclaw29_LinkTexts.f
  obtain ⟨r, hr, hl⟩ := few_is a b n p
  have aw : mosaiclaw29_awake.f 3000 = some true := Bq.awake_eq 2994
  rw [hr, Option.bind_some, aw]
  by_cases h : r = true
  · rw [if_pos h]
    have hl := hl h
    obtain ⟨t, e, ht, _⟩ := text_eq a b n p 3000 (by omega)
    have ht' := (text_ref a b n p 3000 3000 (by omega) (by omega)).trans ht
    obtain ⟨c, hc, _⟩ := check_eq a b n p 3000 (by omega)
    have hc' := (check_ref a b n p 3000 3000 (by omega) (by omega)).trans hc
    obtain ⟨r1, r2, hN⟩ : ∃ r1 r2, link_Nearest.f a b n p x y = some (r1, r2) := by
      unfold link_Nearest.f
      obtain ⟨c, hc, _⟩ := check_eq a b n p 1200 (by omega)
      rw [hc, Option.bind_some]
      repeat' split
      all_goals exact ⟨_, _, rfl⟩
    have hN' := (near_ref a b n p x y 3000 (by omega)).trans hN
    have hR : mosaiclaw29_Ref.f a b n p = some (a, b, n, p.map pc) := by unfold mosaiclaw29_Ref.f; rw [if_pos (by omega)]
    have hP : mosaiclaw17_Ref.f x y = some (x, y) := rfl
    simp only [ht, hR, Option.bind_some, ht', hN, hP, hN', hc, hc', if_true, beq_self_eq_true]
  · rw [if_neg h]
    rfl
end Go.Proofs.YtdccglkmkahblaaDoor.Pure
