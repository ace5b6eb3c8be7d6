/- What is written is read as it was. In plain words, of the printed law. -/
import Derived.Test.YtdccglkmkahblaaDoorPx16
import Derived.Test.YtdccglkmkahblaaDoorPa
namespace Go.Proofs.YtdccglkmkahblaaDoor.Pure
open Go.RowKit Go.Proofs.YtdccglkmkahblaaDoor.P Go.Proofs.YtdccglkmkahblaaDoor.Hand Go.Proofs.YtdccglkmkahblaaDoor.Rl Go.Proofs.YtdccglkmkahblaaDoorW.PrintWords Go.Proofs.YtdccglkmkahblaaDoorW.PrintLast

theorem few_is (a b : ByteArray) (n : List Int) (p : List S34) : ∃ r, mosaiclaw29_few.f a b n p = some r := by
  unfold mosaiclaw29_few.f
  repeat' split
  all_goals exact ⟨_, rfl⟩
theorem back_j1 (s : ByteArray) (hs : s.size ≤ 400) (k : Nat) (hk : 6001 ≤ k) : mosaiclaw29_LinkBack.j1 k s = some true := by
  obtain ⟨k, rfl⟩ : ∃ k', k = k' + 1 := ⟨k - 1, by omega⟩
  have aw : mosaiclaw29_awake.f k = some true := awake_at k (by omega)
  rw [mosaiclaw29_LinkBack.j1]
  obtain ⟨r, hr, rfl | ⟨a, b, n, p, rfl, hT⟩⟩ := link_total s (by omega)
  · rw [hr, Option.bind_some, aw]; rfl
  · have hT2 := up (fun k => link_Text.mono a b n p k) hT (show 6000 ≤ k by omega)
    rw [hr, Option.bind_some, aw]
    show (if (0 : Int) = 0 then (link_Text.f k a b n p).bind _ else _) = _
    rw [if_pos rfl, hT2, Option.bind_some, if_pos rfl, if_pos rfl]; rfl
theorem LinkBack : mosaiclaw29_LinkBack.Pure := by
  intro a b n p s _ _
  refine ⟨9000, ?_⟩
  unfold mosaiclaw29_LinkBack.f
  obtain ⟨r, hr⟩ := few_is a b n p
  rw [hr, Option.bind_some]
  have no : mosaiclaw29_LinkBack.j0 9000 s true a b n p = some true := by
    rw [mosaiclaw29_LinkBack.j0, if_pos rfl, awake_at 8999 (by omega)]; rfl
  by_cases hrt : r = true
  · rw [if_pos hrt]
    by_cases h4 : (s.size : Int) > 400
    · rw [decide_eq_true h4]; exact no
    · rw [decide_eq_false h4, mosaiclaw29_LinkBack.j0, if_neg (by simp)]
      have h1 : link_Base32.f s = some (Bp.b32 s) := by unfold link_Base32.f; rw [if_pos (by omega)]
      have h2 : link_Escape.f s = some (Ex.escB s) := by unfold link_Escape.f; rw [if_pos (by omega)]
      have hj := back_j1 s (by omega) 8999 (by omega)
      rw [h1, Option.bind_some, Bq.unb s (by omega) 8999 (by omega), Option.bind_some, h2, Option.bind_some, Bq.une s (by omega) 8999 (by omega), Option.bind_some, if_pos rfl, if_pos rfl, if_pos (show wrap64 ((0 : Int) + 0) = 0 from Tx.w64 (n := 0) (by omega))]
      obtain ⟨t, e, hT, h402, he⟩ := Tx.text_eq a b n p 8999 (by omega)
      rw [hT, Option.bind_some]
      by_cases he0 : e = 0
      · subst he0
        obtain ⟨hC, ht⟩ := text_ok a b n p 8999 (by omega) t hT
        have hrd := read_text a b n p 6000 (by omega) (check_up a b n p 8999 6000 (by omega) (by omega) hC)
        rw [← ht] at hrd
        have hrd2 : link_Read.f t = some (a, b, n, p, 0) := hrd
        obtain ⟨q, hq, hM⟩ := Tx.check_eq a b n p 8999 (by omega)
        rw [hC] at hq
        have hM := hM (Option.some.inj hq).symm
        have h6 := hM.few
        have hl := hM.len
        have hR : mosaiclaw29_Ref.f a b n p = some (a, b, n, p.map pc) := by unfold mosaiclaw29_Ref.f; rw [if_pos (by omega)]
        have hS := same a b n (p.map pc) (by omega) (by rw [List.length_map]; omega) 8999 (by omega)
        rw [if_pos rfl, hrd2, Option.bind_some]
        show (if (0 : Int) = 0 then (mosaiclaw29_Ref.f a b n p).bind _ else none) = _
        rw [if_pos rfl, hR, Option.bind_some, Option.bind_some]
        show (mosaicref29_Same.f 8999 a b n (p.map pc) a b n (p.map pc)).bind _ = _
        rw [hS, Option.bind_some, if_pos rfl]
        exact hj
      · rw [if_neg he0]; exact hj
  · rw [if_neg hrt]; exact no
end Go.Proofs.YtdccglkmkahblaaDoor.Pure
