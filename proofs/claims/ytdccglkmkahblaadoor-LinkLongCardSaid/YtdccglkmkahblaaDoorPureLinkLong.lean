/- How long texts are: in plain words, of the printed law. -/
import Derived.Test.YtdccglkmkahblaaDoorPx0
import Derived.Test.YtdccglkmkahblaaDoorPx1
import Derived.Test.YtdccglkmkahblaaDoorPx4
import Derived.Test.YtdccglkmkahblaaDoorTx
import Derived.Test.YtdccglkmkahblaaDoorAw
namespace Go.Proofs.YtdccglkmkahblaaDoor.Pure
open Go.RowKit Go.Proofs.YtdccglkmkahblaaDoor.P Go.Proofs.YtdccglkmkahblaaDoor.Tx Go.Proofs.YtdccglkmkahblaaDoor.Hand Go.Proofs.YtdccglkmkahblaaDoorW.PrintWords Go.Proofs.YtdccglkmkahblaaDoorW.PrintLast

theorem escL_even (s : List UInt8) : ∃ d, (Ex.escL s).length = s.length + 2 * d ∧ d ≤ s.length := by
  induction s with
  | nil => exact ⟨0, rfl, Nat.le_refl _⟩
  | cons b s ih =>
    obtain ⟨d, hd, hl⟩ := ih
    unfold Ex.escL at *
    rw [List.flatMap_cons, List.length_append, hd, List.length_cons]
    unfold Ex.esc1
    split
    · exact ⟨d, by simp only [List.length_cons, List.length_nil]; omega, by omega⟩
    · exact ⟨d + 1, by simp only [List.length_cons, List.length_nil]; omega, by omega⟩
theorem esc_size (s : ByteArray) (h : s.size ≤ 400) : ∃ E : ByteArray, ∃ d : Nat, link_Escape.f s = some E ∧ E.size = s.size + 2 * d ∧ d ≤ s.size := by
  obtain ⟨d, hd, hl⟩ := escL_even s.data.toList
  have hz : s.data.toList.length = s.size := Array.length_toList
  rw [hz] at hd hl
  exact ⟨Ex.escB s, d, (esc_f s (by omega)).1, by unfold Ex.escB; rw [szL]; exact hd, hl⟩
theorem b32_size (s : ByteArray) (h : s.size ≤ 400) : ∃ B : ByteArray, link_Base32.f s = some B ∧ B.size = (8 * s.size + 4) / 5 :=
  ⟨Bp.b32 s, by unfold link_Base32.f; rw [if_pos (by omega)], by unfold Bp.b32; rw [szL, Bp.encN_length]⟩
theorem few_tot (a b : ByteArray) (n : List Int) (p : List S34) : ∃ r, mosaiclaw29_few.f a b n p = some r := by
  unfold mosaiclaw29_few.f
  repeat' split
  all_goals exact ⟨_, rfl⟩
theorem LinkLong : mosaiclaw29_LinkLong.Pure := by
  intro a b n p s _ _
  refine ⟨3000, ?_⟩
  unfold mosaiclaw29_LinkLong.f
  obtain ⟨r, hr⟩ := few_tot a b n p
  have aw : ∀ k, 10 ≤ k → mosaiclaw29_awake.f k = some true := by
    intro k hk
    obtain ⟨k, rfl⟩ : ∃ k', k = k' + 6 := ⟨k - 6, by omega⟩
    exact Bq.awake_eq k
  have no : mosaiclaw29_LinkLong.j0 3000 s true a b n p = some true := by
    rw [mosaiclaw29_LinkLong.j0, if_pos rfl, aw 2999 (by omega)]; rfl
  rw [hr, Option.bind_some]
  by_cases h1 : r = true
  · rw [if_pos h1]
    by_cases h2 : (s.size : Int) > 400
    · rw [decide_eq_true h2]; exact no
    · rw [decide_eq_false h2]
      have hs : s.size ≤ 400 := by omega
      obtain ⟨E, d, hE, hEs, hd⟩ := esc_size s hs
      obtain ⟨B, hB, hBs⟩ := b32_size s hs
      obtain ⟨t, e, ht, ht2, hte⟩ := text_eq a b n p 2999 (by omega)
      rw [mosaiclaw29_LinkLong.j0, if_neg (by simp), hE, Option.bind_some, hB, Option.bind_some]
      generalize s.size = z at *
      have w1 : wrap64 (8 * (z : Int)) = 8 * (z : Int) := w64 (by omega)
      have w2 : wrap64 (8 * (z : Int) + 4) = ((8 * z + 4 : Nat) : Int) := by rw [w64 (by omega)]; omega
      have w3 : wrap64 (Int.tdiv ((8 * z + 4 : Nat) : Int) 5) = (((8 * z + 4) / 5 : Nat) : Int) := by
        rw [show (5 : Int) = ((5 : Nat) : Int) from rfl, ← Int.ofNat_tdiv]; exact w64 (by omega)
      have w4 : wrap64 (3 * (z : Int)) = 3 * (z : Int) := w64 (by omega)
      have w5 : wrap64 ((E.size : Int) - (z : Int)) = ((2 * d : Nat) : Int) := by rw [hEs, w64 (by omega)]; omega
      have w6 : Int.tmod ((2 * d : Nat) : Int) 2 = 0 := by
        rw [show (2 : Int) = ((2 : Nat) : Int) from rfl, ← Int.ofNat_tmod, Nat.mul_mod_right]; rfl
      have q1 : (B.size : Int) = (((8 * z + 4) / 5 : Nat) : Int) := by rw [hBs]
      have q2 : ¬ (E.size : Int) < (z : Int) := by rw [hEs]; clear w1 w2 w3 w4 w5 w6; omega
      have q3 : ¬ (E.size : Int) > 3 * (z : Int) := by rw [hEs]; clear w1 w2 w3 w4 w5 w6; omega
      have q4 : ((e == 0) == (t.toList != ([] : List UInt8))) = true := by
        have hz : t.data.toList.length = t.size := Array.length_toList
        rw [ByteArray.toList_eq]
        rcases hte with ⟨rfl, h0⟩ | ⟨rfl, h0⟩
        · cases hl : t.data.toList with
          | nil => rw [hl] at hz; simp at hz; omega
          | cons => rfl
        · have hl : t.data.toList = [] := List.length_eq_zero_iff.mp (by rw [hz]; exact h0)
          rw [hl]; rfl
      rw [w1, w2, w3, if_pos q1, if_neg q2, w4, if_neg q3, w5, if_pos w6, ht, Option.bind_some, aw 2999 (by decide), Option.bind_some, if_pos rfl, if_pos q4]
      rw [decide_eq_true (show (t.size : Int) ≤ 402 from Int.ofNat_le.mpr ht2)]
  · rw [if_neg h1]; exact no

end Go.Proofs.YtdccglkmkahblaaDoor.Pure
