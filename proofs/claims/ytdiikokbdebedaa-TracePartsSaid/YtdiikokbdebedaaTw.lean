/- few, refs, Same and the page's example, in plain words. -/
import Derived.Test.YtdiikokbdebedaaPx0
import Derived.Test.YtdiikokbdebedaaPx2
import Derived.Test.YtdiikokbdebedaaPx6
import Derived.Test.YtdiikokbdebedaaPx8
import Derived.Test.YtdiikokbdebedaaTv
namespace Go.Proofs.Ytdiikokbdebedaa.Tr
open Go.RowKit Go.Proofs.Ytdiikokbdebedaa.P Go.Proofs.Ytdiikokbdebedaa.Ck Go.Proofs.Ytdiikokbdebedaa.Pk Go.Proofs.Ytdiikokbdebedaa.Hand Go.Proofs.YtdiikokbdebedaaW.PrintWords Go.Proofs.YtdiikokbdebedaaW.PrintLast Go.Proofs.YtdiikokbdebedaaW.PrintMore

theorem few_l0 (l : List S47) (hl : l.length ≤ 100) (m : Nat) : ∀ (i k : Nat), l.length = i + m → m + 1 ≤ k → ∃ b, mosaiclaw32_few.l0 k l (i : Int) = some b := by
  induction m with
  | zero =>
    intro i k hi hk
    obtain ⟨k, rfl⟩ : ∃ k', k = k' + 1 := ⟨k - 1, by omega⟩
    rw [mosaiclaw32_few.l0, if_neg (by omega)]
    exact ⟨_, rfl⟩
  | succ m ih =>
    intro i k hi hk
    obtain ⟨k, rfl⟩ : ∃ k', k = k' + 1 := ⟨k - 1, by omega⟩
    rw [mosaiclaw32_few.l0, if_pos (by omega), if_pos (by omega), w64 (by omega)]
    by_cases h : (((rd_T47 l (i : Int)).f2.size : Nat) : Int) > 500
    · rw [if_pos h]; exact ⟨_, rfl⟩
    · rw [if_neg h]; exact ih (i + 1) k (by omega) (by omega)
theorem few_eq (l : List S47) (k : Nat) (hk : 200 ≤ k) : ∃ b, mosaiclaw32_few.f k l 100 = some b ∧ (b = true → l.length ≤ 100) := by
  unfold mosaiclaw32_few.f
  by_cases h : (l.length : Int) > 100
  · rw [if_pos h]; exact ⟨false, rfl, by simp⟩
  · rw [if_neg h]
    obtain ⟨b, hb⟩ := few_l0 l (by omega) l.length 0 k (by omega) (by omega)
    exact ⟨b, hb, fun _ => by omega⟩

def toR (x : S47) : S54 := ⟨x.f0, x.f1, x.f2⟩
theorem refs_l0 (l : List S47) (hl : l.length ≤ 1000) (m : Nat) : ∀ (i k : Nat), l.length = i + m → m + 1 ≤ k → mosaiclaw32_refs.l0 k l ((l.take i).map toR) (i : Int) = some (l.map toR) := by
  induction m with
  | zero =>
    intro i k hi hk
    obtain ⟨k, rfl⟩ : ∃ k', k = k' + 1 := ⟨k - 1, by omega⟩
    rw [mosaiclaw32_refs.l0, if_neg (by omega), List.take_of_length_le (by omega)]
  | succ m ih =>
    intro i k hi hk
    obtain ⟨k, rfl⟩ : ∃ k', k = k' + 1 := ⟨k - 1, by omega⟩
    have hx : l[i]? = some l[i] := List.getElem?_eq_getElem (by omega)
    have hr : rd_T47 l (i : Int) = l[i] := by unfold rd_T47; rw [Int.toNat_natCast, List.getD_eq_getElem?_getD, hx]; rfl
    have hT : (l.take (i + 1)).map toR = (l.take i).map toR ++ [toR l[i]] := by rw [List.take_add_one, hx, List.map_append]; rfl
    rw [mosaiclaw32_refs.l0, if_pos (by omega), if_pos (by omega), if_pos (by simp; omega), w64 (by omega), hr]
    have := ih (i + 1) k (by omega) (by omega)
    rw [hT] at this
    exact this
theorem refs_eq (l : List S47) (hl : l.length ≤ 1000) (k : Nat) (hk : 1001 ≤ k) : mosaiclaw32_refs.f k l = some (l.map toR) := refs_l0 l hl l.length 0 k (by omega) (by omega)

theorem same_l0 (l : List S54) (hl : l.length ≤ 1000) (m : Nat) : ∀ (i k : Nat), l.length = i + m → m + 1 ≤ k → mosaicref32_Same.l0 k l l (i : Int) = some true := by
  induction m with
  | zero =>
    intro i k hi hk
    obtain ⟨k, rfl⟩ : ∃ k', k = k' + 1 := ⟨k - 1, by omega⟩
    rw [mosaicref32_Same.l0, if_neg (by omega)]
  | succ m ih =>
    intro i k hi hk
    obtain ⟨k, rfl⟩ : ∃ k', k = k' + 1 := ⟨k - 1, by omega⟩
    rw [mosaicref32_Same.l0, if_pos (by omega), if_pos (by omega), if_pos (by omega), if_neg (by simp), w64 (by omega)]
    exact ih (i + 1) k (by omega) (by omega)
theorem same_eq (l : List S54) (hl : l.length ≤ 1000) (k : Nat) (hk : 1001 ≤ k) : mosaicref32_Same.f k l l = some true := by
  unfold mosaicref32_Same.f
  rw [if_pos rfl]
  exact same_l0 l hl l.length 0 k (by omega) (by omega)

end Go.Proofs.Ytdiikokbdebedaa.Tr
