/- Spiral and Unspiral undo each other, and neighbours on the spiral are one step apart: for every number. No condition. -/
import Derived.Test.YtlpidjenifbjeaaPx11
import Derived.Test.YtlpidjenifbjeaaPa
namespace Go.Proofs.Ytlpidjenifbjeaa.Pure
open Go.RowKit Go.Proofs.Ytlpidjenifbjeaa.P Go.Proofs.YtlpidjenifbjeaaW.PrintWords Go.Proofs.YtlpidjenifbjeaaW.PrintLast Go.Proofs.Ytlpidjenifbjeaa.Pl

theorem PlaneSpiralsBack : mosaiclaw17_PlaneSpiralsBack.Pure := by
  intro n hw
  refine ⟨40, ?_⟩
  have aw := fun k h => awake_eq k h
  unfold mosaiclaw17_PlaneSpiralsBack.f
  by_cases h : 0 ≤ n ∧ n ≤ 1099511627776
  · obtain ⟨K, r, hs, hok, hK, hK2, hr, hr2, hn⟩ := spiral_eq n h 40 (by omega)
    rw [hs]
    simp only [Option.bind_some]
    rw [if_neg (by omega), decide_eq_false (by omega)]
    simp only [mosaiclaw17_PlaneSpiralsBack.j0]
    rw [if_neg (by simp), if_pos trivial, check_eq, hok]
    simp only [Option.bind_some, if_true]
    rw [uns_eq, hok]
    simp only [Option.bind_some, if_true]
    rw [uns_sp K r hK ⟨hr, hr2⟩, ← hn]
    simp only [bne_self_eq_false, mosaiclaw17_PlaneSpiralsBack.j1]
    rw [if_neg (by simp)]
    by_cases z : n = 0
    · rw [if_pos z, aw 38 (by omega)]
      obtain ⟨rfl, rfl⟩ := split_unique (K := 0) (r := 0) (by omega) (by omega) hK ⟨hr, hr2⟩ (by rw [← hn, z]; rfl)
      rfl
    · rw [if_neg z, show wrap64 (n - 1) = n - 1 from wrap_eq (by omega)]
      obtain ⟨K', r', hs', hok', hK', hK2', hr', hr2', hn'⟩ := spiral_eq (n - 1) (by omega) 38 (by omega)
      rw [hs', aw 38 (by omega)]
      simp only [Option.bind_some, if_true]
      rw [dist_eq]
      simp only [Option.bind_some]
      unfold distP
      rw [hok, hok']
      simp only [Bool.and_self, if_true]
      by_cases c : 1 ≤ r
      · obtain ⟨rfl, rfl⟩ := split_unique (K := K) (r := r - 1) hK (by omega) hK' ⟨hr', hr2'⟩ (by omega)
        rw [near_step]; rfl
      · obtain rfl : r = 0 := by omega
        have hK1 : 1 ≤ K := by
          rcases Int.lt_or_le K 1 with q | q
          · obtain rfl : K = 0 := by omega
            omega
          · exact q
        have e : (K - 1) * (K - 1 + 1) + (2 * K - 1) = K * (K + 1) - 1 := by grind
        obtain ⟨rfl, rfl⟩ := split_unique (K := K - 1) (r := 2 * K - 1) (by omega) (by omega) hK' ⟨hr', hr2'⟩ (by omega)
        rw [near_corner K hK1]; rfl
  · rw [spiral_out n h 40 (by omega)]
    simp only [Option.bind_some]
    have : (if n < 0 then mosaiclaw17_PlaneSpiralsBack.j0 40 n 1 true 0 0 else mosaiclaw17_PlaneSpiralsBack.j0 40 n 1 (decide (n > 1099511627776)) 0 0) = mosaiclaw17_PlaneSpiralsBack.j0 40 n 1 true 0 0 := by
      split
      · rfl
      · rw [decide_eq_true (by omega)]
    rw [this]
    simp only [mosaiclaw17_PlaneSpiralsBack.j0]
    rw [if_pos trivial, aw 39 (by omega)]
    rfl

end Go.Proofs.Ytlpidjenifbjeaa.Pure
