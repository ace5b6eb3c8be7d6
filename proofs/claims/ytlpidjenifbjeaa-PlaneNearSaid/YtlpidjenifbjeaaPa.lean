/- The page's examples of plane come out as the page says: the check that each statement about plane begins with. -/
import Derived.Test.YtlpidjenifbjeaaPx3
import Derived.Test.YtlpidjenifbjeaaPs
namespace Go.Proofs.Ytlpidjenifbjeaa.Pl
open Go.RowKit Go.Proofs.Ytlpidjenifbjeaa.P Go.Proofs.YtlpidjenifbjeaaW.PrintWords Go.Proofs.YtlpidjenifbjeaaW.PrintLast Go.Proofs.YtlpidjenifbjeaaW.PrintMore Go.Proofs.Ytlpidjenifbjeaa.Fl

theorem awake_eq (k : Nat) (hk : 24 ≤ k) : mosaiclaw17_awake.f k = some true := by
  obtain ⟨K, r, hs, _, hK, _, hr, hr2, hn⟩ := spiral_eq 4 (by omega) k hk
  obtain ⟨rfl, rfl⟩ := split_unique (K := 1) (r := 2) (by omega) (by omega) hK ⟨hr, hr2⟩ (by rw [← hn]; rfl)
  unfold mosaiclaw17_awake.f
  rw [mul_eq, turn_eq 1 2 1 k (by omega), hs]
  have e1 : pair3 (okB 1 2 && okB 3 (-1)) (1 * 3 - 2 * -1) (1 * -1 + 2 * 3) = (5, 5, 0) := by decide
  have e2 : turnP 1 2 1 = (-2, 1, 0) := by decide
  have e3 : spX 1 2 = -1 ∧ spY 1 2 = 1 := by decide
  rw [e1, e2, e3.1, e3.2]
  simp only [Option.bind_some]
  rw [if_pos (by unfold wrap64; decide)]
  rfl

end Go.Proofs.Ytlpidjenifbjeaa.Pl
