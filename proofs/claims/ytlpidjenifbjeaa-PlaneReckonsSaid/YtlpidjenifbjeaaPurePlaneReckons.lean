/- Sums, differences, products, distances and norms of any two places are what the reference says. No condition. -/
import Derived.Test.YtlpidjenifbjeaaPx3
import Derived.Test.YtlpidjenifbjeaaPx15
import Derived.Test.YtlpidjenifbjeaaPa
import Derived.Test.YtlpidjenifbjeaaPd
namespace Go.Proofs.Ytlpidjenifbjeaa.Pure
open Go.RowKit Go.Proofs.Ytlpidjenifbjeaa.P Go.Proofs.YtlpidjenifbjeaaW.PrintWords Go.Proofs.YtlpidjenifbjeaaW.PrintLast Go.Proofs.Ytlpidjenifbjeaa.Pl

theorem PlaneReckons : mosaiclaw17_PlaneReckons.Pure := by
  intro a0 a1 b0 b1 _ _
  refine ⟨24, ?_⟩
  unfold mosaiclaw17_PlaneReckons.f
  simp only [add_eq, sub_eq, mul_eq, mosaiclaw17_Ref.f, refAdd_eq, refSub_eq, refMul_eq, awake_eq 24 (by omega), check_eq, refCheck_eq, norm_eq, refNorm_eq, dist_eq, refDist_eq, Option.bind_some, beq_self_eq_true, Bool.not_true, Bool.or_self, if_true, Bool.false_eq_true, if_false]

end Go.Proofs.Ytlpidjenifbjeaa.Pure
