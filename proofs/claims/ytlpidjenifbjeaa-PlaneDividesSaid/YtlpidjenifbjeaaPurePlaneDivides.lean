/- The quotient of any two places, and the rest, are what the document says, or the error; the rest's norm is at most half of the divisor's. No condition. -/
import Derived.Test.YtlpidjenifbjeaaPx3
import Derived.Test.YtlpidjenifbjeaaPx10
import Derived.Test.YtlpidjenifbjeaaPq
namespace Go.Proofs.Ytlpidjenifbjeaa.Pure
open Go.RowKit Go.Proofs.Ytlpidjenifbjeaa.P Go.Proofs.YtlpidjenifbjeaaW.PrintWords Go.Proofs.YtlpidjenifbjeaaW.PrintLast Go.Proofs.Ytlpidjenifbjeaa.Pl

theorem PlaneDivides : mosaiclaw17_PlaneDivides.Pure := by
  intro a b c d _ _
  refine ⟨40, ?_⟩
  unfold mosaiclaw17_PlaneDivides.f
  rw [quo_eq a b c d 40 (by omega)]
  simp only [Option.bind_some, mosaiclaw17_Ref.f]
  rw [refQuo_eq a b c d 40 (by omega)]
  simp only [Option.bind_some, beq_self_eq_true, Bool.not_true, Bool.or_self, Bool.false_eq_true, if_false, bne_self_eq_false]
  simp only [mosaiclaw17_PlaneDivides.j0]
  rw [if_neg (by simp), awake_eq 39 (by omega)]
  simp only [Option.bind_some, if_true]
  by_cases h : (okB a b && okB c d && !(c == 0 && d == 0)) = true
  · have e : quoP a b c d = (quoX a b c d, quoY a b c d, resX a b c d, resY a b c d, 0) := by unfold quoP; rw [if_pos h]
    rw [e]
    simp only [if_true]
    obtain ⟨h12, h3⟩ := Bool.and_eq_true_iff.1 h
    obtain ⟨h1, h2⟩ := Bool.and_eq_true_iff.1 h12
    have hpos : 0 < c * c + d * d := norm_pos (by rintro ⟨rfl, rfl⟩; simp at h3)
    have hc := (okB_iff c d).1 h2
    have ok := rest_ok (a := a) (b := b) hc.1 hc.2 hpos
    rw [norm_eq, norm_eq]
    simp only [Option.bind_some]
    unfold normP
    rw [ok, h2]
    simp only [if_true]
    have s := rest_small a b c d hpos
    have m1 := mulb hc.1 hc.1
    have m2 := mulb hc.2 hc.2
    have x0 := sq_nonneg (resX a b c d)
    have y0 := sq_nonneg (resY a b c d)
    rw [wrap_eq (by omega), decide_eq_true s]
  · have e : quoP a b c d = (0, 0, 0, 0, 1) := by unfold quoP; rw [if_neg h]
    rw [e]
    rfl

end Go.Proofs.Ytlpidjenifbjeaa.Pure
