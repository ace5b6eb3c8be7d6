/- The norm of a place by the reference, in plain numbers. -/
import Derived.Test.YtlpidjenifbjeaaPx11
import Derived.Test.YtlpidjenifbjeaaPl
namespace Go.Proofs.Ytlpidjenifbjeaa.Pl
open Go.RowKit Go.Proofs.Ytlpidjenifbjeaa.P Go.Proofs.YtlpidjenifbjeaaW.PrintWords Go.Proofs.YtlpidjenifbjeaaW.PrintLast Go.Proofs.Ytlpidjenifbjeaa.Fl

theorem refNorm_eq (x y : Int) : mosaicref17_Norm.f x y = some (normP x y) := by
  unfold mosaicref17_Norm.f normP
  simp only [refCheck_eq, Option.bind_some]
  cases h : okB x y
  · simp
  · rw [okB_iff] at h
    have m1 := mulb h.1 h.1
    have m2 := mulb h.2 h.2
    simp only [if_true]
    rw [wrap_eq (n := x * x) (by omega), wrap_eq (n := y * y) (by omega), wrap_eq (by omega)]

end Go.Proofs.Ytlpidjenifbjeaa.Pl
