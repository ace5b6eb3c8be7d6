/- The sum of two places, in plain numbers. -/
import Derived.Test.YtlpidjenifbjeaaPx3
import Derived.Test.YtlpidjenifbjeaaPx6
import Derived.Test.YtlpidjenifbjeaaPl
namespace Go.Proofs.Ytlpidjenifbjeaa.Pl
open Go.RowKit Go.Proofs.Ytlpidjenifbjeaa.P Go.Proofs.YtlpidjenifbjeaaW.PrintWords Go.Proofs.YtlpidjenifbjeaaW.PrintLast Go.Proofs.Ytlpidjenifbjeaa.Fl

theorem add_eq (a b c d : Int) : plane_Add.f a b c d = some (pair3 (okB a b && okB c d) (a + c) (b + d)) := by
  unfold plane_Add.f pair3
  simp only [both_eq, Option.bind_some]
  cases h : (okB a b && okB c d)
  · simp
  · obtain ⟨h1, h2⟩ := Bool.and_eq_true_iff.1 h
    rw [okB_iff] at h1 h2
    obtain ⟨ok, f1, f2⟩ := cadd_of (fi a (by omega)) (fi b (by omega)) (fi c (by omega)) (fi d (by omega)) (by omega) (by omega)
    simp only [plane_of.f, Option.bind_some, if_true, ok, place_eq f1 f2]

end Go.Proofs.Ytlpidjenifbjeaa.Pl
