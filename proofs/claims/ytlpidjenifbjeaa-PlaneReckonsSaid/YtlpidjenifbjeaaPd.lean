/- Sums, differences, distances of places and the reference's answers, in plain numbers: any two places. -/
import Derived.Test.YtlpidjenifbjeaaPx3
import Derived.Test.YtlpidjenifbjeaaPx14
import Derived.Test.YtlpidjenifbjeaaPn
import Derived.Test.YtlpidjenifbjeaaPf
namespace Go.Proofs.Ytlpidjenifbjeaa.Pl
open Go.RowKit Go.Proofs.Ytlpidjenifbjeaa.P Go.Proofs.YtlpidjenifbjeaaW.PrintWords Go.Proofs.YtlpidjenifbjeaaW.PrintLast Go.Proofs.Ytlpidjenifbjeaa.Fl

theorem sub_eq (a b c d : Int) : plane_Sub.f a b c d = some (pair3 (okB a b && okB c d) (a - c) (b - d)) := by
  unfold plane_Sub.f pair3
  simp only [both_eq, Option.bind_some]
  cases h : (okB a b && okB c d)
  · simp
  · obtain ⟨h1, h2⟩ := Bool.and_eq_true_iff.1 h
    rw [okB_iff] at h1 h2
    obtain ⟨ok, f1, f2⟩ := csub_of (fi a (by omega)) (fi b (by omega)) (fi c (by omega)) (fi d (by omega)) (by omega) (by omega)
    simp only [plane_of.f, Option.bind_some, if_true, ok, place_eq f1 f2]

theorem refOver_eq (x y : Int) : mosaicref17_over.f x y = some (over x y) := by
  unfold mosaicref17_over.f over
  simp only [refCheck_eq, Option.bind_some]
  cases okB x y <;> simp

theorem refAdd_eq (a b c d : Int) : mosaicref17_Add.f a b c d = some (pair3 (okB a b && okB c d) (a + c) (b + d)) := by
  unfold mosaicref17_Add.f pair3
  simp only [refCheck_eq, Option.bind_some, refOver_eq]
  cases h1 : okB a b <;> cases h2 : okB c d <;> simp
  rw [okB_iff] at h1 h2
  rw [wrap_eq (by omega), wrap_eq (by omega)]

theorem refSub_eq (a b c d : Int) : mosaicref17_Sub.f a b c d = some (pair3 (okB a b && okB c d) (a - c) (b - d)) := by
  unfold mosaicref17_Sub.f pair3
  simp only [refCheck_eq, Option.bind_some, refOver_eq]
  cases h1 : okB a b <;> cases h2 : okB c d <;> simp
  rw [okB_iff] at h1 h2
  rw [wrap_eq (by omega), wrap_eq (by omega)]

theorem refMul_eq (a b c d : Int) : mosaicref17_Mul.f a b c d = some (pair3 (okB a b && okB c d) (a * c - b * d) (a * d + b * c)) := by
  unfold mosaicref17_Mul.f pair3
  simp only [refCheck_eq, Option.bind_some, refOver_eq]
  cases h1 : okB a b <;> cases h2 : okB c d <;> simp
  rw [okB_iff] at h1 h2
  have m1 := mulb h1.1 h2.1
  have m2 := mulb h1.2 h2.2
  have m3 := mulb h1.1 h2.2
  have m4 := mulb h1.2 h2.1
  rw [wrap_eq (n := a * c) (by omega), wrap_eq (n := b * d) (by omega), wrap_eq (n := a * d) (by omega), wrap_eq (n := b * c) (by omega), wrap_eq (by omega), wrap_eq (by omega)]

def distP (a b c d : Int) : Int := if okB a b && okB c d then (a - c) * (a - c) + (b - d) * (b - d) else -1

theorem dist_eq (a b c d : Int) : plane_Dist.f a b c d = some (distP a b c d) := by
  unfold plane_Dist.f distP
  simp only [both_eq, Option.bind_some]
  cases h : (okB a b && okB c d)
  · simp
  · obtain ⟨h1, h2⟩ := Bool.and_eq_true_iff.1 h
    rw [okB_iff] at h1 h2
    obtain ⟨ok, f1, f2⟩ := csub_of (fi a (by omega)) (fi b (by omega)) (fi c (by omega)) (fi d (by omega)) (by omega) (by omega)
    simp only [plane_of.f, Option.bind_some, if_true, ok, norm_of f1 f2 (by omega) (by omega)]

theorem refDist_eq (a b c d : Int) : mosaicref17_Dist.f a b c d = some (distP a b c d) := by
  unfold mosaicref17_Dist.f distP
  simp only [refCheck_eq, Option.bind_some]
  cases h1 : okB a b <;> cases h2 : okB c d <;> simp
  rw [okB_iff] at h1 h2
  have m1 : -(2097152 * 2097152) ≤ (a - c) * (a - c) ∧ (a - c) * (a - c) ≤ 2097152 * 2097152 := mul_le (by omega) (by omega)
  have m2 : -(2097152 * 2097152) ≤ (b - d) * (b - d) ∧ (b - d) * (b - d) ≤ 2097152 * 2097152 := mul_le (by omega) (by omega)
  rw [wrap_eq (n := a - c) (by omega), wrap_eq (n := b - d) (by omega), wrap_eq (n := (a - c) * (a - c)) (by omega), wrap_eq (n := (b - d) * (b - d)) (by omega), wrap_eq (by omega)]

end Go.Proofs.Ytlpidjenifbjeaa.Pl
