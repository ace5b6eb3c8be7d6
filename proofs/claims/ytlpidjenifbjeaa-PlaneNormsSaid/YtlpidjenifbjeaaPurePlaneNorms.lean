/- Norms of products are the products of the norms; products do not hang on the order, and go through sums. No condition. -/
import Derived.Test.YtlpidjenifbjeaaPx7
import Derived.Test.YtlpidjenifbjeaaPa
import Derived.Test.YtlpidjenifbjeaaPf
namespace Go.Proofs.Ytlpidjenifbjeaa.Pure
open Go.RowKit Go.Proofs.Ytlpidjenifbjeaa.P Go.Proofs.YtlpidjenifbjeaaW.PrintWords Go.Proofs.YtlpidjenifbjeaaW.PrintLast Go.Proofs.Ytlpidjenifbjeaa.Pl

def Err (e : Int) : Prop := e = 0 ∨ e = 1 ∨ e = 8
theorem pair3_cases (p : Bool) (x y : Int) : (pair3 p x y = (x, y, 0) ∧ p = true ∧ okB x y = true) ∨ pair3 p x y = (0, 0, 1) ∨ pair3 p x y = (0, 0, 8) := by
  unfold pair3 over
  cases p
  · exact .inr (.inl rfl)
  · cases h : okB x y
    · exact .inr (.inr rfl)
    · exact .inl ⟨rfl, rfl, rfl⟩

theorem err_cases (p : Bool) (x y : Int) : Err (pair3 p x y).2.2 := by
  unfold Err
  rcases pair3_cases p x y with ⟨h, _⟩ | h | h <;> rw [h] <;> simp

theorem ok_of {p : Bool} {x y : Int} (h : (pair3 p x y).2.2 = 0) : p = true ∧ okB x y = true ∧ (pair3 p x y).1 = x ∧ (pair3 p x y).2.1 = y := by
  rcases pair3_cases p x y with ⟨e, h1, h2⟩ | e | e
  · rw [e]; exact ⟨h1, h2, rfl, rfl⟩
  · rw [e] at h; simp at h
  · rw [e] at h; simp at h

theorem six {e s r q t : Int} (f1 : Err e) (f2 : Err s) (f3 : Err r) (f4 : Err q) (f5 : Err t) (z : e + e + s + r + q + t = 0) : e = 0 ∧ s = 0 ∧ r = 0 ∧ q = 0 ∧ t = 0 := by
  unfold Err at *; omega
theorem wsum {e s r q t : Int} (f1 : Err e) (f2 : Err s) (f3 : Err r) (f4 : Err q) (f5 : Err t) :
    wrap64 (wrap64 (wrap64 (wrap64 (wrap64 (e + e) + s) + r) + q) + t) = e + e + s + r + q + t := by
  unfold Err at *
  rw [wrap_eq (n := e + e) (by omega), wrap_eq (n := e + e + s) (by omega), wrap_eq (n := e + e + s + r) (by omega), wrap_eq (n := e + e + s + r + q) (by omega), wrap_eq (by omega)]

theorem norms_rest (k : Nat) (hk : 24 ≤ k) (a0 a1 b0 b1 c0 c1 : Int) (x y e : Int) (hx : (x, y, e) = pair3 (okB a0 a1 && okB b0 b1) (a0 * b0 - a1 * b1) (a0 * b1 + a1 * b0)) :
    mosaiclaw17_PlaneNorms.j0 (k + 1) e e false a0 a1 b0 b1 c0 c1 x y = some true := by
  simp only [mosaiclaw17_PlaneNorms.j0]
  rw [if_neg (by simp), add_eq]
  simp only [Option.bind_some]
  rw [mul_eq]
  simp only [Option.bind_some]
  rw [mul_eq]
  simp only [Option.bind_some]
  rw [add_eq]
  simp only [Option.bind_some]
  have e1 : (pair3 (okB a0 a1 && okB b0 b1) (a0 * b0 - a1 * b1) (a0 * b1 + a1 * b0)).2.2 = e := by rw [← hx]
  have f1 := err_cases (okB a0 a1 && okB b0 b1) (a0 * b0 - a1 * b1) (a0 * b1 + a1 * b0)
  rw [e1] at f1
  have f2 := err_cases (okB b0 b1 && okB c0 c1) (b0 + c0) (b1 + c1)
  generalize hS : pair3 (okB b0 b1 && okB c0 c1) (b0 + c0) (b1 + c1) = S at *
  have f3 := err_cases (okB a0 a1 && okB S.1 S.2.1) (a0 * S.1 - a1 * S.2.1) (a0 * S.2.1 + a1 * S.1)
  generalize hP : pair3 (okB a0 a1 && okB S.1 S.2.1) (a0 * S.1 - a1 * S.2.1) (a0 * S.2.1 + a1 * S.1) = R at *
  have f4 := err_cases (okB a0 a1 && okB c0 c1) (a0 * c0 - a1 * c1) (a0 * c1 + a1 * c0)
  generalize hQ : pair3 (okB a0 a1 && okB c0 c1) (a0 * c0 - a1 * c1) (a0 * c1 + a1 * c0) = Q at *
  have f5 := err_cases (okB x y && okB Q.1 Q.2.1) (x + Q.1) (y + Q.2.1)
  generalize hT : pair3 (okB x y && okB Q.1 Q.2.1) (x + Q.1) (y + Q.2.1) = T at *
  rw [wsum f1 f2 f3 f4 f5, awake_eq k hk]
  simp only [Option.bind_some, if_true]
  by_cases z : e + e + S.2.2 + R.2.2 + Q.2.2 + T.2.2 = 0
  · rw [if_pos z]
    obtain ⟨z1, z2, z3, z4, z5⟩ := six f1 f2 f3 f4 f5 z
    clear f1 f2 f3 f4 f5 z
    rw [← hS] at z2
    rw [← hP] at z3
    rw [← hQ] at z4
    rw [← hT] at z5
    rw [z1] at e1
    obtain ⟨_, _, x1, x2⟩ := ok_of e1
    obtain ⟨_, _, s1, s2⟩ := ok_of z2
    obtain ⟨_, _, p1, p2⟩ := ok_of z3
    obtain ⟨_, _, q1, q2⟩ := ok_of z4
    obtain ⟨_, _, t1, t2⟩ := ok_of z5
    rw [hS] at s1 s2
    rw [hP] at p1 p2
    rw [hQ] at q1 q2
    rw [hT] at t1 t2
    rw [← hx] at x1 x2
    simp only at x1 x2
    clear hS hP hQ hT z1 z2 z3 z4 z5 e1 hx
    have g1 : R.1 = T.1 := by rw [p1, t1, s1, s2, q1, x1]; grind
    have g2 : R.2.1 = T.2.1 := by rw [p2, t2, s1, s2, q2, x2]; grind
    rw [g1, g2]; simp
  · rw [if_neg z]

theorem PlaneNorms : mosaiclaw17_PlaneNorms.Pure := by
  intro a0 a1 b0 b1 c0 c1 _ _ _
  refine ⟨41, ?_⟩
  unfold mosaiclaw17_PlaneNorms.f
  rw [mul_eq, mul_eq]
  have comm : pair3 (okB b0 b1 && okB a0 a1) (b0 * a0 - b1 * a1) (b0 * a1 + b1 * a0) = pair3 (okB a0 a1 && okB b0 b1) (a0 * b0 - a1 * b1) (a0 * b1 + a1 * b0) := by
    rw [Bool.and_comm, Int.mul_comm b0 a0, Int.mul_comm b1 a1, Int.mul_comm b0 a1, Int.mul_comm b1 a0, Int.add_comm]
  rw [comm]
  obtain ⟨x, y, e, hx⟩ : ∃ x y e, (x, y, e) = pair3 (okB a0 a1 && okB b0 b1) (a0 * b0 - a1 * b1) (a0 * b1 + a1 * b0) := ⟨_, _, _, rfl⟩
  rw [← hx]
  simp only [Option.bind_some, beq_self_eq_true, Bool.not_true, Bool.or_self, Bool.false_eq_true, if_false, if_true]
  have fin := norms_rest 40 (by omega) a0 a1 b0 b1 c0 c1 x y e hx
  rw [norm_eq a0 a1, norm_eq b0 b1, norm_eq x y]
  simp only [Option.bind_some]
  by_cases z : e = 0
  · rw [if_pos z]
    by_cases n1 : normP a0 a1 < 1073741824
    · rw [if_pos n1]
      by_cases n2 : normP b0 b1 < 1073741824
      · rw [if_pos n2]
        have hE : (pair3 (okB a0 a1 && okB b0 b1) (a0 * b0 - a1 * b1) (a0 * b1 + a1 * b0)).2.2 = 0 := by rw [← hx]; exact z
        obtain ⟨o, ox, x1, x2⟩ := ok_of hE
        rw [← hx] at x1 x2
        simp only at x1 x2
        obtain ⟨oa, ob⟩ := Bool.and_eq_true_iff.1 o
        have hn : normP x y = wrap64 (normP a0 a1 * normP b0 b1) := by
          unfold normP at n1 n2 ⊢
          rw [oa] at n1
          rw [ob] at n2
          rw [x1, x2, ox, oa, ob]
          simp only [if_true] at n1 n2 ⊢
          have p1 : 0 ≤ a0 * a0 + a1 * a1 := by
            have h1 : ∀ t : Int, 0 ≤ t * t := fun t => by
              rcases Int.le_total 0 t with h | h
              · exact Int.mul_nonneg h h
              · exact Int.mul_nonneg_of_nonpos_of_nonpos h h
            have := h1 a0; have := h1 a1; omega
          have p2 : 0 ≤ b0 * b0 + b1 * b1 := by
            have h1 : ∀ t : Int, 0 ≤ t * t := fun t => by
              rcases Int.le_total 0 t with h | h
              · exact Int.mul_nonneg h h
              · exact Int.mul_nonneg_of_nonpos_of_nonpos h h
            have := h1 b0; have := h1 b1; omega
          have m := mul_le (x := a0 * a0 + a1 * a1) (y := b0 * b0 + b1 * b1) (a := 1073741824) (b := 1073741824) (by omega) (by omega)
          rw [wrap_eq (by omega)]
          grind
        rw [hn, bne_self_eq_false]
        exact fin
      · rw [if_neg n2]; exact fin
    · rw [if_neg n1]; exact fin
  · rw [if_neg z]; exact fin

end Go.Proofs.Ytlpidjenifbjeaa.Pure
