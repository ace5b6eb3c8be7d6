/- The spiral: what the program's Spiral and Unspiral come to, in plain numbers: any number up to 2^40, any place. -/
import Derived.Test.YtlpidjenifbjeaaPx3
import Derived.Test.YtlpidjenifbjeaaPt
namespace Go.Proofs.Ytlpidjenifbjeaa.Pl
open Go.RowKit Go.Proofs.Ytlpidjenifbjeaa.P Go.Proofs.YtlpidjenifbjeaaW.PrintWords Go.Proofs.YtlpidjenifbjeaaW.PrintLast Go.Proofs.Ytlpidjenifbjeaa.Fl

theorem tdiv_cases (a : Int) (b : Nat) : (0 ≤ a ∧ Int.tdiv a b = a / (b : Int)) ∨ (a < 0 ∧ Int.tdiv a b = -((-a) / (b : Int))) := by
  rcases Int.lt_or_le a 0 with h | h
  · right
    refine ⟨h, ?_⟩
    have : a = -(-a) := by omega
    conv => lhs; rw [this, Int.neg_tdiv]
    rw [Int.tdiv_eq_ediv_of_nonneg (by omega)]
  · left
    exact ⟨h, Int.tdiv_eq_ediv_of_nonneg h⟩
theorem tdiv2 (a : Int) : (0 ≤ a ∧ Int.tdiv a 2 = a / 2) ∨ (a < 0 ∧ Int.tdiv a 2 = -((-a) / 2)) := tdiv_cases a 2
theorem tmod2 (a : Int) : (0 ≤ a ∧ Int.tmod a 2 = a % 2) ∨ (a < 0 ∧ Int.tmod a 2 = -((-a) % 2)) := tmod_cases a 2

theorem fi_zero : FI 0 0 := by
  have h := fi 0 (by omega)
  have e : floatOfInt .f64 0 = 0 := by decide +kernel
  rwa [e] at h
theorem fi_one : FI 4607182418800017408 1 := by
  have h := fi 1 (by omega)
  have e : floatOfInt .f64 1 = 4607182418800017408 := by decide +kernel
  rwa [e] at h
theorem fi_minus : FI 13830554455654793216 (-1) := by
  have h := fi (-1) (by omega)
  have e : floatOfInt .f64 (-1) = 13830554455654793216 := by decide +kernel
  rwa [e] at h

/-- Where one stands behind 2K legs. -/
def cornerC (K : Int) : Int := if K % 2 = 1 then (K + 1) / 2 else -(K / 2)

theorem corner_eq (K : Int) (h : 0 ≤ K ∧ K ≤ 4194304) : plane_corner.f K = some (floatOfInt .f64 (cornerC K), floatOfInt .f64 (cornerC K)) := by
  unfold plane_corner.f cornerC
  have m := tmod2 K
  have d1 := tdiv2 (K + 1)
  have d2 := tdiv2 (-K)
  have w1 : wrap64 (K + 1) = K + 1 := wrap_eq (by omega)
  have w2 : wrap64 (-K) = -K := wrap_eq (by omega)
  simp only [w1, w2]
  by_cases e : K % 2 = 1
  · rw [if_pos (by omega), if_pos e, wrap_eq (by omega), show Int.tdiv (K + 1) 2 = (K + 1) / 2 from by omega]
  · rw [if_neg (by omega), if_neg e, wrap_eq (by omega), show Int.tdiv (-K) 2 = -(K / 2) from by omega]

/-- The place of n, which is n - K (K + 1) behind corner K. -/
def sgn (K : Int) : Int := if K % 2 = 1 then -1 else 1
def spF (K r : Int) : Int := if r ≤ K + 1 then r else K + 1
def spX (K r : Int) : Int := cornerC K + sgn K * spF K r
def spY (K r : Int) : Int := cornerC K + sgn K * (r - spF K r)

theorem spiral_end (k : Nat) (n K r : Int) (hK : 0 ≤ K ∧ K ≤ 1048576) (hr : 0 ≤ r ∧ r ≤ 2 * K + 1) (hn : n = K * (K + 1) + r) :
    plane_Spiral.l0 (k + 1) n K 0 = some (over (spX K r) (spY K r)) := by
  have m1 : _ ∧ K * (K + 1) ≤ 1048576 * 1048577 := mul_le (a := 1048576) (b := 1048577) (by omega) (by omega)
  have m0 : 0 ≤ K * (K + 1) := Int.mul_nonneg (by omega) (by omega)
  have w1 : wrap64 (K + 1) = K + 1 := wrap_eq (by omega)
  have w2 : wrap64 (K * (K + 1)) = K * (K + 1) := wrap_eq (by omega)
  have w3 : wrap64 (n - K * (K + 1)) = r := by rw [wrap_eq (by omega)]; omega
  have w4 : mn r (K + 1) = spF K r := by unfold mn spF; split <;> split <;> omega
  have w5 : wrap64 (r - spF K r) = r - spF K r := by unfold spF; split <;> exact wrap_eq (by omega)
  have hf : 0 ≤ spF K r ∧ spF K r ≤ 1048577 ∧ 0 ≤ r - spF K r ∧ r - spF K r ≤ 1048577 := by unfold spF; split <;> omega
  have hc : -1048577 ≤ cornerC K ∧ cornerC K ≤ 1048577 := by unfold cornerC; split <;> omega
  simp only [plane_Spiral.l0]
  rw [if_neg (by omega), corner_eq K (by omega)]
  simp only [Option.bind_some, w1, w2, w3, w4, w5]
  generalize hF : spF K r = f at *
  generalize hg : r - f = g at *
  have fF := fi f (by omega)
  have fG := fi g (by omega)
  have fC := fi (cornerC K) (by omega)
  have m := tmod2 K
  by_cases e : K % 2 = 1
  · rw [if_pos (by omega)]
    obtain ⟨o1, a1, b1⟩ := cmul_of fF fi_zero fi_minus fi_zero (by omega) (by omega) (by omega) (by omega) (by omega) (by omega)
    obtain ⟨o2, a2, b2⟩ := cadd_of fC fC a1 b1 (by omega) (by omega)
    obtain ⟨o3, a3, b3⟩ := cmul_of fG fi_zero fi_minus fi_zero (by omega) (by omega) (by omega) (by omega) (by omega) (by omega)
    obtain ⟨o4, a4, b4⟩ := cmul_of a3 b3 fi_zero fi_one (by omega) (by omega) (by omega) (by omega) (by omega) (by omega)
    obtain ⟨o5, a5, b5⟩ := cadd_of a2 b2 a4 b4 (by omega) (by omega)
    rw [if_pos o1, if_pos o2, if_pos o3, if_pos o4, if_pos o5, place_eq a5 b5]
    simp only [Option.bind_some]
    have e1 : cornerC K + (f * -1 - 0 * 0) + ((g * -1 - 0 * 0) * 0 - (g * 0 + 0 * -1) * 1) = spX K r := by unfold spX sgn; rw [if_pos e, hF]; omega
    have e2 : cornerC K + (f * 0 + 0 * -1) + ((g * -1 - 0 * 0) * 1 + (g * 0 + 0 * -1) * 0) = spY K r := by unfold spY sgn; rw [if_pos e, hF]; omega
    rw [e1, e2]
  · rw [if_neg (by omega)]
    obtain ⟨o1, a1, b1⟩ := cmul_of fF fi_zero fi_one fi_zero (by omega) (by omega) (by omega) (by omega) (by omega) (by omega)
    obtain ⟨o2, a2, b2⟩ := cadd_of fC fC a1 b1 (by omega) (by omega)
    obtain ⟨o3, a3, b3⟩ := cmul_of fG fi_zero fi_one fi_zero (by omega) (by omega) (by omega) (by omega) (by omega) (by omega)
    obtain ⟨o4, a4, b4⟩ := cmul_of a3 b3 fi_zero fi_one (by omega) (by omega) (by omega) (by omega) (by omega) (by omega)
    obtain ⟨o5, a5, b5⟩ := cadd_of a2 b2 a4 b4 (by omega) (by omega)
    rw [if_pos o1, if_pos o2, if_pos o3, if_pos o4, if_pos o5, place_eq a5 b5]
    simp only [Option.bind_some]
    have e1 : cornerC K + (f * 1 - 0 * 0) + ((g * 1 - 0 * 0) * 0 - (g * 0 + 0 * 1) * 1) = spX K r := by unfold spX sgn; rw [if_neg e, hF]; omega
    have e2 : cornerC K + (f * 0 + 0 * 1) + ((g * 1 - 0 * 0) * 1 + (g * 0 + 0 * 1) * 0) = spY K r := by unfold spY sgn; rw [if_neg e, hF]; omega
    rw [e1, e2]

/-- The descent finds K. -/
theorem spiral_down (s : Nat) : ∀ (k : Nat) (n m : Int), 0 ≤ m → m + 2 * 2 ^ s ≤ 2097152 → m * (m + 1) ≤ n → n < (m + 2 * 2 ^ s) * (m + 2 * 2 ^ s + 1) → s + 1 < k →
    ∃ K r j, plane_Spiral.l0 k n m (2 ^ s) = plane_Spiral.l0 (j + 1) n K 0 ∧ 0 ≤ K ∧ 0 ≤ r ∧ r ≤ 2 * K + 1 ∧ n = K * (K + 1) + r := by
  induction s with
  | zero =>
    intro k n m h0 h1 h2 h3 hk
    obtain ⟨k, rfl⟩ : ∃ j, k = j + 2 := ⟨k - 2, by omega⟩
    simp only [Int.pow_zero, Int.mul_one] at *
    rw [plane_Spiral.l0]
    have w1 : wrap64 (m + 1) = m + 1 := wrap_eq (by omega)
    have w2 : wrap64 (m + 1 + 1) = m + 1 + 1 := wrap_eq (by omega)
    have m1 : _ ∧ (m + 1) * (m + 1 + 1) ≤ 2097152 * 2097153 := mul_le (a := 2097152) (b := 2097153) (by omega) (by omega)
    have m0 : 0 ≤ (m + 1) * (m + 1 + 1) := Int.mul_nonneg (by omega) (by omega)
    have w3 : wrap64 ((m + 1) * (m + 1 + 1)) = (m + 1) * (m + 1 + 1) := wrap_eq (by omega)
    have w4 : wrap64 (Int.tdiv 1 2) = 0 := by have := tdiv2 1; rw [wrap_eq (by omega)]; omega
    have x1 : (m + 1) * (m + 1 + 1) = m * (m + 1) + 2 * m + 2 := by rw [Int.add_mul, Int.mul_add m (m + 1) 1]; omega
    have x2 : (m + 2) * (m + 2 + 1) = m * (m + 1) + 4 * m + 6 := by rw [Int.add_mul, show m + 2 + 1 = (m + 1) + 2 from by omega, Int.mul_add m (m + 1) 2]; omega
    rw [if_pos (by omega)]
    simp only [w1, w2, w3, w4]
    by_cases c : (m + 1) * (m + 1 + 1) ≤ n
    · rw [if_pos c]
      exact ⟨m + 1, n - (m + 1) * (m + 1 + 1), k, rfl, by omega, by omega, by omega, by omega⟩
    · rw [if_neg c]
      exact ⟨m, n - m * (m + 1), k, rfl, by omega, by omega, by omega, by omega⟩
  | succ s ih =>
    intro k n m h0 h1 h2 h3 hk
    obtain ⟨k, rfl⟩ : ∃ j, k = j + 1 := ⟨k - 1, by omega⟩
    have hp : (0 : Int) < 2 ^ s := by exact_mod_cast Nat.two_pow_pos s
    have e2 : (2 : Int) ^ (s + 1) = 2 * 2 ^ s := by rw [Int.pow_succ]; omega
    rw [e2] at h1 h3 ⊢
    clear e2
    generalize hq : (2 : Int) ^ s = q at *
    rw [plane_Spiral.l0]
    have w1 : wrap64 (m + 2 * q) = m + 2 * q := wrap_eq (by omega)
    have w2 : wrap64 (m + 2 * q + 1) = m + 2 * q + 1 := wrap_eq (by omega)
    have m1 : _ ∧ (m + 2 * q) * (m + 2 * q + 1) ≤ 2097152 * 2097153 := mul_le (a := 2097152) (b := 2097153) (by omega) (by omega)
    have m0 : 0 ≤ (m + 2 * q) * (m + 2 * q + 1) := Int.mul_nonneg (by omega) (by omega)
    have w3 : wrap64 ((m + 2 * q) * (m + 2 * q + 1)) = (m + 2 * q) * (m + 2 * q + 1) := wrap_eq (by omega)
    have w4 : wrap64 (Int.tdiv (2 * q) 2) = q := by have := tdiv2 (2 * q); rw [wrap_eq (by omega)]; omega
    rw [if_pos (by omega)]
    simp only [w1, w2, w3, w4]
    by_cases c : (m + 2 * q) * (m + 2 * q + 1) ≤ n
    · rw [if_pos c]
      refine ih k n (m + 2 * q) (by omega) (by omega) c ?_ (by omega)
      rwa [show m + 2 * q + 2 * q = m + 2 * (2 * q) from by omega]
    · rw [if_neg c]
      exact ih k n m h0 (by omega) h2 (by omega) (by omega)

theorem spiral_eq (n : Int) (h : 0 ≤ n ∧ n ≤ 1099511627776) (k : Nat) (hk : 24 ≤ k) :
    ∃ K r, plane_Spiral.f k n = some (spX K r, spY K r, 0) ∧ okB (spX K r) (spY K r) = true ∧ 0 ≤ K ∧ K ≤ 1048575 ∧ 0 ≤ r ∧ r ≤ 2 * K + 1 ∧ n = K * (K + 1) + r := by
  obtain ⟨k, rfl⟩ : ∃ j, k = j + 1 := ⟨k - 1, by omega⟩
  obtain ⟨K, r, j, he, hK, hr, hr2, hn⟩ := spiral_down 20 k n 0 (by omega) (by decide) (by omega) (by simp; omega) (by omega)
  have hK2 : K ≤ 1048575 := by
    rcases Int.lt_or_le K 1048576 with c | c
    · omega
    · have : 1048576 * 1048577 ≤ K * (K + 1) := by
        have a : 1048576 * (K + 1) ≤ K * (K + 1) := Int.mul_le_mul_of_nonneg_right c (by omega)
        omega
      omega
  have hok : okB (spX K r) (spY K r) = true := by
    rw [okB_iff]
    unfold spX spY spF sgn cornerC
    by_cases e : K % 2 = 1
    · simp only [if_pos e]; split <;> omega
    · simp only [if_neg e]; split <;> omega
  refine ⟨K, r, ?_, hok, hK, hK2, hr, hr2, hn⟩
  unfold plane_Spiral.f
  rw [if_neg (by omega), decide_eq_false (by omega)]
  simp only [plane_Spiral.j0]
  rw [if_neg (by simp)]
  rw [show (1048576 : Int) = 2 ^ 20 from by decide, he, spiral_end j n K r (by omega) (by omega) hn]
  unfold over; rw [hok]; rfl

theorem spiral_out (n : Int) (h : ¬ (0 ≤ n ∧ n ≤ 1099511627776)) (k : Nat) (hk : 1 ≤ k) : plane_Spiral.f k n = some (0, 0, 1) := by
  obtain ⟨k, rfl⟩ : ∃ j, k = j + 1 := ⟨k - 1, by omega⟩
  unfold plane_Spiral.f
  split
  · simp [plane_Spiral.j0]
  · rw [decide_eq_true (by omega)]; simp [plane_Spiral.j0]

/-- K and r are n's own. -/
theorem split_unique {K r K' r' : Int} (hK : 0 ≤ K) (hr : 0 ≤ r ∧ r ≤ 2 * K + 1) (hK' : 0 ≤ K') (hr' : 0 ≤ r' ∧ r' ≤ 2 * K' + 1) (h : K * (K + 1) + r = K' * (K' + 1) + r') : K = K' ∧ r = r' := by
  have key : ∀ {a b : Int}, 0 ≤ a → a < b → a * (a + 1) + 2 * a + 2 ≤ b * (b + 1) := by
    intro a b ha hab
    have h1 : (a + 1) * (a + 1 + 1) ≤ b * (b + 1) := Int.mul_le_mul (by omega) (by omega) (by omega) (by omega)
    have h2 : (a + 1) * (a + 1 + 1) = a * (a + 1) + 2 * a + 2 := by grind
    omega
  rcases Int.lt_trichotomy K K' with c | c | c
  · have := key hK c; omega
  · subst c; omega
  · have := key hK' c; omega

end Go.Proofs.Ytlpidjenifbjeaa.Pl
