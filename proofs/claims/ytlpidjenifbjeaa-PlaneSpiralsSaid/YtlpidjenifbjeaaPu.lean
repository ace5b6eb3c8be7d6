/- The number of a place on the spiral: the program's and the reference's, and that Spiral and Unspiral undo each other. -/
import Derived.Test.YtlpidjenifbjeaaPs
namespace Go.Proofs.Ytlpidjenifbjeaa.Pl
open Go.RowKit Go.Proofs.Ytlpidjenifbjeaa.P Go.Proofs.YtlpidjenifbjeaaW.PrintWords Go.Proofs.YtlpidjenifbjeaaW.PrintLast Go.Proofs.YtlpidjenifbjeaaW.PrintMore Go.Proofs.Ytlpidjenifbjeaa.Fl

def ring (x y : Int) : Int := mx (mx (mx x (-x)) y) (-y)
theorem ring_spec (x y : Int) : x ≤ ring x y ∧ -x ≤ ring x y ∧ y ≤ ring x y ∧ -y ≤ ring x y ∧ (ring x y = x ∨ ring x y = -x ∨ ring x y = y ∨ ring x y = -y) := by
  unfold ring mx
  split <;> split <;> split <;> omega

/-- The number of a place in ring k; q is k * k. -/
def unsP (k x y : Int) : Int :=
  if y = -k then 4 * (k * k) + 4 * k - (k - x) else if x = -k then 4 * (k * k) + 4 * k - 2 * k - (k + y) else if y = k then 4 * (k * k) + 4 * k - 4 * k - (k + x) else 4 * (k * k) + 4 * k - 6 * k - (k - y)

theorem uns_eq (x y : Int) : plane_Unspiral.f x y = some (if okB x y then unsP (ring x y) x y else -1) := by
  unfold plane_Unspiral.f
  simp only [check_eq, Option.bind_some]
  cases h : okB x y
  · simp
  · rw [okB_iff] at h
    have wx : wrap64 (-x) = -x := wrap_eq (by omega)
    have wy : wrap64 (-y) = -y := wrap_eq (by omega)
    simp only [wx, wy, if_true]
    have hr : mx (mx (mx x (-x)) y) (-y) = ring x y := rfl
    rw [hr]
    have hs := ring_spec x y
    generalize ring x y = k at *
    have m1 : _ ∧ k * k ≤ 1048576 * 1048576 := mul_le (a := 1048576) (b := 1048576) (by omega) (by omega)
    have w0 : wrap64 (-k) = -k := wrap_eq (by omega)
    have w1 : wrap64 (4 * k) = 4 * k := wrap_eq (by omega)
    have w2 : wrap64 (4 * k * k) = 4 * (k * k) := by rw [Int.mul_assoc, wrap_eq (by omega)]
    have w3 : wrap64 (4 * (k * k) + 4 * k) = 4 * (k * k) + 4 * k := wrap_eq (by omega)
    have w4 : wrap64 (2 * k) = 2 * k := wrap_eq (by omega)
    have w5 : wrap64 (6 * k) = 6 * k := wrap_eq (by omega)
    have w6 : wrap64 (k - x) = k - x := wrap_eq (by omega)
    have w7 : wrap64 (k + y) = k + y := wrap_eq (by omega)
    have w8 : wrap64 (k + x) = k + x := wrap_eq (by omega)
    have w9 : wrap64 (k - y) = k - y := wrap_eq (by omega)
    simp only [w0, w1, w2, w3, w4, w5, w6, w7, w8, w9]
    have v1 : wrap64 (4 * (k * k) + 4 * k - (k - x)) = 4 * (k * k) + 4 * k - (k - x) := wrap_eq (by omega)
    have v2 : wrap64 (4 * (k * k) + 4 * k - 2 * k) = 4 * (k * k) + 4 * k - 2 * k := wrap_eq (by omega)
    have v3 : wrap64 (4 * (k * k) + 4 * k - 2 * k - (k + y)) = 4 * (k * k) + 4 * k - 2 * k - (k + y) := wrap_eq (by omega)
    have v4 : wrap64 (4 * (k * k) + 4 * k - 4 * k) = 4 * (k * k) + 4 * k - 4 * k := wrap_eq (by omega)
    have v5 : wrap64 (4 * (k * k) + 4 * k - 4 * k - (k + x)) = 4 * (k * k) + 4 * k - 4 * k - (k + x) := wrap_eq (by omega)
    have v6 : wrap64 (4 * (k * k) + 4 * k - 6 * k) = 4 * (k * k) + 4 * k - 6 * k := wrap_eq (by omega)
    have v7 : wrap64 (4 * (k * k) + 4 * k - 6 * k - (k - y)) = 4 * (k * k) + 4 * k - 6 * k - (k - y) := wrap_eq (by omega)
    simp only [v1, v2, v3, v4, v5, v6, v7]
    unfold unsP
    split
    · rfl
    · split
      · rfl
      · split <;> rfl

theorem refUns_l0 (x y : Int) (hx : -1048576 ≤ x ∧ x ≤ 1048576) (hy : -1048576 ≤ y ∧ y ≤ 1048576) (d : Nat) : ∀ (n : Nat) (i : Int), 0 ≤ i → ring x y - i = d → d < n →
    mosaicref17_Unspiral.l0 n i x y = some (unsP (ring x y) x y) := by
  have hs := ring_spec x y
  generalize hk : ring x y = k at *
  induction d with
  | zero =>
    intro n i hi hd hn
    obtain ⟨n, rfl⟩ : ∃ m, n = m + 1 := ⟨n - 1, by omega⟩
    obtain rfl : i = k := by omega
    simp only [mosaicref17_Unspiral.l0]
    have m1 : _ ∧ i * i ≤ 1048576 * 1048576 := mul_le (a := 1048576) (b := 1048576) (by omega) (by omega)
    have m0 : 0 ≤ i * i := Int.mul_nonneg hi hi
    have w0 : wrap64 (-i) = -i := wrap_eq (by omega)
    have w1 : wrap64 (2 * i) = 2 * i := wrap_eq (by omega)
    have w2 : wrap64 (2 * i + 1) = 2 * i + 1 := wrap_eq (by omega)
    have e : (2 * i + 1) * (2 * i + 1) = 4 * (i * i) + 4 * i + 1 := by grind
    have w3 : wrap64 ((2 * i + 1) * (2 * i + 1)) = 4 * (i * i) + 4 * i + 1 := by rw [e, wrap_eq (by omega)]
    have w4 : wrap64 (4 * (i * i) + 4 * i + 1 - 1) = 4 * (i * i) + 4 * i := by rw [wrap_eq (by omega)]; omega
    have w5 : wrap64 (4 * i) = 4 * i := wrap_eq (by omega)
    have w6 : wrap64 (6 * i) = 6 * i := wrap_eq (by omega)
    have u1 : wrap64 (i - x) = i - x := wrap_eq (by omega)
    have u2 : wrap64 (y + i) = i + y := by rw [wrap_eq (by omega)]; omega
    have u3 : wrap64 (x + i) = i + x := by rw [wrap_eq (by omega)]; omega
    have u4 : wrap64 (i - y) = i - y := wrap_eq (by omega)
    simp only [w0, w1, w2, w3, w4, w5, w6, u1, u2, u3, u4]
    have v1 : wrap64 (4 * (i * i) + 4 * i - (i - x)) = 4 * (i * i) + 4 * i - (i - x) := wrap_eq (by omega)
    have v2 : wrap64 (4 * (i * i) + 4 * i - 2 * i) = 4 * (i * i) + 4 * i - 2 * i := wrap_eq (by omega)
    have v3 : wrap64 (4 * (i * i) + 4 * i - 2 * i - (i + y)) = 4 * (i * i) + 4 * i - 2 * i - (i + y) := wrap_eq (by omega)
    have v4 : wrap64 (4 * (i * i) + 4 * i - 4 * i) = 4 * (i * i) + 4 * i - 4 * i := wrap_eq (by omega)
    have v5 : wrap64 (4 * (i * i) + 4 * i - 4 * i - (i + x)) = 4 * (i * i) + 4 * i - 4 * i - (i + x) := wrap_eq (by omega)
    have v6 : wrap64 (4 * (i * i) + 4 * i - 6 * i) = 4 * (i * i) + 4 * i - 6 * i := wrap_eq (by omega)
    have v7 : wrap64 (4 * (i * i) + 4 * i - 6 * i - (i - y)) = 4 * (i * i) + 4 * i - 6 * i - (i - y) := wrap_eq (by omega)
    simp only [v1, v2, v3, v4, v5, v6, v7]
    rw [if_neg (by omega), if_neg (by omega), if_neg (by omega), if_neg (by omega)]
    unfold unsP
    split
    · rfl
    · split
      · rfl
      · split <;> rfl
  | succ d ih =>
    intro n i hi hd hn
    obtain ⟨n, rfl⟩ : ∃ m, n = m + 1 := ⟨n - 1, by omega⟩
    simp only [mosaicref17_Unspiral.l0]
    have w0 : wrap64 (-i) = -i := wrap_eq (by omega)
    have w1 : wrap64 (i + 1) = i + 1 := wrap_eq (by omega)
    have hn := ih n (i + 1) (by omega) (by omega) (by omega)
    simp only [w0, w1, hn]
    by_cases c1 : x > i
    · rw [if_pos c1]
    · rw [if_neg c1]
      by_cases c2 : x < -i
      · rw [if_pos c2]
      · rw [if_neg c2]
        by_cases c3 : y > i
        · rw [if_pos c3]
        · rw [if_neg c3, if_pos (by omega)]

theorem refUns_eq (x y : Int) (n : Nat) (hn : okB x y = true → (ring x y).toNat < n) : mosaicref17_Unspiral.f n x y = some (if okB x y then unsP (ring x y) x y else -1) := by
  unfold mosaicref17_Unspiral.f
  simp only [refCheck_eq, Option.bind_some]
  cases h : okB x y
  · simp
  · have hn := hn h
    rw [okB_iff] at h
    have hs := ring_spec x y
    simp only [if_true]
    exact refUns_l0 x y h.1 h.2 (ring x y).toNat n 0 (by omega) (by omega) hn

/-- Unspiral undoes Spiral. -/
theorem uns_sp (K r : Int) (hK : 0 ≤ K) (hr : 0 ≤ r ∧ r ≤ 2 * K + 1) : unsP (ring (spX K r) (spY K r)) (spX K r) (spY K r) = K * (K + 1) + r := by
  have hs := ring_spec (spX K r) (spY K r)
  obtain ⟨X, hX⟩ : ∃ X, X = spX K r := ⟨_, rfl⟩
  obtain ⟨Y, hY⟩ : ∃ Y, Y = spY K r := ⟨_, rfl⟩
  rw [← hX, ← hY] at hs ⊢
  generalize ring X Y = R at *
  unfold spX spF sgn cornerC at hX
  unfold spY spF sgn cornerC at hY
  by_cases e : K % 2 = 1
  · simp only [if_pos e] at hX hY
    obtain ⟨m, rfl⟩ : ∃ m, K = 2 * m - 1 := ⟨(K + 1) / 2, by omega⟩
    have hm : (2 * m - 1 + 1) / 2 = m := by omega
    rw [hm] at hX hY
    have p : (2 * m - 1) * (2 * m - 1 + 1) = 4 * (m * m) - 2 * m := by grind
    rw [p]
    by_cases c : r ≤ 2 * m - 1 + 1
    · rw [if_pos c] at hX hY
      obtain rfl : R = m := by omega
      unfold unsP
      rw [if_neg (by omega)]
      split
      · omega
      · rw [if_pos (by omega)]; omega
    · rw [if_neg c] at hX hY
      obtain rfl : R = m := by omega
      unfold unsP
      rw [if_neg (by omega), if_pos (by omega)]; omega
  · simp only [if_neg e] at hX hY
    obtain ⟨m, rfl⟩ : ∃ m, K = 2 * m := ⟨K / 2, by omega⟩
    have hm : 2 * m / 2 = m := by omega
    rw [hm] at hX hY
    have p : 2 * m * (2 * m + 1) = 4 * (m * m) + 2 * m := by grind
    have p2 : (m + 1) * (m + 1) = m * m + 2 * m + 1 := by grind
    rw [p]
    by_cases c : r ≤ 2 * m + 1
    · rw [if_pos c] at hX hY
      by_cases c2 : r ≤ 2 * m
      · obtain rfl : R = m := by omega
        unfold unsP
        rw [if_pos (by omega)]; omega
      · obtain rfl : R = m + 1 := by omega
        unfold unsP
        rw [if_neg (by omega), if_neg (by omega), if_neg (by omega)]; omega
    · rw [if_neg c] at hX hY
      obtain rfl : R = m + 1 := by omega
      unfold unsP
      rw [if_neg (by omega), if_neg (by omega), if_neg (by omega)]; omega

/-- Neighbours on the spiral are one step apart. -/
theorem near_step (K r : Int) : (spX K r - spX K (r - 1)) * (spX K r - spX K (r - 1)) + (spY K r - spY K (r - 1)) * (spY K r - spY K (r - 1)) = 1 := by
  have h : (spX K r - spX K (r - 1) = sgn K ∧ spY K r - spY K (r - 1) = 0) ∨ (spX K r - spX K (r - 1) = 0 ∧ spY K r - spY K (r - 1) = sgn K) := by
    unfold spX spY spF sgn
    by_cases e : K % 2 = 1
    · simp only [if_pos e]
      by_cases c : r ≤ K + 1
      · left; rw [if_pos c, if_pos (by omega)]; omega
      · right
        rw [if_neg c]
        by_cases c2 : r - 1 ≤ K + 1
        · rw [if_pos c2]; omega
        · rw [if_neg c2]; omega
    · simp only [if_neg e]
      by_cases c : r ≤ K + 1
      · left; rw [if_pos c, if_pos (by omega)]; omega
      · right
        rw [if_neg c]
        by_cases c2 : r - 1 ≤ K + 1
        · rw [if_pos c2]; omega
        · rw [if_neg c2]; omega
  have hs : sgn K * sgn K = 1 := by unfold sgn; split <;> rfl
  rcases h with ⟨a, b⟩ | ⟨a, b⟩ <;> rw [a, b, hs] <;> rfl

theorem near_corner (K : Int) (hK : 1 ≤ K) : (spX K 0 - spX (K - 1) (2 * K - 1)) * (spX K 0 - spX (K - 1) (2 * K - 1)) + (spY K 0 - spY (K - 1) (2 * K - 1)) * (spY K 0 - spY (K - 1) (2 * K - 1)) = 1 := by
  have h : spX K 0 - spX (K - 1) (2 * K - 1) = 0 ∧ (spY K 0 - spY (K - 1) (2 * K - 1) = 1 ∨ spY K 0 - spY (K - 1) (2 * K - 1) = -1) := by
    unfold spX spY spF sgn cornerC
    by_cases e : K % 2 = 1
    · simp only [if_pos e, if_neg (show ¬ (K - 1) % 2 = 1 by omega), if_pos (show (0 : Int) ≤ K + 1 by omega)]
      by_cases c : 2 * K - 1 ≤ K - 1 + 1
      · rw [if_pos c]; omega
      · rw [if_neg c]; omega
    · simp only [if_neg e, if_pos (show (K - 1) % 2 = 1 by omega), if_pos (show (0 : Int) ≤ K + 1 by omega)]
      by_cases c : 2 * K - 1 ≤ K - 1 + 1
      · rw [if_pos c]; omega
      · rw [if_neg c]; omega
  obtain ⟨a, b | b⟩ := h <;> rw [a, b] <;> rfl

/-- K and r are n's own. -/
theorem split_unique {K r K' r' : Int} (hK : 0 ≤ K) (hr : 0 ≤ r ∧ r ≤ 2 * K + 1) (hK' : 0 ≤ K') (hr' : 0 ≤ r' ∧ r' ≤ 2 * K' + 1) (h : K * (K + 1) + r = K' * (K' + 1) + r') : K = K' ∧ r = r' := by
  have key : ∀ {a b : Int}, 0 ≤ a → a < b → a * (a + 1) + 2 * a + 2 ≤ b * (b + 1) := by
    intro a b ha hab
    have h1 : (a + 1) * (a + 1 + 1) ≤ b * (b + 1) := Int.mul_le_mul (by omega) (by omega) (by omega) (by omega)
    have h2 : (a + 1) * (a + 1 + 1) = a * (a + 1) + 2 * a + 2 := by grind
    omega
  rcases Int.lt_trichotomy K K' with c | c | c
  · have := key hK c; omega
  · subst c; omega
  · have := key hK' c; omega

end Go.Proofs.Ytlpidjenifbjeaa.Pl
