/- Whole numbers below 2^53 as doubles: sums, differences, products, negation and conversions are exact. Plain facts about the format, no condition. -/
import Derived.Laws.ComplexArith
namespace Go.Proofs.YtmimnlbkllgfpaaGreatDoor
namespace Fl
open Ieee

/-- 'm * 2^e' is the whole number N. -/
def Val (m : Nat) (e : Int) (N : Nat) : Prop := m * 2 ^ e.toNat = N * 2 ^ (-e).toNat

def rungOf (N : Nat) : Nat := if N = 0 then 0 else (N.log2 + 1022) * 2 ^ 52 + N * 2 ^ (52 - N.log2)

theorem log2_mul_pow (m k : Nat) (h : 0 < m) : (m * 2 ^ k).log2 = m.log2 + k := by
  have h0 : m * 2 ^ k ≠ 0 := Nat.mul_ne_zero (by omega) (Nat.pos_iff_ne_zero.1 (Nat.two_pow_pos k))
  rw [Nat.log2_eq_iff h0]
  obtain ⟨a, b⟩ := (Nat.log2_eq_iff (n := m) (k := m.log2) (by omega)).1 rfl
  constructor
  · rw [Nat.pow_add]; exact Nat.mul_le_mul_right _ a
  · have : m.log2 + k + 1 = (m.log2 + 1) + k := by omega
    rw [this, Nat.pow_add]; exact Nat.mul_lt_mul_of_pos_right b (Nat.two_pow_pos k)

theorem val_log {m : Nat} {e : Int} {N : Nat} (h : Val m e N) (hN : 0 < N) : 0 < m ∧ (m.log2 : Int) + e = N.log2 := by
  unfold Val at h
  have hm : 0 < m := by
    rcases Nat.eq_zero_or_pos m with z | z
    · subst z
      have : 0 < N * 2 ^ (-e).toNat := Nat.mul_pos hN (Nat.two_pow_pos _)
      omega
    · exact z
  refine ⟨hm, ?_⟩
  have e1 := log2_mul_pow m e.toNat hm
  have e2 := log2_mul_pow N (-e).toNat hN
  rw [h] at e1
  omega

theorem log_lt {N : Nat} (h : N < 2 ^ 53) (hN : 0 < N) : N.log2 ≤ 52 := by
  have := (Nat.log2_lt (n := N) (k := 53) (by omega)).2 h
  omega

theorem cut_whole (w : Toward) (s : Bool) (N k : Nat) (hN : 0 < N) : w.cut s (N * 2 ^ k) k = N := by
  have hl : min k ((N * 2 ^ k).log2 + 2) = k := by rw [log2_mul_pow _ _ hN]; omega
  have hp := Nat.two_pow_pos k
  have h1 : N * 2 ^ k / 2 ^ k = N := Nat.mul_div_cancel _ hp
  have h2 : N * 2 ^ k % 2 ^ k = 0 := Nat.mul_mod_left _ _
  unfold Toward.cut
  simp only [hl, Nat.shiftLeft_eq, Nat.one_mul, h1, h2]
  cases w <;> simp

theorem cut_zero (w : Toward) (s : Bool) (k : Nat) : w.cut s 0 k = 0 := by
  have hp := Nat.two_pow_pos (min k ((0 : Nat).log2 + 2))
  unfold Toward.cut
  simp only [Nat.shiftLeft_eq, Nat.one_mul, Nat.zero_div, Nat.zero_mod]
  cases w <;> simp

theorem cut_val (w : Toward) (s : Bool) {m : Nat} {e : Int} {N : Nat} (h : Val m e N) : w.cut s (m <<< e.toNat) (-e).toNat = N := by
  unfold Val at h
  rw [Nat.shiftLeft_eq, h]
  rcases Nat.eq_zero_or_pos N with z | z
  · subst z; rw [Nat.zero_mul]; exact cut_zero w s _
  · exact cut_whole w s N _ z

theorem nearest_of (s : Bool) {m : Nat} {e : Int} {N : Nat} (h : Val m e N) (hN : N < 2 ^ 53) : double.nearest s m e = double.word s (rungOf N) := by
  rcases Nat.eq_zero_or_pos N with z | z
  · subst z
    have hm : m = 0 := by
      unfold Val at h
      rw [Nat.zero_mul] at h
      rcases Nat.mul_eq_zero.1 h with a | a
      · exact a
      · exact absurd a (Nat.pos_iff_ne_zero.1 (Nat.two_pow_pos _))
    subst hm
    simp [Format.nearest, rungOf]
  · obtain ⟨hm, hlog⟩ := val_log h z
    have hL := log_lt hN z
    have hlp : double.leastPlace = -1074 := by decide
    have hfb : double.fractionBits = 52 := rfl
    have hlast : max (e + (m.log2 : Int) - (52 : Nat)) (-1074) = (N.log2 : Int) - 52 := by omega
    have hkept : Toward.even.cut s (m <<< (e - ((N.log2 : Int) - 52)).toNat) (((N.log2 : Int) - 52) - e).toNat = N * 2 ^ (52 - N.log2) := by
      have hv : Val m (e - ((N.log2 : Int) - 52)) (N * 2 ^ (52 - N.log2)) := by
        unfold Val at h ⊢
        rcases Int.le_total 0 e with he | he
        · have a1 : (-e).toNat = 0 := by omega
          have a2 : (-(e - ((N.log2 : Int) - 52))).toNat = 0 := by omega
          have a3 : (e - ((N.log2 : Int) - 52)).toNat = e.toNat + (52 - N.log2) := by omega
          rw [a1, Nat.pow_zero, Nat.mul_one] at h
          rw [a2, a3, Nat.pow_add, ← Nat.mul_assoc, h, Nat.pow_zero, Nat.mul_one]
        · have a1 : e.toNat = 0 := by omega
          rw [a1, Nat.pow_zero, Nat.mul_one] at h
          rw [h, Nat.mul_assoc, Nat.mul_assoc, ← Nat.pow_add, ← Nat.pow_add]
          congr 2
          omega
      have := cut_val Toward.even s hv
      rwa [show (-(e - ((N.log2 : Int) - 52))).toNat = (((N.log2 : Int) - 52) - e).toNat from by congr 1; omega] at this
    have hlo : 2 ^ 52 ≤ N * 2 ^ (52 - N.log2) ∧ N * 2 ^ (52 - N.log2) < 2 ^ 53 := by
      obtain ⟨a, b⟩ := (Nat.log2_eq_iff (n := N) (k := N.log2) (by omega)).1 rfl
      have hp := Nat.two_pow_pos (52 - N.log2)
      constructor
      · calc 2 ^ 52 = 2 ^ N.log2 * 2 ^ (52 - N.log2) := by rw [← Nat.pow_add]; congr 1; omega
          _ ≤ _ := Nat.mul_le_mul_right _ a
      · calc N * 2 ^ (52 - N.log2) < 2 ^ (N.log2 + 1) * 2 ^ (52 - N.log2) := Nat.mul_lt_mul_of_pos_right b hp
          _ = 2 ^ 53 := by rw [← Nat.pow_add]; congr 1; omega
    unfold Format.nearest
    rw [if_neg (by omega)]
    simp only [hfb, hlp, hlast, hkept]
    congr 1
    unfold rungOf
    rw [if_neg (by omega)]
    have hb : double.binade = 2 ^ 52 := rfl
    have hi : double.infRung = 2047 * 2 ^ 52 := rfl
    rw [hb, hi, show ((N.log2 : Int) - 52 - -1074).toNat = N.log2 + 1022 from by omega]
    generalize N * 2 ^ (52 - N.log2) = K at hlo
    refine Nat.min_eq_left ?_
    omega

theorem read_of (s : Bool) {N : Nat} (hN : N < 2 ^ 53) : ∃ m e, double.read (double.word s (rungOf N)) = .number s m e ∧ Val m e N := by
  have hsw : double.signWeight = 2 ^ 63 := rfl
  have hb : double.binade = 2 ^ 52 := rfl
  have hi : double.infRung = 2047 * 2 ^ 52 := rfl
  have hlp : double.leastPlace = -1074 := by decide
  have key : ∀ r, r < 2 ^ 63 → double.word s r / 2 ^ 63 % 2 = s.toNat ∧ double.word s r % 2 ^ 63 = r := by
    intro r hr
    unfold Format.word
    rw [hsw]
    cases s <;> simp <;> omega
  rcases Nat.eq_zero_or_pos N with z | z
  · subst z
    refine ⟨0, -1074, ?_, by unfold Val; rw [Nat.zero_mul, Nat.zero_mul]⟩
    obtain ⟨k1, k2⟩ := key 0 (by omega)
    unfold Format.read
    simp only [rungOf, if_true, hsw, k1, k2, hb, hlp]
    cases s <;> simp
  · have hL := log_lt hN z
    have hlo : 2 ^ 52 ≤ N * 2 ^ (52 - N.log2) ∧ N * 2 ^ (52 - N.log2) < 2 ^ 53 := by
      obtain ⟨a, b⟩ := (Nat.log2_eq_iff (n := N) (k := N.log2) (by omega)).1 rfl
      have hp := Nat.two_pow_pos (52 - N.log2)
      constructor
      · calc 2 ^ 52 = 2 ^ N.log2 * 2 ^ (52 - N.log2) := by rw [← Nat.pow_add]; congr 1; omega
          _ ≤ _ := Nat.mul_le_mul_right _ a
      · calc N * 2 ^ (52 - N.log2) < 2 ^ (N.log2 + 1) * 2 ^ (52 - N.log2) := Nat.mul_lt_mul_of_pos_right b hp
          _ = 2 ^ 53 := by rw [← Nat.pow_add]; congr 1; omega
    have hr : rungOf N = (N.log2 + 1022) * 2 ^ 52 + N * 2 ^ (52 - N.log2) := by unfold rungOf; rw [if_neg (by omega)]
    generalize hk : N * 2 ^ (52 - N.log2) = K at hr hlo
    obtain ⟨k1, k2⟩ := key (rungOf N) (by omega)
    have d1 : rungOf N / 2 ^ 52 = N.log2 + 1023 := by omega
    have d2 : 2 ^ 52 + rungOf N % 2 ^ 52 = K := by omega
    refine ⟨K, (N.log2 : Int) - 52, ?_, ?_⟩
    · unfold Format.read
      simp only [hsw, k1, k2, hb, hi, hlp]
      rw [if_neg (by omega), if_pos (by omega), d1, d2]
      rw [show (s.toNat == 1) = s from by cases s <;> rfl, show (-1074 : Int) + ((N.log2 + 1023 - 1 : Nat) : Int) = (N.log2 : Int) - 52 from by omega]
    · unfold Val
      rw [show ((N.log2 : Int) - 52).toNat = 0 from by omega, ← hk, Nat.pow_zero, Nat.mul_one]
      congr 2
      omega

/-- The bits b stand for the whole number n (of 0 there are two). -/
def FI (b : Nat) (n : Int) : Prop := n.natAbs < 2 ^ 53 ∧ ∃ s : Bool, b = double.word s (rungOf n.natAbs) ∧ (s = true → n ≤ 0) ∧ (s = false → 0 ≤ n)

theorem signed_val {s : Bool} {m : Nat} {n : Int} {u v : Nat} (h : m * 2 ^ u = n.natAbs * 2 ^ v) (h1 : s = true → n ≤ 0) (h2 : s = false → 0 ≤ n) : signed s m u = n * 2 ^ v := by
  have e : ((m * 2 ^ u : Nat) : Int) = (n.natAbs : Int) * 2 ^ v := by rw [h]; simp
  unfold signed
  rw [Nat.shiftLeft_eq, e]
  cases s with
  | true => have := h1 rfl; rw [if_pos rfl, Int.ofNat_natAbs_of_nonpos this, Int.neg_mul, Int.neg_neg]
  | false => have := h2 rfl; rw [if_neg (by simp), Int.natAbs_of_nonneg this]

theorem ofInt (n : Int) (h : n.natAbs < 2 ^ 53) : FI (floatOfInt .f64 n) n := by
  refine ⟨h, decide (n < 0), ?_, fun h => by simp at h; omega, fun h => by simp at h; omega⟩
  show double.nearest _ _ _ = _
  exact nearest_of _ (by unfold Val; simp) h

theorem toInt {b : Nat} {n : Int} (h : FI b n) : floatToIntVal .f64 b .i64 = some n := by
  obtain ⟨hn, s, rfl, h1, h2⟩ := h
  obtain ⟨m, e, hr, hv⟩ := read_of s hn
  have : (FloatKind.f64.decode (double.word s (rungOf n.natAbs))).toInt .zero = some n := by
    show (double.read _).toInt .zero = some n
    rw [hr]
    simp only [Datum.toInt, Datum.integral, cut_val Toward.zero s hv]
    congr 1
    have := signed_val (s := s) (m := n.natAbs) (n := n) (u := 0) (v := 0) rfl h1 h2
    simpa using this
  unfold floatToIntVal
  rw [this]
  have a : IntKind.i64.min ≤ n ∧ n ≤ IntKind.i64.max := by
    have e1 : IntKind.i64.min = -9223372036854775808 := by decide
    have e2 : IntKind.i64.max = 9223372036854775807 := by decide
    rw [e1, e2]; omega
  simp only
  rw [if_pos a]

theorem shift_val {m : Nat} {e b : Int} {N : Nat} (hv : Val m e N) (hb : b ≤ e) : m * 2 ^ (e - b).toNat * 2 ^ b.toNat = N * 2 ^ (-b).toNat := by
  unfold Val at hv
  rcases Int.le_total 0 b with h | h
  · have a1 : (-b).toNat = 0 := by omega
    have a2 : (-e).toNat = 0 := by omega
    rw [a2, Nat.pow_zero, Nat.mul_one] at hv
    rw [a1, Nat.pow_zero, Nat.mul_one, Nat.mul_assoc, ← Nat.pow_add, show (e - b).toNat + b.toNat = e.toNat from by omega, hv]
  · have a1 : b.toNat = 0 := by omega
    rw [a1, Nat.pow_zero, Nat.mul_one]
    rcases Int.le_total 0 e with h' | h'
    · have a2 : (-e).toNat = 0 := by omega
      rw [a2, Nat.pow_zero, Nat.mul_one] at hv
      rw [show (e - b).toNat = e.toNat + (-b).toNat from by omega, Nat.pow_add, ← Nat.mul_assoc, hv]
    · have a2 : e.toNat = 0 := by omega
      rw [a2, Nat.pow_zero, Nat.mul_one] at hv
      rw [hv, Nat.mul_assoc, ← Nat.pow_add]
      congr 2
      omega

theorem sum_of {s t : Bool} {m n : Nat} {i j : Int} {a b : Int} (hm : Val m i a.natAbs) (hn : Val n j b.natAbs)
    (h1 : s = true → a ≤ 0) (h2 : s = false → 0 ≤ a) (h3 : t = true → b ≤ 0) (h4 : t = false → 0 ≤ b) (hab : (a + b).natAbs < 2 ^ 53) :
    ∃ r, ((Datum.number s m i).sum (Datum.number t n j)).map double.write = some r ∧ FI r (a + b) := by
  have x1 := shift_val hm (Int.min_le_left i j)
  have x2 := shift_val hn (Int.min_le_right i j)
  simp only [Datum.sum, Option.map_some]
  refine ⟨_, rfl, hab, ?_⟩
  generalize hB : min i j = B at *
  have p0 : (0 : Int) < 2 ^ B.toNat := by exact_mod_cast Nat.two_pow_pos B.toNat
  have p1 : (0 : Int) < 2 ^ (-B).toNat := by exact_mod_cast Nat.two_pow_pos (-B).toNat
  have y1 : signed s m (i - B).toNat * 2 ^ B.toNat = a * 2 ^ (-B).toNat := by
    have := signed_val (s := s) (m := m) (n := a) (u := (i - B).toNat + B.toNat) (v := (-B).toNat) (by rw [Nat.pow_add, ← Nat.mul_assoc]; exact x1) h1 h2
    rw [← this]; unfold signed; simp only [Nat.shiftLeft_eq, Nat.pow_add]
    cases s <;> simp [Int.mul_assoc, Int.neg_mul]
  have y2 : signed t n (j - B).toNat * 2 ^ B.toNat = b * 2 ^ (-B).toNat := by
    have := signed_val (s := t) (m := n) (n := b) (u := (j - B).toNat + B.toNat) (v := (-B).toNat) (by rw [Nat.pow_add, ← Nat.mul_assoc]; exact x2) h3 h4
    rw [← this]; unfold signed; simp only [Nat.shiftLeft_eq, Nat.pow_add]
    cases t <;> simp [Int.mul_assoc, Int.neg_mul]
  generalize signed s m (i - B).toNat = X at *
  generalize signed t n (j - B).toNat = Y at *
  have y3 : (X + Y) * 2 ^ B.toNat = (a + b) * 2 ^ (-B).toNat := by rw [Int.add_mul, Int.add_mul, y1, y2]
  have hval : Val (X + Y).natAbs B (a + b).natAbs := by
    unfold Val
    have := congrArg Int.natAbs y3
    simpa [Int.natAbs_mul, Int.natAbs_pow] using this
  have hs : (X + Y < 0 ↔ a + b < 0) ∧ (X + Y = 0 ↔ a + b = 0) := by
    constructor
    · constructor
      · intro h
        have : (X + Y) * 2 ^ B.toNat < 0 := Int.mul_neg_of_neg_of_pos h p0
        rw [y3] at this
        exact Int.lt_of_not_ge fun h' => absurd (Int.mul_nonneg h' (Int.le_of_lt p1)) (by omega)
      · intro h
        have : (a + b) * 2 ^ (-B).toNat < 0 := Int.mul_neg_of_neg_of_pos h p1
        rw [← y3] at this
        exact Int.lt_of_not_ge fun h' => absurd (Int.mul_nonneg h' (Int.le_of_lt p0)) (by omega)
    · constructor
      · intro h
        rw [h, Int.zero_mul] at y3
        rcases Int.mul_eq_zero.1 y3.symm with h | h
        · exact h
        · omega
      · intro h
        rw [h, Int.zero_mul] at y3
        rcases Int.mul_eq_zero.1 y3 with h | h
        · exact h
        · omega
  refine ⟨_, nearest_of _ hval hab, ?_, ?_⟩
  · intro h
    split at h
    · have := hs.2.1 ‹_›; omega
    · have := hs.1.1 (of_decide_eq_true h); omega
  · intro h
    split at h
    · have := hs.2.1 ‹_›; omega
    · have := of_decide_eq_false h
      have := hs.1; omega

theorem add_of {x y : Nat} {a b : Int} (hx : FI x a) (hy : FI y b) (hab : (a + b).natAbs < 2 ^ 53) : ∃ r, floatBits .add .f64 x y = some r ∧ FI r (a + b) := by
  obtain ⟨ha, s, rfl, h1, h2⟩ := hx
  obtain ⟨hb, t, rfl, h3, h4⟩ := hy
  obtain ⟨m, i, r1, hm⟩ := read_of s ha
  obtain ⟨n, j, r2, hn⟩ := read_of t hb
  show ∃ r, double.add _ _ = some r ∧ _
  unfold Format.add
  rw [r1, r2]
  exact sum_of hm hn h1 h2 h3 h4 hab

theorem sub_of {x y : Nat} {a b : Int} (hx : FI x a) (hy : FI y b) (hab : (a - b).natAbs < 2 ^ 53) : ∃ r, floatBits .sub .f64 x y = some r ∧ FI r (a - b) := by
  obtain ⟨ha, s, rfl, h1, h2⟩ := hx
  obtain ⟨hb, t, rfl, h3, h4⟩ := hy
  obtain ⟨m, i, r1, hm⟩ := read_of s ha
  obtain ⟨n, j, r2, hn⟩ := read_of t hb
  show ∃ r, double.sub _ _ = some r ∧ _
  unfold Format.sub
  rw [r1, r2]
  rw [Int.sub_eq_add_neg] at hab ⊢
  exact sum_of (t := !t) hm (by rw [Int.natAbs_neg]; exact hn) h1 h2 (by cases t <;> simp at h4 ⊢; omega) (by cases t <;> simp at h3 ⊢; omega) hab

theorem mul_of {x y : Nat} {a b : Int} (hx : FI x a) (hy : FI y b) (hab : (a * b).natAbs < 2 ^ 53) : ∃ r, floatBits .mul .f64 x y = some r ∧ FI r (a * b) := by
  obtain ⟨ha, s, rfl, h1, h2⟩ := hx
  obtain ⟨hb, t, rfl, h3, h4⟩ := hy
  obtain ⟨m, i, r1, hm⟩ := read_of s ha
  obtain ⟨n, j, r2, hn⟩ := read_of t hb
  show ∃ r, double.mul _ _ = some r ∧ _
  unfold Format.mul
  rw [r1, r2]
  simp only [Datum.product, Option.map_some]
  refine ⟨_, rfl, hab, s ^^ t, nearest_of _ ?_ hab, ?_, ?_⟩
  · unfold Val at hm hn ⊢
    rw [Int.natAbs_mul]
    have e : (m * n) * (2 ^ i.toNat * 2 ^ j.toNat) = (a.natAbs * b.natAbs) * (2 ^ (-i).toNat * 2 ^ (-j).toNat) := by
      have := congr (congrArg HMul.hMul hm) hn
      rw [Nat.mul_mul_mul_comm, Nat.mul_mul_mul_comm a.natAbs] at this
      exact this
    rw [← Nat.pow_add, ← Nat.pow_add] at e
    obtain ⟨c, c1, c2⟩ : ∃ c, i.toNat + j.toNat = (i + j).toNat + c ∧ (-i).toNat + (-j).toNat = (-(i + j)).toNat + c := ⟨i.toNat + j.toNat - (i + j).toNat, by omega, by omega⟩
    rw [c1, c2, Nat.pow_add, Nat.pow_add, ← Nat.mul_assoc, ← Nat.mul_assoc] at e
    exact Nat.eq_of_mul_eq_mul_right (Nat.two_pow_pos c) e
  · intro h
    cases s <;> cases t <;> simp at h h1 h2 h3 h4
    · exact Int.mul_nonpos_of_nonneg_of_nonpos h2 h3
    · rw [Int.mul_comm]; exact Int.mul_nonpos_of_nonneg_of_nonpos h4 h1
  · intro h
    cases s <;> cases t <;> simp at h h1 h2 h3 h4
    · exact Int.mul_nonneg h2 h4
    · exact Int.mul_nonneg_of_nonpos_of_nonpos h1 h3

theorem rung_lt {N : Nat} (hN : N < 2 ^ 53) : rungOf N < 2 ^ 63 := by
  unfold rungOf
  split
  · omega
  · rename_i z
    have hL := log_lt hN (by omega)
    obtain ⟨a, b⟩ := (Nat.log2_eq_iff (n := N) (k := N.log2) z).1 rfl
    have : N * 2 ^ (52 - N.log2) < 2 ^ 53 := by
      calc N * 2 ^ (52 - N.log2) < 2 ^ (N.log2 + 1) * 2 ^ (52 - N.log2) := Nat.mul_lt_mul_of_pos_right b (Nat.two_pow_pos _)
        _ = 2 ^ 53 := by rw [← Nat.pow_add]; congr 1; omega
    have : (N.log2 + 1022) * 2 ^ 52 ≤ 1074 * 2 ^ 52 := Nat.mul_le_mul_right _ (by omega)
    omega

theorem xor_top {r : Nat} (h : r < 2 ^ 63) : r ^^^ 2 ^ 63 = 2 ^ 63 + r := by
  apply Nat.eq_of_testBit_eq
  intro i
  rw [Nat.testBit_xor, Nat.testBit_two_pow]
  rcases Nat.lt_trichotomy i 63 with h1 | h1 | h1
  · rw [Nat.testBit_two_pow_add_gt h1, decide_eq_false (by omega), Bool.xor_false]
  · subst h1; rw [Nat.testBit_two_pow_add_eq]; simp
  · have h2 : 2 ^ 64 ≤ 2 ^ i := Nat.pow_le_pow_right (by omega) (by omega)
    rw [Nat.testBit_lt_two_pow (show 2 ^ 63 + r < 2 ^ i by omega), Nat.testBit_lt_two_pow (show r < 2 ^ i by omega), decide_eq_false (by omega)]; rfl

theorem neg_of {x : Nat} {a : Int} (hx : FI x a) : FI (Op.negFloat .f64 x) (-a) := by
  obtain ⟨ha, s, rfl, h1, h2⟩ := hx
  refine ⟨by rw [Int.natAbs_neg]; exact ha, !s, ?_, by cases s <;> simp at h2 ⊢; omega, by cases s <;> simp at h1 ⊢; omega⟩
  rw [Int.natAbs_neg]
  have hr := rung_lt ha
  show double.word s _ ^^^ 2 ^ 63 = _
  unfold Format.word
  have hsw : double.signWeight = 2 ^ 63 := rfl
  rw [hsw]
  cases s
  · simp [xor_top hr]
  · simp only [if_true, Bool.not_true]
    rw [← xor_top hr, Nat.xor_assoc, Nat.xor_self, Nat.xor_zero]; simp

/-! The operations as plain functions, and the tests that they are exact: the words that the printed text uses. -/
def ftoiOk (b : Nat) : Bool := (floatToIntVal .f64 b .i64).isSome
def ftoi (b : Nat) : Int := (floatToIntVal .f64 b .i64).getD 0
def caddOk (a b c d : Nat) : Bool := (cSumBits .add .f64 a b c d).isSome
def caddR (a b c d : Nat) : Nat := ((cSumBits .add .f64 a b c d).getD (0, 0)).1
def caddI (a b c d : Nat) : Nat := ((cSumBits .add .f64 a b c d).getD (0, 0)).2
def csubOk (a b c d : Nat) : Bool := (cSumBits .sub .f64 a b c d).isSome
def csubR (a b c d : Nat) : Nat := ((cSumBits .sub .f64 a b c d).getD (0, 0)).1
def csubI (a b c d : Nat) : Nat := ((cSumBits .sub .f64 a b c d).getD (0, 0)).2
def cmulOk (a b c d : Nat) : Bool := (cMulBits a b c d).isSome
def cmulR (a b c d : Nat) : Nat := ((cMulBits a b c d).getD (0, 0)).1
def cmulI (a b c d : Nat) : Nat := ((cMulBits a b c d).getD (0, 0)).2

section
variable {P : Program} (w : World)
@[go_sem] theorem run_ftoi (src dst : TypeId) (b : Nat) (hs : (P.underlying src).isSome = true) (hd : P.underlying dst = some (.int .i64)) (h : ftoiOk b = true) :
    (convert src dst (.float .f64 b)).run P w = .ok (.int .i64 (ftoi b)) w := by
  unfold ftoiOk at h
  obtain ⟨n, hn⟩ := Option.isSome_iff_exists.1 h
  rw [run_convert_float_int w src dst .f64 .i64 b n hs hd hn]
  simp [ftoi, hn]
@[go_sem] theorem run_neg_float (k : FloatKind) (b : Nat) : (Op.unary .neg (.float k b)).run P w = .ok (.float k (Op.negFloat k b)) w := rfl
@[go_sem] theorem run_cadd (t : TypeId) (a b c d : Nat) (h : caddOk a b c d = true) :
    (binOp .add t (.complex .f64 a b) (.complex .f64 c d)).run P w = .ok (.complex .f64 (caddR a b c d) (caddI a b c d)) w := by
  unfold caddOk at h
  obtain ⟨⟨x, y⟩, hn⟩ := Option.isSome_iff_exists.1 h
  rw [run_complex_sum w .add (Or.inl rfl) t .f64 a b c d x y hn]
  simp [caddR, caddI, hn]
@[go_sem] theorem run_csub (t : TypeId) (a b c d : Nat) (h : csubOk a b c d = true) :
    (binOp .sub t (.complex .f64 a b) (.complex .f64 c d)).run P w = .ok (.complex .f64 (csubR a b c d) (csubI a b c d)) w := by
  unfold csubOk at h
  obtain ⟨⟨x, y⟩, hn⟩ := Option.isSome_iff_exists.1 h
  rw [run_complex_sum w .sub (Or.inr rfl) t .f64 a b c d x y hn]
  simp [csubR, csubI, hn]
@[go_sem] theorem run_cmul (t : TypeId) (a b c d : Nat) (h : cmulOk a b c d = true) :
    (binOp .mul t (.complex .f64 a b) (.complex .f64 c d)).run P w = .ok (.complex .f64 (cmulR a b c d) (cmulI a b c d)) w := by
  unfold cmulOk at h
  obtain ⟨⟨x, y⟩, hn⟩ := Option.isSome_iff_exists.1 h
  rw [run_complex_mul w t a b c d x y hn]
  simp [cmulR, cmulI, hn]
end

end Fl
end Go.Proofs.YtmimnlbkllgfpaaGreatDoor
