/- Division of places: what the program's Quo and the reference's come to, and that the rest's norm is at most half of the divisor's: any two places. -/
import Derived.Test.YtlpidjenifbjeaaPx3
import Derived.Test.YtlpidjenifbjeaaPx8
import Derived.Test.YtlpidjenifbjeaaPx9
import Derived.Test.YtlpidjenifbjeaaPa
import Derived.Test.YtlpidjenifbjeaaPn
namespace Go.Proofs.Ytlpidjenifbjeaa.Pl
open Go.RowKit Go.Proofs.Ytlpidjenifbjeaa.P Go.Proofs.YtlpidjenifbjeaaW.PrintWords Go.Proofs.YtlpidjenifbjeaaW.PrintLast Go.Proofs.YtlpidjenifbjeaaW.PrintMore Go.Proofs.Ytlpidjenifbjeaa.Fl

/-- The whole number nearest to n by d; of two the greater one. -/
def nearP (n d : Int) : Int := (2 * n + d) / (2 * d)

theorem div_of {N D q r : Int} (hD : 0 < D) (h : r + D * q = N) (hr : 0 ≤ r ∧ r < D) : N / D = q := ((Int.ediv_emod_unique hD).2 ⟨h, hr.1, hr.2⟩).1

theorem near_spec (n d : Int) (hd : 0 < d) : ∃ r, 2 * n + d = 2 * d * nearP n d + r ∧ 0 ≤ r ∧ r < 2 * d := by
  refine ⟨(2 * n + d) % (2 * d), ?_, Int.emod_nonneg _ (by omega), Int.emod_lt_of_pos _ (by omega)⟩
  unfold nearP
  have := Int.mul_ediv_add_emod (2 * n + d) (2 * d)
  omega

theorem nearest_eq (n d : Int) (hd : 0 < d ∧ d ≤ 2199023255552) (hn : -2199023255552 ≤ n ∧ n ≤ 2199023255552) : plane_nearest.f n d = some (nearP n d) := by
  unfold plane_nearest.f
  have w1 : wrap64 (2 * d) = 2 * d := wrap_eq (by omega)
  have w2 : wrap64 (2 * n) = 2 * n := wrap_eq (by omega)
  have w3 : wrap64 (2 * n + d) = 2 * n + d := wrap_eq (by omega)
  simp only [w1, w2, w3]
  rw [if_neg (by omega)]
  generalize hN : 2 * n + d = N
  generalize hD : 2 * d = D
  have hq : nearP n d = N / D := by unfold nearP; rw [hN, hD]
  rw [hq]
  rcases Int.lt_or_le N 0 with c | c
  · have e1 : Int.tdiv N D = -((-N) / D) := by
      conv => lhs; rw [show N = -(-N) from by omega, Int.neg_tdiv]
      rw [Int.tdiv_eq_ediv_of_nonneg (by omega)]
    have e2 : Int.tmod N D = -((-N) % D) := by
      conv => lhs; rw [show N = -(-N) from by omega, Int.neg_tmod]
      rw [Int.tmod_eq_emod_of_nonneg (by omega)]
    have s := Int.mul_ediv_add_emod (-N) D
    have s0 := Int.emod_nonneg (-N) (show D ≠ 0 by omega)
    have s1 := Int.emod_lt_of_pos (-N) (show 0 < D by omega)
    have b1 : 0 ≤ (-N) / D := Int.ediv_nonneg (by omega) (by omega)
    have b2 : (-N) / D ≤ -N := Int.ediv_le_self _ (by omega)
    rw [e1, e2]
    generalize (-N) / D = q at *
    generalize (-N) % D = r at *
    by_cases z : r = 0
    · subst z
      rw [if_neg (by omega), wrap_eq (by omega)]
      congr 1
      exact (div_of (r := 0) (by omega) (by rw [Int.mul_neg]; omega) (by omega)).symm
    · rw [if_pos (by omega), wrap_eq (n := -q) (by omega), wrap_eq (by omega)]
      congr 1
      have e : D * (-q - 1) = -(D * q) - D := by rw [Int.mul_sub, Int.mul_neg, Int.mul_one]
      exact (div_of (r := D - r) (by omega) (by rw [e]; omega) (by omega)).symm
  · rw [Int.tdiv_eq_ediv_of_nonneg c, Int.tmod_eq_emod_of_nonneg c]
    have s0 := Int.emod_nonneg N (show D ≠ 0 by omega)
    have b1 : 0 ≤ N / D := Int.ediv_nonneg (by omega) (by omega)
    have b2 : N / D ≤ N := Int.ediv_le_self _ (by omega)
    rw [if_neg (by omega), wrap_eq (by omega)]

theorem refNearest_eq (n d : Int) (hd : 0 < d ∧ d ≤ 2199023255552) (hn : -2199023255552 ≤ n ∧ n ≤ 2199023255552) : mosaicref17_nearest.f n d = some (nearP n d) := by
  unfold mosaicref17_nearest.f
  rw [if_neg (by omega)]
  -- F, R: n = d F + R
  have s := Int.mul_ediv_add_emod n d
  have s0 := Int.emod_nonneg n (show d ≠ 0 by omega)
  have s1 := Int.emod_lt_of_pos n hd.1
  have bF : -2199023255553 ≤ n / d ∧ n / d ≤ 2199023255553 := by
    constructor
    · exact (Int.le_ediv_iff_mul_le hd.1).2 (by
        have : -2199023255553 * d ≤ -2199023255553 * 1 := by omega
        omega)
    · refine Int.le_of_lt_add_one ((Int.ediv_lt_iff_lt_mul hd.1).2 ?_)
      have : (2199023255553 + 1) * d ≥ (2199023255553 + 1) * 1 := by omega
      omega
  generalize hF : n / d = F at *
  generalize hR : n % d = R at *
  have hdF : d * F = n - R := by omega
  have fin : ∀ q : Int, (2 * R ≥ d ∧ q = F + 1 ∨ 2 * R < d ∧ q = F) → nearP n d = q := by
    intro q hq
    unfold nearP
    rcases hq with ⟨h1, rfl⟩ | ⟨h1, rfl⟩
    · exact div_of (r := 2 * R - d) (by omega) (by rw [Int.mul_add, Int.mul_assoc, hdF]; omega) (by omega)
    · exact div_of (r := 2 * R + d) (by omega) (by rw [Int.mul_assoc, hdF]; omega) (by omega)
  have wR : wrap64 (n - (n - R)) = R := by rw [wrap_eq (by omega)]; omega
  have w2R : wrap64 (2 * R) = 2 * R := wrap_eq (by omega)
  have wF : wrap64 F = F := wrap_eq (by omega)
  have wF1 : wrap64 (F + 1) = F + 1 := wrap_eq (by omega)
  have wFd : wrap64 (F * d) = n - R := by rw [Int.mul_comm, hdF, wrap_eq (by omega)]
  -- what stands behind the choice of F
  have last : (if wrap64 (2 * wrap64 (n - wrap64 (F * d))) ≥ d then some (wrap64 (F + 1)) else some F) = some (nearP n d) := by
    rw [wFd, wR, w2R]
    by_cases c : 2 * R ≥ d
    · rw [if_pos c, wF1, fin (F + 1) (.inl ⟨c, rfl⟩)]
    · rw [if_neg c, fin F (.inr ⟨by omega, rfl⟩)]
  -- tdiv is F, or one above it
  have ht : (Int.tdiv n d = F ∧ (R = 0 ∨ 0 ≤ n)) ∨ (Int.tdiv n d = F + 1 ∧ 0 < R) := by
    rcases Int.lt_or_le n 0 with c | c
    · have e1 : Int.tdiv n d = -((-n) / d) := by
        conv => lhs; rw [show n = -(-n) from by omega, Int.neg_tdiv]
        rw [Int.tdiv_eq_ediv_of_nonneg (by omega)]
      by_cases z : R = 0
      · left
        refine ⟨?_, .inl z⟩
        rw [e1, div_of (N := -n) (q := -F) (r := 0) hd.1 (by rw [Int.mul_neg]; omega) (by omega)]; omega
      · right
        refine ⟨?_, by omega⟩
        rw [e1, div_of (N := -n) (q := -F - 1) (r := d - R) hd.1 (by rw [Int.mul_sub, Int.mul_neg]; omega) (by omega)]; omega
    · left; exact ⟨by rw [Int.tdiv_eq_ediv_of_nonneg c, hF], .inr c⟩
  rcases ht with ⟨e, _⟩ | ⟨e, hR0⟩
  · rw [e]
    rw [wF, if_neg (by rw [wFd]; omega)]
    exact last
  · rw [e]
    have w5 : wrap64 (F + 1 - 1) = F := by rw [wrap_eq (by omega)]; omega
    have w6 : wrap64 ((F + 1) * d) = n - R + d := by rw [Int.add_mul, Int.mul_comm, hdF, Int.one_mul, wrap_eq (by omega)]
    simp only [wF1, w6, w5]
    rw [wF1] at last
    rw [if_pos (by omega)]
    exact last

/-- The quotient's parts, and the rest. -/
def quoX (a b c d : Int) : Int := nearP (a * c + b * d) (c * c + d * d)
def quoY (a b c d : Int) : Int := nearP (b * c - a * d) (c * c + d * d)
def resX (a b c d : Int) : Int := a - (quoX a b c d * c - quoY a b c d * d)
def resY (a b c d : Int) : Int := b - (quoX a b c d * d + quoY a b c d * c)

theorem sq_nonneg (x : Int) : 0 ≤ x * x := by
  rcases Int.le_total 0 x with h | h
  · exact Int.mul_nonneg h h
  · exact Int.mul_nonneg_of_nonpos_of_nonpos h h

theorem sq_ge (x : Int) : x ≤ x * x ∧ -x ≤ x * x := by
  rcases Int.lt_trichotomy x 0 with h | h | h
  · have : (-x) * 1 ≤ (-x) * (-x) := Int.mul_le_mul_of_nonneg_left (by omega) (by omega)
    rw [Int.neg_mul_neg] at this
    have := sq_nonneg x
    omega
  · subst h; simp
  · have : x * 1 ≤ x * x := Int.mul_le_mul_of_nonneg_left (by omega) (by omega)
    have := sq_nonneg x
    omega

theorem norm_pos {c d : Int} (h : ¬ (c = 0 ∧ d = 0)) : 0 < c * c + d * d := by
  have h1 := sq_ge c
  have h2 := sq_ge d
  omega

/-- The rest is small. -/
theorem rest_small (a b c d : Int) (h : 0 < c * c + d * d) : 2 * (resX a b c d * resX a b c d + resY a b c d * resY a b c d) ≤ c * c + d * d := by
  obtain ⟨r1, e1, l1, u1⟩ := near_spec (a * c + b * d) (c * c + d * d) h
  obtain ⟨r2, e2, l2, u2⟩ := near_spec (b * c - a * d) (c * c + d * d) h
  have f1 : resX a b c d * c + resY a b c d * d = (a * c + b * d) - (c * c + d * d) * quoX a b c d := by unfold resX resY; grind
  have f2 : resY a b c d * c - resX a b c d * d = (b * c - a * d) - (c * c + d * d) * quoY a b c d := by unfold resX resY; grind
  have f3 : (resX a b c d * resX a b c d + resY a b c d * resY a b c d) * (c * c + d * d) = (resX a b c d * c + resY a b c d * d) * (resX a b c d * c + resY a b c d * d) + (resY a b c d * c - resX a b c d * d) * (resY a b c d * c - resX a b c d * d) := by grind
  change _ = 2 * _ * quoX a b c d + _ at e1
  change _ = 2 * _ * quoY a b c d + _ at e2
  generalize resX a b c d = x at *
  generalize resY a b c d = y at *
  generalize quoX a b c d = p at *
  generalize quoY a b c d = q at *
  generalize a * c + b * d = m at *
  generalize b * c - a * d = n at *
  generalize c * c + d * d = D at *
  rw [Int.mul_assoc] at e1 e2
  -- twice the parts lie between -D and D
  have g1 : -D ≤ 2 * (x * c + y * d) ∧ 2 * (x * c + y * d) ≤ D := by omega
  have g2 : -D ≤ 2 * (y * c - x * d) ∧ 2 * (y * c - x * d) ≤ D := by omega
  generalize x * c + y * d = u at *
  generalize y * c - x * d = v at *
  have s1 := (mul_le g1 g1).2
  have s2 := (mul_le g2 g2).2
  have t1 : 2 * u * (2 * u) = 4 * (u * u) := by grind
  have t2 : 2 * v * (2 * v) = 4 * (v * v) := by grind
  have hfin : 2 * (x * x + y * y) * D ≤ D * D := by
    rw [Int.mul_assoc, f3]; omega
  exact Int.le_of_mul_le_mul_right hfin h

theorem quo_bounds {a b c d : Int} (ha : -1048576 ≤ a ∧ a ≤ 1048576) (hb : -1048576 ≤ b ∧ b ≤ 1048576) (h : 0 < c * c + d * d) :
    (-1048577 ≤ quoX a b c d ∧ quoX a b c d ≤ 1048577) ∧ (-1048577 ≤ quoY a b c d ∧ quoY a b c d ≤ 1048577) := by
  have key : ∀ n, -(1048576 * (c * c + d * d)) ≤ n → n ≤ 1048576 * (c * c + d * d) → -1048577 ≤ nearP n (c * c + d * d) ∧ nearP n (c * c + d * d) ≤ 1048577 := by
    intro n h1 h2
    generalize c * c + d * d = D at *
    unfold nearP
    constructor
    · exact (Int.le_ediv_iff_mul_le (by omega)).2 (by omega)
    · exact Int.le_of_lt_add_one ((Int.ediv_lt_iff_lt_mul (by omega)).2 (by omega))
  have c1 := sq_ge c
  have d1 := sq_ge d
  have part : ∀ x y : Int, -1048576 ≤ x ∧ x ≤ 1048576 → -(1048576 * (y * y)) ≤ x * y ∧ x * y ≤ 1048576 * (y * y) := by
    intro x y hx
    have y1 := sq_ge y
    have := mul_le hx (show -(y * y) ≤ y ∧ y ≤ y * y by omega)
    omega
  have p1 := part a c ha
  have p2 := part b d hb
  have p3 := part b c hb
  have p4 := part a d ha
  exact ⟨key _ (by omega) (by omega), key _ (by omega) (by omega)⟩

theorem rest_ok {a b c d : Int} (hc : -1048576 ≤ c ∧ c ≤ 1048576) (hd : -1048576 ≤ d ∧ d ≤ 1048576) (h : 0 < c * c + d * d) : okB (resX a b c d) (resY a b c d) = true := by
  have s := rest_small a b c d h
  have m1 := mulb hc hc
  have m2 := mulb hd hd
  have x0 := sq_nonneg (resX a b c d)
  have y0 := sq_nonneg (resY a b c d)
  have key : ∀ x : Int, x * x ≤ 1099511627776 → -1048576 ≤ x ∧ x ≤ 1048576 := by
    intro x hx
    constructor
    · rcases Int.lt_or_le x (-1048576) with q | q
      · have : 1048577 * 1048577 ≤ (-x) * (-x) := Int.mul_le_mul (by omega) (by omega) (by omega) (by omega)
        rw [Int.neg_mul_neg] at this; omega
      · exact q
    · rcases Int.lt_or_le 1048576 x with q | q
      · have : 1048577 * 1048577 ≤ x * x := Int.mul_le_mul (by omega) (by omega) (by omega) (by omega)
        omega
      · exact q
  rw [okB_iff]
  exact ⟨key _ (by omega), key _ (by omega)⟩

/-- The quotient, the rest, and the error. -/
def quoP (a b c d : Int) : Int × Int × Int × Int × Int :=
  if okB a b && okB c d && !(c == 0 && d == 0) then (quoX a b c d, quoY a b c d, resX a b c d, resY a b c d, 0) else (0, 0, 0, 0, 1)

theorem quo_eq (a b c d : Int) (k : Nat) (hk : 1 ≤ k) : plane_Quo.f k a b c d = some (quoP a b c d) := by
  obtain ⟨k, rfl⟩ : ∃ j, k = j + 1 := ⟨k - 1, by omega⟩
  unfold plane_Quo.f quoP
  rw [both_eq]
  simp only [Option.bind_some]
  by_cases z : (okB a b && okB c d) = true
  · by_cases zz : (c == 0 && d == 0) = true
    · rw [if_pos z, zz]
      simp [plane_Quo.j0]
    · rw [if_pos z]
      have zf : (c == 0 && d == 0) = false := by simpa using zz
      rw [zf, z]
      simp only [plane_Quo.j0, Bool.not_false, Bool.and_self, if_true]
      rw [if_neg (by simp)]
      obtain ⟨h1, h2⟩ := Bool.and_eq_true_iff.1 z
      have h2' := h2
      rw [okB_iff] at h1 h2
      have hpos : 0 < c * c + d * d := norm_pos (by rintro ⟨rfl, rfl⟩; simp at zf)
      have m1 := mulb h1.1 h2.1
      have m2 := mulb h1.2 h2.2
      have m3 := mulb h1.1 h2.2
      have m4 := mulb h1.2 h2.1
      have n1 := mulb h2.1 h2.1
      have n2 := mulb h2.2 h2.2
      have hN : normP c d = c * c + d * d := by unfold normP; rw [h2']; rfl
      rw [norm_eq, hN]
      simp only [plane_of.f, Option.bind_some]
      have fa := fi a (by omega)
      have fb := fi b (by omega)
      have fc := fi c (by omega)
      have fd := fi d (by omega)
      obtain ⟨o1, r1, i1⟩ := cmul_of fa fb fc (neg_of fd) (by omega) (by rw [Int.mul_neg]; omega) (by rw [Int.mul_neg]; omega) (by omega) (by rw [Int.mul_neg]; omega) (by rw [Int.mul_neg]; omega)
      obtain ⟨t1, t2⟩ := ftoi_of r1
      obtain ⟨t3, t4⟩ := ftoi_of i1
      have e1 : a * c - b * -d = a * c + b * d := by rw [Int.mul_neg]; omega
      have e2 : a * -d + b * c = b * c - a * d := by rw [Int.mul_neg]; omega
      rw [if_pos o1, if_pos t1, t2, e1, nearest_eq _ _ ⟨hpos, by omega⟩ (by omega)]
      simp only [Option.bind_some]
      rw [if_pos t3, t4, e2, nearest_eq _ _ ⟨hpos, by omega⟩ (by omega)]
      simp only [Option.bind_some]
      change _ = some (quoX a b c d, quoY a b c d, resX a b c d, resY a b c d, 0)
      have hX : nearP (a * c + b * d) (c * c + d * d) = quoX a b c d := rfl
      have hY : nearP (b * c - a * d) (c * c + d * d) = quoY a b c d := rfl
      rw [hX, hY]
      have qb := quo_bounds h1.1 h1.2 (c := c) (d := d) hpos
      have ok := rest_ok (a := a) (b := b) h2.1 h2.2 hpos
      have okk := ok
      rw [okB_iff] at okk
      have rX : resX a b c d = a - (quoX a b c d * c - quoY a b c d * d) := rfl
      have rY : resY a b c d = b - (quoX a b c d * d + quoY a b c d * c) := rfl
      have fx := fi (quoX a b c d) (by omega)
      have fy := fi (quoY a b c d) (by omega)
      have g1 : -(1048577 * 1048576) ≤ quoX a b c d * c ∧ quoX a b c d * c ≤ 1048577 * 1048576 := mul_le qb.1 h2.1
      have g2 : -(1048577 * 1048576) ≤ quoY a b c d * d ∧ quoY a b c d * d ≤ 1048577 * 1048576 := mul_le qb.2 h2.2
      have g3 : -(1048577 * 1048576) ≤ quoX a b c d * d ∧ quoX a b c d * d ≤ 1048577 * 1048576 := mul_le qb.1 h2.2
      have g4 : -(1048577 * 1048576) ≤ quoY a b c d * c ∧ quoY a b c d * c ≤ 1048577 * 1048576 := mul_le qb.2 h2.1
      obtain ⟨o2, r2, i2⟩ := cmul_of fx fy fc fd (by omega) (by omega) (by omega) (by omega) (by omega) (by omega)
      obtain ⟨o3, r3, i3⟩ := csub_of fa fb r2 i2 (by omega) (by omega)
      rw [if_pos o2, if_pos o3, place_eq r3 i3, ← rX, ← rY]
      unfold over
      rw [ok]
      rfl
  · have zf : (okB a b && okB c d) = false := by simpa using z
    rw [zf]
    simp [plane_Quo.j0]

theorem refQuo_eq (a b c d : Int) (k : Nat) (hk : 1 ≤ k) : mosaicref17_Quo.f k a b c d = some (quoP a b c d) := by
  obtain ⟨k, rfl⟩ : ∃ j, k = j + 1 := ⟨k - 1, by omega⟩
  unfold mosaicref17_Quo.f quoP
  simp only [refCheck_eq, Option.bind_some]
  cases h1 : okB a b
  · simp [mosaicref17_Quo.j0]
  cases h2 : okB c d
  · simp [mosaicref17_Quo.j0]
  have hz : (if c = 0 then mosaicref17_Quo.j0 (k + 1) (d == 0) a b c d else mosaicref17_Quo.j0 (k + 1) false a b c d) = mosaicref17_Quo.j0 (k + 1) (c == 0 && d == 0) a b c d := by
    split
    · subst_vars; simp
    · rw [show (c == 0) = false from by simpa using ‹_›]; rfl
  simp only [if_true]
  rw [hz]
  cases zz : (c == 0 && d == 0)
  · simp only [mosaicref17_Quo.j0, Bool.not_false, Bool.and_self, if_true]
    rw [if_neg (by simp)]
    have hN : normP c d = c * c + d * d := by unfold normP; rw [h2]; rfl
    have hpos : 0 < c * c + d * d := norm_pos (by rintro ⟨rfl, rfl⟩; simp at zz)
    rw [okB_iff] at h1 h2
    have m1 := mulb h1.1 h2.1
    have m2 := mulb h1.2 h2.2
    have m3 := mulb h1.1 h2.2
    have m4 := mulb h1.2 h2.1
    have n1 := mulb h2.1 h2.1
    have n2 := mulb h2.2 h2.2
    have w1 : wrap64 (a * c) = a * c := wrap_eq (by omega)
    have w2 : wrap64 (b * d) = b * d := wrap_eq (by omega)
    have w3 : wrap64 (b * c) = b * c := wrap_eq (by omega)
    have w4 : wrap64 (a * d) = a * d := wrap_eq (by omega)
    have w5 : wrap64 (a * c + b * d) = a * c + b * d := wrap_eq (by omega)
    have w6 : wrap64 (b * c - a * d) = b * c - a * d := wrap_eq (by omega)
    rw [refNorm_eq, hN, w1, w2, w3, w4, w5, w6]
    simp only [Option.bind_some]
    rw [refNearest_eq _ _ ⟨hpos, by omega⟩ (by omega), refNearest_eq _ _ ⟨hpos, by omega⟩ (by omega)]
    simp only [Option.bind_some]
    have hX : nearP (a * c + b * d) (c * c + d * d) = quoX a b c d := rfl
    have hY : nearP (b * c - a * d) (c * c + d * d) = quoY a b c d := rfl
    rw [hX, hY]
    have qb := quo_bounds h1.1 h1.2 (c := c) (d := d) hpos
    have g1 : -(1048577 * 1048576) ≤ quoX a b c d * c ∧ quoX a b c d * c ≤ 1048577 * 1048576 := mul_le qb.1 h2.1
    have g2 : -(1048577 * 1048576) ≤ quoY a b c d * d ∧ quoY a b c d * d ≤ 1048577 * 1048576 := mul_le qb.2 h2.2
    have g3 : -(1048577 * 1048576) ≤ quoX a b c d * d ∧ quoX a b c d * d ≤ 1048577 * 1048576 := mul_le qb.1 h2.2
    have g4 : -(1048577 * 1048576) ≤ quoY a b c d * c ∧ quoY a b c d * c ≤ 1048577 * 1048576 := mul_le qb.2 h2.1
    rw [wrap_eq (n := quoX a b c d * c) (by omega), wrap_eq (n := quoY a b c d * d) (by omega), wrap_eq (n := quoX a b c d * d) (by omega), wrap_eq (n := quoY a b c d * c) (by omega),
      wrap_eq (n := quoX a b c d * c - quoY a b c d * d) (by omega), wrap_eq (n := quoX a b c d * d + quoY a b c d * c) (by omega), wrap_eq (by omega), wrap_eq (by omega)]
    rfl
  · simp [mosaicref17_Quo.j0]

end Go.Proofs.Ytlpidjenifbjeaa.Pl
