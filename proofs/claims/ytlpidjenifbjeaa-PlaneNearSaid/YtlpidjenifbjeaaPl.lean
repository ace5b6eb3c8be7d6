/- What the printed functions of plane and of its reference come to, in plain numbers: for every place. -/
import Derived.Test.YtlpidjenifbjeaaPx2
import Derived.Test.YtlpidjenifbjeaaPx3
import Derived.Test.YtlpidjenifbjeaaSy
namespace Go.Proofs.Ytlpidjenifbjeaa.Pl
open Go.RowKit Go.Proofs.Ytlpidjenifbjeaa.P Go.Proofs.YtlpidjenifbjeaaW.PrintWords Go.Proofs.YtlpidjenifbjeaaW.PrintLast Go.Proofs.Ytlpidjenifbjeaa.Fl

def inB (n : Int) : Bool := decide (-1048576 ≤ n ∧ n ≤ 1048576)
def okB (x y : Int) : Bool := inB x && inB y
theorem okB_iff (x y : Int) : okB x y = true ↔ (-1048576 ≤ x ∧ x ≤ 1048576) ∧ (-1048576 ≤ y ∧ y ≤ 1048576) := by simp [okB, inB]
theorem okB_not (x y : Int) : okB x y = false ↔ ¬ ((-1048576 ≤ x ∧ x ≤ 1048576) ∧ (-1048576 ≤ y ∧ y ≤ 1048576)) := by
  rw [← okB_iff]; simp

theorem within_eq (n : Int) : plane_within.f n = some (inB n) := by
  unfold plane_within.f inB
  split
  · congr 1; simp; omega
  · congr 1; simp; omega

theorem check_eq (x y : Int) : plane_Check.f x y = some (okB x y) := by
  unfold plane_Check.f okB
  simp only [within_eq, Option.bind_some]
  cases inB x <;> simp

theorem refCheck_eq (x y : Int) : mosaicref17_Check.f x y = some (okB x y) := by
  unfold mosaicref17_Check.f
  rcases h : okB x y
  · rw [okB_not] at h
    repeat' split
    all_goals first | rfl | (congr 1; simp; omega)
  · rw [okB_iff] at h
    rw [if_pos (by omega), if_pos (by omega), if_pos (by omega)]
    congr 1; simp; omega

theorem both_eq (a b c d : Int) : plane_both.f a b c d = some (okB a b && okB c d) := by
  unfold plane_both.f
  simp only [check_eq, Option.bind_some]
  cases okB a b <;> simp

theorem wrap_eq {n : Int} (h : -9223372036854775808 ≤ n ∧ n ≤ 9223372036854775807) : wrap64 n = n := by
  unfold wrap64; omega

/-- A place, or that it is over. -/
def over (x y : Int) : Int × Int × Int := if okB x y then (x, y, 0) else (0, 0, 8)

theorem ftoi_of {b : Nat} {n : Int} (h : FI b n) : ftoiOk b = true ∧ ftoi b = n := by
  unfold ftoiOk ftoi; rw [toInt h]; simp

theorem place_eq {a b : Nat} {x y : Int} (ha : FI a x) (hb : FI b y) : plane_place.f (a, b) = some (over x y) := by
  obtain ⟨a1, a2⟩ := ftoi_of ha
  obtain ⟨b1, b2⟩ := ftoi_of hb
  unfold plane_place.f over
  simp only [a1, a2, b1, b2, if_true, check_eq, Option.bind_some]
  cases okB x y <;> simp

theorem fi (n : Int) (h : -9007199254740992 < n ∧ n < 9007199254740992) : FI (floatOfInt .f64 n) n := ofInt n (by omega)

theorem cadd_of {a b c d : Nat} {x y z t : Int} (ha : FI a x) (hb : FI b y) (hc : FI c z) (hd : FI d t) (h1 : (x + z).natAbs < 2 ^ 53) (h2 : (y + t).natAbs < 2 ^ 53) :
    caddOk a b c d = true ∧ FI (caddR a b c d) (x + z) ∧ FI (caddI a b c d) (y + t) := by
  obtain ⟨r, e1, f1⟩ := add_of ha hc h1
  obtain ⟨s, e2, f2⟩ := add_of hb hd h2
  have e : cSumBits .add .f64 a b c d = some (r, s) := by unfold cSumBits; rw [e1, e2]; rfl
  unfold caddOk caddR caddI
  rw [e]; exact ⟨rfl, f1, f2⟩

theorem csub_of {a b c d : Nat} {x y z t : Int} (ha : FI a x) (hb : FI b y) (hc : FI c z) (hd : FI d t) (h1 : (x - z).natAbs < 2 ^ 53) (h2 : (y - t).natAbs < 2 ^ 53) :
    csubOk a b c d = true ∧ FI (csubR a b c d) (x - z) ∧ FI (csubI a b c d) (y - t) := by
  obtain ⟨r, e1, f1⟩ := sub_of ha hc h1
  obtain ⟨s, e2, f2⟩ := sub_of hb hd h2
  have e : cSumBits .sub .f64 a b c d = some (r, s) := by unfold cSumBits; rw [e1, e2]; rfl
  unfold csubOk csubR csubI
  rw [e]; exact ⟨rfl, f1, f2⟩

theorem cmul_of {a b c d : Nat} {x y z t : Int} (ha : FI a x) (hb : FI b y) (hc : FI c z) (hd : FI d t) (m1 : (x * z).natAbs < 2 ^ 53) (m2 : (y * t).natAbs < 2 ^ 53) (m3 : (x * t).natAbs < 2 ^ 53) (m4 : (y * z).natAbs < 2 ^ 53)
    (h1 : (x * z - y * t).natAbs < 2 ^ 53) (h2 : (x * t + y * z).natAbs < 2 ^ 53) :
    cmulOk a b c d = true ∧ FI (cmulR a b c d) (x * z - y * t) ∧ FI (cmulI a b c d) (x * t + y * z) := by
  obtain ⟨p, e1, f1⟩ := mul_of ha hc m1
  obtain ⟨q, e2, f2⟩ := mul_of hb hd m2
  obtain ⟨r, e3, f3⟩ := sub_of f1 f2 h1
  obtain ⟨s, e4, f4⟩ := mul_of ha hd m3
  obtain ⟨u, e5, f5⟩ := mul_of hb hc m4
  obtain ⟨v, e6, f6⟩ := add_of f4 f5 h2
  have e : cMulBits a b c d = some (r, v) := by unfold cMulBits; simp only [e1, e2, e3, e4, e5, e6, Option.bind_some]
  unfold cmulOk cmulR cmulI
  rw [e]; exact ⟨rfl, f3, f6⟩

/-- |x| ≤ a and |y| ≤ b: |x y| ≤ a b. -/
theorem mul_le {x y a b : Int} (hx : -a ≤ x ∧ x ≤ a) (hy : -b ≤ y ∧ y ≤ b) : -(a * b) ≤ x * y ∧ x * y ≤ a * b := by
  have ha : 0 ≤ a := by omega
  have hb : 0 ≤ b := by omega
  have h : (x * y).natAbs ≤ (a * b).natAbs := by
    rw [Int.natAbs_mul, Int.natAbs_mul]
    exact Nat.mul_le_mul (by omega) (by omega)
  have : 0 ≤ a * b := Int.mul_nonneg ha hb
  omega

/-- The sum of two places, the difference, the product. -/
def pair3 (p : Bool) (x y : Int) : Int × Int × Int := if p then over x y else (0, 0, 1)

theorem mulb {x y : Int} (hx : -1048576 ≤ x ∧ x ≤ 1048576) (hy : -1048576 ≤ y ∧ y ≤ 1048576) : -1099511627776 ≤ x * y ∧ x * y ≤ 1099511627776 := mul_le hx hy

theorem mul_eq (a b c d : Int) : plane_Mul.f a b c d = some (pair3 (okB a b && okB c d) (a * c - b * d) (a * d + b * c)) := by
  unfold plane_Mul.f pair3
  simp only [both_eq, Option.bind_some]
  cases h : (okB a b && okB c d)
  · simp
  · obtain ⟨h1, h2⟩ := Bool.and_eq_true_iff.1 h
    rw [okB_iff] at h1 h2
    have m1 := mulb h1.1 h2.1
    have m2 := mulb h1.2 h2.2
    have m3 := mulb h1.1 h2.2
    have m4 := mulb h1.2 h2.1
    obtain ⟨ok, f1, f2⟩ := cmul_of (fi a (by omega)) (fi b (by omega)) (fi c (by omega)) (fi d (by omega)) (by omega) (by omega) (by omega) (by omega) (by omega) (by omega)
    simp only [plane_of.f, Option.bind_some, if_true, ok, place_eq f1 f2]

/-- The norm of a place. -/
def normP (x y : Int) : Int := if okB x y then x * x + y * y else -1

theorem norm_of {a b : Nat} {x y : Int} (ha : FI a x) (hb : FI b y) (hx : -2097152 ≤ x ∧ x ≤ 2097152) (hy : -2097152 ≤ y ∧ y ≤ 2097152) : plane_norm.f (a, b) = some (x * x + y * y) := by
  have m1 : _ ∧ x * x ≤ 2097152 * 2097152 := mul_le hx hx
  have m2 : _ ∧ y * y ≤ 2097152 * 2097152 := mul_le hy hy
  have m3 : -(2097152 * 2097152) ≤ x * y ∧ x * y ≤ 2097152 * 2097152 := mul_le hx hy
  obtain ⟨ok, f1, f2⟩ := cmul_of ha hb ha (neg_of hb) (by omega) (by rw [Int.mul_neg]; omega) (by rw [Int.mul_neg]; omega) (by rw [Int.mul_comm]; omega) (by rw [Int.mul_neg]; omega) (by rw [Int.mul_neg, Int.mul_comm y x]; omega)
  obtain ⟨i1, i2⟩ := ftoi_of f1
  unfold plane_norm.f
  simp only [ok, if_true, i1, i2]
  congr 1
  rw [Int.mul_neg]; omega

def distP (a b c d : Int) : Int := if okB a b && okB c d then (a - c) * (a - c) + (b - d) * (b - d) else -1

theorem dist_eq (a b c d : Int) : plane_Dist.f a b c d = some (distP a b c d) := by
  unfold plane_Dist.f distP
  simp only [both_eq, Option.bind_some]
  cases h : (okB a b && okB c d)
  · simp
  · obtain ⟨h1, h2⟩ := Bool.and_eq_true_iff.1 h
    rw [okB_iff] at h1 h2
    obtain ⟨ok, f1, f2⟩ := csub_of (fi a (by omega)) (fi b (by omega)) (fi c (by omega)) (fi d (by omega)) (by omega) (by omega)
    simp only [plane_of.f, Option.bind_some, if_true, ok, norm_of f1 f2 (by omega) (by omega)]

theorem refDist_eq (a b c d : Int) : mosaicref17_Dist.f a b c d = some (distP a b c d) := by
  unfold mosaicref17_Dist.f distP
  simp only [refCheck_eq, Option.bind_some]
  cases h1 : okB a b <;> cases h2 : okB c d <;> simp
  rw [okB_iff] at h1 h2
  have m1 : -(2097152 * 2097152) ≤ (a - c) * (a - c) ∧ (a - c) * (a - c) ≤ 2097152 * 2097152 := mul_le (by omega) (by omega)
  have m2 : -(2097152 * 2097152) ≤ (b - d) * (b - d) ∧ (b - d) * (b - d) ≤ 2097152 * 2097152 := mul_le (by omega) (by omega)
  rw [wrap_eq (n := a - c) (by omega), wrap_eq (n := b - d) (by omega), wrap_eq (n := (a - c) * (a - c)) (by omega), wrap_eq (n := (b - d) * (b - d)) (by omega), wrap_eq (by omega)]

theorem compare_eq (x y : Int) : cmp_Compare_int.f x y = some (Sw.cmpI x y) := by
  unfold cmp_Compare_int.f cmp_isNaN_int.f Sw.cmpI
  simp only [Option.bind_some, bne_self_eq_false]
  rw [if_neg (by simp), if_neg (by simp)]
  split
  · rfl
  · split <;> rfl

end Go.Proofs.Ytlpidjenifbjeaa.Pl
