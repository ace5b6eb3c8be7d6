/- Turning a place by quarters: what the program and the reference come to, for every place and every number. -/
import Derived.Test.YtlpidjenifbjeaaPx2
import Derived.Test.YtlpidjenifbjeaaPl
namespace Go.Proofs.Ytlpidjenifbjeaa.Pl
open Go.RowKit Go.Proofs.Ytlpidjenifbjeaa.P Go.Proofs.YtlpidjenifbjeaaW.PrintWords Go.Proofs.YtlpidjenifbjeaaW.PrintLast Go.Proofs.Ytlpidjenifbjeaa.Fl

theorem tmod_nat (a b : Nat) : Int.tmod (a : Int) (b : Int) = ((a % b : Nat) : Int) := rfl

/-- tmod by a positive number, as omega reads it. -/
theorem tmod_cases (a : Int) (b : Nat) : (0 ≤ a ∧ Int.tmod a b = a % (b : Int)) ∨ (a < 0 ∧ Int.tmod a b = -((-a) % (b : Int))) := by
  rcases Int.lt_or_le a 0 with h | h
  · right
    refine ⟨h, ?_⟩
    have : a = -(-a) := by omega
    conv => lhs; rw [this, Int.neg_tmod]
    rw [Int.tmod_eq_emod_of_nonneg (by omega)]
  · left
    exact ⟨h, Int.tmod_eq_emod_of_nonneg h⟩

theorem quarters (k : Int) : Int.tmod (wrap64 (Int.tmod k 4 + 4)) 4 = k % 4 := by
  have h := tmod_cases k 4
  simp only [show ((4 : Nat) : Int) = 4 from rfl] at h
  have hw : wrap64 (Int.tmod k 4 + 4) = Int.tmod k 4 + 4 := wrap_eq (by omega)
  rw [hw]
  have h2 := tmod_cases (Int.tmod k 4 + 4) 4
  simp only [show ((4 : Nat) : Int) = 4 from rfl] at h2
  omega

/-- A place turned by so many quarters. -/
def rot : Nat → Int → Int → Int × Int
  | 0, x, y => (x, y)
  | n + 1, x, y => rot n (-y) x

theorem turn_l0 (d : Nat) : ∀ (k : Nat) (a b : Nat) (x y i n : Int), FI a x → FI b y → 0 ≤ i → n ≤ 3 → n - i = d → d < k →
    plane_Turn.l0 k (a, b) n i = some (over (rot d x y).1 (rot d x y).2) := by
  induction d with
  | zero =>
    intro k a b x y i n ha hb hi hn hd hk
    obtain ⟨k, rfl⟩ : ∃ m, k = m + 1 := ⟨k - 1, by omega⟩
    simp only [plane_Turn.l0]
    rw [if_neg (by omega), place_eq ha hb]
    rfl
  | succ d ih =>
    intro k a b x y i n ha hb hi hn hd hk
    obtain ⟨k, rfl⟩ : ∃ m, k = m + 1 := ⟨k - 1, by omega⟩
    simp only [plane_Turn.l0]
    rw [if_pos (by omega), wrap_eq (by omega)]
    exact ih k _ _ (-y) x (i + 1) n (neg_of hb) ha (by omega) hn (by omega) (by omega)

/-- A place turned, whole numbers alone. -/
def turnP (x y k : Int) : Int × Int × Int := if okB x y then ((rot (k % 4).toNat x y).1, (rot (k % 4).toNat x y).2, 0) else (0, 0, 1)

theorem okB_rot (n : Nat) : ∀ x y, okB (rot n x y).1 (rot n x y).2 = okB x y := by
  induction n with
  | zero => intro x y; rfl
  | succ n ih =>
    intro x y
    show okB (rot n (-y) x).1 (rot n (-y) x).2 = _
    rw [ih, Bool.eq_iff_iff, okB_iff, okB_iff]; omega

theorem turn_eq (x y k : Int) (r : Nat) (hr : 4 ≤ r) : plane_Turn.f r x y k = some (turnP x y k) := by
  unfold plane_Turn.f turnP
  simp only [check_eq, Option.bind_some]
  cases h : okB x y
  · simp
  · have h' := h
    rw [okB_iff] at h
    simp only [plane_of.f, Option.bind_some, if_true, quarters]
    have hk : 0 ≤ k % 4 ∧ k % 4 < 4 := by omega
    rw [turn_l0 (k % 4).toNat r _ _ x y 0 (k % 4) (fi x (by omega)) (fi y (by omega)) (by omega) (by omega) (by omega) (by omega)]
    unfold over
    rw [okB_rot, h']; simp

end Go.Proofs.Ytlpidjenifbjeaa.Pl
