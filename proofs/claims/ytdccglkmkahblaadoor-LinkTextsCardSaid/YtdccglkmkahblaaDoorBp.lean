/- Base 32 in plain numbers: the number that k bits make, and the letters. -/
import Derived.Laws.Bits64b
import Derived.RowKit
import Derived.Lib.UnsafeStr
namespace Go.Proofs.YtdccglkmkahblaaDoor.Bp

/-- The bit of a place, the highest of each byte first; behind the end 0. -/
def bitN (s : List UInt8) (p : Nat) : Nat := match s[p / 8]? with | some c => c.toNat / 2 ^ (7 - p % 8) % 2 | none => 0
/-- The number that k bits from p make. -/
def bv (s : List UInt8) (p : Nat) : Nat → Nat
  | 0 => 0
  | k + 1 => 2 * bv s p k + bitN s (p + k)
def lets : List UInt8 := [97, 98, 99, 100, 101, 102, 103, 104, 105, 106, 107, 108, 109, 110, 111, 112, 113, 114, 115, 116, 117, 118, 119, 120, 121, 122, 50, 51, 52, 53, 54, 55]
def letB (k : Nat) : UInt8 := lets.getD k 0
/-- The first c letters. -/
def encN (s : List UInt8) (c : Nat) : List UInt8 := (List.range c).map fun j => letB (bv s (5 * j) 5)
def b32 (s : ByteArray) : ByteArray := ⟨(encN s.data.toList ((8 * s.size + 4) / 5)).toArray⟩

theorem bitN_lt (s : List UInt8) (p : Nat) : bitN s p < 2 := by
  unfold bitN; split <;> omega
theorem bv_lt (s : List UInt8) (p k : Nat) : bv s p k < 2 ^ k := by
  induction k with
  | zero => simp [bv]
  | succ k ih => have := bitN_lt s (p + k); rw [bv, Nat.pow_succ]; omega
theorem bv_add (s : List UInt8) (p a b : Nat) : bv s p (a + b) = bv s p a * 2 ^ b + bv s (p + a) b := by
  induction b with
  | zero => simp [bv]
  | succ b ih => rw [← Nat.add_assoc, bv, ih, bv, Nat.pow_succ, Nat.add_assoc p a b]; generalize 2 ^ b = z; generalize bitN s (p + (a + b)) = y; grind
theorem bv_end (s : List UInt8) (p k : Nat) (h : 8 * s.length ≤ p) : bv s p k = 0 := by
  induction k with
  | zero => rfl
  | succ k ih =>
    rw [bv, ih]
    have : s[(p + k) / 8]? = none := List.getElem?_eq_none (by omega)
    simp [bitN, this]
theorem bv_byte (s : List UInt8) (i : Nat) (c : UInt8) (h : s[i]? = some c) : bv s (8 * i) 8 = c.toNat := by
  have hb : ∀ j, j < 8 → bitN s (8 * i + j) = c.toNat / 2 ^ (7 - j) % 2 := fun j hj => by
    have e1 : (8 * i + j) / 8 = i := by omega
    have e2 : (8 * i + j) % 8 = j := by omega
    rw [bitN, e1, h, e2]
  have hc : c.toNat < 256 := c.toNat_lt
  simp only [bv]
  rw [hb 0 (by omega), hb 1 (by omega), hb 2 (by omega), hb 3 (by omega), hb 4 (by omega), hb 5 (by omega), hb 6 (by omega), hb 7 (by omega)]
  simp only [Nat.reducePow, Nat.reduceSub]
  omega

theorem emit_div (s : List UInt8) (p h : Nat) (h5 : 5 ≤ h) : bv s p h / 2 ^ (h - 5) = bv s p 5 := by
  have e : bv s p h = bv s p 5 * 2 ^ (h - 5) + bv s (p + 5) (h - 5) := by
    rw [← bv_add]; congr 1; omega
  have := bv_lt s (p + 5) (h - 5)
  rw [e, Nat.add_comm, Nat.add_mul_div_right _ _ (Nat.two_pow_pos _), Nat.div_eq_of_lt this, Nat.zero_add]
theorem emit_mod (s : List UInt8) (p h : Nat) (h5 : 5 ≤ h) : bv s p h % 2 ^ (h - 5) = bv s (p + 5) (h - 5) := by
  have e : bv s p h = bv s p 5 * 2 ^ (h - 5) + bv s (p + 5) (h - 5) := by
    rw [← bv_add]; congr 1; omega
  rw [e, Nat.mul_add_mod_self_right, Nat.mod_eq_of_lt (bv_lt s (p + 5) (h - 5))]
theorem byte_in (s : List UInt8) (p h i : Nat) (c : UInt8) (hp : p + h = 8 * i) (hc : s[i]? = some c) : bv s p h * 256 + c.toNat = bv s p (h + 8) := by
  rw [bv_add, hp, bv_byte s i c hc]
theorem last_pad (s : List UInt8) (p h : Nat) (h5 : h ≤ 5) (he : 8 * s.length ≤ p + h) : bv s p h * 2 ^ (5 - h) = bv s p 5 := by
  have e : bv s p 5 = bv s p (h + (5 - h)) := by congr 1; omega
  rw [e, bv_add, bv_end s (p + h) (5 - h) he, Nat.add_zero]
theorem encN_succ (s : List UInt8) (c : Nat) : encN s (c + 1) = encN s c ++ [letB (bv s (5 * c) 5)] := by
  unfold encN; rw [List.range_succ, List.map_append]; rfl
theorem encN_length (s : List UInt8) (c : Nat) : (encN s c).length = c := by simp [encN]

theorem and64 (a b : Nat) (ha : a < 9223372036854775808) (hb : b < 9223372036854775808) : bits .and .i64 (a : Int) (b : Int) = ((a &&& b : Nat) : Int) := by
  have hx : a &&& b < 2 ^ 63 := Nat.and_lt_two_pow _ (by omega)
  have h1 : (BitVec.ofInt 64 (a : Int)).toNat = a := by
    rw [BitVec.ofInt_natCast, BitVec.toNat_ofNat]; exact Nat.mod_eq_of_lt (by omega)
  have h2 : (BitVec.ofInt 64 (b : Int)).toNat = b := by
    rw [BitVec.ofInt_natCast, BitVec.toNat_ofNat]; exact Nat.mod_eq_of_lt (by omega)
  show IntKind.i64.wrap ((BitVec.ofInt 64 (a : Int) &&& BitVec.ofInt 64 (b : Int)).toNat : Int) = _
  rw [BitVec.toNat_and, h1, h2, IntKind.wrap_i64]
  omega
theorem or64 (a b : Nat) (ha : a < 9223372036854775808) (hb : b < 9223372036854775808) : bits .or .i64 (a : Int) (b : Int) = ((a ||| b : Nat) : Int) := by
  have hx : a ||| b < 2 ^ 63 := Nat.or_lt_two_pow (by omega) (by omega)
  have h1 : (BitVec.ofInt 64 (a : Int)).toNat = a := by
    rw [BitVec.ofInt_natCast, BitVec.toNat_ofNat]; exact Nat.mod_eq_of_lt (by omega)
  have h2 : (BitVec.ofInt 64 (b : Int)).toNat = b := by
    rw [BitVec.ofInt_natCast, BitVec.toNat_ofNat]; exact Nat.mod_eq_of_lt (by omega)
  show IntKind.i64.wrap ((BitVec.ofInt 64 (a : Int) ||| BitVec.ofInt 64 (b : Int)).toNat : Int) = _
  rw [BitVec.toNat_or, h1, h2, IntKind.wrap_i64]
  omega
theorem and31 (x : Nat) (hx : x < 32) : bits .and .i64 (x : Int) 31 = (x : Int) := by
  have h := and64 x 31 (by omega) (by omega)
  rw [show ((31 : Nat) : Int) = 31 from rfl] at h
  rw [h, show (31 : Nat) = 2 ^ 5 - 1 from rfl, Nat.and_two_pow_sub_one_eq_mod, Nat.mod_eq_of_lt hx]
theorem andm (x k : Nat) (hx : x < 9223372036854775808) (hk : k ≤ 60) : bits .and .i64 (x : Int) ((2 ^ k - 1 : Nat) : Int) = ((x % 2 ^ k : Nat) : Int) := by
  have : 2 ^ k ≤ 2 ^ 60 := Nat.pow_le_pow_right (by omega) hk
  rw [and64 x (2 ^ k - 1) hx (by omega), Nat.and_two_pow_sub_one_eq_mod]
theorem or8 (x c k : Nat) (hc : c < 2 ^ k) (hk : k ≤ 20) (hx : x < 2 ^ 40) : bits .or .i64 ((x * 2 ^ k : Nat) : Int) (c : Int) = ((x * 2 ^ k + c : Nat) : Int) := by
  have h1 : 2 ^ k ≤ 2 ^ 20 := Nat.pow_le_pow_right (by omega) hk
  have h2 : x * 2 ^ k < 2 ^ 40 * 2 ^ 20 := Nat.lt_of_lt_of_le (Nat.mul_lt_mul_of_pos_right hx (Nat.two_pow_pos k)) (Nat.mul_le_mul_left _ h1)
  rw [or64 _ _ (by omega) (by omega), Nat.mul_comm x, Nat.two_pow_add_eq_or_of_lt hc]

end Go.Proofs.YtdccglkmkahblaaDoor.Bp
