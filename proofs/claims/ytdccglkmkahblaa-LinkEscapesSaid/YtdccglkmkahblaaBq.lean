/- Base 32 as the reference tells it: bit by bit, letter by letter: the same letters. -/
import Derived.Test.YtdccglkmkahblaaPx1
import Derived.Test.YtdccglkmkahblaaHd
namespace Go.Proofs.Ytdccglkmkahblaa.Bq
open Go.RowKit Go.Proofs.Ytdccglkmkahblaa.P Go.Proofs.Ytdccglkmkahblaa.Bp Go.Proofs.Ytdccglkmkahblaa.Hand Go.Proofs.YtdccglkmkahblaaW.PrintWords Go.Proofs.YtdccglkmkahblaaW.PrintLast Go.Proofs.YtdccglkmkahblaaW.PrintMore

theorem w64 {n : Int} (h : -9223372036854775808 ≤ n ∧ n ≤ 9223372036854775807) : wrap64 n = n := by
  unfold wrap64; omega
theorem succ_of {k m : Nat} (h : m + 1 ≤ k) : ∃ k', k = k' + 1 ∧ m ≤ k' := ⟨k - 1, by omega, by omega⟩

theorem bt_nat (s : ByteArray) (i : Nat) (h : i < s.size) : bt s (i : Int) = ((s[i]).toNat : Int) := by
  unfold bt; simp [h]
theorem get_nat (s : ByteArray) (i : Nat) (h : i < s.size) : s.data.toList[i]? = some s[i] := by
  rw [List.getElem?_eq_getElem (by simpa using h)]; rfl
theorem get_end (s : ByteArray) (i : Nat) (h : s.size ≤ i) : s.data.toList[i]? = none := List.getElem?_eq_none (by simpa using h)

/-- The reference's bit: halved till it stands last. -/
theorem bit_l0 (j : Nat) : ∀ (k x : Nat), j ≤ 7 → 8 - j ≤ k → x < 256 → mosaicref29_bit.l0 k (x : Int) (j : Int) = some ((x / 2 ^ (7 - j) % 2 : Nat) : Int) := by
  induction hj : 7 - j generalizing j with
  | zero =>
    intro k x h1 h2 h3
    obtain ⟨k, rfl, _⟩ := succ_of (m := 0) (by omega : 0 + 1 ≤ k)
    have : j = 7 := by omega
    subst this
    simp only [mosaicref29_bit.l0]
    rw [if_neg (by omega)]
    congr 1
    rw [Int.tmod_eq_emod_of_nonneg (by omega)]; simp
  | succ m ih =>
    intro k x h1 h2 h3
    obtain ⟨k, rfl, _⟩ := succ_of (m := 0) (by omega : 0 + 1 ≤ k)
    simp only [mosaicref29_bit.l0]
    rw [if_pos (by omega), w64 (n := (j : Int) + 1) (by omega)]
    have e : wrap64 (Int.tdiv (x : Int) 2) = ((x / 2 : Nat) : Int) := by
      rw [Int.tdiv_eq_ediv_of_nonneg (by omega), w64 (by omega)]; simp
    rw [e, show ((j : Int) + 1) = ((j + 1 : Nat) : Int) by omega, ih (j + 1) (by omega) k (x / 2) (by omega) (by omega) (by omega)]
    congr 2
    rw [Nat.div_div_eq_div_mul, Nat.pow_succ, Nat.mul_comm 2]

theorem bit_eq (s : ByteArray) (p k : Nat) (hk : 8 ≤ k) (hp : p ≤ 10000000) : mosaicref29_bit.f k s (p : Int) = some ((bitN s.data.toList p : Nat) : Int) := by
  have e1 : wrap64 (Int.tdiv (p : Int) 8) = ((p / 8 : Nat) : Int) := by
    rw [Int.tdiv_eq_ediv_of_nonneg (by omega), w64 (by omega)]; simp
  unfold mosaicref29_bit.f
  rw [e1]
  by_cases h : p / 8 < s.size
  · have e2 : Int.tmod (p : Int) 8 = ((p % 8 : Nat) : Int) := by rw [Int.tmod_eq_emod_of_nonneg (by omega)]; simp
    have hb := (s[p / 8]).toNat_lt
    rw [if_neg (by omega), if_pos (by omega), if_pos (by omega), e2, bt_nat s _ h, w64 (by omega), bit_l0 (p % 8) k _ (by omega) (by omega) hb]
    unfold bitN
    rw [get_nat s _ h]
  · rw [if_pos (by omega)]
    unfold bitN
    rw [get_end s _ (by omega)]
    rfl

theorem letter_eq (v : Nat) (h : v < 32) : mosaicref29_letter.f (v : Int) = some ⟨#[letB v]⟩ := by
  unfold mosaicref29_letter.f
  rw [w64 (by omega), if_pos (by omega), if_pos (by omega), if_pos (by omega)]
  have : ∀ m : Fin 32, (⟨#[97, 98, 99, 100, 101, 102, 103, 104, 105, 106, 107, 108, 109, 110, 111, 112, 113, 114, 115, 116, 117, 118, 119, 120, 121, 122, 50, 51, 52, 53, 54, 55]⟩ : ByteArray).extract ((m.1 : Int)).toNat ((m.1 : Int) + 1).toNat = ⟨#[letB m.1]⟩ := by decide
  exact congrArg some (this ⟨v, h⟩)

theorem l1_eq (s t : ByteArray) (i : Nat) (hi : i ≤ 9000000) (ht : t.size ≤ 9000000) (j : Nat) (hj : j ≤ 5) :
    ∀ k, 20 - j ≤ k → ∃ k', k = k' + (6 - j) ∧ mosaicref29_Base32.l1 k s t (i : Int) ((bv s.data.toList i j : Nat) : Int) (j : Int) = mosaicref29_Base32.l0 k' s (t ++ ⟨#[letB (bv s.data.toList i 5)]⟩) ((i + 5 : Nat) : Int) := by
  induction hm : 5 - j generalizing j with
  | zero =>
    intro k hk
    have : j = 5 := by omega
    subst this
    obtain ⟨k, rfl, _⟩ := succ_of (m := 0) (by omega : 0 + 1 ≤ k)
    refine ⟨k, by omega, ?_⟩
    have h5 := bv_lt s.data.toList i 5
    simp only [mosaicref29_Base32.l1]
    rw [if_neg (by omega), letter_eq _ h5, Option.bind_some, if_pos (by have e1 : (⟨#[letB (bv s.data.toList i 5)]⟩ : ByteArray).size = 1 := rfl; rw [e1]; omega), w64 (by omega)]
    rfl
  | succ m ih =>
    intro k hk
    obtain ⟨k, rfl, _⟩ := succ_of (m := 0) (by omega : 0 + 1 ≤ k)
    obtain ⟨k', h1, h2⟩ := ih (j + 1) (by omega) (by omega) k (by omega)
    refine ⟨k', by omega, ?_⟩
    have hb := bitN_lt s.data.toList (i + j)
    have hl := bv_lt s.data.toList i j
    have hp : 2 ^ j ≤ 2 ^ 5 := Nat.pow_le_pow_right (by omega) hj
    simp only [mosaicref29_Base32.l1]
    rw [if_pos (by omega), w64 (n := (i : Int) + j) (by omega), show ((i : Int) + j) = ((i + j : Nat) : Int) by omega, bit_eq s (i + j) k (by omega) (by omega), Option.bind_some]
    rw [w64 (n := 2 * ((bv s.data.toList i j : Nat) : Int)) (by omega), w64 (n := (j : Int) + 1) (by omega), w64 (by omega)]
    rw [← h2, bv]
    congr 1

theorem append_one (l : List UInt8) (b : UInt8) : (⟨l.toArray⟩ : ByteArray) ++ ⟨#[b]⟩ = ⟨(l ++ [b]).toArray⟩ := by
  apply ByteArray.ext
  simp [ByteArray.data_append]

theorem l0_eq (s : ByteArray) (hs : s.size ≤ 1000000) (m : Nat) : ∀ (c k : Nat), (8 * s.size + 4) / 5 = c + m → 7 * m + 21 ≤ k →
    mosaicref29_Base32.l0 k s ⟨(encN s.data.toList c).toArray⟩ ((5 * c : Nat) : Int) = some (b32 s) := by
  induction m with
  | zero =>
    intro c k hc hk
    obtain ⟨k, rfl, _⟩ := succ_of (m := 0) (by omega : 0 + 1 ≤ k)
    simp only [mosaicref29_Base32.l0]
    rw [w64 (by omega), if_neg (by omega), b32, hc]
    rfl
  | succ m ih =>
    intro c k hc hk
    obtain ⟨k, rfl, _⟩ := succ_of (m := 0) (by omega : 0 + 1 ≤ k)
    simp only [mosaicref29_Base32.l0]
    rw [w64 (by omega), if_pos (by omega)]
    obtain ⟨k', h1, h2⟩ := l1_eq s ⟨(encN s.data.toList c).toArray⟩ (5 * c) (by omega) (by show (encN s.data.toList c).toArray.size ≤ _; simp [encN_length]; omega) 0 (by omega) k (by omega)
    have e0 : ((bv s.data.toList (5 * c) 0 : Nat) : Int) = 0 := rfl
    rw [e0, show (((0 : Nat) : Int)) = 0 from rfl] at h2
    rw [h2, append_one, ← encN_succ]
    exact ih (c + 1) k' (by omega) (by omega)

theorem refBase32_eq (s : ByteArray) (k : Nat) (hs : s.size ≤ 1000000) (hk : 14 * s.size + 28 ≤ k) : mosaicref29_Base32.f k s = some (b32 s) := by
  unfold mosaicref29_Base32.f
  exact l0_eq s hs ((8 * s.size + 4) / 5) 0 k (by omega) (by omega)

end Go.Proofs.Ytdccglkmkahblaa.Bq
