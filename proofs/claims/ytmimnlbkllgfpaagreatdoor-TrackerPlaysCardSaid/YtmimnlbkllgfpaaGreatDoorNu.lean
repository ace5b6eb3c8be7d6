/- Base 32 as the reference tells it: bit by bit, letter by letter: the same letters. -/
import Derived.Test.YtmimnlbkllgfpaaGreatDoorAx12
import Derived.Test.YtmimnlbkllgfpaaGreatDoorAx13
import Derived.Test.YtmimnlbkllgfpaaGreatDoorHd
import Derived.Test.YtmimnlbkllgfpaaGreatDoorCu
import Derived.Lib.ItoaNum
namespace Go.Proofs.YtmimnlbkllgfpaaGreatDoor.Bq
open Go.RowKit Go.Proofs.YtmimnlbkllgfpaaGreatDoor.A Go.Proofs.YtmimnlbkllgfpaaGreatDoor.Bp Go.Proofs.YtmimnlbkllgfpaaGreatDoor.Hand Go.Proofs.YtmimnlbkllgfpaaGreatDoorW.PrintWords Go.Proofs.YtmimnlbkllgfpaaGreatDoorW.PrintLast Go.Proofs.YtmimnlbkllgfpaaGreatDoorW.PrintMore

theorem w64 {n : Int} (h : -9223372036854775808 ≤ n ∧ n ≤ 9223372036854775807) : wrap64 n = n := by
  unfold wrap64; omega
theorem succ_of {k m : Nat} (h : m + 1 ≤ k) : ∃ k', k = k' + 1 ∧ m ≤ k' := ⟨k - 1, by omega, by omega⟩

theorem bt_nat (s : ByteArray) (i : Nat) (h : i < s.size) : bt s (i : Int) = ((s[i]).toNat : Int) := by
  unfold bt; simp [h]
theorem get_nat (s : ByteArray) (i : Nat) (h : i < s.size) : s.data.toList[i]? = some s[i] := by
  rw [List.getElem?_eq_getElem (by simpa using h)]; rfl
theorem get_end (s : ByteArray) (i : Nat) (h : s.size ≤ i) : s.data.toList[i]? = none := List.getElem?_eq_none (by simpa using h)

/-- The reference's bit: halved till it stands last. -/
theorem bit_l0 (j : Nat) : ∀ (k x : Nat), j ≤ 7 → 8 - j ≤ k → x < 256 → mosaicref29_bit.l0 k (x : Int) (j : Int) = some ((x / 2 ^ (7 - j) % 2 : Nat) : Int) := by
  induction hj : 7 - j generalizing j with
  | zero =>
    intro k x h1 h2 h3
    obtain ⟨k, rfl, _⟩ := succ_of (m := 0) (by omega : 0 + 1 ≤ k)
    have : j = 7 := by omega
    subst this
    simp only [mosaicref29_bit.l0]
    rw [if_neg (by omega)]
    congr 1
    rw [Int.tmod_eq_emod_of_nonneg (by omega)]; simp
  | succ m ih =>
    intro k x h1 h2 h3
    obtain ⟨k, rfl, _⟩ := succ_of (m := 0) (by omega : 0 + 1 ≤ k)
    simp only [mosaicref29_bit.l0]
    rw [if_pos (by omega), w64 (n := (j : Int) + 1) (by omega)]
    have e : wrap64 (Int.tdiv (x : Int) 2) = ((x / 2 : Nat) : Int) := by
      rw [Int.tdiv_eq_ediv_of_nonneg (by omega), w64 (by omega)]; simp
    rw [e, show ((j : Int) + 1) = ((j + 1 : Nat) : Int) by omega, ih (j + 1) (by omega) k (x / 2) (by omega) (by omega) (by omega)]
    congr 2
    rw [Nat.div_div_eq_div_mul, Nat.pow_succ, Nat.mul_comm 2]

theorem bit_eq (s : ByteArray) (p k : Nat) (hk : 8 ≤ k) (hp : p ≤ 10000000) : mosaicref29_bit.f k s (p : Int) = some ((bitN s.data.toList p : Nat) : Int) := by
  have e1 : wrap64 (Int.tdiv (p : Int) 8) = ((p / 8 : Nat) : Int) := by
    rw [Int.tdiv_eq_ediv_of_nonneg (by omega), w64 (by omega)]; simp
  unfold mosaicref29_bit.f
  rw [e1]
  by_cases h : p / 8 < s.size
  · have e2 : Int.tmod (p : Int) 8 = ((p % 8 : Nat) : Int) := by rw [Int.tmod_eq_emod_of_nonneg (by omega)]; simp
    have hb := (s[p / 8]).toNat_lt
    rw [if_neg (by omega), if_pos (by omega), if_pos (by omega), e2, bt_nat s _ h, w64 (by omega), bit_l0 (p % 8) k _ (by omega) (by omega) hb]
    unfold bitN
    rw [get_nat s _ h]
  · rw [if_pos (by omega)]
    unfold bitN
    rw [get_end s _ (by omega)]
    rfl

theorem letter_eq (v : Nat) (h : v < 32) : mosaicref29_letter.f (v : Int) = some ⟨#[letB v]⟩ := by
  unfold mosaicref29_letter.f
  rw [w64 (by omega), if_pos (by omega), if_pos (by omega), if_pos (by omega)]
  have : ∀ m : Fin 32, (⟨#[97, 98, 99, 100, 101, 102, 103, 104, 105, 106, 107, 108, 109, 110, 111, 112, 113, 114, 115, 116, 117, 118, 119, 120, 121, 122, 50, 51, 52, 53, 54, 55]⟩ : ByteArray).extract ((m.1 : Int)).toNat ((m.1 : Int) + 1).toNat = ⟨#[letB m.1]⟩ := by decide
  exact congrArg some (this ⟨v, h⟩)

theorem l1_eq (s t : ByteArray) (i : Nat) (hi : i ≤ 9000000) (ht : t.size ≤ 9000000) (j : Nat) (hj : j ≤ 5) :
    ∀ k, 20 - j ≤ k → ∃ k', k = k' + (6 - j) ∧ mosaicref29_Base32.l1 k s t (i : Int) ((bv s.data.toList i j : Nat) : Int) (j : Int) = mosaicref29_Base32.l0 k' s (t ++ ⟨#[letB (bv s.data.toList i 5)]⟩) ((i + 5 : Nat) : Int) := by
  induction hm : 5 - j generalizing j with
  | zero =>
    intro k hk
    have : j = 5 := by omega
    subst this
    obtain ⟨k, rfl, _⟩ := succ_of (m := 0) (by omega : 0 + 1 ≤ k)
    refine ⟨k, by omega, ?_⟩
    have h5 := bv_lt s.data.toList i 5
    simp only [mosaicref29_Base32.l1]
    rw [if_neg (by omega), letter_eq _ h5, Option.bind_some, if_pos (by have e1 : (⟨#[letB (bv s.data.toList i 5)]⟩ : ByteArray).size = 1 := rfl; rw [e1]; omega), w64 (by omega)]
    rfl
  | succ m ih =>
    intro k hk
    obtain ⟨k, rfl, _⟩ := succ_of (m := 0) (by omega : 0 + 1 ≤ k)
    obtain ⟨k', h1, h2⟩ := ih (j + 1) (by omega) (by omega) k (by omega)
    refine ⟨k', by omega, ?_⟩
    have hb := bitN_lt s.data.toList (i + j)
    have hl := bv_lt s.data.toList i j
    have hp : 2 ^ j ≤ 2 ^ 5 := Nat.pow_le_pow_right (by omega) hj
    simp only [mosaicref29_Base32.l1]
    rw [if_pos (by omega), w64 (n := (i : Int) + j) (by omega), show ((i : Int) + j) = ((i + j : Nat) : Int) by omega, bit_eq s (i + j) k (by omega) (by omega), Option.bind_some]
    rw [w64 (n := 2 * ((bv s.data.toList i j : Nat) : Int)) (by omega), w64 (n := (j : Int) + 1) (by omega), w64 (by omega)]
    rw [← h2, bv]
    congr 1

theorem append_one (l : List UInt8) (b : UInt8) : (⟨l.toArray⟩ : ByteArray) ++ ⟨#[b]⟩ = ⟨(l ++ [b]).toArray⟩ := by
  apply ByteArray.ext
  simp [ByteArray.data_append]

theorem l0_eq (s : ByteArray) (hs : s.size ≤ 1000000) (m : Nat) : ∀ (c k : Nat), (8 * s.size + 4) / 5 = c + m → 7 * m + 21 ≤ k →
    mosaicref29_Base32.l0 k s ⟨(encN s.data.toList c).toArray⟩ ((5 * c : Nat) : Int) = some (b32 s) := by
  induction m with
  | zero =>
    intro c k hc hk
    obtain ⟨k, rfl, _⟩ := succ_of (m := 0) (by omega : 0 + 1 ≤ k)
    simp only [mosaicref29_Base32.l0]
    rw [w64 (by omega), if_neg (by omega), b32, hc]
    rfl
  | succ m ih =>
    intro c k hc hk
    obtain ⟨k, rfl, _⟩ := succ_of (m := 0) (by omega : 0 + 1 ≤ k)
    simp only [mosaicref29_Base32.l0]
    rw [w64 (by omega), if_pos (by omega)]
    obtain ⟨k', h1, h2⟩ := l1_eq s ⟨(encN s.data.toList c).toArray⟩ (5 * c) (by omega) (by show (encN s.data.toList c).toArray.size ≤ _; simp [encN_length]; omega) 0 (by omega) k (by omega)
    have e0 : ((bv s.data.toList (5 * c) 0 : Nat) : Int) = 0 := rfl
    rw [e0, show (((0 : Nat) : Int)) = 0 from rfl] at h2
    rw [h2, append_one, ← encN_succ]
    exact ih (c + 1) k' (by omega) (by omega)

theorem refBase32_eq (s : ByteArray) (k : Nat) (hs : s.size ≤ 1000000) (hk : 14 * s.size + 28 ≤ k) : mosaicref29_Base32.f k s = some (b32 s) := by
  unfold mosaicref29_Base32.f
  exact l0_eq s hs ((8 * s.size + 4) / 5) 0 k (by omega) (by omega)

end Go.Proofs.YtmimnlbkllgfpaaGreatDoor.Bq
/- Escaping, and what is escaped read: the program's loops and the reference's come to the same. -/
namespace Go.Proofs.YtmimnlbkllgfpaaGreatDoor.Bq
open Go.RowKit Go.Proofs.YtmimnlbkllgfpaaGreatDoor.A Go.Proofs.YtmimnlbkllgfpaaGreatDoor.Bp Go.Proofs.YtmimnlbkllgfpaaGreatDoor.Ex Go.Proofs.YtmimnlbkllgfpaaGreatDoor.Hand Go.Proofs.YtmimnlbkllgfpaaGreatDoorW.PrintWords Go.Proofs.YtmimnlbkllgfpaaGreatDoorW.PrintLast Go.Proofs.YtmimnlbkllgfpaaGreatDoorW.PrintMore

theorem refPlain_eq (c : Nat) (hc : c < 256) : mosaicref29_plain.f (c : Int) = some (plainB c) := by
  have : ∀ m : Fin 256, mosaicref29_plain.f (m.1 : Int) = some (plainB m.1) := by decide +kernel
  exact this ⟨c, hc⟩

def numL (l : List UInt8) : List Int := l.map fun b => (b.toNat : Int)
theorem numL_length (l : List UInt8) : (numL l).length = l.length := by simp [numL]
theorem strOf_numL (l : List UInt8) : strOfNums (numL l) = ⟨l.toArray⟩ := by
  unfold strOfNums numL
  rw [List.map_map]
  have : ((fun n : Int => UInt8.ofNat n.toNat) ∘ fun b : UInt8 => (b.toNat : Int)) = id := by funext b; simp
  rw [this, List.map_id]
theorem dig_bt (n : Nat) (h : n < 16) : bt (⟨#[48, 49, 50, 51, 52, 53, 54, 55, 56, 57, 65, 66, 67, 68, 69, 70]⟩ : ByteArray) (n : Int) = ((hexB n).toNat : Int) := by
  have : ∀ m : Fin 16, bt (⟨#[48, 49, 50, 51, 52, 53, 54, 55, 56, 57, 65, 66, 67, 68, 69, 70]⟩ : ByteArray) (m.1 : Int) = ((hexB m.1).toNat : Int) := by decide +kernel
  exact this ⟨n, h⟩

theorem esc_l0 (s : ByteArray) (hs : s.size ≤ 100000) (m : Nat) : ∀ (i k : Nat), s.size = i + m → m + 1 ≤ k →
    mosaicref29_Escape.l0 k s (numL (escL (s.data.toList.take i))) (i : Int) = some (escB s) := by
  induction m with
  | zero =>
    intro i k hi hk
    obtain ⟨k, rfl, _⟩ := succ_of (m := 0) (by omega : 0 + 1 ≤ k)
    simp only [mosaicref29_Escape.l0]
    rw [if_neg (by omega), strOf_numL, escB, List.take_of_length_le (by simp only [Array.length_toList]; show s.size ≤ i; omega)]
  | succ m ih =>
    intro i k hi hk
    obtain ⟨k, rfl, hk1⟩ := succ_of (m := m + 1) (by omega : m + 1 + 1 ≤ k)
    have hlt : i < s.size := by omega
    have hc := (s[i]).toNat_lt
    have hT := escL_take _ i _ (get_nat s i hlt)
    have hlen : (numL (escL (s.data.toList.take i))).length ≤ 300000 := by
      rw [numL_length]
      have h1 := escL_length (s.data.toList.take i)
      have h2 : (s.data.toList.take i).length ≤ i := by rw [List.length_take]; exact Nat.min_le_left _ _
      omega
    have hi2 := ih (i + 1) k (by omega) (by omega)
    rw [hT] at hi2
    simp only [mosaicref29_Escape.l0]
    rw [if_pos (by omega), if_pos (by omega), bt_nat s i hlt, refPlain_eq _ hc, Option.bind_some]
    by_cases hp : plainB s[i].toNat = true
    · have hE : esc1 s[i] = [s[i]] := by unfold esc1; rw [if_pos hp]
      rw [hE] at hi2
      rw [if_pos hp, if_pos (by omega), w64 (by omega), ← hi2]
      simp [numL]
    · have hE : esc1 s[i] = [37, hexB (s[i].toNat / 16), hexB (s[i].toNat % 16)] := by unfold esc1; rw [if_neg hp]
      rw [hE] at hi2
      have e1 : Int.tdiv (s[i].toNat : Int) 16 % 256 = ((s[i].toNat / 16 : Nat) : Int) := by rw [Int.tdiv_eq_ediv_of_nonneg (by omega)]; omega
      have e2 : Int.tmod (s[i].toNat : Int) 16 = ((s[i].toNat % 16 : Nat) : Int) := by rw [Int.tmod_eq_emod_of_nonneg (by omega)]; omega
      rw [if_neg hp, e1, e2, if_pos (by omega), if_pos (by omega), if_pos (by omega), if_pos (by omega), Option.bind_some, dig_bt _ (by omega), dig_bt _ (by omega), if_pos (by simp only [List.length_cons, List.length_nil]; omega), w64 (by omega), ← hi2]
      simp [numL]

theorem refEscape_eq (s : ByteArray) (k : Nat) (hs : s.size ≤ 100000) (hk : s.size + 1 ≤ k) : mosaicref29_Escape.f k s = some (escB s) := by
  unfold mosaicref29_Escape.f
  have := esc_l0 s hs s.size 0 k (by omega) hk
  simpa [escL, numL] using this
end Go.Proofs.YtmimnlbkllgfpaaGreatDoor.Bq
/- The document's numbers in decimal are strconv's. -/
namespace Go.Proofs.YtmimnlbkllgfpaaGreatDoor.Bq
open Go.RowKit Go.Proofs.YtmimnlbkllgfpaaGreatDoor.A Go.Proofs.YtmimnlbkllgfpaaGreatDoor.Hand Go.Proofs.YtmimnlbkllgfpaaGreatDoorW.PrintWords Go.Proofs.YtmimnlbkllgfpaaGreatDoorW.PrintLast Go.Proofs.YtmimnlbkllgfpaaGreatDoorW.PrintMore

theorem strOf1 (m : Nat) (h : m < 10) : strOfNums [(48 + (m : Int)) % 256] = ⟨#[UInt8.ofNat (48 + m)]⟩ := by
  have := strOf_numL [UInt8.ofNat (48 + m)]
  have e : numL [UInt8.ofNat (48 + m)] = [(48 + (m : Int)) % 256] := by
    unfold numL
    have : (UInt8.ofNat (48 + m)).toNat = 48 + m := by simp; omega
    simp only [List.map_cons, List.map_nil, this]
    congr 1
    omega
  rw [e] at this
  simpa using this
theorem cons_app (b : UInt8) (s : ByteArray) : (⟨#[b]⟩ : ByteArray) ++ s = ⟨(b :: s.data.toList).toArray⟩ := by
  apply ByteArray.ext
  rw [ByteArray.data_append]
  simp
theorem num_l0 (j : Nat) : ∀ (u k : Nat) (s : ByteArray), u < 10 ^ (j + 1) → j ≤ 15 → j + 1 ≤ k → s.size + j ≤ 1000 → u ≤ 1000000000 →
    mosaicref23_Num.l0 k (u : Int) s = some ⟨(Lib.decDigits u ++ s.data.toList).toArray⟩ := by
  induction j with
  | zero =>
    intro u k s hu _ hk hs hb
    obtain ⟨k, rfl⟩ : ∃ k', k = k' + 1 := ⟨k - 1, by omega⟩
    have hu : u < 10 := by simpa using hu
    have z : (strOfNums [(48 + (u : Int)) % 256]).size = 1 := by rw [strOf1 u hu]; rfl
    rw [mosaicref23_Num.l0, if_neg (by omega), Option.bind_some, w64 (n := 48 + (u : Int)) (by omega), if_pos (by rw [z]; omega), strOf1 u hu, cons_app, Lib.decDigits, dif_pos hu]
    rfl
  | succ j ih =>
    intro u k s hu hj hk hs hb
    obtain ⟨k, rfl⟩ : ∃ k', k = k' + 1 := ⟨k - 1, by omega⟩
    by_cases h : u < 10
    · have z : (strOfNums [(48 + (u : Int)) % 256]).size = 1 := by rw [strOf1 u h]; rfl
      rw [mosaicref23_Num.l0, if_neg (by omega), Option.bind_some, w64 (n := 48 + (u : Int)) (by omega), if_pos (by rw [z]; omega), strOf1 u h, cons_app, Lib.decDigits, dif_pos h]
      rfl
    · have e1 : Int.tmod (u : Int) 10 = ((u % 10 : Nat) : Int) := by rw [Int.tmod_eq_emod_of_nonneg (by omega)]; omega
      have e2 : Int.tdiv (u : Int) 10 = ((u / 10 : Nat) : Int) := by rw [Int.tdiv_eq_ediv_of_nonneg (by omega)]; omega
      have hm : u % 10 < 10 := by omega
      have z : (strOfNums [(48 + ((u % 10 : Nat) : Int)) % 256]).size = 1 := by rw [strOf1 _ hm]; rfl
      have hq : u / 10 < 10 ^ (j + 1) := by
        rw [Nat.div_lt_iff_lt_mul (by omega)]
        rw [Nat.pow_succ] at hu; exact hu
      rw [mosaicref23_Num.l0, if_pos (by omega), Option.bind_some, e1, e2, w64 (n := 48 + ((u % 10 : Nat) : Int)) (by omega), w64 (n := ((u / 10 : Nat) : Int)) (by omega), if_pos (by rw [z]; omega), strOf1 _ hm, cons_app]
      have hz : (⟨(UInt8.ofNat (48 + u % 10) :: s.data.toList).toArray⟩ : ByteArray).size = s.size + 1 := by
        show (UInt8.ofNat (48 + u % 10) :: s.data.toList).toArray.size = s.data.size + 1
        simp
      have hl : Lib.decDigits u = Lib.decDigits (u / 10) ++ [UInt8.ofNat (48 + u % 10)] := by rw [Lib.decDigits, dif_neg h]
      have := ih (u / 10) k ⟨(UInt8.ofNat (48 + u % 10) :: s.data.toList).toArray⟩ hq (by omega) (by omega) (by rw [hz]; omega) (by omega)
      rw [this, hl]
      simp
/-- One text. -/
theorem num_eq (v : Int) (k : Nat) (hv : -1000000000 ≤ v ∧ v ≤ 1000000000) (hk : 12 ≤ k) : mosaicref23_Num.f k v = some ⟨(Lib.itoa v).toArray⟩ := by
  obtain ⟨k, rfl⟩ : ∃ k', k = k' + 1 := ⟨k - 1, by omega⟩
  have pos : ∀ (u k : Nat), u ≤ 1000000000 → 10 ≤ k → mosaicref23_Num.l0 k (u : Int) ⟨#[]⟩ = some ⟨(Lib.decDigits u).toArray⟩ := by
    intro u k hu hk
    have := num_l0 9 u k ⟨#[]⟩ (by omega) (by omega) (by omega) (by simp [ByteArray.size]) hu
    simpa using this
  by_cases h : v < 0
  · obtain ⟨u, hu⟩ : ∃ u : Nat, -v = (u : Int) := ⟨v.natAbs, by omega⟩
    obtain ⟨k, rfl⟩ : ∃ k', k = k' + 1 := ⟨k - 1, by omega⟩
    have e : mosaicref23_Num.f (k + 1) (u : Int) = some ⟨(Lib.decDigits u).toArray⟩ := by
      rw [mosaicref23_Num.f, if_neg (show ¬ ((u : Int) < 0) by omega), pos u k (by omega) (by omega)]
    have hd := Tx.dec_len 9 u (by omega)
    have en : v.natAbs = u := by omega
    rw [mosaicref23_Num.f, if_pos h, w64 (n := -v) (by omega), hu, e, Option.bind_some, if_pos (by rw [Tx.szL]; omega), cons_app, Lib.itoa, if_pos h, en]
  · obtain ⟨u, rfl⟩ := Int.eq_ofNat_of_zero_le (show 0 ≤ v by omega)
    rw [mosaicref23_Num.f, if_neg h, pos u k (by omega) (by omega), Lib.itoa, if_neg h]
    rfl
end Go.Proofs.YtmimnlbkllgfpaaGreatDoor.Bq
