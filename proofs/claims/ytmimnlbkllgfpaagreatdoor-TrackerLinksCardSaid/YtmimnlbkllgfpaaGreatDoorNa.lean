/- What the document's functions are, in plain words (of their printed walks; the walks themselves are not wanted here). -/
import Derived.Test.YtmimnlbkllgfpaaGreatDoorAx5
import Derived.Test.YtmimnlbkllgfpaaGreatDoorAx0
import Derived.Test.YtmimnlbkllgfpaaGreatDoorAx1
import Derived.Test.YtmimnlbkllgfpaaGreatDoorAx2
import Derived.Test.YtmimnlbkllgfpaaGreatDoorAx3
import Derived.Test.YtmimnlbkllgfpaaGreatDoorAx4
import Derived.Test.YtmimnlbkllgfpaaGreatDoorHd
import Derived.Test.YtmimnlbkllgfpaaGreatDoorCu
import Derived.Lib.ItoaNum
import Derived.Lib.AtoiTie
namespace Go.Proofs.YtmimnlbkllgfpaaGreatDoor.A
set_option linter.unusedVariables false
open Go.RowKit Go.Proofs.YtmimnlbkllgfpaaGreatDoor.Sq Go.Proofs.YtmimnlbkllgfpaaGreatDoor.Hand Go.Proofs.YtmimnlbkllgfpaaGreatDoorW.PrintWords
def mosaicref29_bit.l0 : Nat → Int → Int → Option (Int)
 | 0, _, _ => none
 | k + 1, x5, x6 => if x6 < 7 then (mosaicref29_bit.l0 k (wrap64 (Int.tdiv x5 2)) (wrap64 (x6 + 1))) else (some (Int.tmod x5 2))
def mosaicref29_bit.f (k : Nat) (a0 : ByteArray) (a1 : Int) : Option (Int) := if (wrap64 (Int.tdiv a1 8)) ≥ (a0.size : Int) then (some 0) else (if 0 ≤ (wrap64 (Int.tdiv a1 8)) then (if (wrap64 (Int.tdiv a1 8)) < (a0.size : Int) then (mosaicref29_bit.l0 k (wrap64 (bt a0 (wrap64 (Int.tdiv a1 8)))) (Int.tmod a1 8)) else (none)) else (none))
def mosaicref29_letter.f (a0 : Int) : Option (ByteArray) := if 0 ≤ a0 then (if a0 ≤ (wrap64 (a0 + 1)) then (if (wrap64 (a0 + 1)) ≤ 32 then (some ((⟨#[97, 98, 99, 100, 101, 102, 103, 104, 105, 106, 107, 108, 109, 110, 111, 112, 113, 114, 115, 116, 117, 118, 119, 120, 121, 122, 50, 51, 52, 53, 54, 55]⟩ : ByteArray).extract (a0 : Int).toNat ((wrap64 (a0 + 1)) : Int).toNat)) else (none)) else (none)) else (none)
mutual
def mosaicref29_Base32.l0 : Nat → ByteArray → ByteArray → Int → Option (ByteArray)
 | 0, _, _, _ => none
 | k + 1, x0, x3, x4 => if x4 < (wrap64 (8 * (x0.size : Int))) then (mosaicref29_Base32.l1 k x0 x3 x4 0 0) else (some x3)
def mosaicref29_Base32.l1 : Nat → ByteArray → ByteArray → Int → Int → Int → Option (ByteArray)
 | 0, _, _, _, _, _ => none
 | k + 1, x0, x3, x4, x5, x6 => if x6 < 5 then ((mosaicref29_bit.f k x0 (wrap64 (x4 + x6))).bind fun t160 => (mosaicref29_Base32.l1 k x0 x3 x4 (wrap64 ((wrap64 (2 * x5)) + t160)) (wrap64 (x6 + 1)))) else ((mosaicref29_letter.f x5).bind fun t161 => (if x3.size + t161.size ≤ 9223372036854775807 then (mosaicref29_Base32.l0 k x0 (x3 ++ t161) (wrap64 (x4 + 5))) else (none)))
end
def mosaicref29_Base32.f (k : Nat) (a0 : ByteArray) : Option (ByteArray) := mosaicref29_Base32.l0 k a0 (⟨#[]⟩ : ByteArray) 0
def mosaicref29_plain.f (a0 : Int) : Option (Bool) := if a0 ≥ 97 then (if a0 ≤ 122 then (some true) else (if a0 ≥ 65 then (if a0 ≤ 90 then (some true) else (if a0 ≥ 48 then (if a0 ≤ 57 then (some true) else (if a0 = 45 then (some true) else (if a0 = 46 then (some true) else (if a0 = 95 then (some true) else (some (a0 == 126)))))) else (if a0 = 45 then (some true) else (if a0 = 46 then (some true) else (if a0 = 95 then (some true) else (some (a0 == 126))))))) else (if a0 ≥ 48 then (if a0 ≤ 57 then (some true) else (if a0 = 45 then (some true) else (if a0 = 46 then (some true) else (if a0 = 95 then (some true) else (some (a0 == 126)))))) else (if a0 = 45 then (some true) else (if a0 = 46 then (some true) else (if a0 = 95 then (some true) else (some (a0 == 126)))))))) else (if a0 ≥ 65 then (if a0 ≤ 90 then (some true) else (if a0 ≥ 48 then (if a0 ≤ 57 then (some true) else (if a0 = 45 then (some true) else (if a0 = 46 then (some true) else (if a0 = 95 then (some true) else (some (a0 == 126)))))) else (if a0 = 45 then (some true) else (if a0 = 46 then (some true) else (if a0 = 95 then (some true) else (some (a0 == 126))))))) else (if a0 ≥ 48 then (if a0 ≤ 57 then (some true) else (if a0 = 45 then (some true) else (if a0 = 46 then (some true) else (if a0 = 95 then (some true) else (some (a0 == 126)))))) else (if a0 = 45 then (some true) else (if a0 = 46 then (some true) else (if a0 = 95 then (some true) else (some (a0 == 126)))))))
def mosaicref29_Escape.l0 : Nat → ByteArray → List Int → Int → Option (ByteArray)
 | 0, _, _, _ => none
 | k + 1, x0, x3, x4 => if x4 < (x0.size : Int) then (if 0 ≤ x4 then ((mosaicref29_plain.f (bt x0 x4)).bind fun t162 => (if t162 = true then (if x3.length < 140737488355328 then (mosaicref29_Escape.l0 k x0 (x3 ++ [bt x0 x4]) (wrap64 (x4 + 1))) else (none)) else (if 0 ≤ ((Int.tdiv (bt x0 x4) 16) % 256) then (if ((Int.tdiv (bt x0 x4) 16) % 256) < 16 then (if 0 ≤ (Int.tmod (bt x0 x4) 16) then (if (Int.tmod (bt x0 x4) 16) < 16 then ((some (([37, bt (⟨#[48, 49, 50, 51, 52, 53, 54, 55, 56, 57, 65, 66, 67, 68, 69, 70]⟩ : ByteArray) ((Int.tdiv (bt x0 x4) 16) % 256), bt (⟨#[48, 49, 50, 51, 52, 53, 54, 55, 56, 57, 65, 66, 67, 68, 69, 70]⟩ : ByteArray) (Int.tmod (bt x0 x4) 16)] : List Int) : List Int)).bind fun y166 => (if x3.length + y166.length < 140737488355328 then (mosaicref29_Escape.l0 k x0 (x3 ++ y166) (wrap64 (x4 + 1))) else (none))) else (none)) else (none)) else (none)) else (none)))) else (none)) else (some (strOfNums x3))
def mosaicref29_Escape.f (k : Nat) (a0 : ByteArray) : Option (ByteArray) := mosaicref29_Escape.l0 k a0 ([] : List Int) 0
mutual
def mosaicref23_Num.l0 : Nat → Int → ByteArray → Option (ByteArray)
 | 0, _, _ => none
 | k + 1, x0, x3 => if x0 ≥ 10 then ((some (([(wrap64 (48 + (Int.tmod x0 10))) % 256] : List Int) : List Int)).bind fun y173 => (if (strOfNums y173).size + x3.size ≤ 9223372036854775807 then (mosaicref23_Num.l0 k (wrap64 (Int.tdiv x0 10)) ((strOfNums y173) ++ x3)) else (none))) else ((some (([(wrap64 (48 + x0)) % 256] : List Int) : List Int)).bind fun y176 => (if (strOfNums y176).size + x3.size ≤ 9223372036854775807 then (some ((strOfNums y176) ++ x3)) else (none)))
def mosaicref23_Num.f : Nat → Int → Option (ByteArray)
 | 0, _ => none
 | k + 1, a0 => if a0 < 0 then ((mosaicref23_Num.f k (wrap64 (-a0))).bind fun t172 => (if 1 + t172.size ≤ 9223372036854775807 then (some ((⟨#[45]⟩ : ByteArray) ++ t172)) else (none))) else (mosaicref23_Num.l0 k a0 (⟨#[]⟩ : ByteArray))
end
def mosaicref29_number.j0 : Nat → Int → Bool → Option (Int)
 | 0, _, _ => none
 | k + 1, x0, x8 => if x8 = true then (some (wrap64 ((wrap64 (x0)) - 97))) else (if x0 ≥ 50 then (if x0 ≤ 55 then (some (wrap64 ((wrap64 (x0)) - 24))) else (some 32)) else (some 32))
def mosaicref29_number.f (k : Nat) (a0 : Int) : Option (Int) := if a0 ≥ 97 then (mosaicref29_number.j0 k a0 (decide (a0 ≤ 122))) else (mosaicref29_number.j0 k a0 false)
mutual
def mosaicref29_Unbase32.l0 : Nat → ByteArray → List Int → Int → Int → Int → Option (ByteArray × Int)
 | 0, _, _, _, _, _ => none
 | k + 1, x0, x4, x5, x6, x7 => if x7 < (x0.size : Int) then (if 0 ≤ x7 then ((mosaicref29_number.f k (bt x0 x7)).bind fun t190 => (if t190 = 32 then (some ((⟨#[]⟩ : ByteArray), 3)) else ((mosaicref29_number.f k (bt x0 x7)).bind fun t191 => (if (wrap64 (x6 + 5)) ≥ 8 then (mosaicref29_Unbase32.l1 k x0 x4 (wrap64 ((wrap64 (32 * x5)) + t191)) (wrap64 ((wrap64 (x6 + 5)) - 8)) x7 1 0) else (mosaicref29_Unbase32.l0 k x0 x4 (wrap64 ((wrap64 (32 * x5)) + t191)) (wrap64 (x6 + 5)) (wrap64 (x7 + 1))))))) else (none)) else ((mosaicref29_Base32.f k (strOfNums x4)).bind fun t189 => (if t189.toList = x0.toList then (some (strOfNums x4, 0)) else (some ((⟨#[]⟩ : ByteArray), 3))))
def mosaicref29_Unbase32.l1 : Nat → ByteArray → List Int → Int → Int → Int → Int → Int → Option (ByteArray × Int)
 | 0, _, _, _, _, _, _, _ => none
 | k + 1, x0, x4, x5, x6, x7, x8, x9 => if x9 < x6 then (mosaicref29_Unbase32.l1 k x0 x4 x5 x6 x7 (wrap64 (2 * x8)) (wrap64 (x9 + 1))) else (if x8 = 0 then (none) else (if x4.length < 140737488355328 then (mosaicref29_Unbase32.l0 k x0 (x4 ++ [(wrap64 (Int.tdiv x5 x8)) % 256]) (Int.tmod x5 x8) x6 (wrap64 (x7 + 1))) else (none)))
end
def mosaicref29_Unbase32.f (k : Nat) (a0 : ByteArray) : Option (ByteArray × Int) := mosaicref29_Unbase32.l0 k a0 ([] : List Int) 0 0 0
def mosaicref29_upTo.l0 : Nat → ByteArray → Int → Int → Int → Option (Int)
 | 0, _, _, _, _ => none
 | k + 1, x0, x2, x3, x9 => if x9 < (x0.size : Int) then (if 0 ≤ x9 then (if (bt x0 x9) = x2 then (some x9) else (if (bt x0 x9) = x3 then (some x9) else (mosaicref29_upTo.l0 k x0 x2 x3 (wrap64 (x9 + 1))))) else (none)) else (some x9)
def mosaicref29_upTo.f (k : Nat) (a0 : ByteArray) (a1 : Int) (a2 : Int) (a3 : Int) : Option (Int) := mosaicref29_upTo.l0 k a0 a2 a3 a1
def mosaicref29_digit.j0 : Nat → Int → Bool → Option (Int)
 | 0, _, _ => none
 | k + 1, x0, x8 => if x8 = true then (some ((x0 - 48) % 256)) else (if x0 ≥ 65 then (if x0 ≤ 70 then (some ((x0 - 55) % 256)) else (some 16)) else (some 16))
def mosaicref29_digit.f (k : Nat) (a0 : Int) : Option (Int) := if a0 ≥ 48 then (mosaicref29_digit.j0 k a0 (decide (a0 ≤ 57))) else (mosaicref29_digit.j0 k a0 false)
mutual
def mosaicref29_Unescape.l0 : Nat → ByteArray → List Int → Int → Option (ByteArray × Int)
 | 0, _, _, _ => none
 | k + 1, x0, x4, x5 => if x5 < (x0.size : Int) then (if 0 ≤ x5 then (if (bt x0 x5) = 37 then (if (wrap64 (x5 + 2)) ≥ (x0.size : Int) then (mosaicref29_Unescape.j1 k x0 x4 x5 true) else (if 0 ≤ (wrap64 (x5 + 1)) then (if (wrap64 (x5 + 1)) < (x0.size : Int) then ((mosaicref29_digit.f k (bt x0 (wrap64 (x5 + 1)))).bind fun t196 => (if t196 = 16 then (mosaicref29_Unescape.j1 k x0 x4 x5 true) else (if 0 ≤ (wrap64 (x5 + 2)) then (if (wrap64 (x5 + 2)) < (x0.size : Int) then ((mosaicref29_digit.f k (bt x0 (wrap64 (x5 + 2)))).bind fun t197 => (mosaicref29_Unescape.j1 k x0 x4 x5 (t197 == 16))) else (none)) else (none)))) else (none)) else (none))) else (if x4.length < 140737488355328 then (mosaicref29_Unescape.l0 k x0 (x4 ++ [bt x0 x5]) (wrap64 (x5 + 1))) else (none))) else (none)) else ((mosaicref29_Escape.f k (strOfNums x4)).bind fun t195 => (if t195.toList = x0.toList then (some (strOfNums x4, 0)) else (some ((⟨#[]⟩ : ByteArray), 3))))
def mosaicref29_Unescape.j1 : Nat → ByteArray → List Int → Int → Bool → Option (ByteArray × Int)
 | 0, _, _, _, _ => none
 | k + 1, x0, x4, x5, x34 => if x34 = true then (some ((⟨#[]⟩ : ByteArray), 3)) else (if 0 ≤ (wrap64 (x5 + 1)) then (if (wrap64 (x5 + 1)) < (x0.size : Int) then ((mosaicref29_digit.f k (bt x0 (wrap64 (x5 + 1)))).bind fun t198 => (if 0 ≤ (wrap64 (x5 + 2)) then (if (wrap64 (x5 + 2)) < (x0.size : Int) then ((mosaicref29_digit.f k (bt x0 (wrap64 (x5 + 2)))).bind fun t199 => (if x4.length < 140737488355328 then (mosaicref29_Unescape.l0 k x0 (x4 ++ [(((16 * t198) % 256) + t199) % 256]) (wrap64 (x5 + 3))) else (none))) else (none)) else (none))) else (none)) else (none))
end
def mosaicref29_Unescape.f (k : Nat) (a0 : ByteArray) : Option (ByteArray × Int) := mosaicref29_Unescape.l0 k a0 ([] : List Int) 0
end Go.Proofs.YtmimnlbkllgfpaaGreatDoor.A
/- Base 32 as the reference tells it: bit by bit, letter by letter: the same letters. -/
namespace Go.Proofs.YtmimnlbkllgfpaaGreatDoor.Bq
open Go.RowKit Go.Proofs.YtmimnlbkllgfpaaGreatDoor.A Go.Proofs.YtmimnlbkllgfpaaGreatDoor.Bp Go.Proofs.YtmimnlbkllgfpaaGreatDoor.Hand Go.Proofs.YtmimnlbkllgfpaaGreatDoorW.PrintWords Go.Proofs.YtmimnlbkllgfpaaGreatDoorW.PrintLast Go.Proofs.YtmimnlbkllgfpaaGreatDoorW.PrintMore

theorem w64 {n : Int} (h : -9223372036854775808 ≤ n ∧ n ≤ 9223372036854775807) : wrap64 n = n := by
  unfold wrap64; omega
theorem succ_of {k m : Nat} (h : m + 1 ≤ k) : ∃ k', k = k' + 1 ∧ m ≤ k' := ⟨k - 1, by omega, by omega⟩

theorem bt_nat (s : ByteArray) (i : Nat) (h : i < s.size) : bt s (i : Int) = ((s[i]).toNat : Int) := by
  unfold bt; simp [h]
theorem get_nat (s : ByteArray) (i : Nat) (h : i < s.size) : s.data.toList[i]? = some s[i] := by
  rw [List.getElem?_eq_getElem (by simpa using h)]; rfl
theorem get_end (s : ByteArray) (i : Nat) (h : s.size ≤ i) : s.data.toList[i]? = none := List.getElem?_eq_none (by simpa using h)

/-- The reference's bit: halved till it stands last. -/
theorem bit_l0 (j : Nat) : ∀ (k x : Nat), j ≤ 7 → 8 - j ≤ k → x < 256 → mosaicref29_bit.l0 k (x : Int) (j : Int) = some ((x / 2 ^ (7 - j) % 2 : Nat) : Int) := by
  induction hj : 7 - j generalizing j with
  | zero =>
    intro k x h1 h2 h3
    obtain ⟨k, rfl, _⟩ := succ_of (m := 0) (by omega : 0 + 1 ≤ k)
    have : j = 7 := by omega
    subst this
    simp only [mosaicref29_bit.l0]
    rw [if_neg (by omega)]
    congr 1
    rw [Int.tmod_eq_emod_of_nonneg (by omega)]; simp
  | succ m ih =>
    intro k x h1 h2 h3
    obtain ⟨k, rfl, _⟩ := succ_of (m := 0) (by omega : 0 + 1 ≤ k)
    simp only [mosaicref29_bit.l0]
    rw [if_pos (by omega), w64 (n := (j : Int) + 1) (by omega)]
    have e : wrap64 (Int.tdiv (x : Int) 2) = ((x / 2 : Nat) : Int) := by
      rw [Int.tdiv_eq_ediv_of_nonneg (by omega), w64 (by omega)]; simp
    rw [e, show ((j : Int) + 1) = ((j + 1 : Nat) : Int) by omega, ih (j + 1) (by omega) k (x / 2) (by omega) (by omega) (by omega)]
    congr 2
    rw [Nat.div_div_eq_div_mul, Nat.pow_succ, Nat.mul_comm 2]

theorem bit_eq (s : ByteArray) (p k : Nat) (hk : 8 ≤ k) (hp : p ≤ 10000000) : mosaicref29_bit.f k s (p : Int) = some ((bitN s.data.toList p : Nat) : Int) := by
  have e1 : wrap64 (Int.tdiv (p : Int) 8) = ((p / 8 : Nat) : Int) := by
    rw [Int.tdiv_eq_ediv_of_nonneg (by omega), w64 (by omega)]; simp
  unfold mosaicref29_bit.f
  rw [e1]
  by_cases h : p / 8 < s.size
  · have e2 : Int.tmod (p : Int) 8 = ((p % 8 : Nat) : Int) := by rw [Int.tmod_eq_emod_of_nonneg (by omega)]; simp
    have hb := (s[p / 8]).toNat_lt
    rw [if_neg (by omega), if_pos (by omega), if_pos (by omega), e2, bt_nat s _ h, w64 (by omega), bit_l0 (p % 8) k _ (by omega) (by omega) hb]
    unfold bitN
    rw [get_nat s _ h]
  · rw [if_pos (by omega)]
    unfold bitN
    rw [get_end s _ (by omega)]
    rfl

theorem letter_eq (v : Nat) (h : v < 32) : mosaicref29_letter.f (v : Int) = some ⟨#[letB v]⟩ := by
  unfold mosaicref29_letter.f
  rw [w64 (by omega), if_pos (by omega), if_pos (by omega), if_pos (by omega)]
  have : ∀ m : Fin 32, (⟨#[97, 98, 99, 100, 101, 102, 103, 104, 105, 106, 107, 108, 109, 110, 111, 112, 113, 114, 115, 116, 117, 118, 119, 120, 121, 122, 50, 51, 52, 53, 54, 55]⟩ : ByteArray).extract ((m.1 : Int)).toNat ((m.1 : Int) + 1).toNat = ⟨#[letB m.1]⟩ := by decide
  exact congrArg some (this ⟨v, h⟩)

theorem l1_eq (s t : ByteArray) (i : Nat) (hi : i ≤ 9000000) (ht : t.size ≤ 9000000) (j : Nat) (hj : j ≤ 5) :
    ∀ k, 20 - j ≤ k → ∃ k', k = k' + (6 - j) ∧ mosaicref29_Base32.l1 k s t (i : Int) ((bv s.data.toList i j : Nat) : Int) (j : Int) = mosaicref29_Base32.l0 k' s (t ++ ⟨#[letB (bv s.data.toList i 5)]⟩) ((i + 5 : Nat) : Int) := by
  induction hm : 5 - j generalizing j with
  | zero =>
    intro k hk
    have : j = 5 := by omega
    subst this
    obtain ⟨k, rfl, _⟩ := succ_of (m := 0) (by omega : 0 + 1 ≤ k)
    refine ⟨k, by omega, ?_⟩
    have h5 := bv_lt s.data.toList i 5
    simp only [mosaicref29_Base32.l1]
    rw [if_neg (by omega), letter_eq _ h5, Option.bind_some, if_pos (by have e1 : (⟨#[letB (bv s.data.toList i 5)]⟩ : ByteArray).size = 1 := rfl; rw [e1]; omega), w64 (by omega)]
    rfl
  | succ m ih =>
    intro k hk
    obtain ⟨k, rfl, _⟩ := succ_of (m := 0) (by omega : 0 + 1 ≤ k)
    obtain ⟨k', h1, h2⟩ := ih (j + 1) (by omega) (by omega) k (by omega)
    refine ⟨k', by omega, ?_⟩
    have hb := bitN_lt s.data.toList (i + j)
    have hl := bv_lt s.data.toList i j
    have hp : 2 ^ j ≤ 2 ^ 5 := Nat.pow_le_pow_right (by omega) hj
    simp only [mosaicref29_Base32.l1]
    rw [if_pos (by omega), w64 (n := (i : Int) + j) (by omega), show ((i : Int) + j) = ((i + j : Nat) : Int) by omega, bit_eq s (i + j) k (by omega) (by omega), Option.bind_some]
    rw [w64 (n := 2 * ((bv s.data.toList i j : Nat) : Int)) (by omega), w64 (n := (j : Int) + 1) (by omega), w64 (by omega)]
    rw [← h2, bv]
    congr 1

theorem append_one (l : List UInt8) (b : UInt8) : (⟨l.toArray⟩ : ByteArray) ++ ⟨#[b]⟩ = ⟨(l ++ [b]).toArray⟩ := by
  apply ByteArray.ext
  simp [ByteArray.data_append]

theorem l0_eq (s : ByteArray) (hs : s.size ≤ 1000000) (m : Nat) : ∀ (c k : Nat), (8 * s.size + 4) / 5 = c + m → 7 * m + 21 ≤ k →
    mosaicref29_Base32.l0 k s ⟨(encN s.data.toList c).toArray⟩ ((5 * c : Nat) : Int) = some (b32 s) := by
  induction m with
  | zero =>
    intro c k hc hk
    obtain ⟨k, rfl, _⟩ := succ_of (m := 0) (by omega : 0 + 1 ≤ k)
    simp only [mosaicref29_Base32.l0]
    rw [w64 (by omega), if_neg (by omega), b32, hc]
    rfl
  | succ m ih =>
    intro c k hc hk
    obtain ⟨k, rfl, _⟩ := succ_of (m := 0) (by omega : 0 + 1 ≤ k)
    simp only [mosaicref29_Base32.l0]
    rw [w64 (by omega), if_pos (by omega)]
    obtain ⟨k', h1, h2⟩ := l1_eq s ⟨(encN s.data.toList c).toArray⟩ (5 * c) (by omega) (by show (encN s.data.toList c).toArray.size ≤ _; simp [encN_length]; omega) 0 (by omega) k (by omega)
    have e0 : ((bv s.data.toList (5 * c) 0 : Nat) : Int) = 0 := rfl
    rw [e0, show (((0 : Nat) : Int)) = 0 from rfl] at h2
    rw [h2, append_one, ← encN_succ]
    exact ih (c + 1) k' (by omega) (by omega)

theorem refBase32_eq (s : ByteArray) (k : Nat) (hs : s.size ≤ 1000000) (hk : 14 * s.size + 28 ≤ k) : mosaicref29_Base32.f k s = some (b32 s) := by
  unfold mosaicref29_Base32.f
  exact l0_eq s hs ((8 * s.size + 4) / 5) 0 k (by omega) (by omega)

end Go.Proofs.YtmimnlbkllgfpaaGreatDoor.Bq
/- Escaping, and what is escaped read: the program's loops and the reference's come to the same. -/
namespace Go.Proofs.YtmimnlbkllgfpaaGreatDoor.Bq
open Go.RowKit Go.Proofs.YtmimnlbkllgfpaaGreatDoor.A Go.Proofs.YtmimnlbkllgfpaaGreatDoor.Bp Go.Proofs.YtmimnlbkllgfpaaGreatDoor.Ex Go.Proofs.YtmimnlbkllgfpaaGreatDoor.Hand Go.Proofs.YtmimnlbkllgfpaaGreatDoorW.PrintWords Go.Proofs.YtmimnlbkllgfpaaGreatDoorW.PrintLast Go.Proofs.YtmimnlbkllgfpaaGreatDoorW.PrintMore

theorem refPlain_eq (c : Nat) (hc : c < 256) : mosaicref29_plain.f (c : Int) = some (plainB c) := by
  have : ∀ m : Fin 256, mosaicref29_plain.f (m.1 : Int) = some (plainB m.1) := by decide +kernel
  exact this ⟨c, hc⟩

def numL (l : List UInt8) : List Int := l.map fun b => (b.toNat : Int)
theorem numL_length (l : List UInt8) : (numL l).length = l.length := by simp [numL]
theorem strOf_numL (l : List UInt8) : strOfNums (numL l) = ⟨l.toArray⟩ := by
  unfold strOfNums numL
  rw [List.map_map]
  have : ((fun n : Int => UInt8.ofNat n.toNat) ∘ fun b : UInt8 => (b.toNat : Int)) = id := by funext b; simp
  rw [this, List.map_id]
theorem dig_bt (n : Nat) (h : n < 16) : bt (⟨#[48, 49, 50, 51, 52, 53, 54, 55, 56, 57, 65, 66, 67, 68, 69, 70]⟩ : ByteArray) (n : Int) = ((hexB n).toNat : Int) := by
  have : ∀ m : Fin 16, bt (⟨#[48, 49, 50, 51, 52, 53, 54, 55, 56, 57, 65, 66, 67, 68, 69, 70]⟩ : ByteArray) (m.1 : Int) = ((hexB m.1).toNat : Int) := by decide +kernel
  exact this ⟨n, h⟩

theorem esc_l0 (s : ByteArray) (hs : s.size ≤ 100000) (m : Nat) : ∀ (i k : Nat), s.size = i + m → m + 1 ≤ k →
    mosaicref29_Escape.l0 k s (numL (escL (s.data.toList.take i))) (i : Int) = some (escB s) := by
  induction m with
  | zero =>
    intro i k hi hk
    obtain ⟨k, rfl, _⟩ := succ_of (m := 0) (by omega : 0 + 1 ≤ k)
    simp only [mosaicref29_Escape.l0]
    rw [if_neg (by omega), strOf_numL, escB, List.take_of_length_le (by simp only [Array.length_toList]; show s.size ≤ i; omega)]
  | succ m ih =>
    intro i k hi hk
    obtain ⟨k, rfl, hk1⟩ := succ_of (m := m + 1) (by omega : m + 1 + 1 ≤ k)
    have hlt : i < s.size := by omega
    have hc := (s[i]).toNat_lt
    have hT := escL_take _ i _ (get_nat s i hlt)
    have hlen : (numL (escL (s.data.toList.take i))).length ≤ 300000 := by
      rw [numL_length]
      have h1 := escL_length (s.data.toList.take i)
      have h2 : (s.data.toList.take i).length ≤ i := by rw [List.length_take]; exact Nat.min_le_left _ _
      omega
    have hi2 := ih (i + 1) k (by omega) (by omega)
    rw [hT] at hi2
    simp only [mosaicref29_Escape.l0]
    rw [if_pos (by omega), if_pos (by omega), bt_nat s i hlt, refPlain_eq _ hc, Option.bind_some]
    by_cases hp : plainB s[i].toNat = true
    · have hE : esc1 s[i] = [s[i]] := by unfold esc1; rw [if_pos hp]
      rw [hE] at hi2
      rw [if_pos hp, if_pos (by omega), w64 (by omega), ← hi2]
      simp [numL]
    · have hE : esc1 s[i] = [37, hexB (s[i].toNat / 16), hexB (s[i].toNat % 16)] := by unfold esc1; rw [if_neg hp]
      rw [hE] at hi2
      have e1 : Int.tdiv (s[i].toNat : Int) 16 % 256 = ((s[i].toNat / 16 : Nat) : Int) := by rw [Int.tdiv_eq_ediv_of_nonneg (by omega)]; omega
      have e2 : Int.tmod (s[i].toNat : Int) 16 = ((s[i].toNat % 16 : Nat) : Int) := by rw [Int.tmod_eq_emod_of_nonneg (by omega)]; omega
      rw [if_neg hp, e1, e2, if_pos (by omega), if_pos (by omega), if_pos (by omega), if_pos (by omega), Option.bind_some, dig_bt _ (by omega), dig_bt _ (by omega), if_pos (by simp only [List.length_cons, List.length_nil]; omega), w64 (by omega), ← hi2]
      simp [numL]

theorem refEscape_eq (s : ByteArray) (k : Nat) (hs : s.size ≤ 100000) (hk : s.size + 1 ≤ k) : mosaicref29_Escape.f k s = some (escB s) := by
  unfold mosaicref29_Escape.f
  have := esc_l0 s hs s.size 0 k (by omega) hk
  simpa [escL, numL] using this
end Go.Proofs.YtmimnlbkllgfpaaGreatDoor.Bq
/- The document's numbers in decimal are strconv's. -/
namespace Go.Proofs.YtmimnlbkllgfpaaGreatDoor.Bq
open Go.RowKit Go.Proofs.YtmimnlbkllgfpaaGreatDoor.A Go.Proofs.YtmimnlbkllgfpaaGreatDoor.Hand Go.Proofs.YtmimnlbkllgfpaaGreatDoorW.PrintWords Go.Proofs.YtmimnlbkllgfpaaGreatDoorW.PrintLast Go.Proofs.YtmimnlbkllgfpaaGreatDoorW.PrintMore

theorem strOf1 (m : Nat) (h : m < 10) : strOfNums [(48 + (m : Int)) % 256] = ⟨#[UInt8.ofNat (48 + m)]⟩ := by
  have := strOf_numL [UInt8.ofNat (48 + m)]
  have e : numL [UInt8.ofNat (48 + m)] = [(48 + (m : Int)) % 256] := by
    unfold numL
    have : (UInt8.ofNat (48 + m)).toNat = 48 + m := by simp; omega
    simp only [List.map_cons, List.map_nil, this]
    congr 1
    omega
  rw [e] at this
  simpa using this
theorem cons_app (b : UInt8) (s : ByteArray) : (⟨#[b]⟩ : ByteArray) ++ s = ⟨(b :: s.data.toList).toArray⟩ := by
  apply ByteArray.ext
  rw [ByteArray.data_append]
  simp
theorem num_l0 (j : Nat) : ∀ (u k : Nat) (s : ByteArray), u < 10 ^ (j + 1) → j ≤ 15 → j + 1 ≤ k → s.size + j ≤ 1000 → u ≤ 1000000000 →
    mosaicref23_Num.l0 k (u : Int) s = some ⟨(Lib.decDigits u ++ s.data.toList).toArray⟩ := by
  induction j with
  | zero =>
    intro u k s hu _ hk hs hb
    obtain ⟨k, rfl⟩ : ∃ k', k = k' + 1 := ⟨k - 1, by omega⟩
    have hu : u < 10 := by simpa using hu
    have z : (strOfNums [(48 + (u : Int)) % 256]).size = 1 := by rw [strOf1 u hu]; rfl
    rw [mosaicref23_Num.l0, if_neg (by omega), Option.bind_some, w64 (n := 48 + (u : Int)) (by omega), if_pos (by rw [z]; omega), strOf1 u hu, cons_app, Lib.decDigits, dif_pos hu]
    rfl
  | succ j ih =>
    intro u k s hu hj hk hs hb
    obtain ⟨k, rfl⟩ : ∃ k', k = k' + 1 := ⟨k - 1, by omega⟩
    by_cases h : u < 10
    · have z : (strOfNums [(48 + (u : Int)) % 256]).size = 1 := by rw [strOf1 u h]; rfl
      rw [mosaicref23_Num.l0, if_neg (by omega), Option.bind_some, w64 (n := 48 + (u : Int)) (by omega), if_pos (by rw [z]; omega), strOf1 u h, cons_app, Lib.decDigits, dif_pos h]
      rfl
    · have e1 : Int.tmod (u : Int) 10 = ((u % 10 : Nat) : Int) := by rw [Int.tmod_eq_emod_of_nonneg (by omega)]; omega
      have e2 : Int.tdiv (u : Int) 10 = ((u / 10 : Nat) : Int) := by rw [Int.tdiv_eq_ediv_of_nonneg (by omega)]; omega
      have hm : u % 10 < 10 := by omega
      have z : (strOfNums [(48 + ((u % 10 : Nat) : Int)) % 256]).size = 1 := by rw [strOf1 _ hm]; rfl
      have hq : u / 10 < 10 ^ (j + 1) := by
        rw [Nat.div_lt_iff_lt_mul (by omega)]
        rw [Nat.pow_succ] at hu; exact hu
      rw [mosaicref23_Num.l0, if_pos (by omega), Option.bind_some, e1, e2, w64 (n := 48 + ((u % 10 : Nat) : Int)) (by omega), w64 (n := ((u / 10 : Nat) : Int)) (by omega), if_pos (by rw [z]; omega), strOf1 _ hm, cons_app]
      have hz : (⟨(UInt8.ofNat (48 + u % 10) :: s.data.toList).toArray⟩ : ByteArray).size = s.size + 1 := by
        show (UInt8.ofNat (48 + u % 10) :: s.data.toList).toArray.size = s.data.size + 1
        simp
      have hl : Lib.decDigits u = Lib.decDigits (u / 10) ++ [UInt8.ofNat (48 + u % 10)] := by rw [Lib.decDigits, dif_neg h]
      have := ih (u / 10) k ⟨(UInt8.ofNat (48 + u % 10) :: s.data.toList).toArray⟩ hq (by omega) (by omega) (by rw [hz]; omega) (by omega)
      rw [this, hl]
      simp
/-- One text. -/
theorem num_eq (v : Int) (k : Nat) (hv : -1000000000 ≤ v ∧ v ≤ 1000000000) (hk : 12 ≤ k) : mosaicref23_Num.f k v = some ⟨(Lib.itoa v).toArray⟩ := by
  obtain ⟨k, rfl⟩ : ∃ k', k = k' + 1 := ⟨k - 1, by omega⟩
  have pos : ∀ (u k : Nat), u ≤ 1000000000 → 10 ≤ k → mosaicref23_Num.l0 k (u : Int) ⟨#[]⟩ = some ⟨(Lib.decDigits u).toArray⟩ := by
    intro u k hu hk
    have := num_l0 9 u k ⟨#[]⟩ (by omega) (by omega) (by omega) (by simp [ByteArray.size]) hu
    simpa using this
  by_cases h : v < 0
  · obtain ⟨u, hu⟩ : ∃ u : Nat, -v = (u : Int) := ⟨v.natAbs, by omega⟩
    obtain ⟨k, rfl⟩ : ∃ k', k = k' + 1 := ⟨k - 1, by omega⟩
    have e : mosaicref23_Num.f (k + 1) (u : Int) = some ⟨(Lib.decDigits u).toArray⟩ := by
      rw [mosaicref23_Num.f, if_neg (show ¬ ((u : Int) < 0) by omega), pos u k (by omega) (by omega)]
    have hd := Tx.dec_len 9 u (by omega)
    have en : v.natAbs = u := by omega
    rw [mosaicref23_Num.f, if_pos h, w64 (n := -v) (by omega), hu, e, Option.bind_some, if_pos (by rw [Tx.szL]; omega), cons_app, Lib.itoa, if_pos h, en]
  · obtain ⟨u, rfl⟩ := Int.eq_ofNat_of_zero_le (show 0 ≤ v by omega)
    rw [mosaicref23_Num.f, if_neg h, pos u k (by omega) (by omega), Lib.itoa, if_neg h]
    rfl
end Go.Proofs.YtmimnlbkllgfpaaGreatDoor.Bq
/- Base 32 read: the program's loop and the reference's come to the same, from any state that they share. -/
namespace Go.Proofs.YtmimnlbkllgfpaaGreatDoor.Bq
open Go.RowKit Go.Proofs.YtmimnlbkllgfpaaGreatDoor.A Go.Proofs.YtmimnlbkllgfpaaGreatDoor.Bp Go.Proofs.YtmimnlbkllgfpaaGreatDoor.Hand Go.Proofs.YtmimnlbkllgfpaaGreatDoorW.PrintWords Go.Proofs.YtmimnlbkllgfpaaGreatDoorW.PrintLast Go.Proofs.YtmimnlbkllgfpaaGreatDoorW.PrintMore

def numP (c : Nat) : Nat := if 97 ≤ c ∧ c ≤ 122 then c - 97 else if 50 ≤ c ∧ c ≤ 55 then c - 24 else 32
theorem number_eq (c k : Nat) (hc : c < 256) (hk : 1 ≤ k) : mosaicref29_number.f k (c : Int) = some (numP c : Int) := by
  obtain ⟨k, rfl, _⟩ := succ_of (m := 0) (by omega : 0 + 1 ≤ k)
  unfold mosaicref29_number.f
  simp only [mosaicref29_number.j0, w64 (n := (c : Int)) (by omega), w64 (n := (c : Int) - 97) (by omega), w64 (n := (c : Int) - 24) (by omega)]
  have : ∀ m : Fin 256, (if ((m.1 : Int)) ≥ 97 then (if decide ((m.1 : Int) ≤ 122) = true then some ((m.1 : Int) - 97) else if (m.1 : Int) ≥ 50 then (if (m.1 : Int) ≤ 55 then some ((m.1 : Int) - 24) else some 32) else some 32) else (if false = true then some ((m.1 : Int) - 97) else if (m.1 : Int) ≥ 50 then (if (m.1 : Int) ≤ 55 then some ((m.1 : Int) - 24) else some 32) else some 32)) = some (numP m.1 : Int) := by decide +kernel
  exact this ⟨c, hc⟩

theorem index_eq (c : Nat) (hc : c < 256) : strings_IndexByte.f (⟨#[97, 98, 99, 100, 101, 102, 103, 104, 105, 106, 107, 108, 109, 110, 111, 112, 113, 114, 115, 116, 117, 118, 119, 120, 121, 122, 50, 51, 52, 53, 54, 55]⟩ : ByteArray) (c : Int) = some (if numP c = 32 then -1 else (numP c : Int)) := by
  have : ∀ m : Fin 256, Lib.indexByte [97, 98, 99, 100, 101, 102, 103, 104, 105, 106, 107, 108, 109, 110, 111, 112, 113, 114, 115, 116, 117, 118, 119, 120, 121, 122, 50, 51, 52, 53, 54, 55] m.1.toUInt8 = (if numP m.1 = 32 then -1 else (numP m.1 : Int)) := by decide +kernel
  unfold strings_IndexByte.f
  exact congrArg some (this ⟨c, hc⟩)
theorem numP_le (c : Nat) : numP c ≤ 32 := by unfold numP; split <;> (try split) <;> omega

/-- The power that the reference reckons. -/
theorem l1_pow (a : ByteArray) (out : List Int) (b h i : Nat) (hh : h ≤ 8) (hb : b < 2 ^ 40) (ho : out.length < 1000000) (j : Nat) (hj : j ≤ h) :
    ∀ k, 10 - j ≤ k → ∃ k', k = k' + (h - j + 1) ∧ mosaicref29_Unbase32.l1 k a out (b : Int) (h : Int) (i : Int) ((2 ^ j : Nat) : Int) (j : Int) = mosaicref29_Unbase32.l0 k' a (out ++ [((b / 2 ^ h % 256 : Nat) : Int)]) ((b % 2 ^ h : Nat) : Int) (h : Int) (wrap64 ((i : Int) + 1)) := by
  induction hm : h - j generalizing j with
  | zero =>
    intro k hk
    have : j = h := by omega
    subst this
    obtain ⟨k, rfl, _⟩ := succ_of (m := 0) (by omega : 0 + 1 ≤ k)
    refine ⟨k, by omega, ?_⟩
    have hp := Nat.two_pow_pos j
    generalize 2 ^ j = z at *
    have hd : b / z ≤ b := Nat.div_le_self _ _
    have e1 : Int.tdiv (b : Int) (z : Int) = ((b / z : Nat) : Int) := by rw [Int.tdiv_eq_ediv_of_nonneg (by omega)]; exact (Int.natCast_ediv _ _).symm
    have e2 : Int.tmod (b : Int) (z : Int) = ((b % z : Nat) : Int) := by rw [Int.tmod_eq_emod_of_nonneg (by omega)]; exact (Int.natCast_emod _ _).symm
    simp only [mosaicref29_Unbase32.l1]
    rw [if_neg (by omega), if_neg (by omega), if_pos (by omega), e1, e2]
    generalize b / z = q at *
    generalize b % z = y at *
    rw [w64 (n := (q : Int)) (by omega)]
    rfl
  | succ m ih =>
    intro k hk
    obtain ⟨k, rfl, _⟩ := succ_of (m := 0) (by omega : 0 + 1 ≤ k)
    obtain ⟨k', h1, h2⟩ := ih (j + 1) (by omega) (by omega) k (by omega)
    refine ⟨k', by omega, ?_⟩
    have hp : 2 ^ j ≤ 256 := Nat.pow_le_pow_right (n := 2) (by omega) (by omega : j ≤ 8)
    have hp1 : 2 ^ (j + 1) = 2 * 2 ^ j := by rw [Nat.pow_succ]; omega
    rw [hp1] at h2
    generalize 2 ^ j = z at *
    simp only [mosaicref29_Unbase32.l1]
    rw [if_pos (by omega), w64 (n := 2 * (z : Int)) (by omega), w64 (n := (j : Int) + 1) (by omega), ← h2]
    rfl

theorem lenS (out : List Int) : (strOfNums out).size = out.length := by unfold strOfNums ByteArray.size; simp

theorem or5 (b v : Nat) (hb : b < 128) (hv : v < 32) : Go.bits .or .i64 (wrap64 ((b : Int) * 32)) (v : Int) = ((b * 32 + v : Nat) : Int) := by
  rw [w64 (by omega), show (b : Int) * 32 = ((b * 32 : Nat) : Int) by omega]
  exact or8 b v 5 hv (by omega) (by omega)

theorem shrN (X k : Nat) (hk : k ≤ 64) : shr .i64 (X : Int) (k : Int) = ((X / 2 ^ k : Nat) : Int) := by
  unfold shr
  rw [Int.toNat_natCast, Nat.min_eq_left (show k ≤ IntKind.i64.bits from hk), Int.natCast_ediv, Int.natCast_pow]; rfl
theorem maskN (X k : Nat) (hk : k ≤ 10) (hX : X < 9223372036854775808) : Go.bits .and .i64 (X : Int) (wrap64 (shl .i64 1 (k : Int) - 1)) = ((X % 2 ^ k : Nat) : Int) := by
  have hq : 2 ^ k ≤ 1024 := Nat.pow_le_pow_right (n := 2) (by omega) (by omega : k ≤ 10)
  have hq0 := Nat.two_pow_pos k
  have h1 : shl .i64 1 (k : Int) = ((2 ^ k : Nat) : Int) := by
    unfold shl
    rw [Int.toNat_natCast, Nat.min_eq_left (show k ≤ IntKind.i64.bits from Nat.le_trans hk (by decide)), Int.one_mul, show (2 : Int) ^ k = ((2 ^ k : Nat) : Int) by rw [Int.natCast_pow]; rfl, IntKind.wrap_i64]
    generalize 2 ^ k = z at *
    omega
  have h2 : wrap64 (((2 ^ k : Nat) : Int) - 1) = ((2 ^ k - 1 : Nat) : Int) := by
    generalize 2 ^ k = z at *
    rw [w64 (by omega)]; omega
  rw [h1, h2]
  exact andm X k hX (by omega)

section
variable (a : ByteArray) (out : List Int) (b h i k : Nat) (hlt : i < a.size)
theorem link_err (hx : numP (a[i]).toNat = 32) : link_Unbase32.l0 (k + 1) a out (b : Int) (h : Int) (a.size : Int) (i : Int) = some (⟨#[]⟩, 3) := by
  have hc := (a[i]).toNat_lt
  simp only [link_Unbase32.l0]
  rw [if_pos (by omega), if_pos (by omega), if_pos (by omega), bt_nat a i hlt, index_eq _ hc, Option.bind_some, if_pos hx, if_pos (by omega)]
theorem ref_err (hx : numP (a[i]).toNat = 32) : mosaicref29_Unbase32.l0 (k + 2) a out (b : Int) (h : Int) (i : Int) = some (⟨#[]⟩, 3) := by
  have hc := (a[i]).toNat_lt
  simp only [mosaicref29_Unbase32.l0]
  rw [if_pos (by omega), if_pos (by omega), bt_nat a i hlt, number_eq _ (k + 1) hc (by omega), Option.bind_some, if_pos (by rw [hx]; rfl)]

theorem link_no (hi : a.size ≤ 1000) (v : Nat) (hv : numP (a[i]).toNat = v) (hv2 : v < 32) (hb : b < 128) (h8 : h + 5 < 8) : link_Unbase32.l0 (k + 1) a out (b : Int) (h : Int) (a.size : Int) (i : Int) = link_Unbase32.l0 k a out ((b * 32 + v : Nat) : Int) ((h + 5 : Nat) : Int) (a.size : Int) ((i + 1 : Nat) : Int) := by
  have hv3 : ¬ v = 32 := by omega
  have hc := (a[i]).toNat_lt
  simp only [link_Unbase32.l0]
  rw [if_pos (by omega), if_pos (by omega), if_pos (by omega), bt_nat a i hlt, index_eq _ hc, Option.bind_some, hv, if_neg hv3, if_neg (by omega), or5 b v hb hv2, w64 (n := (h : Int) + 5) (by omega), if_neg (by omega), w64 (n := (i : Int) + 1) (by omega)]
  rfl
theorem ref_no (hi : a.size ≤ 1000) (v : Nat) (hv : numP (a[i]).toNat = v) (hv2 : v < 32) (hb : b < 128) (h8 : h + 5 < 8) : mosaicref29_Unbase32.l0 (k + 2) a out (b : Int) (h : Int) (i : Int) = mosaicref29_Unbase32.l0 (k + 1) a out ((b * 32 + v : Nat) : Int) ((h + 5 : Nat) : Int) ((i + 1 : Nat) : Int) := by
  have hc := (a[i]).toNat_lt
  rw [mosaicref29_Unbase32.l0]
  rw [if_pos (by omega), if_pos (by omega), bt_nat a i hlt, number_eq _ (k + 1) hc (by omega), Option.bind_some, hv, if_neg (by omega), Option.bind_some, w64 (n := (h : Int) + 5) (by omega), if_neg (by omega), w64 (n := (i : Int) + 1) (by omega), w64 (n := 32 * (b : Int)) (by omega), w64 (n := 32 * (b : Int) + v) (by omega)]
  rw [show 32 * (b : Int) + v = ((b * 32 + v : Nat) : Int) by omega]
  rfl
theorem link_yes (hi : a.size ≤ 1000) (ho : out.length ≤ 1000) (v : Nat) (hv : numP (a[i]).toNat = v) (hv2 : v < 32) (hb : b < 128) (h8 : 8 ≤ h + 5) (hh : h < 8) : link_Unbase32.l0 (k + 1) a out (b : Int) (h : Int) (a.size : Int) (i : Int) =
    link_Unbase32.l0 k a (out ++ [(((b * 32 + v) / 2 ^ (h - 3) % 256 : Nat) : Int)]) (((b * 32 + v) % 2 ^ (h - 3) : Nat) : Int) ((h - 3 : Nat) : Int) (a.size : Int) ((i + 1 : Nat) : Int) := by
  have hv3 : ¬ v = 32 := by omega
  have hc := (a[i]).toNat_lt
  simp only [link_Unbase32.l0]
  rw [if_pos (by omega), if_pos (by omega), if_pos (by omega), bt_nat a i hlt, index_eq _ hc, Option.bind_some, hv, if_neg hv3, if_neg (by omega), or5 b v hb hv2, w64 (n := (h : Int) + 5) (by omega), if_pos (by omega), w64 (n := (h : Int) + 5 - 8) (by omega), if_pos (by omega), if_pos (by omega), w64 (n := (i : Int) + 1) (by omega), show (h : Int) + 5 - 8 = ((h - 3 : Nat) : Int) by omega]
  have hX : b * 32 + v < 4128 := by omega
  generalize b * 32 + v = X at *
  rw [shrN X (h - 3) (by omega), maskN X (h - 3) (by omega) (by omega), Int.natCast_emod]
  rfl
theorem ref_yes (hi : a.size ≤ 1000) (ho : out.length ≤ 1000) (v : Nat) (hv : numP (a[i]).toNat = v) (hv2 : v < 32) (hb : b < 128) (h8 : 8 ≤ h + 5) (hh : h < 8) (hk : 11 ≤ k) : ∃ k', k = k' + (h - 3) ∧ mosaicref29_Unbase32.l0 (k + 2) a out (b : Int) (h : Int) (i : Int) =
    mosaicref29_Unbase32.l0 k' a (out ++ [(((b * 32 + v) / 2 ^ (h - 3) % 256 : Nat) : Int)]) (((b * 32 + v) % 2 ^ (h - 3) : Nat) : Int) ((h - 3 : Nat) : Int) ((i + 1 : Nat) : Int) := by
  have hc := (a[i]).toNat_lt
  obtain ⟨k', g1, g2⟩ := l1_pow a out (b * 32 + v) (h - 3) i (by omega) (by omega) (by omega) 0 (by omega) (k + 1) (by omega)
  rw [w64 (n := (i : Int) + 1) (by omega)] at g2
  refine ⟨k', by omega, ?_⟩
  rw [mosaicref29_Unbase32.l0]
  rw [if_pos (by omega), if_pos (by omega), bt_nat a i hlt, number_eq _ (k + 1) hc (by omega), Option.bind_some, hv, if_neg (by omega), Option.bind_some, w64 (n := (h : Int) + 5) (by omega), if_pos (by omega), w64 (n := (h : Int) + 5 - 8) (by omega), w64 (n := 32 * (b : Int)) (by omega), w64 (n := 32 * (b : Int) + v) (by omega)]
  rw [show 32 * (b : Int) + v = ((b * 32 + v : Nat) : Int) by omega, show (h : Int) + 5 - 8 = ((h - 3 : Nat) : Int) by omega]
  exact g2
end

theorem loops (a : ByteArray) (ha : a.size ≤ 1000) (m : Nat) : ∀ (out : List Int) (b h i k1 k2 : Nat), a.size = i + m → h < 8 → b < 2 ^ h → out.length ≤ i → m + 1 ≤ k1 → 14 * a.size + 40 + 12 * m ≤ k2 →
    ∃ r, link_Unbase32.l0 k1 a out (b : Int) (h : Int) (a.size : Int) (i : Int) = some r ∧ mosaicref29_Unbase32.l0 k2 a out (b : Int) (h : Int) (i : Int) = some r := by
  induction m with
  | zero =>
    intro out b h i k1 k2 hi hh hb ho h1 h2
    obtain ⟨k1, rfl, _⟩ := succ_of (m := 0) (by omega : 0 + 1 ≤ k1)
    obtain ⟨k2, rfl, _⟩ := succ_of (m := 0) (by omega : 0 + 1 ≤ k2)
    have hz := lenS out
    simp only [link_Unbase32.l0, mosaicref29_Unbase32.l0]
    rw [if_neg (by omega), if_neg (by omega), refBase32_eq (strOfNums out) k2 (by omega) (by omega), link_Base32.f, if_pos (by omega)]
    simp only [Option.bind_some]
    split <;> exact ⟨_, rfl, rfl⟩
  | succ m ih =>
    intro out b h i k1 k2 hi hh hb ho h1 h2
    obtain ⟨k1, rfl, hk1⟩ := succ_of (m := m + 1) (by omega : m + 1 + 1 ≤ k1)
    obtain ⟨k2, rfl⟩ : ∃ k', k2 = k' + 2 := ⟨k2 - 2, by omega⟩
    have hlt : i < a.size := by omega
    have hp : 2 ^ h ≤ 128 := Nat.pow_le_pow_right (n := 2) (by omega) (by omega : h ≤ 7)
    have hn := numP_le (a[i]).toNat
    by_cases hx : numP (a[i]).toNat = 32
    · exact ⟨_, link_err a out b h i k1 hlt hx, ref_err a out b h i k2 hlt hx⟩
    · obtain ⟨v, hv⟩ : ∃ v, numP (a[i]).toNat = v := ⟨_, rfl⟩
      have hv2 : v < 32 := by omega
      by_cases h8 : h + 5 < 8
      · rw [link_no a out b h i k1 hlt ha v hv hv2 (by omega) h8, ref_no a out b h i k2 hlt ha v hv hv2 (by omega) h8]
        exact ih _ _ _ _ k1 (k2 + 1) (by omega) (by omega) (by rw [Nat.pow_add]; generalize 2 ^ h = z at *; omega) (by omega) (by omega) (by omega)
      · obtain ⟨k3, g1, g2⟩ := ref_yes a out b h i k2 hlt ha (by omega) v hv hv2 (by omega) (by omega) hh (by omega)
        rw [link_yes a out b h i k1 hlt ha (by omega) v hv hv2 (by omega) (by omega) hh, g2]
        exact ih _ _ _ _ k1 k3 (by omega) (by omega) (Nat.mod_lt _ (Nat.two_pow_pos _)) (by simp; omega) (by omega) (by omega)

theorem unbase32_both (a : ByteArray) (ha : a.size ≤ 1000) (k1 k2 : Nat) (h1 : a.size + 1 ≤ k1) (h2 : 26 * a.size + 40 ≤ k2) : ∃ r, link_Unbase32.f k1 a = some r ∧ mosaicref29_Unbase32.f k2 a = some r := by
  unfold link_Unbase32.f mosaicref29_Unbase32.f
  exact loops a ha a.size [] 0 0 0 k1 k2 (by omega) (by omega) (by omega) (by simp) (by omega) (by omega)

open Go.Proofs.YtmimnlbkllgfpaaGreatDoor.Ex
def dig (c : Nat) : Nat := if 48 ≤ c ∧ c ≤ 57 then c - 48 else if 65 ≤ c ∧ c ≤ 70 then c - 55 else 16
theorem dig_le (c : Nat) : dig c ≤ 16 := by unfold dig; split <;> (try split) <;> omega
theorem digit_eq (c k : Nat) (hc : c < 256) : mosaicref29_digit.f (k + 1) (c : Int) = some (dig c : Int) := by
  unfold mosaicref29_digit.f
  simp only [mosaicref29_digit.j0]
  have : ∀ m : Fin 256, (if (m.1 : Int) ≥ 48 then (if decide ((m.1 : Int) ≤ 57) = true then some (((m.1 : Int) - 48) % 256) else if (m.1 : Int) ≥ 65 then (if (m.1 : Int) ≤ 70 then some (((m.1 : Int) - 55) % 256) else some 16) else some 16) else (if false = true then some (((m.1 : Int) - 48) % 256) else if (m.1 : Int) ≥ 65 then (if (m.1 : Int) ≤ 70 then some (((m.1 : Int) - 55) % 256) else some 16) else some 16)) = some (dig m.1 : Int) := by decide +kernel
  exact this ⟨c, hc⟩
theorem idx_eq (c : Nat) (hc : c < 256) : strings_IndexByte.f (⟨#[48, 49, 50, 51, 52, 53, 54, 55, 56, 57, 65, 66, 67, 68, 69, 70]⟩ : ByteArray) (c : Int) = some (if dig c = 16 then -1 else (dig c : Int)) := by
  have : ∀ m : Fin 256, Lib.indexByte [48, 49, 50, 51, 52, 53, 54, 55, 56, 57, 65, 66, 67, 68, 69, 70] m.1.toUInt8 = (if dig m.1 = 16 then -1 else (dig m.1 : Int)) := by decide +kernel
  unfold strings_IndexByte.f
  exact congrArg some (this ⟨c, hc⟩)

theorem or4 (x y : Nat) (hx : x < 16) (hy : y < 16) : Go.bits .or .i64 (wrap64 ((x : Int) * 16)) (y : Int) = ((x * 16 + y : Nat) : Int) := by
  have h := or8 x y 4 (by omega) (by omega) (by omega)
  rw [show (2 : Nat) ^ 4 = 16 from rfl] at h
  rw [w64 (by omega), show (x : Int) * 16 = ((x * 16 : Nat) : Int) by omega, h]

theorem sum16 (x y : Nat) (hx : x < 16) (_hy : y < 16) : ((16 * (x : Int)) % 256 + (y : Int)) % 256 = ((x * 16 + y : Nat) : Int) % 256 := by
  have h1 : (16 * (x : Int)) % 256 = 16 * (x : Int) := Int.emod_eq_of_lt (by omega) (by omega)
  have h2 : 16 * (x : Int) + (y : Int) = ((x * 16 + y : Nat) : Int) := by omega
  rw [h1, h2]

theorem un_fin {α : Type} (x y : Nat) (hx : x ≤ 16) (hy : y ≤ 16) (e0 : α) (l r : Option α) (F G : Int → Option α)
    (L : l = if (if x = 16 then (-1 : Int) else (x : Int)) < 0 then some e0 else if (if y = 16 then (-1 : Int) else (y : Int)) < 0 then some e0 else F ((Go.bits .or .i64 (wrap64 ((if x = 16 then (-1 : Int) else (x : Int)) * 16)) (if y = 16 then (-1 : Int) else (y : Int))) % 256))
    (R : r = if (x : Int) = 16 then some e0 else if ((y : Int) == 16) = true then some e0 else G ((((16 * (x : Int)) % 256) + (y : Int)) % 256))
    (H : ∀ z : Int, ∃ q, F z = some q ∧ G z = some q) : ∃ q, l = some q ∧ r = some q := by
  rw [L, R]
  clear L R
  by_cases hx1 : x = 16
  · subst hx1
    exact ⟨e0, by simp, by simp⟩
  · by_cases hy1 : y = 16
    · subst hy1
      have hx2 : ¬ (x : Int) = 16 := by omega
      have hx3 : ¬ (x : Int) < 0 := by omega
      refine ⟨e0, ?_, ?_⟩
      · rw [if_neg hx1, if_neg hx3]; simp
      · rw [if_neg hx2]; simp
    · have hx2 : ¬ (x : Int) = 16 := by omega
      have hx3 : ¬ (x : Int) < 0 := by omega
      have hy2 : ¬ ((y : Int) == 16) = true := by rw [beq_iff_eq]; omega
      have hy3 : ¬ (y : Int) < 0 := by omega
      rw [if_neg hx1, if_neg hy1, if_neg hx3, if_neg hy3, if_neg hx2, if_neg hy2, or4 x y (by omega) (by omega), sum16 x y (by omega) (by omega)]
      exact H _

set_option maxHeartbeats 2000000 in
theorem un_loops (a : ByteArray) (ha : a.size ≤ 1000) (m : Nat) : ∀ (out : List Int) (i k1 k2 : Nat), a.size ≤ i + m → out.length ≤ i → i ≤ a.size → m + 1 ≤ k1 → a.size + 10 + 3 * m ≤ k2 →
    ∃ r, link_Unescape.l0 k1 a out (i : Int) = some r ∧ mosaicref29_Unescape.l0 k2 a out (i : Int) = some r := by
  induction m with
  | zero =>
    intro out i k1 k2 hi ho hi2 h1 h2
    obtain ⟨k1, rfl, _⟩ := succ_of (m := 0) (by omega : 0 + 1 ≤ k1)
    obtain ⟨k2, rfl, _⟩ := succ_of (m := 0) (by omega : 0 + 1 ≤ k2)
    have hz := lenS out
    simp only [link_Unescape.l0, mosaicref29_Unescape.l0]
    rw [if_neg (by omega), if_neg (by omega), refEscape_eq (strOfNums out) k2 (by omega) (by omega), link_Escape.f, if_pos (show (strOfNums out).size ≤ 100000 by omega)]
    simp only [Option.bind_some]
    split <;> exact ⟨_, rfl, rfl⟩
  | succ m ih =>
    intro out i k1 k2 hi ho hi2 h1 h2
    obtain ⟨k1, rfl, hk1⟩ := succ_of (m := m + 1) (by omega : m + 1 + 1 ≤ k1)
    obtain ⟨k2, rfl⟩ : ∃ k', k2 = k' + 3 := ⟨k2 - 3, by omega⟩
    rcases Nat.lt_or_ge i a.size with hlt | hge
    · have hc := (a[i]).toNat_lt
      by_cases h37 : (bt a (i : Int)) = 37
      · by_cases hend : a.size ≤ i + 2
        · refine ⟨(⟨#[]⟩, 3), ?_, ?_⟩
          · simp only [link_Unescape.l0]
            rw [if_pos (by omega), if_pos (by omega), if_pos h37, w64 (n := (i : Int) + 2) (by omega), if_pos (by omega)]
          · simp only [mosaicref29_Unescape.l0]
            rw [if_pos (by omega), if_pos (by omega), if_pos h37, w64 (n := (i : Int) + 2) (by omega), if_pos (by omega)]
            simp only [mosaicref29_Unescape.j1, if_true]
        · have l1 : i + 1 < a.size := by omega
          have l2 : i + 2 < a.size := by omega
          have c1 := (a[i + 1]).toNat_lt
          have c2 := (a[i + 2]).toNat_lt
          have b1 : bt a ((i : Int) + 1) = ((a[i + 1]).toNat : Int) := bt_nat a (i + 1) l1
          have b2 : bt a ((i : Int) + 2) = ((a[i + 2]).toNat : Int) := bt_nat a (i + 2) l2
          have d1 := dig_le (a[i + 1]).toNat
          have d2 := dig_le (a[i + 2]).toNat
          have L : link_Unescape.l0 (k1 + 1) a out (i : Int) = if (if dig (a[i + 1]).toNat = 16 then (-1 : Int) else (dig (a[i + 1]).toNat : Int)) < 0 then some (⟨#[]⟩, 3) else if (if dig (a[i + 2]).toNat = 16 then (-1 : Int) else (dig (a[i + 2]).toNat : Int)) < 0 then some (⟨#[]⟩, 3) else link_Unescape.l0 k1 a (out ++ [(Go.bits .or .i64 (wrap64 ((if dig (a[i + 1]).toNat = 16 then (-1 : Int) else (dig (a[i + 1]).toNat : Int)) * 16)) (if dig (a[i + 2]).toNat = 16 then (-1 : Int) else (dig (a[i + 2]).toNat : Int))) % 256]) ((i + 3 : Nat) : Int) := by
            rw [link_Unescape.l0, if_pos (by omega), if_pos (by omega), if_pos h37, w64 (n := (i : Int) + 2) (by omega), if_neg (by omega), w64 (n := (i : Int) + 1) (by omega), if_pos (by omega), if_pos (by omega), b1, idx_eq _ c1, Option.bind_some, if_pos (by omega), if_pos (by omega), b2, idx_eq _ c2, Option.bind_some, w64 (n := (i : Int) + 2 + 1) (by omega), if_pos (show out.length < 140737488355328 by omega)]
            rfl
          have R : mosaicref29_Unescape.l0 (k2 + 3) a out (i : Int) = if (dig (a[i + 1]).toNat : Int) = 16 then some (⟨#[]⟩, 3) else if ((dig (a[i + 2]).toNat : Int) == 16) = true then some (⟨#[]⟩, 3) else mosaicref29_Unescape.l0 (k2 + 1) a (out ++ [(((16 * (dig (a[i + 1]).toNat : Int)) % 256) + (dig (a[i + 2]).toNat : Int)) % 256]) ((i + 3 : Nat) : Int) := by
            rw [mosaicref29_Unescape.l0, if_pos (by omega), if_pos (by omega), if_pos h37, w64 (n := (i : Int) + 2) (by omega), if_neg (by omega), w64 (n := (i : Int) + 1) (by omega), if_pos (by omega), if_pos (by omega), b1, digit_eq _ _ c1, Option.bind_some, if_pos (show (0 : Int) ≤ (i : Int) + 2 by omega), if_pos (show (i : Int) + 2 < a.size by omega), b2, digit_eq _ _ c2, Option.bind_some]
            simp only [mosaicref29_Unescape.j1, if_true]
            rw [w64 (n := (i : Int) + 2) (by omega), w64 (n := (i : Int) + 1) (by omega), if_pos (show (0 : Int) ≤ (i : Int) + 1 by omega), if_pos (show (i : Int) + 1 < a.size by omega), b1, digit_eq _ _ c1, Option.bind_some, if_pos (show (0 : Int) ≤ (i : Int) + 2 by omega), if_pos (show (i : Int) + 2 < a.size by omega), b2, digit_eq _ _ c2, Option.bind_some, if_pos (show out.length < 140737488355328 by omega), w64 (n := (i : Int) + 3) (by omega)]
            rfl
          exact un_fin _ _ d1 d2 _ _ _ (fun z => link_Unescape.l0 k1 a (out ++ [z]) ((i + 3 : Nat) : Int)) (fun z => mosaicref29_Unescape.l0 (k2 + 1) a (out ++ [z]) ((i + 3 : Nat) : Int)) L R (fun z => ih (out ++ [z]) (i + 3) k1 (k2 + 1) (by omega) (by rw [List.length_append, List.length_singleton]; omega) (by omega) (by omega) (by omega))
      · have e5 : wrap64 ((i : Int) + 1) = ((i + 1 : Nat) : Int) := by rw [w64 (by omega)]; omega
        rw [link_Unescape.l0, if_pos (by omega), if_pos (by omega), if_neg h37, if_pos (by omega), e5]
        rw [mosaicref29_Unescape.l0, if_pos (by omega), if_pos (by omega), if_neg h37, if_pos (by omega), e5]
        exact ih _ _ k1 (k2 + 2) (by omega) (by simp; omega) (by omega) (by omega) (by omega)
    · exact ih out i (k1 + 1) (k2 + 3) (by omega) ho hi2 (by omega) (by omega)

theorem unescape_both (a : ByteArray) (ha : a.size ≤ 1000) (k : Nat) (hk : 5000 ≤ k) : ∃ r, link_Unescape.f k a = some r ∧ mosaicref29_Unescape.f k a = some r := by
  unfold link_Unescape.f mosaicref29_Unescape.f
  exact un_loops a ha a.size [] 0 k k (by omega) (by simp) (by omega) (by omega) (by omega)

end Go.Proofs.YtmimnlbkllgfpaaGreatDoor.Bq
/- Base 32 and escaping, undone: in plain words, of the printed functions. -/
namespace Go.Proofs.YtmimnlbkllgfpaaGreatDoor.Bq
open Go.RowKit Go.Proofs.YtmimnlbkllgfpaaGreatDoor.A Go.Proofs.YtmimnlbkllgfpaaGreatDoor.Bp Go.Proofs.YtmimnlbkllgfpaaGreatDoor.Ex Go.Proofs.YtmimnlbkllgfpaaGreatDoor.Hand Go.Proofs.YtmimnlbkllgfpaaGreatDoorW.PrintWords Go.Proofs.YtmimnlbkllgfpaaGreatDoorW.PrintLast Go.Proofs.YtmimnlbkllgfpaaGreatDoorW.PrintMore

theorem szA (l : List UInt8) : (⟨l.toArray⟩ : ByteArray).size = l.length := by show l.toArray.size = _; simp
theorem arr_of (s : ByteArray) : (⟨s.data.toList.toArray⟩ : ByteArray) = s := by
  apply ByteArray.ext; simp
theorem numP_letB (v : Nat) (h : v < 32) : numP (letB v).toNat = v := by
  have : ∀ m : Fin 32, numP (letB m.1).toNat = m.1 := by decide +kernel
  exact this ⟨v, h⟩
theorem at_arr (l : List UInt8) (i : Nat) (h : i < (⟨l.toArray⟩ : ByteArray).size) : l[i]? = some ((⟨l.toArray⟩ : ByteArray)[i]) := by
  have := get_nat ⟨l.toArray⟩ i h
  rw [← this]
theorem numL_snoc (l : List UInt8) (i : Nat) (c : UInt8) (h : l[i]? = some c) : numL (l.take i) ++ [((c.toNat : Nat) : Int)] = numL (l.take (i + 1)) := by
  rw [List.take_add_one, h]; simp [numL]
theorem div_of {x z y : Nat} (h : y < z) : (x * z + y) / z = x := by
  rw [Nat.mul_comm, Nat.mul_add_div (by omega), Nat.div_eq_of_lt h, Nat.add_zero]
theorem mod_of {x z y : Nat} (h : y < z) : (x * z + y) % z = y := by
  rw [Nat.mul_comm, Nat.mul_add_mod, Nat.mod_eq_of_lt h]
theorem unb_loop (s : ByteArray) (hs : s.size ≤ 500) (m : Nat) : ∀ (i k : Nat), (b32 s).size = i + m → m + 1 ≤ k →
    link_Unbase32.l0 k (b32 s) (numL (s.data.toList.take (5 * i / 8))) ((bv s.data.toList (8 * (5 * i / 8)) (5 * i % 8) : Nat) : Int) ((5 * i % 8 : Nat) : Int) ((b32 s).size : Int) (i : Int) = some (s, 0) := by
  have hT : (b32 s).size = (8 * s.size + 4) / 5 := by unfold b32; rw [szA, encN_length]
  have hlen : s.data.toList.length = s.size := Array.length_toList
  induction m with
  | zero =>
    intro i k hi hk
    obtain ⟨k, rfl, _⟩ := succ_of (m := 0) (by omega : 0 + 1 ≤ k)
    have e : 5 * i / 8 = s.size := by omega
    rw [link_Unbase32.l0, if_neg (by omega), e, List.take_of_length_le (by omega), strOf_numL, arr_of, link_Base32.f, if_pos (by omega), Option.bind_some, if_pos rfl]
  | succ m ih =>
    intro i k hi hk
    obtain ⟨k, rfl, hk1⟩ := succ_of (m := m + 1) (by omega : m + 1 + 1 ≤ k)
    have hlt : i < (b32 s).size := by omega
    have hv2 := bv_lt s.data.toList (5 * i) 5
    have hv : numP ((b32 s)[i]).toNat = bv s.data.toList (5 * i) 5 := by
      have h1 := at_arr (encN s.data.toList ((8 * s.size + 4) / 5)) i hlt
      have h2 : (encN s.data.toList ((8 * s.size + 4) / 5))[i]? = some (letB (bv s.data.toList (5 * i) 5)) := by
        unfold encN
        rw [List.getElem?_map, List.getElem?_range (by omega)]; rfl
      have h3 : (b32 s)[i] = letB (bv s.data.toList (5 * i) 5) := Option.some.inj (h1.symm.trans h2)
      rw [h3]
      exact numP_letB _ hv2
    have hb := bv_lt s.data.toList (8 * (5 * i / 8)) (5 * i % 8)
    have hp : 2 ^ (5 * i % 8) ≤ 128 := Nat.pow_le_pow_right (n := 2) (by omega) (by omega : 5 * i % 8 ≤ 7)
    have hadd := bv_add s.data.toList (8 * (5 * i / 8)) (5 * i % 8) 5
    rw [show 8 * (5 * i / 8) + 5 * i % 8 = 5 * i by omega, show (2 : Nat) ^ 5 = 32 from rfl] at hadd
    have hr := ih (i + 1) k (by omega) (by omega)
    by_cases h8 : 5 * i % 8 + 5 < 8
    · rw [link_no _ _ _ _ i k hlt (by omega) _ hv hv2 (by omega) h8, ← hadd]
      rw [show 5 * (i + 1) / 8 = 5 * i / 8 by omega, show 5 * (i + 1) % 8 = 5 * i % 8 + 5 by omega] at hr
      exact hr
    · have ho : (numL (s.data.toList.take (5 * i / 8))).length ≤ 1000 := by rw [numL_length, List.length_take]; omega
      rw [link_yes _ _ _ _ i k hlt (by omega) ho _ hv hv2 (by omega) (by omega) (by omega), ← hadd]
      have hsp := bv_add s.data.toList (8 * (5 * i / 8)) 8 (5 * i % 8 - 3)
      rw [show 8 + (5 * i % 8 - 3) = 5 * i % 8 + 5 by omega] at hsp
      have hlo := bv_lt s.data.toList (8 * (5 * i / 8) + 8) (5 * i % 8 - 3)
      have hby := bv_lt s.data.toList (8 * (5 * i / 8)) 8
      have hq : 5 * i / 8 < s.data.toList.length := by omega
      have hc := bv_byte s.data.toList (5 * i / 8) _ (List.getElem?_eq_getElem hq)
      rw [hsp, div_of hlo, mod_of hlo, Nat.mod_eq_of_lt hby, hc, numL_snoc _ _ _ (List.getElem?_eq_getElem hq)]
      rw [show 5 * (i + 1) / 8 = 5 * i / 8 + 1 by omega, show 5 * (i + 1) % 8 = 5 * i % 8 - 3 by omega, show 8 * (5 * i / 8 + 1) = 8 * (5 * i / 8) + 8 by omega] at hr
      exact hr
/-- What is written in base 32 is read as it was. -/
theorem unb (s : ByteArray) (hs : s.size ≤ 500) (k : Nat) (hk : 1000 ≤ k) : link_Unbase32.f k (b32 s) = some (s, 0) := by
  have hT : (b32 s).size = (8 * s.size + 4) / 5 := by unfold b32; rw [szA, encN_length]
  have := unb_loop s hs (b32 s).size 0 k (by omega) (by omega)
  unfold link_Unbase32.f
  exact this
theorem unb_ref (s : ByteArray) (hs : s.size ≤ 500) (k : Nat) (hk : 27000 ≤ k) : mosaicref29_Unbase32.f k (b32 s) = some (s, 0) := by
  have hT : (b32 s).size = (8 * s.size + 4) / 5 := by unfold b32; rw [szA, encN_length]
  obtain ⟨r, h1, h2⟩ := unbase32_both (b32 s) (by omega) 2000 k (by omega) (by omega)
  rw [unb s hs 2000 (by omega)] at h1
  rw [h2, ← h1]

theorem dig_hexB (v : Nat) (h : v < 16) : dig (hexB v).toNat = v := by
  have : ∀ m : Fin 16, dig (hexB m.1).toNat = m.1 := by decide +kernel
  exact this ⟨v, h⟩
theorem esc1_one (b : UInt8) (h : plainB b.toNat = true) : esc1 b = [b] ∧ b.toNat ≠ 37 := by
  refine ⟨by unfold esc1; rw [if_pos h], fun e => ?_⟩
  rw [e] at h
  exact absurd h (by decide)
theorem escL_drop (l : List UInt8) (j : Nat) (c : UInt8) (h : l[j]? = some c) : escL (l.drop j) = esc1 c ++ escL (l.drop (j + 1)) := by
  have hj : j < l.length := (List.getElem?_eq_some_iff.mp h).1
  rw [List.drop_eq_getElem_cons hj]
  have : l[j] = c := by rw [List.getElem?_eq_getElem hj] at h; exact Option.some.inj h
  rw [this]; rfl
theorem escL_split (l : List UInt8) (j : Nat) : escL l = escL (l.take j) ++ escL (l.drop j) := by
  unfold escL
  rw [← List.flatMap_append, List.take_append_drop]
theorem une_loop (s : ByteArray) (hs : s.size ≤ 500) (m : Nat) : ∀ (j k : Nat), s.size = j + m → m + 1 ≤ k →
    link_Unescape.l0 k (escB s) (numL (s.data.toList.take j)) (((escL (s.data.toList.take j)).length : Nat) : Int) = some (s, 0) := by
  have hlen : s.data.toList.length = s.size := Array.length_toList
  have hT : (escB s).size = (escL s.data.toList).length := by unfold escB; rw [szA]
  have hT2 := escL_length s.data.toList
  induction m with
  | zero =>
    intro j k hj hk
    obtain ⟨k, rfl, _⟩ := succ_of (m := 0) (by omega : 0 + 1 ≤ k)
    rw [List.take_of_length_le (by omega), link_Unescape.l0, if_neg (by omega), strOf_numL, arr_of, link_Escape.f, if_pos (by omega), Option.bind_some, if_pos rfl]
  | succ m ih =>
    intro j k hj hk
    obtain ⟨k, rfl, hk1⟩ := succ_of (m := m + 1) (by omega : m + 1 + 1 ≤ k)
    have hjl : j < s.data.toList.length := by omega
    obtain ⟨c, hc⟩ : ∃ c, s.data.toList[j]? = some c := ⟨_, List.getElem?_eq_getElem hjl⟩
    have hc2 := c.toNat_lt
    have hsplit := escL_split s.data.toList j
    rw [escL_drop _ j c hc] at hsplit
    have hnext := escL_take s.data.toList j c hc
    have hr := ih (j + 1) k (by omega) (by omega)
    rw [hnext, List.length_append, ← numL_snoc _ _ _ hc] at hr
    have hol : (numL (s.data.toList.take j)).length ≤ 500 := by rw [numL_length, List.length_take]; omega
    generalize hp : (escL (s.data.toList.take j)).length = p at hr ⊢
    generalize numL (s.data.toList.take j) = out at hr hol ⊢
    have hlt : p + (esc1 c).length + (escL (s.data.toList.drop (j + 1))).length = (escB s).size := by
      rw [hT, hsplit, List.length_append, List.length_append, hp]; omega
    have hat : ∀ d, d < (esc1 c).length → (escL s.data.toList)[p + d]? = (esc1 c)[d]? := fun d hd => by
      rw [hsplit, List.getElem?_append_right (by omega), hp, Nat.add_sub_cancel_left, List.getElem?_append_left hd]
    have hb : ∀ d x, (esc1 c)[d]? = some x → bt (escB s) ((p + d : Nat) : Int) = (x.toNat : Int) := fun d x hx => by
      have hd : d < (esc1 c).length := (List.getElem?_eq_some_iff.mp hx).1
      have h1 := at_arr (escL s.data.toList) (p + d) (by rw [szA]; rw [← hT]; omega)
      rw [hat d hd, hx] at h1
      rw [bt_nat (escB s) (p + d) (by omega)]
      have : x = (escB s)[p + d] := Option.some.inj h1
      rw [this]
    have zT : (escB s).size ≤ 1500 := by omega
    by_cases hpl : plainB c.toNat = true
    · obtain ⟨he, h37⟩ := esc1_one c hpl
      rw [he] at hb hlt hr
      have b0 : bt (escB s) (p : Int) = (c.toNat : Int) := hb 0 c rfl
      simp only [List.length_cons, List.length_nil] at hlt hr
      rw [link_Unescape.l0, if_pos (by omega), if_pos (by omega), if_neg (by rw [b0]; omega), if_pos (by omega), b0, w64 (n := (p : Int) + 1) (by omega)]
      exact hr
    · have he : esc1 c = [37, hexB (c.toNat / 16), hexB (c.toNat % 16)] := by unfold esc1; rw [if_neg hpl]
      rw [he] at hb hlt hr
      have b0 : bt (escB s) (p : Int) = 37 := hb 0 37 rfl
      have b1 : bt (escB s) ((p : Int) + 1) = ((hexB (c.toNat / 16)).toNat : Int) := hb 1 _ rfl
      have b2 : bt (escB s) ((p : Int) + 2) = ((hexB (c.toNat % 16)).toNat : Int) := hb 2 _ rfl
      have d1 := dig_hexB (c.toNat / 16) (by omega)
      have d2 := dig_hexB (c.toNat % 16) (by omega)
      have c1 := (hexB (c.toNat / 16)).toNat_lt
      have c2 := (hexB (c.toNat % 16)).toNat_lt
      simp only [List.length_cons, List.length_nil] at hlt hr
      have n1 : ¬ c.toNat / 16 = 16 := by omega
      have n2 : ¬ c.toNat % 16 = 16 := by omega
      rw [link_Unescape.l0, if_pos (by omega), if_pos (by omega), if_pos b0, w64 (n := (p : Int) + 2) (by omega), if_neg (by omega), w64 (n := (p : Int) + 1) (by omega), if_pos (by omega), if_pos (by omega), b1, idx_eq _ c1, Option.bind_some, if_pos (by omega), if_pos (by omega), b2, idx_eq _ c2, Option.bind_some, d1, d2, if_neg n1, if_neg n2, if_neg (by omega), if_neg (by omega), or4 _ _ (by omega) (by omega), w64 (n := (p : Int) + 2 + 1) (by omega), if_pos (show out.length < 140737488355328 by omega)]
      have ev : ((c.toNat / 16 * 16 + c.toNat % 16 : Nat) : Int) % 256 = (c.toNat : Int) := by omega
      rw [ev]
      exact hr
/-- What is escaped is read as it was. -/
theorem une (s : ByteArray) (hs : s.size ≤ 500) (k : Nat) (hk : 1000 ≤ k) : link_Unescape.f k (escB s) = some (s, 0) := by
  have := une_loop s hs s.size 0 k (by omega) (by omega)
  unfold link_Unescape.f
  exact this
theorem une_ref (s : ByteArray) (hs : s.size ≤ 300) (k : Nat) (hk : 5000 ≤ k) : mosaicref29_Unescape.f k (escB s) = some (s, 0) := by
  have hT : (escB s).size = (escL s.data.toList).length := by unfold escB; rw [szA]
  have hT2 := escL_length s.data.toList
  have hlen : s.data.toList.length = s.size := Array.length_toList
  obtain ⟨r, h1, h2⟩ := unescape_both (escB s) (by omega) k hk
  rw [une s (by omega) k (by omega)] at h1
  rw [h2, ← h1]
end Go.Proofs.YtmimnlbkllgfpaaGreatDoor.Bq
/- Decimal numerals, read: by the program's library and by the document. -/
namespace Go.Proofs.YtmimnlbkllgfpaaGreatDoor.Rl
open Go.RowKit Go.Proofs.YtmimnlbkllgfpaaGreatDoor.A Go.Proofs.YtmimnlbkllgfpaaGreatDoor.Hand Go.Proofs.YtmimnlbkllgfpaaGreatDoor.Bq Go.Proofs.YtmimnlbkllgfpaaGreatDoorW.PrintWords Go.Proofs.YtmimnlbkllgfpaaGreatDoorW.PrintLast Go.Proofs.YtmimnlbkllgfpaaGreatDoorW.PrintMore

/-- A digit's byte. -/
def Dg (b : UInt8) : Prop := 48 ≤ b.toNat ∧ b.toNat ≤ 57
/-- What digits say behind a number. -/
def val (acc : Nat) (l : List UInt8) : Nat := l.foldl (fun a b => 10 * a + (b.toNat - 48)) acc
theorem val_nil (acc : Nat) : val acc [] = acc := by unfold val; rw [List.foldl_nil]
theorem val_cons (acc : Nat) (b : UInt8) (r : List UInt8) : val acc (b :: r) = val (10 * acc + (b.toNat - 48)) r := by unfold val; rw [List.foldl_cons]
theorem val_app (a b : List UInt8) (acc : Nat) : val acc (a ++ b) = val (val acc a) b := by unfold val; rw [List.foldl_append]
theorem val_ge : ∀ (l : List UInt8) (acc : Nat), acc ≤ val acc l
  | [], _ => by rw [val_nil]; exact Nat.le_refl _
  | x :: a, acc => by
    rw [val_cons]
    have := val_ge a (10 * acc + (x.toNat - 48))
    omega
theorem dg_byte (u : Nat) (h : u < 10) : Dg (UInt8.ofNat (48 + u)) ∧ (UInt8.ofNat (48 + u)).toNat = 48 + u := by
  have : (UInt8.ofNat (48 + u)).toNat = 48 + u := by rw [UInt8.toNat_ofNat']; omega
  exact ⟨by unfold Dg; omega, this⟩
theorem dd_dig (j : Nat) : ∀ u, u < 10 ^ (j + 1) → (∀ b ∈ Lib.decDigits u, Dg b) ∧ val 0 (Lib.decDigits u) = u ∧ Lib.decDigits u ≠ [] ∧ (Lib.decDigits u).length ≤ j + 1 := by
  induction j with
  | zero =>
    intro u h
    rw [Lib.decDigits, dif_pos (by omega)]
    obtain ⟨h1, h2⟩ := dg_byte u (by omega)
    refine ⟨fun b hb => by rw [List.mem_singleton.mp hb]; exact h1, ?_, by simp, by simp⟩
    rw [val_cons, val_nil, h2]; omega
  | succ j ih =>
    intro u h
    rw [Lib.decDigits]
    split
    · rename_i hu
      obtain ⟨h1, h2⟩ := dg_byte u hu
      refine ⟨fun b hb => by rw [List.mem_singleton.mp hb]; exact h1, ?_, by simp, by simp⟩
      rw [val_cons, val_nil, h2]; omega
    · obtain ⟨h1, h2, h3, h4⟩ := ih (u / 10) (by rw [Nat.pow_succ] at h; omega)
      obtain ⟨g1, g2⟩ := dg_byte (u % 10) (by omega)
      refine ⟨fun b hb => ?_, ?_, by simp, by simp; omega⟩
      · rcases List.mem_append.mp hb with hb | hb
        · exact h1 b hb
        · rw [List.mem_singleton.mp hb]; exact g1
      · rw [val_app, h2, val_cons, val_nil, g2]; omega
theorem decFrom_val : ∀ (l : List UInt8) (acc : Nat), (∀ b ∈ l, Dg b) → Lib.decFrom acc l = some (val acc l)
  | [], _, _ => by rw [val_nil]; rfl
  | b :: r, acc, h => by
    have hb := h b (by simp)
    unfold Dg at hb
    rw [Lib.decFrom, Lib.digitVal, if_pos hb]
    show Lib.decFrom (acc * 10 + (b.toNat - 48)) r = _
    rw [decFrom_val r _ (fun x hx => h x (by simp [hx])), val_cons, Nat.mul_comm]
/-- The numbers that a link has. -/
def Ok (v : Int) : Prop := -1048576 ≤ v ∧ v ≤ 1048576
theorem itoa_cases (v : Int) (h : Ok v) : ∃ l : List UInt8, (∀ b ∈ l, Dg b) ∧ l ≠ [] ∧ l.length ≤ 7 ∧ ((v < 0 ∧ Lib.itoa v = 45 :: l ∧ val 0 l = v.natAbs) ∨ (0 ≤ v ∧ Lib.itoa v = l ∧ val 0 l = v.natAbs)) := by
  unfold Ok at h
  obtain ⟨h1, h2, h3, h4⟩ := dd_dig 6 v.natAbs (by omega)
  refine ⟨_, h1, h3, h4, ?_⟩
  unfold Lib.itoa
  split
  · rename_i hv; exact Or.inl ⟨hv, rfl, h2⟩
  · rename_i hv
    have : v.toNat = v.natAbs := by omega
    rw [this]
    exact Or.inr ⟨by omega, rfl, h2⟩
theorem itoa_byte (v : Int) (h : Ok v) : ∀ b ∈ Lib.itoa v, b = 45 ∨ Dg b := by
  obtain ⟨l, hd, _, _, ⟨_, e, _⟩ | ⟨_, e, _⟩⟩ := itoa_cases v h
  · rw [e]; intro b hb
    rcases List.mem_cons.mp hb with rfl | hb
    · exact Or.inl rfl
    · exact Or.inr (hd b hb)
  · rw [e]; intro b hb; exact Or.inr (hd b hb)
theorem itoa_len (v : Int) (h : Ok v) : (Lib.itoa v).length ≤ 8 := by
  obtain ⟨l, hd, _, hl, ⟨_, e, _⟩ | ⟨_, e, _⟩⟩ := itoa_cases v h
  · rw [e]; simp; omega
  · rw [e]; omega
theorem not_in {v : Int} (h : Ok v) {c : UInt8} (h1 : c ≠ 45) (h2 : ¬ Dg c) : c ∉ Lib.itoa v := fun hc => by
  rcases itoa_byte v h c hc with h | h
  · exact h1 h
  · exact h2 h
/-- The library reads what it wrote. -/
theorem atoi_itoa (v : Int) (h : Ok v) : atoiO (Lib.itoa v) = some v := by
  unfold atoiO
  rw [Lib.atoiAll_short _ (by have := itoa_len v h; omega)]
  obtain ⟨l, hd, hne, hl, hc⟩ := itoa_cases v h
  have hN : Lib.decNat l = some (val 0 l) := by
    unfold Lib.decNat
    rw [if_neg (by simpa using hne), decFrom_val l 0 hd]
  rcases hc with ⟨hv, e, hval⟩ | ⟨hv, e, hval⟩
  · rw [e, Lib.atoi, if_pos (by rfl), hN, hval]
    show some (-(v.natAbs : Int)) = some v
    congr 1; omega
  · rw [e]
    cases l with
    | nil => exact absurd rfl hne
    | cons b r =>
      have hb := hd b (by simp)
      unfold Dg at hb
      have n1 : ¬ (b == 45) = true := by
        intro hh; have := eq_of_beq hh; subst this; exact absurd hb.1 (by decide)
      have n2 : ¬ (b == 43) = true := by
        intro hh; have := eq_of_beq hh; subst this; exact absurd hb.1 (by decide)
      rw [Lib.atoi, if_neg n1, if_neg n2, hN, hval]
      show some (v.natAbs : Int) = some v
      congr 1; omega
end Go.Proofs.YtmimnlbkllgfpaaGreatDoor.Rl
