/- Base 32 read: the program's loop and the reference's come to the same, from any state that they share. -/
import Derived.Test.YtdccglkmkahblaaPx1
import Derived.Test.YtdccglkmkahblaaPx2
import Derived.Test.YtdccglkmkahblaaBq
namespace Go.Proofs.Ytdccglkmkahblaa.Bq
open Go.RowKit Go.Proofs.Ytdccglkmkahblaa.P Go.Proofs.Ytdccglkmkahblaa.Bp Go.Proofs.Ytdccglkmkahblaa.Hand Go.Proofs.YtdccglkmkahblaaW.PrintWords Go.Proofs.YtdccglkmkahblaaW.PrintLast Go.Proofs.YtdccglkmkahblaaW.PrintMore

def numP (c : Nat) : Nat := if 97 ≤ c ∧ c ≤ 122 then c - 97 else if 50 ≤ c ∧ c ≤ 55 then c - 24 else 32
theorem number_eq (c k : Nat) (hc : c < 256) (hk : 1 ≤ k) : mosaicref29_number.f k (c : Int) = some (numP c : Int) := by
  obtain ⟨k, rfl, _⟩ := succ_of (m := 0) (by omega : 0 + 1 ≤ k)
  unfold mosaicref29_number.f
  simp only [mosaicref29_number.j0, w64 (n := (c : Int)) (by omega), w64 (n := (c : Int) - 97) (by omega), w64 (n := (c : Int) - 24) (by omega)]
  have : ∀ m : Fin 256, (if ((m.1 : Int)) ≥ 97 then (if decide ((m.1 : Int) ≤ 122) = true then some ((m.1 : Int) - 97) else if (m.1 : Int) ≥ 50 then (if (m.1 : Int) ≤ 55 then some ((m.1 : Int) - 24) else some 32) else some 32) else (if false = true then some ((m.1 : Int) - 97) else if (m.1 : Int) ≥ 50 then (if (m.1 : Int) ≤ 55 then some ((m.1 : Int) - 24) else some 32) else some 32)) = some (numP m.1 : Int) := by decide +kernel
  exact this ⟨c, hc⟩

theorem index_eq (c : Nat) (hc : c < 256) : strings_IndexByte.f (⟨#[97, 98, 99, 100, 101, 102, 103, 104, 105, 106, 107, 108, 109, 110, 111, 112, 113, 114, 115, 116, 117, 118, 119, 120, 121, 122, 50, 51, 52, 53, 54, 55]⟩ : ByteArray) (c : Int) = some (if numP c = 32 then -1 else (numP c : Int)) := by
  have : ∀ m : Fin 256, Lib.indexByte [97, 98, 99, 100, 101, 102, 103, 104, 105, 106, 107, 108, 109, 110, 111, 112, 113, 114, 115, 116, 117, 118, 119, 120, 121, 122, 50, 51, 52, 53, 54, 55] m.1.toUInt8 = (if numP m.1 = 32 then -1 else (numP m.1 : Int)) := by decide +kernel
  unfold strings_IndexByte.f
  exact congrArg some (this ⟨c, hc⟩)
theorem numP_le (c : Nat) : numP c ≤ 32 := by unfold numP; split <;> (try split) <;> omega

/-- The power that the reference reckons. -/
theorem l1_pow (a : ByteArray) (out : List Int) (b h i : Nat) (hh : h ≤ 8) (hb : b < 2 ^ 40) (ho : out.length < 1000000) (j : Nat) (hj : j ≤ h) :
    ∀ k, 10 - j ≤ k → ∃ k', k = k' + (h - j + 1) ∧ mosaicref29_Unbase32.l1 k a out (b : Int) (h : Int) (i : Int) ((2 ^ j : Nat) : Int) (j : Int) = mosaicref29_Unbase32.l0 k' a (out ++ [((b / 2 ^ h % 256 : Nat) : Int)]) ((b % 2 ^ h : Nat) : Int) (h : Int) (wrap64 ((i : Int) + 1)) := by
  induction hm : h - j generalizing j with
  | zero =>
    intro k hk
    have : j = h := by omega
    subst this
    obtain ⟨k, rfl, _⟩ := succ_of (m := 0) (by omega : 0 + 1 ≤ k)
    refine ⟨k, by omega, ?_⟩
    have hp := Nat.two_pow_pos j
    generalize 2 ^ j = z at *
    have hd : b / z ≤ b := Nat.div_le_self _ _
    have e1 : Int.tdiv (b : Int) (z : Int) = ((b / z : Nat) : Int) := by rw [Int.tdiv_eq_ediv_of_nonneg (by omega)]; exact (Int.natCast_ediv _ _).symm
    have e2 : Int.tmod (b : Int) (z : Int) = ((b % z : Nat) : Int) := by rw [Int.tmod_eq_emod_of_nonneg (by omega)]; exact (Int.natCast_emod _ _).symm
    simp only [mosaicref29_Unbase32.l1]
    rw [if_neg (by omega), if_neg (by omega), if_pos (by omega), e1, e2]
    generalize b / z = q at *
    generalize b % z = y at *
    rw [w64 (n := (q : Int)) (by omega)]
    rfl
  | succ m ih =>
    intro k hk
    obtain ⟨k, rfl, _⟩ := succ_of (m := 0) (by omega : 0 + 1 ≤ k)
    obtain ⟨k', h1, h2⟩ := ih (j + 1) (by omega) (by omega) k (by omega)
    refine ⟨k', by omega, ?_⟩
    have hp : 2 ^ j ≤ 256 := Nat.pow_le_pow_right (n := 2) (by omega) (by omega : j ≤ 8)
    have hp1 : 2 ^ (j + 1) = 2 * 2 ^ j := by rw [Nat.pow_succ]; omega
    rw [hp1] at h2
    generalize 2 ^ j = z at *
    simp only [mosaicref29_Unbase32.l1]
    rw [if_pos (by omega), w64 (n := 2 * (z : Int)) (by omega), w64 (n := (j : Int) + 1) (by omega), ← h2]
    rfl

theorem lenS (out : List Int) : (strOfNums out).size = out.length := by unfold strOfNums ByteArray.size; simp

theorem or5 (b v : Nat) (hb : b < 128) (hv : v < 32) : Go.bits .or .i64 (wrap64 ((b : Int) * 32)) (v : Int) = ((b * 32 + v : Nat) : Int) := by
  rw [w64 (by omega), show (b : Int) * 32 = ((b * 32 : Nat) : Int) by omega]
  exact or8 b v 5 hv (by omega) (by omega)

theorem shrN (X k : Nat) (hk : k ≤ 64) : shr .i64 (X : Int) (k : Int) = ((X / 2 ^ k : Nat) : Int) := by
  unfold shr
  rw [Int.toNat_natCast, Nat.min_eq_left (show k ≤ IntKind.i64.bits from hk), Int.natCast_ediv, Int.natCast_pow]; rfl
theorem maskN (X k : Nat) (hk : k ≤ 10) (hX : X < 9223372036854775808) : Go.bits .and .i64 (X : Int) (wrap64 (shl .i64 1 (k : Int) - 1)) = ((X % 2 ^ k : Nat) : Int) := by
  have hq : 2 ^ k ≤ 1024 := Nat.pow_le_pow_right (n := 2) (by omega) (by omega : k ≤ 10)
  have hq0 := Nat.two_pow_pos k
  have h1 : shl .i64 1 (k : Int) = ((2 ^ k : Nat) : Int) := by
    unfold shl
    rw [Int.toNat_natCast, Nat.min_eq_left (show k ≤ IntKind.i64.bits from Nat.le_trans hk (by decide)), Int.one_mul, show (2 : Int) ^ k = ((2 ^ k : Nat) : Int) by rw [Int.natCast_pow]; rfl, IntKind.wrap_i64]
    generalize 2 ^ k = z at *
    omega
  have h2 : wrap64 (((2 ^ k : Nat) : Int) - 1) = ((2 ^ k - 1 : Nat) : Int) := by
    generalize 2 ^ k = z at *
    rw [w64 (by omega)]; omega
  rw [h1, h2]
  exact andm X k hX (by omega)

section
variable (a : ByteArray) (out : List Int) (b h i k : Nat) (hlt : i < a.size)
theorem link_err (hx : numP (a[i]).toNat = 32) : link_Unbase32.l0 (k + 1) a out (b : Int) (h : Int) (a.size : Int) (i : Int) = some (⟨#[]⟩, 3) := by
  have hc := (a[i]).toNat_lt
  simp only [link_Unbase32.l0]
  rw [if_pos (by omega), if_pos (by omega), if_pos (by omega), bt_nat a i hlt, index_eq _ hc, Option.bind_some, if_pos hx, if_pos (by omega)]
theorem ref_err (hx : numP (a[i]).toNat = 32) : mosaicref29_Unbase32.l0 (k + 2) a out (b : Int) (h : Int) (i : Int) = some (⟨#[]⟩, 3) := by
  have hc := (a[i]).toNat_lt
  simp only [mosaicref29_Unbase32.l0]
  rw [if_pos (by omega), if_pos (by omega), bt_nat a i hlt, number_eq _ (k + 1) hc (by omega), Option.bind_some, if_pos (by rw [hx]; rfl)]

theorem link_no (hi : a.size ≤ 1000) (v : Nat) (hv : numP (a[i]).toNat = v) (hv2 : v < 32) (hb : b < 128) (h8 : h + 5 < 8) : link_Unbase32.l0 (k + 1) a out (b : Int) (h : Int) (a.size : Int) (i : Int) = link_Unbase32.l0 k a out ((b * 32 + v : Nat) : Int) ((h + 5 : Nat) : Int) (a.size : Int) ((i + 1 : Nat) : Int) := by
  have hv3 : ¬ v = 32 := by omega
  have hc := (a[i]).toNat_lt
  simp only [link_Unbase32.l0]
  rw [if_pos (by omega), if_pos (by omega), if_pos (by omega), bt_nat a i hlt, index_eq _ hc, Option.bind_some, hv, if_neg hv3, if_neg (by omega), or5 b v hb hv2, w64 (n := (h : Int) + 5) (by omega), if_neg (by omega), w64 (n := (i : Int) + 1) (by omega)]
  rfl
theorem ref_no (hi : a.size ≤ 1000) (v : Nat) (hv : numP (a[i]).toNat = v) (hv2 : v < 32) (hb : b < 128) (h8 : h + 5 < 8) : mosaicref29_Unbase32.l0 (k + 2) a out (b : Int) (h : Int) (i : Int) = mosaicref29_Unbase32.l0 (k + 1) a out ((b * 32 + v : Nat) : Int) ((h + 5 : Nat) : Int) ((i + 1 : Nat) : Int) := by
  have hc := (a[i]).toNat_lt
  rw [mosaicref29_Unbase32.l0]
  rw [if_pos (by omega), if_pos (by omega), bt_nat a i hlt, number_eq _ (k + 1) hc (by omega), Option.bind_some, hv, if_neg (by omega), Option.bind_some, w64 (n := (h : Int) + 5) (by omega), if_neg (by omega), w64 (n := (i : Int) + 1) (by omega), w64 (n := 32 * (b : Int)) (by omega), w64 (n := 32 * (b : Int) + v) (by omega)]
  rw [show 32 * (b : Int) + v = ((b * 32 + v : Nat) : Int) by omega]
  rfl
theorem link_yes (hi : a.size ≤ 1000) (ho : out.length ≤ 1000) (v : Nat) (hv : numP (a[i]).toNat = v) (hv2 : v < 32) (hb : b < 128) (h8 : 8 ≤ h + 5) (hh : h < 8) : link_Unbase32.l0 (k + 1) a out (b : Int) (h : Int) (a.size : Int) (i : Int) =
    link_Unbase32.l0 k a (out ++ [(((b * 32 + v) / 2 ^ (h - 3) % 256 : Nat) : Int)]) (((b * 32 + v) % 2 ^ (h - 3) : Nat) : Int) ((h - 3 : Nat) : Int) (a.size : Int) ((i + 1 : Nat) : Int) := by
  have hv3 : ¬ v = 32 := by omega
  have hc := (a[i]).toNat_lt
  simp only [link_Unbase32.l0]
  rw [if_pos (by omega), if_pos (by omega), if_pos (by omega), bt_nat a i hlt, index_eq _ hc, Option.bind_some, hv, if_neg hv3, if_neg (by omega), or5 b v hb hv2, w64 (n := (h : Int) + 5) (by omega), if_pos (by omega), w64 (n := (h : Int) + 5 - 8) (by omega), if_pos (by omega), if_pos (by omega), w64 (n := (i : Int) + 1) (by omega), show (h : Int) + 5 - 8 = ((h - 3 : Nat) : Int) by omega]
  have hX : b * 32 + v < 4128 := by omega
  generalize b * 32 + v = X at *
  rw [shrN X (h - 3) (by omega), maskN X (h - 3) (by omega) (by omega), Int.natCast_emod]
  rfl
theorem ref_yes (hi : a.size ≤ 1000) (ho : out.length ≤ 1000) (v : Nat) (hv : numP (a[i]).toNat = v) (hv2 : v < 32) (hb : b < 128) (h8 : 8 ≤ h + 5) (hh : h < 8) (hk : 11 ≤ k) : ∃ k', k = k' + (h - 3) ∧ mosaicref29_Unbase32.l0 (k + 2) a out (b : Int) (h : Int) (i : Int) =
    mosaicref29_Unbase32.l0 k' a (out ++ [(((b * 32 + v) / 2 ^ (h - 3) % 256 : Nat) : Int)]) (((b * 32 + v) % 2 ^ (h - 3) : Nat) : Int) ((h - 3 : Nat) : Int) ((i + 1 : Nat) : Int) := by
  have hc := (a[i]).toNat_lt
  obtain ⟨k', g1, g2⟩ := l1_pow a out (b * 32 + v) (h - 3) i (by omega) (by omega) (by omega) 0 (by omega) (k + 1) (by omega)
  rw [w64 (n := (i : Int) + 1) (by omega)] at g2
  refine ⟨k', by omega, ?_⟩
  rw [mosaicref29_Unbase32.l0]
  rw [if_pos (by omega), if_pos (by omega), bt_nat a i hlt, number_eq _ (k + 1) hc (by omega), Option.bind_some, hv, if_neg (by omega), Option.bind_some, w64 (n := (h : Int) + 5) (by omega), if_pos (by omega), w64 (n := (h : Int) + 5 - 8) (by omega), w64 (n := 32 * (b : Int)) (by omega), w64 (n := 32 * (b : Int) + v) (by omega)]
  rw [show 32 * (b : Int) + v = ((b * 32 + v : Nat) : Int) by omega, show (h : Int) + 5 - 8 = ((h - 3 : Nat) : Int) by omega]
  exact g2
end

theorem loops (a : ByteArray) (ha : a.size ≤ 1000) (m : Nat) : ∀ (out : List Int) (b h i k1 k2 : Nat), a.size = i + m → h < 8 → b < 2 ^ h → out.length ≤ i → m + 1 ≤ k1 → 14 * a.size + 40 + 12 * m ≤ k2 →
    ∃ r, link_Unbase32.l0 k1 a out (b : Int) (h : Int) (a.size : Int) (i : Int) = some r ∧ mosaicref29_Unbase32.l0 k2 a out (b : Int) (h : Int) (i : Int) = some r := by
  induction m with
  | zero =>
    intro out b h i k1 k2 hi hh hb ho h1 h2
    obtain ⟨k1, rfl, _⟩ := succ_of (m := 0) (by omega : 0 + 1 ≤ k1)
    obtain ⟨k2, rfl, _⟩ := succ_of (m := 0) (by omega : 0 + 1 ≤ k2)
    have hz := lenS out
    simp only [link_Unbase32.l0, mosaicref29_Unbase32.l0]
    rw [if_neg (by omega), if_neg (by omega), refBase32_eq (strOfNums out) k2 (by omega) (by omega), link_Base32.f, if_pos (by omega)]
    simp only [Option.bind_some]
    split <;> exact ⟨_, rfl, rfl⟩
  | succ m ih =>
    intro out b h i k1 k2 hi hh hb ho h1 h2
    obtain ⟨k1, rfl, hk1⟩ := succ_of (m := m + 1) (by omega : m + 1 + 1 ≤ k1)
    obtain ⟨k2, rfl⟩ : ∃ k', k2 = k' + 2 := ⟨k2 - 2, by omega⟩
    have hlt : i < a.size := by omega
    have hp : 2 ^ h ≤ 128 := Nat.pow_le_pow_right (n := 2) (by omega) (by omega : h ≤ 7)
    have hn := numP_le (a[i]).toNat
    by_cases hx : numP (a[i]).toNat = 32
    · exact ⟨_, link_err a out b h i k1 hlt hx, ref_err a out b h i k2 hlt hx⟩
    · obtain ⟨v, hv⟩ : ∃ v, numP (a[i]).toNat = v := ⟨_, rfl⟩
      have hv2 : v < 32 := by omega
      by_cases h8 : h + 5 < 8
      · rw [link_no a out b h i k1 hlt ha v hv hv2 (by omega) h8, ref_no a out b h i k2 hlt ha v hv hv2 (by omega) h8]
        exact ih _ _ _ _ k1 (k2 + 1) (by omega) (by omega) (by rw [Nat.pow_add]; generalize 2 ^ h = z at *; omega) (by omega) (by omega) (by omega)
      · obtain ⟨k3, g1, g2⟩ := ref_yes a out b h i k2 hlt ha (by omega) v hv hv2 (by omega) (by omega) hh (by omega)
        rw [link_yes a out b h i k1 hlt ha (by omega) v hv hv2 (by omega) (by omega) hh, g2]
        exact ih _ _ _ _ k1 k3 (by omega) (by omega) (Nat.mod_lt _ (Nat.two_pow_pos _)) (by simp; omega) (by omega) (by omega)

theorem unbase32_both (a : ByteArray) (ha : a.size ≤ 1000) (k1 k2 : Nat) (h1 : a.size + 1 ≤ k1) (h2 : 26 * a.size + 40 ≤ k2) : ∃ r, link_Unbase32.f k1 a = some r ∧ mosaicref29_Unbase32.f k2 a = some r := by
  unfold link_Unbase32.f mosaicref29_Unbase32.f
  exact loops a ha a.size [] 0 0 0 k1 k2 (by omega) (by omega) (by omega) (by simp) (by omega) (by omega)

end Go.Proofs.Ytdccglkmkahblaa.Bq
