/- Sets of numbers, bit by bit (no program in sight but its printed functions). -/
import Derived.Test.YtbbncdbihiipcaaDoorHz
namespace Go.Proofs.YtbbncdbihiipcaaDoor.Th
open Go.RowKit Go.Proofs.YtbbncdbihiipcaaDoorW.PrintWords

/-- From some number of rounds on, the answer is this. -/
def Ev {α : Type} (F : Nat → Option α) (r : α) : Prop := ∃ n, ∀ k, n ≤ k → F k = some r
theorem Ev.const {α : Type} (r : α) : Ev (fun _ => some r) r := ⟨0, fun _ _ => rfl⟩
theorem Ev.of {α : Type} {F : Nat → Option α} {r : α} (h : ∀ k, F k = some r) : Ev F r := ⟨0, fun k _ => h k⟩
theorem Ev.step {α : Type} {F G : Nat → Option α} {r : α} (h : ∀ k, F (k + 1) = G k) (hG : Ev G r) : Ev F r := by
  obtain ⟨n, hn⟩ := hG
  refine ⟨n + 1, fun k hk => ?_⟩
  obtain ⟨j, rfl⟩ : ∃ j, k = j + 1 := ⟨k - 1, by omega⟩
  rw [h]; exact hn j (by omega)
theorem Ev.congr {α : Type} {F G : Nat → Option α} {r : α} (h : ∀ k, F k = G k) (hG : Ev G r) : Ev F r := by
  obtain ⟨n, hn⟩ := hG
  exact ⟨n, fun k hk => by rw [h]; exact hn k hk⟩
theorem Ev.bind {α β : Type} {F : Nat → Option α} {G : α → Nat → Option β} {a : α} {r : β} (hF : Ev F a) (hG : Ev (G a) r) : Ev (fun k => (F k).bind fun x => G x k) r := by
  obtain ⟨n, hn⟩ := hF
  obtain ⟨m, hm⟩ := hG
  refine ⟨max n m, fun k hk => ?_⟩
  show (F k).bind _ = _
  rw [hn k (by omega), Option.bind_some]; exact hm k (by omega)

/-- Is a number in a set? -/
def hb (s : ByteArray) (i : Nat) : Bool := (s.data.toList.getD (i / 8) 0).toNat.testBit (i % 8)
theorem w64 {n : Int} (h : -9223372036854775808 ≤ n ∧ n ≤ 9223372036854775807) : wrap64 n = n := by
  unfold wrap64; omega
theorem bit_u8 : ∀ (b : Fin 256) (m : Fin 8), (Go.bits .and .u8 (shr .u8 (b.val : Int) (m.val : Int)) 1 == 1) = b.val.testBit m.val := by decide +kernel
theorem bt_val (s : ByteArray) (j : Nat) : bt s (j : Int) = ((s.data.toList.getD j 0).toNat : Int) := by
  unfold bt
  rw [Int.toNat_natCast, List.getD_eq_getElem?_getD]
  split
  · next h =>
    rw [List.getElem?_eq_getElem (by rw [data_length]; exact h)]
    rfl
  · next h => rw [List.getElem?_eq_none (by rw [data_length]; omega)]; rfl
theorem div8 (i : Nat) : Int.tdiv (i : Int) 8 = ((i / 8 : Nat) : Int) := by rw [show (8 : Int) = ((8 : Nat) : Int) from rfl, ← Int.ofNat_tdiv]
theorem mod8 (i : Nat) : Int.tmod (i : Int) 8 = ((i % 8 : Nat) : Int) := by rw [show (8 : Int) = ((8 : Nat) : Int) from rfl, ← Int.ofNat_tmod]
theorem hb_out (s : ByteArray) (i : Nat) (h : s.size ≤ i / 8) : hb s i = false := by
  unfold hb
  rw [List.getD_eq_getElem?_getD, List.getElem?_eq_none (by rw [data_length]; exact h)]
  exact Nat.zero_testBit _
theorem hasB_hb (s : ByteArray) (i : Nat) (hi : i ≤ 1000000) : Bo.hasB s (i : Int) = hb s i := by
  have h1 := Bo.has_f s (i : Int) (by omega)
  unfold A.bits_Has.f at h1
  rw [if_pos (by omega), div8, mod8, w64 (by omega)] at h1
  by_cases hlt : i / 8 < s.size
  · rw [if_pos (by omega), if_pos (by omega), if_pos (by omega), bt_val] at h1
    have := bit_u8 ⟨_, (s.data.toList.getD (i / 8) 0).toNat_lt⟩ ⟨i % 8, by omega⟩
    simp only at this
    rw [this] at h1
    exact (Option.some.inj h1).symm
  · rw [if_neg (by omega)] at h1
    rw [hb_out s i (by omega)]
    exact (Option.some.inj h1).symm
theorem hasB_neg (s : ByteArray) (i : Int) (hi : i < 0) (h2 : -9223372036854775808 ≤ i) : Bo.hasB s i = false := by
  have h1 := Bo.has_f s i (by omega)
  unfold A.bits_Has.f at h1
  rw [if_neg (by omega)] at h1
  exact (Option.some.inj h1).symm
theorem hb_ext {a b : ByteArray} (hz : a.size = b.size) (h : ∀ i, i < 8 * a.size → hb a i = hb b i) : a = b := by
  apply ByteArray.ext
  apply Array.ext'
  apply List.ext_getElem?
  intro j
  rcases Nat.lt_or_ge j a.size with hj | hj
  · have ha : j < a.data.toList.length := by rw [data_length]; exact hj
    have hb' : j < b.data.toList.length := by rw [data_length]; omega
    rw [List.getElem?_eq_getElem ha, List.getElem?_eq_getElem hb']
    congr 1
    apply UInt8.toNat_inj.mp
    apply Nat.eq_of_testBit_eq
    intro m
    by_cases hm : m < 8
    · have := h (8 * j + m) (by omega)
      unfold hb at this
      rw [show (8 * j + m) / 8 = j by omega, show (8 * j + m) % 8 = m by omega, List.getD_eq_getElem?_getD, List.getD_eq_getElem?_getD, List.getElem?_eq_getElem ha, List.getElem?_eq_getElem hb'] at this
      exact this
    · have l1 := a.data.toList[j].toNat_lt
      have l2 := b.data.toList[j].toNat_lt
      have : 2 ^ 8 ≤ 2 ^ m := Nat.pow_le_pow_right (by omega) (by omega)
      rw [Nat.testBit_lt_two_pow (by omega), Nat.testBit_lt_two_pow (by omega)]
  · rw [List.getElem?_eq_none (by rw [data_length]; exact hj), List.getElem?_eq_none (by rw [data_length]; omega)]
/-- Of bytes as whole numbers. -/
theorem hb_nums (l : List Int) (hl : ∀ x ∈ l, 0 ≤ x ∧ x < 256) (i : Nat) : hb (strOfNums l) i = (l.getD (i / 8) 0).toNat.testBit (i % 8) := by
  unfold hb strOfNums
  rw [List.getD_eq_getElem?_getD, List.getD_eq_getElem?_getD]
  simp only [List.getElem?_map]
  cases hx : l[i / 8]? with
  | none => rfl
  | some x =>
    have := hl x (List.mem_of_getElem? hx)
    simp only [Option.map_some, Option.getD_some]
    congr 1
    simp
    omega
theorem bits_u8 (a b : Nat) (ha : a < 256) (hb : b < 256) : bits .or .u8 (a : Int) (b : Int) = ((a ||| b : Nat) : Int) ∧ bits .xor .u8 (a : Int) (b : Int) = ((a ^^^ b : Nat) : Int) := by
  have h1 : (BitVec.ofInt 8 (a : Int)).toNat = a := by rw [BitVec.ofInt_natCast, BitVec.toNat_ofNat]; exact Nat.mod_eq_of_lt (by omega)
  have h2 : (BitVec.ofInt 8 (b : Int)).toNat = b := by rw [BitVec.ofInt_natCast, BitVec.toNat_ofNat]; exact Nat.mod_eq_of_lt (by omega)
  have q1 : a ||| b < 2 ^ 8 := Nat.or_lt_two_pow (by omega) (by omega)
  have q2 : a ^^^ b < 2 ^ 8 := Nat.xor_lt_two_pow (by omega) (by omega)
  refine ⟨?_, ?_⟩
  · show IntKind.u8.wrap ((BitVec.ofInt 8 (a : Int) ||| BitVec.ofInt 8 (b : Int)).toNat : Int) = _
    rw [BitVec.toNat_or, h1, h2, IntKind.wrap_u8]; omega
  · show IntKind.u8.wrap ((BitVec.ofInt 8 (a : Int) ^^^ BitVec.ofInt 8 (b : Int)).toNat : Int) = _
    rw [BitVec.toNat_xor, h1, h2, IntKind.wrap_u8]; omega
end Go.Proofs.YtbbncdbihiipcaaDoor.Th
/- What the walked functions of bits do, bit by bit. -/
namespace Go.Proofs.YtbbncdbihiipcaaDoor.Th
open Go.RowKit Go.Proofs.YtbbncdbihiipcaaDoorW.PrintWords

def lb (l : List Int) (i : Nat) : Bool := (l.getD (i / 8) 0).toNat.testBit (i % 8)
def Byt (l : List Int) : Prop := ∀ x ∈ l, 0 ≤ x ∧ x < 256
theorem hb_lb (l : List Int) (h : Byt l) (i : Nat) : hb (strOfNums l) i = lb l i := hb_nums l h i
theorem byt_get (l : List Int) (h : Byt l) (j : Nat) : 0 ≤ l.getD j 0 ∧ l.getD j 0 < 256 := by
  rw [List.getD_eq_getElem?_getD]
  cases hx : l[j]? with
  | none => exact ⟨by decide, by decide⟩
  | some x => exact h x (List.mem_of_getElem? hx)
theorem byt_set (l : List Int) (h : Byt l) (j : Nat) (v : Int) (hv : 0 ≤ v ∧ v < 256) : Byt (l.set j v) := by
  intro x hx
  rcases List.mem_or_eq_of_mem_set hx with h1 | h1
  · exact h x h1
  · rw [h1]; exact hv
theorem byt_bytes (s : ByteArray) : Byt (bytesOf s) := by
  intro x hx
  unfold bytesOf at hx
  obtain ⟨b, _, rfl⟩ := List.mem_map.mp hx
  have := b.toNat_lt
  omega
theorem hb_bytes (s : ByteArray) (i : Nat) : hb s i = lb (bytesOf s) i := by
  unfold hb lb bytesOf
  rw [List.getD_eq_getElem?_getD, List.getD_eq_getElem?_getD]
  simp only [List.getElem?_map]
  cases s.data.toList[i / 8]? <;> rfl
theorem lb_set (l : List Int) (j : Nat) (v : Int) (i : Nat) (hj : j < l.length) : lb (l.set j v) i = if i / 8 = j then v.toNat.testBit (i % 8) else lb l i := by
  unfold lb
  rw [List.getD_eq_getElem?_getD, List.getD_eq_getElem?_getD]
  split
  · next h => subst h; rw [List.getElem?_set_self hj]; rfl
  · next h => rw [List.getElem?_set_ne (by omega)]
theorem two_pow (m : Nat) (hm : m < 8) : ((2 : Int) ^ m % 256) = ((2 ^ m : Nat) : Int) := by
  have : m = 0 ∨ m = 1 ∨ m = 2 ∨ m = 3 ∨ m = 4 ∨ m = 5 ∨ m = 6 ∨ m = 7 := by omega
  rcases this with rfl | rfl | rfl | rfl | rfl | rfl | rfl | rfl <;> rfl
theorem pow_lt (m : Nat) (hm : m < 8) : 2 ^ m < 256 := by
  have : 2 ^ m < 2 ^ 8 := Nat.pow_lt_pow_right (by omega) hm
  omega
theorem lb_or (l : List Int) (h : Byt l) (k i : Nat) (hk : k / 8 < l.length) : lb (l.set (k / 8) (bits .or .u8 (l.getD (k / 8) 0) (2 ^ (k % 8) % 256))) i = (lb l i || decide (i = k)) ∧ Byt (l.set (k / 8) (bits .or .u8 (l.getD (k / 8) 0) (2 ^ (k % 8) % 256))) := by
  have hg := byt_get l h (k / 8)
  obtain ⟨x, hx⟩ := Int.eq_ofNat_of_zero_le hg.1
  have hp := pow_lt (k % 8) (by omega)
  have hq : x ||| 2 ^ (k % 8) < 2 ^ 8 := Nat.or_lt_two_pow (by omega) (by omega)
  rw [two_pow _ (by omega), hx, (bits_u8 x _ (by omega) hp).1]
  refine ⟨?_, byt_set l h _ _ (by omega)⟩
  rw [lb_set l _ _ i hk]
  split
  · next he =>
    rw [Int.toNat_natCast, Nat.testBit_or, Nat.testBit_two_pow]
    unfold lb
    rw [he, hx, Int.toNat_natCast]
    congr 1
    apply decide_eq_decide.mpr
    omega
  · next he =>
    rw [decide_eq_false (by intro h; rw [h] at he; exact he rfl), Bool.or_false]
theorem lb_xor (l : List Int) (h : Byt l) (k i : Nat) (hk : k / 8 < l.length) : lb (l.set (k / 8) (bits .xor .u8 (l.getD (k / 8) 0) (2 ^ (k % 8) % 256))) i = (lb l i != decide (i = k)) ∧ Byt (l.set (k / 8) (bits .xor .u8 (l.getD (k / 8) 0) (2 ^ (k % 8) % 256))) := by
  have hg := byt_get l h (k / 8)
  obtain ⟨x, hx⟩ := Int.eq_ofNat_of_zero_le hg.1
  have hp := pow_lt (k % 8) (by omega)
  have hq : x ^^^ 2 ^ (k % 8) < 2 ^ 8 := Nat.xor_lt_two_pow (by omega) (by omega)
  rw [two_pow _ (by omega), hx, (bits_u8 x _ (by omega) hp).2]
  refine ⟨?_, byt_set l h _ _ (by omega)⟩
  rw [lb_set l _ _ i hk]
  split
  · next he =>
    rw [Int.toNat_natCast, Nat.testBit_xor, Nat.testBit_two_pow]
    unfold lb
    rw [he, hx, Int.toNat_natCast]
    have : decide (k % 8 = i % 8) = decide (i = k) := decide_eq_decide.mpr (by omega)
    rw [this]
  · next he =>
    rw [decide_eq_false (by intro h; rw [h] at he; exact he rfl)]
    cases lb l i <;> rfl
theorem hb_turn (s : ByteArray) (k i : Nat) (hk : k / 8 < s.size) : hb (Tu.turnB s k) i = (hb s i != decide (i = k)) := by
  have := lb_xor (bytesOf s) (byt_bytes s) k i (by rw [bytesOf_length]; exact hk)
  have hg : ((bytesOf s).getD (k / 8) 0) = ((s.data.toList.getD (k / 8) 0).toNat : Int) := by
    unfold bytesOf
    rw [List.getD_eq_getElem?_getD, List.getD_eq_getElem?_getD]
    simp only [List.getElem?_map]
    cases s.data.toList[k / 8]? <;> rfl
  rw [hg] at this
  unfold Tu.turnB
  rw [hb_lb _ this.2, this.1, hb_bytes]
theorem hb_empty (n : Int) (i : Nat) : hb (Bo.emptyB n) i = false := by
  unfold Bo.emptyB
  rw [hb_lb _ (by intro x hx; rw [List.eq_of_mem_replicate hx]; decide)]
  unfold lb
  rw [List.getD_eq_getElem?_getD, List.getElem?_replicate]
  split <;> exact Nat.zero_testBit _
end Go.Proofs.YtbbncdbihiipcaaDoor.Th
