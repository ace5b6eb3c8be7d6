/- Escaping, and what is escaped read: the program's loops and the reference's come to the same. -/
import Derived.Test.YtdccglkmkahblaaPx2
import Derived.Test.YtdccglkmkahblaaPx3
import Derived.Test.YtdccglkmkahblaaPx4
import Derived.Test.YtdccglkmkahblaaPx5
import Derived.Test.YtdccglkmkahblaaBq
import Derived.Test.YtdccglkmkahblaaBu
namespace Go.Proofs.Ytdccglkmkahblaa.Bq
open Go.RowKit Go.Proofs.Ytdccglkmkahblaa.P Go.Proofs.Ytdccglkmkahblaa.Bp Go.Proofs.Ytdccglkmkahblaa.Ex Go.Proofs.Ytdccglkmkahblaa.Hand Go.Proofs.YtdccglkmkahblaaW.PrintWords Go.Proofs.YtdccglkmkahblaaW.PrintLast Go.Proofs.YtdccglkmkahblaaW.PrintMore

theorem refPlain_eq (c : Nat) (hc : c < 256) : mosaicref29_plain.f (c : Int) = some (plainB c) := by
  have : ∀ m : Fin 256, mosaicref29_plain.f (m.1 : Int) = some (plainB m.1) := by decide +kernel
  exact this ⟨c, hc⟩

def numL (l : List UInt8) : List Int := l.map fun b => (b.toNat : Int)
theorem numL_length (l : List UInt8) : (numL l).length = l.length := by simp [numL]
theorem strOf_numL (l : List UInt8) : strOfNums (numL l) = ⟨l.toArray⟩ := by
  unfold strOfNums numL
  rw [List.map_map]
  have : ((fun n : Int => UInt8.ofNat n.toNat) ∘ fun b : UInt8 => (b.toNat : Int)) = id := by funext b; simp
  rw [this, List.map_id]
theorem dig_bt (n : Nat) (h : n < 16) : bt (⟨#[48, 49, 50, 51, 52, 53, 54, 55, 56, 57, 65, 66, 67, 68, 69, 70]⟩ : ByteArray) (n : Int) = ((hexB n).toNat : Int) := by
  have : ∀ m : Fin 16, bt (⟨#[48, 49, 50, 51, 52, 53, 54, 55, 56, 57, 65, 66, 67, 68, 69, 70]⟩ : ByteArray) (m.1 : Int) = ((hexB m.1).toNat : Int) := by decide +kernel
  exact this ⟨n, h⟩

theorem esc_l0 (s : ByteArray) (hs : s.size ≤ 100000) (m : Nat) : ∀ (i k : Nat), s.size = i + m → m + 1 ≤ k →
    mosaicref29_Escape.l0 k s (numL (escL (s.data.toList.take i))) (i : Int) = some (escB s) := by
  induction m with
  | zero =>
    intro i k hi hk
    obtain ⟨k, rfl, _⟩ := succ_of (m := 0) (by omega : 0 + 1 ≤ k)
    simp only [mosaicref29_Escape.l0]
    rw [if_neg (by omega), strOf_numL, escB, List.take_of_length_le (by simp only [Array.length_toList]; show s.size ≤ i; omega)]
  | succ m ih =>
    intro i k hi hk
    obtain ⟨k, rfl, hk1⟩ := succ_of (m := m + 1) (by omega : m + 1 + 1 ≤ k)
    have hlt : i < s.size := by omega
    have hc := (s[i]).toNat_lt
    have hT := escL_take _ i _ (get_nat s i hlt)
    have hlen : (numL (escL (s.data.toList.take i))).length ≤ 300000 := by
      rw [numL_length]
      have h1 := escL_length (s.data.toList.take i)
      have h2 : (s.data.toList.take i).length ≤ i := by rw [List.length_take]; exact Nat.min_le_left _ _
      omega
    have hi2 := ih (i + 1) k (by omega) (by omega)
    rw [hT] at hi2
    simp only [mosaicref29_Escape.l0]
    rw [if_pos (by omega), if_pos (by omega), bt_nat s i hlt, refPlain_eq _ hc, Option.bind_some]
    by_cases hp : plainB s[i].toNat = true
    · have hE : esc1 s[i] = [s[i]] := by unfold esc1; rw [if_pos hp]
      rw [hE] at hi2
      rw [if_pos hp, if_pos (by omega), w64 (by omega), ← hi2]
      simp [numL]
    · have hE : esc1 s[i] = [37, hexB (s[i].toNat / 16), hexB (s[i].toNat % 16)] := by unfold esc1; rw [if_neg hp]
      rw [hE] at hi2
      have e1 : Int.tdiv (s[i].toNat : Int) 16 % 256 = ((s[i].toNat / 16 : Nat) : Int) := by rw [Int.tdiv_eq_ediv_of_nonneg (by omega)]; omega
      have e2 : Int.tmod (s[i].toNat : Int) 16 = ((s[i].toNat % 16 : Nat) : Int) := by rw [Int.tmod_eq_emod_of_nonneg (by omega)]; omega
      rw [if_neg hp, e1, e2, if_pos (by omega), if_pos (by omega), if_pos (by omega), if_pos (by omega), Option.bind_some, dig_bt _ (by omega), dig_bt _ (by omega), if_pos (by simp only [List.length_cons, List.length_nil]; omega), w64 (by omega), ← hi2]
      simp [numL]

theorem refEscape_eq (s : ByteArray) (k : Nat) (hs : s.size ≤ 100000) (hk : s.size + 1 ≤ k) : mosaicref29_Escape.f k s = some (escB s) := by
  unfold mosaicref29_Escape.f
  have := esc_l0 s hs s.size 0 k (by omega) hk
  simpa [escL, numL] using this

def dig (c : Nat) : Nat := if 48 ≤ c ∧ c ≤ 57 then c - 48 else if 65 ≤ c ∧ c ≤ 70 then c - 55 else 16
theorem dig_le (c : Nat) : dig c ≤ 16 := by unfold dig; split <;> (try split) <;> omega
theorem digit_eq (c k : Nat) (hc : c < 256) : mosaicref29_digit.f (k + 1) (c : Int) = some (dig c : Int) := by
  unfold mosaicref29_digit.f
  simp only [mosaicref29_digit.j0]
  have : ∀ m : Fin 256, (if (m.1 : Int) ≥ 48 then (if decide ((m.1 : Int) ≤ 57) = true then some (((m.1 : Int) - 48) % 256) else if (m.1 : Int) ≥ 65 then (if (m.1 : Int) ≤ 70 then some (((m.1 : Int) - 55) % 256) else some 16) else some 16) else (if false = true then some (((m.1 : Int) - 48) % 256) else if (m.1 : Int) ≥ 65 then (if (m.1 : Int) ≤ 70 then some (((m.1 : Int) - 55) % 256) else some 16) else some 16)) = some (dig m.1 : Int) := by decide +kernel
  exact this ⟨c, hc⟩
theorem idx_eq (c : Nat) (hc : c < 256) : strings_IndexByte.f (⟨#[48, 49, 50, 51, 52, 53, 54, 55, 56, 57, 65, 66, 67, 68, 69, 70]⟩ : ByteArray) (c : Int) = some (if dig c = 16 then -1 else (dig c : Int)) := by
  have : ∀ m : Fin 256, Lib.indexByte [48, 49, 50, 51, 52, 53, 54, 55, 56, 57, 65, 66, 67, 68, 69, 70] m.1.toUInt8 = (if dig m.1 = 16 then -1 else (dig m.1 : Int)) := by decide +kernel
  unfold strings_IndexByte.f
  exact congrArg some (this ⟨c, hc⟩)

theorem or4 (x y : Nat) (hx : x < 16) (hy : y < 16) : Go.bits .or .i64 (wrap64 ((x : Int) * 16)) (y : Int) = ((x * 16 + y : Nat) : Int) := by
  have h := or8 x y 4 (by omega) (by omega) (by omega)
  rw [show (2 : Nat) ^ 4 = 16 from rfl] at h
  rw [w64 (by omega), show (x : Int) * 16 = ((x * 16 : Nat) : Int) by omega, h]

theorem sum16 (x y : Nat) (hx : x < 16) (_hy : y < 16) : ((16 * (x : Int)) % 256 + (y : Int)) % 256 = ((x * 16 + y : Nat) : Int) % 256 := by
  have h1 : (16 * (x : Int)) % 256 = 16 * (x : Int) := Int.emod_eq_of_lt (by omega) (by omega)
  have h2 : 16 * (x : Int) + (y : Int) = ((x * 16 + y : Nat) : Int) := by omega
  rw [h1, h2]

theorem un_fin {α : Type} (x y : Nat) (hx : x ≤ 16) (hy : y ≤ 16) (e0 : α) (l r : Option α) (F G : Int → Option α)
    (L : l = if (if x = 16 then (-1 : Int) else (x : Int)) < 0 then some e0 else if (if y = 16 then (-1 : Int) else (y : Int)) < 0 then some e0 else F ((Go.bits .or .i64 (wrap64 ((if x = 16 then (-1 : Int) else (x : Int)) * 16)) (if y = 16 then (-1 : Int) else (y : Int))) % 256))
    (R : r = if (x : Int) = 16 then some e0 else if ((y : Int) == 16) = true then some e0 else G ((((16 * (x : Int)) % 256) + (y : Int)) % 256))
    (H : ∀ z : Int, ∃ q, F z = some q ∧ G z = some q) : ∃ q, l = some q ∧ r = some q := by
  rw [L, R]
  clear L R
  by_cases hx1 : x = 16
  · subst hx1
    exact ⟨e0, by simp, by simp⟩
  · by_cases hy1 : y = 16
    · subst hy1
      have hx2 : ¬ (x : Int) = 16 := by omega
      have hx3 : ¬ (x : Int) < 0 := by omega
      refine ⟨e0, ?_, ?_⟩
      · rw [if_neg hx1, if_neg hx3]; simp
      · rw [if_neg hx2]; simp
    · have hx2 : ¬ (x : Int) = 16 := by omega
      have hx3 : ¬ (x : Int) < 0 := by omega
      have hy2 : ¬ ((y : Int) == 16) = true := by rw [beq_iff_eq]; omega
      have hy3 : ¬ (y : Int) < 0 := by omega
      rw [if_neg hx1, if_neg hy1, if_neg hx3, if_neg hy3, if_neg hx2, if_neg hy2, or4 x y (by omega) (by omega), sum16 x y (by omega) (by omega)]
      exact H _

set_option maxHeartbeats 2000000 in
theorem un_loops (a : ByteArray) (ha : a.size ≤ 1000) (m : Nat) : ∀ (out : List Int) (i k1 k2 : Nat), a.size ≤ i + m → out.length ≤ i → i ≤ a.size → m + 1 ≤ k1 → a.size + 10 + 3 * m ≤ k2 →
    ∃ r, link_Unescape.l0 k1 a out (i : Int) = some r ∧ mosaicref29_Unescape.l0 k2 a out (i : Int) = some r := by
  induction m with
  | zero =>
    intro out i k1 k2 hi ho hi2 h1 h2
    obtain ⟨k1, rfl, _⟩ := succ_of (m := 0) (by omega : 0 + 1 ≤ k1)
    obtain ⟨k2, rfl, _⟩ := succ_of (m := 0) (by omega : 0 + 1 ≤ k2)
    have hz := lenS out
    simp only [link_Unescape.l0, mosaicref29_Unescape.l0]
    rw [if_neg (by omega), if_neg (by omega), refEscape_eq (strOfNums out) k2 (by omega) (by omega), link_Escape.f, if_pos (show (strOfNums out).size ≤ 100000 by omega)]
    simp only [Option.bind_some]
    split <;> exact ⟨_, rfl, rfl⟩
  | succ m ih =>
    intro out i k1 k2 hi ho hi2 h1 h2
    obtain ⟨k1, rfl, hk1⟩ := succ_of (m := m + 1) (by omega : m + 1 + 1 ≤ k1)
    obtain ⟨k2, rfl⟩ : ∃ k', k2 = k' + 3 := ⟨k2 - 3, by omega⟩
    rcases Nat.lt_or_ge i a.size with hlt | hge
    · have hc := (a[i]).toNat_lt
      by_cases h37 : (bt a (i : Int)) = 37
      · by_cases hend : a.size ≤ i + 2
        · refine ⟨(⟨#[]⟩, 3), ?_, ?_⟩
          · simp only [link_Unescape.l0]
            rw [if_pos (by omega), if_pos (by omega), if_pos h37, w64 (n := (i : Int) + 2) (by omega), if_pos (by omega)]
          · simp only [mosaicref29_Unescape.l0]
            rw [if_pos (by omega), if_pos (by omega), if_pos h37, w64 (n := (i : Int) + 2) (by omega), if_pos (by omega)]
            simp only [mosaicref29_Unescape.j1, if_true]
        · have l1 : i + 1 < a.size := by omega
          have l2 : i + 2 < a.size := by omega
          have c1 := (a[i + 1]).toNat_lt
          have c2 := (a[i + 2]).toNat_lt
          have b1 : bt a ((i : Int) + 1) = ((a[i + 1]).toNat : Int) := bt_nat a (i + 1) l1
          have b2 : bt a ((i : Int) + 2) = ((a[i + 2]).toNat : Int) := bt_nat a (i + 2) l2
          have d1 := dig_le (a[i + 1]).toNat
          have d2 := dig_le (a[i + 2]).toNat
          have L : link_Unescape.l0 (k1 + 1) a out (i : Int) = if (if dig (a[i + 1]).toNat = 16 then (-1 : Int) else (dig (a[i + 1]).toNat : Int)) < 0 then some (⟨#[]⟩, 3) else if (if dig (a[i + 2]).toNat = 16 then (-1 : Int) else (dig (a[i + 2]).toNat : Int)) < 0 then some (⟨#[]⟩, 3) else link_Unescape.l0 k1 a (out ++ [(Go.bits .or .i64 (wrap64 ((if dig (a[i + 1]).toNat = 16 then (-1 : Int) else (dig (a[i + 1]).toNat : Int)) * 16)) (if dig (a[i + 2]).toNat = 16 then (-1 : Int) else (dig (a[i + 2]).toNat : Int))) % 256]) ((i + 3 : Nat) : Int) := by
            rw [link_Unescape.l0, if_pos (by omega), if_pos (by omega), if_pos h37, w64 (n := (i : Int) + 2) (by omega), if_neg (by omega), w64 (n := (i : Int) + 1) (by omega), if_pos (by omega), if_pos (by omega), b1, idx_eq _ c1, Option.bind_some, if_pos (by omega), if_pos (by omega), b2, idx_eq _ c2, Option.bind_some, w64 (n := (i : Int) + 2 + 1) (by omega), if_pos (show out.length < 140737488355328 by omega)]
            rfl
          have R : mosaicref29_Unescape.l0 (k2 + 3) a out (i : Int) = if (dig (a[i + 1]).toNat : Int) = 16 then some (⟨#[]⟩, 3) else if ((dig (a[i + 2]).toNat : Int) == 16) = true then some (⟨#[]⟩, 3) else mosaicref29_Unescape.l0 (k2 + 1) a (out ++ [(((16 * (dig (a[i + 1]).toNat : Int)) % 256) + (dig (a[i + 2]).toNat : Int)) % 256]) ((i + 3 : Nat) : Int) := by
            rw [mosaicref29_Unescape.l0, if_pos (by omega), if_pos (by omega), if_pos h37, w64 (n := (i : Int) + 2) (by omega), if_neg (by omega), w64 (n := (i : Int) + 1) (by omega), if_pos (by omega), if_pos (by omega), b1, digit_eq _ _ c1, Option.bind_some, if_pos (show (0 : Int) ≤ (i : Int) + 2 by omega), if_pos (show (i : Int) + 2 < a.size by omega), b2, digit_eq _ _ c2, Option.bind_some]
            simp only [mosaicref29_Unescape.j1, if_true]
            rw [w64 (n := (i : Int) + 2) (by omega), w64 (n := (i : Int) + 1) (by omega), if_pos (show (0 : Int) ≤ (i : Int) + 1 by omega), if_pos (show (i : Int) + 1 < a.size by omega), b1, digit_eq _ _ c1, Option.bind_some, if_pos (show (0 : Int) ≤ (i : Int) + 2 by omega), if_pos (show (i : Int) + 2 < a.size by omega), b2, digit_eq _ _ c2, Option.bind_some, if_pos (show out.length < 140737488355328 by omega), w64 (n := (i : Int) + 3) (by omega)]
            rfl
          exact un_fin _ _ d1 d2 _ _ _ (fun z => link_Unescape.l0 k1 a (out ++ [z]) ((i + 3 : Nat) : Int)) (fun z => mosaicref29_Unescape.l0 (k2 + 1) a (out ++ [z]) ((i + 3 : Nat) : Int)) L R (fun z => ih (out ++ [z]) (i + 3) k1 (k2 + 1) (by omega) (by rw [List.length_append, List.length_singleton]; omega) (by omega) (by omega) (by omega))
      · have e5 : wrap64 ((i : Int) + 1) = ((i + 1 : Nat) : Int) := by rw [w64 (by omega)]; omega
        rw [link_Unescape.l0, if_pos (by omega), if_pos (by omega), if_neg h37, if_pos (by omega), e5]
        rw [mosaicref29_Unescape.l0, if_pos (by omega), if_pos (by omega), if_neg h37, if_pos (by omega), e5]
        exact ih _ _ k1 (k2 + 2) (by omega) (by simp; omega) (by omega) (by omega) (by omega)
    · exact ih out i (k1 + 1) (k2 + 3) (by omega) ho hi2 (by omega) (by omega)

theorem unescape_both (a : ByteArray) (ha : a.size ≤ 1000) (k : Nat) (hk : 5000 ≤ k) : ∃ r, link_Unescape.f k a = some r ∧ mosaicref29_Unescape.f k a = some r := by
  unfold link_Unescape.f mosaicref29_Unescape.f
  exact un_loops a ha a.size [] 0 k k (by omega) (by simp) (by omega) (by omega) (by omega)

end Go.Proofs.Ytdccglkmkahblaa.Bq
