/- The document's own answer for trace: May, Check, Num, Text, Pack in plain words. -/
import Derived.Test.YtdiikokbdebedaaPx0
import Derived.Test.YtdiikokbdebedaaPx4
import Derived.Test.YtdiikokbdebedaaPx5
import Derived.Test.YtdiikokbdebedaaPx6
import Derived.Test.YtdiikokbdebedaaTz
namespace Go.Proofs.Ytdiikokbdebedaa.Rf
open Go.RowKit Go.Proofs.Ytdiikokbdebedaa.P Go.Proofs.Ytdiikokbdebedaa.Tr Go.Proofs.Ytdiikokbdebedaa.Ck Go.Proofs.Ytdiikokbdebedaa.Pk Go.Proofs.Ytdiikokbdebedaa.Hand Go.Proofs.YtdiikokbdebedaaW.PrintWords Go.Proofs.YtdiikokbdebedaaW.PrintLast Go.Proofs.YtdiikokbdebedaaW.PrintMore

def ev (x : S54) : Ev := (x.f0, x.f1, x.f2)
def toS (x : S54) : S47 := ⟨x.f0, x.f1, x.f2⟩
theorem ev_toR (l : List S47) : (l.map toR).map ev = l.map toEv := by rw [List.map_map]; rfl
theorem ev_toS (l : List S54) : (l.map toS).map toEv = l.map ev := by rw [List.map_map]; rfl
theorem toR_toS (l : List S54) : (l.map toS).map toR = l := by rw [List.map_map]; exact List.map_id l
theorem toS_toR (l : List S47) : (l.map toR).map toS = l := by rw [List.map_map]; exact List.map_id l
theorem rd_get (l : List S54) (i : Nat) (h : i < l.length) : rd_T54 l (i : Int) = l[i] := by
  unfold rd_T54; rw [Int.toNat_natCast, List.getD_eq_getElem?_getD, List.getElem?_eq_getElem h]; rfl

theorem may_eq (x : S54) : mosaicref32_May.f x.f0 x.f1 x.f2 = some (evB (ev x)) := by
  unfold mosaicref32_May.f evB ev
  simp only [nil_eq]
  split
  · by_cases h1 : 1 ≤ x.f1 <;> by_cases h2 : x.f1 ≤ 15 <;> simp [h1, h2]; omega
  · split
    · by_cases h1 : 0 ≤ x.f1 <;> by_cases h2 : x.f1 ≤ 65535 <;> simp [h1, h2]
    · split
      · by_cases h1 : 1 ≤ x.f1 <;> by_cases h2 : x.f1 ≤ 15 <;> simp [h1, h2]
      · rfl
theorem check_l0 (l : List S54) (hl : l.length ≤ 1000) (m : Nat) : ∀ (i k : Nat), l.length = i + m → m + 1 ≤ k → mosaicref32_Check.l0 k l (i : Int) = some (((l.drop i).map ev).all evB && decide (l.length ≤ 500)) := by
  induction m with
  | zero =>
    intro i k hi hk
    obtain ⟨k, rfl⟩ : ∃ k', k = k' + 1 := ⟨k - 1, by omega⟩
    rw [mosaicref32_Check.l0, if_neg (by omega), List.drop_of_length_le (by omega)]
    simp; omega
  | succ m ih =>
    intro i k hi hk
    obtain ⟨k, rfl⟩ : ∃ k', k = k' + 1 := ⟨k - 1, by omega⟩
    have hlt : i < l.length := by omega
    rw [mosaicref32_Check.l0, if_pos (by omega), if_pos (by omega), rd_get l i hlt, may_eq, Option.bind_some, List.drop_eq_getElem_cons hlt, List.map_cons, List.all_cons]
    cases h : evB (ev l[i]) with
    | false => rw [if_neg (by simp)]; rfl
    | true =>
      rw [if_pos rfl, w64 (by omega), Bool.true_and]
      exact ih (i + 1) k (by omega) (by omega)
theorem check_eq (l : List S54) (hl : l.length ≤ 1000) (k : Nat) (hk : 1001 ≤ k) : mosaicref32_Check.f k l = some (checkB (l.map ev)) := by
  unfold mosaicref32_Check.f checkB
  have := check_l0 l hl l.length 0 k (by omega) (by omega)
  rw [List.drop_zero] at this
  rw [List.length_map, Bool.and_comm]
  exact this

theorem W01 : wrap64 (0 + 1) = 1 := w64 (by decide)
theorem W11 : wrap64 (1 + 1) = 2 := w64 (by decide)
theorem W256 : wrap64 (1 * 256) = 256 := w64 (by decide)
theorem W65536 : wrap64 (256 * 256) = 65536 := w64 (by decide)
theorem V11 : wrap64 (1 - 1) = 0 := w64 (by decide)
theorem V21 : wrap64 (2 - 1) = 1 := w64 (by decide)
theorem V01 : wrap64 (0 - 1) = -1 := w64 (by decide)
theorem power_0 (k : Nat) : mosaicref02_power.f (k + 1) 0 = some 1 := by
  unfold mosaicref02_power.f
  rw [mosaicref02_power.l0, if_neg (by decide)]
theorem power_1 (k : Nat) : mosaicref02_power.f (k + 2) 1 = some 256 := by
  unfold mosaicref02_power.f
  rw [mosaicref02_power.l0, if_pos (by decide), W01, W256, mosaicref02_power.l0, if_neg (by decide)]
theorem power_2 (k : Nat) : mosaicref02_power.f (k + 3) 2 = some 65536 := by
  unfold mosaicref02_power.f
  rw [mosaicref02_power.l0, if_pos (by decide), W01, W256, mosaicref02_power.l0, if_pos (by decide), W11, W65536, mosaicref02_power.l0, if_neg (by decide)]
theorem tm (n : Nat) (h : n < 65536) : (Int.tmod (wrap64 ((n : Nat) : Int)) 256) % 256 = (n : Int) % 256 := by
  rw [w64 (by omega)]
  rw [show (256 : Int) = ((256 : Nat) : Int) from rfl, ← Int.ofNat_tmod]; omega
theorem put1 (k n : Nat) (hn : n < 256) : mosaicref02_Put.f (k + 6) (n : Int) 1 = some (⟨(be1 n).toArray⟩, 0) := by
  unfold mosaicref02_Put.f
  rw [if_neg (by decide), show decide ((1 : Int) > 7) = false from rfl]
  simp only [mosaicref02_Put.j0]
  rw [if_neg (by simp), if_neg (by omega), power_1, Option.bind_some, decide_eq_false (by omega)]
  simp only [mosaicref02_Put.j1]
  rw [if_neg (by simp), V11]
  simp only [mosaicref02_Put.l0]
  rw [if_pos (by decide), power_0, Option.bind_some, if_neg (by decide), if_pos (by decide), V01, if_neg (by decide), Int.tdiv_one, tm n (by omega)]
  have := ofNat_int n
  simp only [strOfNums, List.nil_append, List.map_cons, List.map_nil, this]
  rfl
theorem put2 (k n : Nat) (hn : n < 65536) : mosaicref02_Put.f (k + 8) (n : Int) 2 = some (⟨(be2 n).toArray⟩, 0) := by
  unfold mosaicref02_Put.f
  rw [if_neg (by decide), show decide ((2 : Int) > 7) = false from rfl]
  simp only [mosaicref02_Put.j0]
  rw [if_neg (by simp), if_neg (by omega), power_2, Option.bind_some, decide_eq_false (by omega)]
  simp only [mosaicref02_Put.j1]
  rw [if_neg (by simp), V21]
  simp only [mosaicref02_Put.l0]
  rw [if_pos (by decide), power_1, Option.bind_some, if_neg (by decide), if_pos (by decide), V11,
    if_pos (by decide), power_0, Option.bind_some, if_neg (by decide), if_pos (by simp), V01, if_neg (by decide), Int.tdiv_one, tm n (by omega)]
  have hd : Int.tdiv (n : Int) 256 = ((n / 256 : Nat) : Int) := by rw [show (256 : Int) = ((256 : Nat) : Int) from rfl, ← Int.ofNat_tdiv]
  rw [hd, tm (n / 256) (by omega)]
  have h1 := ofNat_int n
  have h2 := ofNat_int (n / 256)
  simp only [strOfNums, List.nil_append, List.cons_append, List.map_cons, List.map_nil, h1, h2]
  rfl
theorem num1 (k n : Nat) (hk : 8 ≤ k) (hn : n < 256) : mosaicref02_Num.f k (n : Int) 1 = some ⟨(be1 n).toArray⟩ := by
  obtain ⟨k, rfl⟩ : ∃ k', k = k' + 6 := ⟨k - 6, by omega⟩
  unfold mosaicref02_Num.f; rw [put1 k n hn]; rfl
theorem num2 (k n : Nat) (hk : 8 ≤ k) (hn : n < 65536) : mosaicref02_Num.f k (n : Int) 2 = some ⟨(be2 n).toArray⟩ := by
  obtain ⟨k, rfl⟩ : ∃ k', k = k' + 8 := ⟨k - 8, by omega⟩
  unfold mosaicref02_Num.f; rw [put2 k n hn]; rfl
theorem text_eq (k : Nat) (s : ByteArray) (hk : 8 ≤ k) (hs : s.size < 65536) : mosaicref02_Text.f k s = some ⟨(be2 s.size ++ s.data.toList).toArray⟩ := by
  unfold mosaicref02_Text.f
  have h2 : (⟨(be2 s.size).toArray⟩ : ByteArray).size = 2 := rfl
  rw [num2 k s.size hk hs, Option.bind_some, if_pos (by rw [h2]; omega)]
  congr 1

theorem cat (a : List UInt8) (s : ByteArray) (b : List UInt8) (h : s.data.toList = a) : (s ++ (⟨b.toArray⟩ : ByteArray)).data.toList = a ++ b := by
  rw [ByteArray.data_append]; simp [h]
theorem szL (b : List UInt8) : (⟨b.toArray⟩ : ByteArray).size = b.length := by show b.toArray.size = _; simp
theorem pack_l0 (l : List S54) (hl : l.length ≤ 500) (hv : ∀ x ∈ l, evB (ev x) = true) (m : Nat) : ∀ (i k : Nat) (s : ByteArray), l.length = i + m → m + 10 ≤ k → s.size ≤ 6 + 405 * i →
    ∃ t, mosaicref32_Pack.l0 k l s (i : Int) = some (t, 0) ∧ t.data.toList = s.data.toList ++ ((l.drop i).map ev).flatMap evBytes := by
  induction m with
  | zero =>
    intro i k s hi hk _
    obtain ⟨k, rfl⟩ : ∃ k', k = k' + 1 := ⟨k - 1, by omega⟩
    refine ⟨s, ?_, ?_⟩
    · rw [mosaicref32_Pack.l0, if_neg (by omega)]
    · rw [List.drop_of_length_le (by omega)]; simp
  | succ m ih =>
    intro i k s hi hk hs
    obtain ⟨k, rfl⟩ : ∃ k', k = k' + 1 := ⟨k - 1, by omega⟩
    have hlt : i < l.length := by omega
    have hx := hv l[i] (List.getElem_mem hlt)
    have hlen := evBytes_len (ev l[i]) hx
    obtain ⟨e1, e2, e3, e4, e5⟩ := evB_facts _ hx
    rw [mosaicref32_Pack.l0, if_pos (by omega), if_pos (by omega), rd_get l i hlt, List.drop_eq_getElem_cons hlt, List.map_cons, List.flatMap_cons]
    generalize l[i] = x at *
    obtain ⟨f0, f1, f2⟩ := x
    simp only [ev] at *
    obtain ⟨a, rfl⟩ := Int.eq_ofNat_of_zero_le (show 0 ≤ f0 by omega)
    obtain ⟨b, rfl⟩ := Int.eq_ofNat_of_zero_le e3
    have z1 : (⟨(be1 a).toArray⟩ : ByteArray).size = 1 := rfl
    have z2 : (⟨(be2 b).toArray⟩ : ByteArray).size = 2 := rfl
    rw [num1 k a (by omega) (by omega), Option.bind_some, if_pos (by rw [z1]; omega), num2 k b (by omega) (by omega), Option.bind_some, if_pos (by rw [ByteArray.size_append, z1, z2]; omega), w64 (by omega)]
    by_cases h1 : ((a : Nat) : Int) = 1
    · have z3 : (⟨(be2 f2.size ++ f2.data.toList).toArray⟩ : ByteArray).size = 2 + f2.size := by rw [szL, List.length_append, lenB]; rfl
      rw [if_pos h1, text_eq k f2 (by omega) (by omega), Option.bind_some, if_pos (by rw [ByteArray.size_append, ByteArray.size_append, z1, z2, z3]; omega)]
      obtain ⟨t, ht, hd⟩ := ih (i + 1) k (((s ++ ⟨(be1 a).toArray⟩) ++ ⟨(be2 b).toArray⟩) ++ ⟨(be2 f2.size ++ f2.data.toList).toArray⟩) (by omega) (by omega) (by rw [ByteArray.size_append, ByteArray.size_append, ByteArray.size_append, z1, z2, z3]; omega)
      refine ⟨t, ht, ?_⟩
      rw [hd, cat _ _ _ (cat _ _ _ (cat _ _ _ rfl)), evBytes_of, if_pos h1, Int.toNat_natCast, Int.toNat_natCast]
      simp only [List.append_assoc]
    · rw [if_neg h1]
      obtain ⟨t, ht, hd⟩ := ih (i + 1) k ((s ++ ⟨(be1 a).toArray⟩) ++ ⟨(be2 b).toArray⟩) (by omega) (by omega) (by rw [ByteArray.size_append, ByteArray.size_append, z1, z2]; omega)
      refine ⟨t, ht, ?_⟩
      rw [hd, cat _ _ _ (cat _ _ _ rfl), evBytes_of, if_neg h1, Int.toNat_natCast, Int.toNat_natCast, List.append_nil]
      simp only [List.append_assoc]
theorem check_facts (l : List S54) (h : checkB (l.map ev) = true) : l.length ≤ 500 ∧ ∀ x ∈ l, evB (ev x) = true := by
  unfold checkB at h
  rw [Bool.and_eq_true, decide_eq_true_iff, List.length_map] at h
  exact ⟨h.1, fun x hx => List.all_eq_true.mp h.2 _ (List.mem_map_of_mem hx)⟩
theorem pack_ok (l : List S54) (h : checkB (l.map ev) = true) (k : Nat) (hk : 1100 ≤ k) : mosaicref32_Pack.f k l = some (⟨(packL (l.map ev)).toArray⟩, 0) := by
  obtain ⟨hl, hv⟩ := check_facts l h
  unfold mosaicref32_Pack.f
  have z2 : (⟨(be2 l.length).toArray⟩ : ByteArray).size = 2 := rfl
  rw [check_eq l (by omega) k (by omega), Option.bind_some, h, if_pos rfl, num2 k l.length (by omega) (by omega), Option.bind_some, if_pos (by rw [z2]; omega)]
  obtain ⟨t, ht, hd⟩ := pack_l0 l hl hv l.length 0 k ((⟨#[116, 114, 99, 49]⟩ : ByteArray) ++ ⟨(be2 l.length).toArray⟩) (by omega) (by omega) (by rw [ByteArray.size_append, z2]; decide)
  refine ht.trans ?_
  congr 2
  apply ByteArray.ext
  apply Array.ext'
  rw [hd, cat [116, 114, 99, 49] _ _ rfl, List.drop_zero, packL, List.length_map]
theorem pack_bad (l : List S54) (h : checkB (l.map ev) = false) (hl : l.length ≤ 1000) (k : Nat) (hk : 1100 ≤ k) : mosaicref32_Pack.f k l = some (⟨#[]⟩, 1) := by
  unfold mosaicref32_Pack.f
  rw [check_eq l hl k (by omega), Option.bind_some, h, if_neg (by simp)]

end Go.Proofs.Ytdiikokbdebedaa.Rf
