/- link.Check and the document's Check: one answer. -/
import Derived.Test.YtmimnlbkllgfpaaGreatDoorAx0
import Derived.Test.YtmimnlbkllgfpaaGreatDoorAx2
import Derived.Test.YtmimnlbkllgfpaaGreatDoorAx3
import Derived.Test.YtmimnlbkllgfpaaGreatDoorAx4
import Derived.Test.YtmimnlbkllgfpaaGreatDoorAx5
import Derived.Test.YtmimnlbkllgfpaaGreatDoorAx6
import Derived.Test.YtmimnlbkllgfpaaGreatDoorAx11
import Derived.Test.YtmimnlbkllgfpaaGreatDoorAx13
import Derived.Test.YtmimnlbkllgfpaaGreatDoorAx14
import Derived.Test.YtmimnlbkllgfpaaGreatDoorCu
import Derived.Test.YtmimnlbkllgfpaaGreatDoorNe
import Derived.Test.YtmimnlbkllgfpaaGreatDoorNu
namespace Go.Proofs.YtmimnlbkllgfpaaGreatDoor.Hand
open Go.RowKit Go.Proofs.YtmimnlbkllgfpaaGreatDoor.A Go.Proofs.YtmimnlbkllgfpaaGreatDoor.Di
/-- A place as the document has it. -/
def pc (p : S24) : S40 := ⟨p.f0, p.f1⟩
theorem pcheck (a b : Int) : plane_Check.f a b = some (okB a b) := by
  unfold plane_Check.f
  rw [Tx.within_eq, Option.bind_some, Tx.within_eq]
  by_cases h : (decide (-1048576 ≤ a) && decide (a ≤ 1048576)) = true
  · rw [if_pos h]
    simp at h
    simp [okB, inB, h]
  · rw [if_neg h]
    simp at h
    simp [okB, inB]
    intro h1 h2; exact absurd (h h1) (by omega)
end Go.Proofs.YtmimnlbkllgfpaaGreatDoor.Hand
namespace Go.Proofs.YtmimnlbkllgfpaaGreatDoor.Tx
open Go.RowKit Go.Proofs.YtmimnlbkllgfpaaGreatDoor.A Go.Proofs.YtmimnlbkllgfpaaGreatDoor.Hand Go.Proofs.YtmimnlbkllgfpaaGreatDoorW.PrintWords Go.Proofs.YtmimnlbkllgfpaaGreatDoorW.PrintLast Go.Proofs.YtmimnlbkllgfpaaGreatDoorW.PrintMore

theorem ref_pcheck (a b : Int) : mosaicref17_Check.f a b = some (Di.okB a b) := by
  unfold mosaicref17_Check.f
  have e : ∀ r : Bool, (r = true ↔ (-1048576 ≤ a ∧ a ≤ 1048576) ∧ (-1048576 ≤ b ∧ b ≤ 1048576)) → some r = some (Di.okB a b) := fun r h => by
    rw [Bool.eq_iff_iff.2 (h.trans (Di.okB_iff a b).symm)]
  by_cases h1 : a ≥ -1048576
  · rw [if_pos h1]
    by_cases h2 : a ≤ 1048576
    · rw [if_pos h2]
      by_cases h3 : b ≥ -1048576
      · rw [if_pos h3]; refine e _ ?_; rw [decide_eq_true_iff]; omega
      · rw [if_neg h3]; refine e _ ?_; simp only [Bool.false_eq_true, false_iff]; omega
    · rw [if_neg h2]; refine e _ ?_; simp only [Bool.false_eq_true, false_iff]; omega
  · rw [if_neg h1]; refine e _ ?_; simp only [Bool.false_eq_true, false_iff]; omega
theorem rdQ (l : List S24) (i : Nat) (h : i < l.length) : rd_T40 (l.map pc) (i : Int) = pc l[i] := by
  unfold rd_T40; rw [Int.toNat_natCast, List.getD_eq_getElem?_getD, List.getElem?_map, List.getElem?_eq_getElem h]; rfl

theorem titled_ref (a s : ByteArray) (n : List Int) (q : List S40) (hs : s.size ≤ 1000) (M : Nat) (m : Nat) : ∀ (i k K : Nat), s.size = i + m → m + 1 ≤ k → m + 1 + M ≤ K →
    ∃ t, link_titled.l0 k s (s.size : Int) (i : Int) = some t ∧ (t = true → ∃ K', M ≤ K' ∧ mosaicref29_Check.l0 K (i : Int) a s n q = mosaicref29_Check.l1 K' 0 a s n q) ∧ (t = false → mosaicref29_Check.l0 K (i : Int) a s n q = some false) := by
  induction m with
  | zero =>
    intro i k K hi hk hK
    obtain ⟨k, rfl⟩ : ∃ k', k = k' + 1 := ⟨k - 1, by omega⟩
    obtain ⟨K, rfl⟩ : ∃ k', K = k' + 1 := ⟨K - 1, by omega⟩
    rw [link_titled.l0, if_neg (by omega)]
    refine ⟨true, rfl, fun _ => ⟨K, by omega, ?_⟩, by simp⟩
    rw [mosaicref29_Check.l0, if_neg (by omega)]
  | succ m ih =>
    intro i k K hi hk hK
    obtain ⟨k, rfl⟩ : ∃ k', k = k' + 1 := ⟨k - 1, by omega⟩
    obtain ⟨K, rfl⟩ : ∃ k', K = k' + 1 := ⟨K - 1, by omega⟩
    obtain ⟨t, h1, h2, h3⟩ := ih (i + 1) k K (by omega) (by omega) (by omega)
    have e1 : wrap64 ((i : Int) + 1) = ((i + 1 : Nat) : Int) := by rw [w64 (by omega)]; omega
    have eL : link_titled.l0 (k + 1) s (s.size : Int) (i : Int) = if bt s (i : Int) < 32 then some false else if bt s (i : Int) = 127 then some false else link_titled.l0 k s (s.size : Int) ((i + 1 : Nat) : Int) := by
      rw [link_titled.l0, if_pos (by omega), if_pos (by omega), if_pos (by omega), e1]
    have eR : mosaicref29_Check.l0 (K + 1) (i : Int) a s n q = if bt s (i : Int) < 32 then some false else if bt s (i : Int) = 127 then some false else mosaicref29_Check.l0 K ((i + 1 : Nat) : Int) a s n q := by
      rw [mosaicref29_Check.l0, if_pos (by omega), if_pos (by omega), e1]
    rw [eL, eR]
    by_cases c1 : bt s (i : Int) < 32
    · rw [if_pos c1, if_pos c1]; exact ⟨false, rfl, by simp, fun _ => rfl⟩
    · rw [if_neg c1, if_neg c1]
      by_cases c2 : bt s (i : Int) = 127
      · rw [if_pos c2, if_pos c2]; exact ⟨false, rfl, by simp, fun _ => rfl⟩
      · rw [if_neg c2, if_neg c2]; exact ⟨t, h1, h2, h3⟩

theorem check_ref_l (n : List Int) (p : List S24) (a b : ByteArray) (hn : n.length ≤ 6) (hp : n.length = p.length) (m : Nat) : ∀ (i k K : Nat), n.length = i + m → m + 1 ≤ k → m + 1 ≤ K →
    mosaicref29_Check.l1 K (i : Int) a b n (p.map pc) = link_Check.l0 k n (n.length : Int) (i : Int) a b n p := by
  induction m with
  | zero =>
    intro i k K hi hk hK
    obtain ⟨k, rfl⟩ : ∃ k', k = k' + 1 := ⟨k - 1, by omega⟩
    obtain ⟨K, rfl⟩ : ∃ k', K = k' + 1 := ⟨K - 1, by omega⟩
    rw [link_Check.l0, if_neg (by omega), mosaicref29_Check.l1, if_neg (by omega)]
  | succ m ih =>
    intro i k K hi hk hK
    obtain ⟨k, rfl⟩ : ∃ k', k = k' + 1 := ⟨k - 1, by omega⟩
    obtain ⟨K, rfl⟩ : ∃ k', K = k' + 1 := ⟨K - 1, by omega⟩
    have h1 : i < n.length := by omega
    have h2 : i < p.length := by omega
    have hr := ih (i + 1) k K (by omega) (by omega) (by omega)
    have e1 : wrap64 ((i : Int) + 1) = ((i + 1 : Nat) : Int) := by rw [w64 (by omega)]; omega
    have lp : ((p.map pc).length : Int) = (p.length : Int) := by rw [List.length_map]
    rw [link_Check.l0, if_pos (by omega), if_pos (by omega), if_pos (by omega), mosaicref29_Check.l1, if_pos (by omega), if_pos (by omega), lp, rdI n i h1, e1, rdP p i h2, rdQ p i h2, pcheck, hr]
    show _ = _
    have e2 : mosaicref17_Check.f (pc p[i]).f0 (pc p[i]).f1 = some (Di.okB p[i].f0 p[i].f1) := ref_pcheck _ _
    rw [e2]
/-- One answer. -/
theorem check_ref (a b : ByteArray) (n : List Int) (p : List S24) (k K : Nat) (hk : 1100 ≤ k) (hK : 1200 ≤ K) : mosaicref29_Check.f K a b n (p.map pc) = link_Check.f k a b n p := by
  unfold link_Check.f mosaicref29_Check.f
  obtain ⟨k, rfl⟩ : ∃ k', k = k' + 1 := ⟨k - 1, by omega⟩
  obtain ⟨K, rfl⟩ : ∃ k', K = k' + 1 := ⟨K - 1, by omega⟩
  have no : link_Check.j0 (k + 1) true a b n p = some false := by rw [link_Check.j0, if_pos rfl]
  have no' : mosaicref29_Check.j0 (K + 1) true a b n (p.map pc) = some false := by rw [mosaicref29_Check.j0, if_pos rfl]
  have lp : ((p.map pc).length : Int) = (p.length : Int) := by rw [List.length_map]
  rw [lp, no, no']
  by_cases h1 : (a.size : Int) = 32
  · rw [if_pos h1, if_pos h1]
    unfold link_titled.f
    by_cases h2 : (b.size : Int) > 60
    · rw [if_pos h2, if_pos h2, Option.bind_some, if_neg (by simp)]
    · rw [if_neg h2, if_neg h2]
      obtain ⟨t, ht, ht2, ht3⟩ := titled_ref a b n (p.map pc) (by omega) 10 b.size 0 (k + 1) K (by omega) (by omega) (by omega)
      have ht' : link_titled.l0 (k + 1) b (b.size : Int) 0 = some t := ht
      rw [ht', Option.bind_some]
      by_cases h3 : (n.length : Int) = (p.length : Int)
      · rw [if_pos h3]
        by_cases h4 : (n.length : Int) > 6
        · rw [decide_eq_true h4, no, no']
          split <;> rfl
        · have jl : link_Check.j0 (k + 1) false a b n p = link_Check.l0 k n (n.length : Int) 0 a b n p := by rw [link_Check.j0, if_neg (by simp)]
          have jr : mosaicref29_Check.j0 (K + 1) false a b n (p.map pc) = mosaicref29_Check.l0 K 0 a b n (p.map pc) := by rw [mosaicref29_Check.j0, if_neg (by simp)]
          rw [decide_eq_false h4, jl, jr]
          cases t with
          | true =>
            rw [if_pos rfl]
            obtain ⟨K', hK', e⟩ := ht2 rfl
            have e' : mosaicref29_Check.l0 K 0 a b n (p.map pc) = mosaicref29_Check.l1 K' 0 a b n (p.map pc) := e
            rw [e', if_pos h3]
            exact check_ref_l n p a b (by omega) (by omega) n.length 0 k K' (by omega) (by omega) (by omega)
          | false =>
            rw [if_neg (by simp)]
            exact ht3 rfl
      · rw [if_neg h3]
        split <;> rfl
  · rw [if_neg h1, if_neg h1]
end Go.Proofs.YtmimnlbkllgfpaaGreatDoor.Tx
/- link.Text and the document's Text: one answer. -/
namespace Go.Proofs.YtmimnlbkllgfpaaGreatDoor.Tx
open Go.RowKit Go.Proofs.YtmimnlbkllgfpaaGreatDoor.A Go.Proofs.YtmimnlbkllgfpaaGreatDoor.Hand Go.Proofs.YtmimnlbkllgfpaaGreatDoorW.PrintWords Go.Proofs.YtmimnlbkllgfpaaGreatDoorW.PrintLast Go.Proofs.YtmimnlbkllgfpaaGreatDoorW.PrintMore

theorem text_ref_l (a b : ByteArray) (n : List Int) (p : List S24) (hM : May a b n p) (D : ByteArray) (hD : D.size = 52) (h32 : link_Base32.f a = some D) (m : Nat) : ∀ (i k K : Nat) (x : List ByteArray), n.length = i + m → m + 1 ≤ k → 2 * m + 20 ≤ K → x.length ≤ 1 + i → sumL x ≤ 186 + 25 * i →
    mosaicref29_Text.l0 K (cur D x) (sg x) (i : Int) a b n (p.map pc) = link_Text.l0 k x n (n.length : Int) (i : Int) a b n p := by
  have z7 : (⟨#[109, 111, 115, 97, 105, 99, 58]⟩ : ByteArray).size = 7 := rfl
  have z1 : (⟨#[63]⟩ : ByteArray).size = 1 := rfl
  have z5 : (⟨#[110, 111, 100, 101, 61]⟩ : ByteArray).size = 5 := rfl
  have zc : (⟨#[44]⟩ : ByteArray).size = 1 := rfl
  have hfew := hM.few
  have hlp := hM.len
  have lp : ((p.map pc).length : Int) = (p.length : Int) := by rw [List.length_map]
  induction m with
  | zero =>
    intro i k K x hi hk hK hx hs
    obtain ⟨k, rfl⟩ : ∃ k', k = k' + 1 := ⟨k - 1, by omega⟩
    obtain ⟨K, rfl⟩ : ∃ k', K = k' + 1 + 1 := ⟨K - 2, by omega⟩
    rw [mosaicref29_Text.l0, if_neg (by omega), mosaicref29_Text.j2, if_neg (by simp)]
    rw [link_Text.l0, if_neg (by omega), h32, Option.bind_some, if_pos (by omega)]
    by_cases h0 : (x.length : Int) > 0
    · obtain ⟨t, ht, hz⟩ := join_f x (by omega) (by omega) (by omega)
      rw [if_pos h0, ht, Option.bind_some, if_pos (by omega), if_pos (by rw [ByteArray.size_append, ByteArray.size_append]; omega)]
      unfold strings_Join.f at ht
      split at ht
      · obtain rfl := Option.some.inj ht
        have := cur_end D x (List.length_pos_iff.mp (by omega))
        rw [show (⟨#[38]⟩ : ByteArray).data.toList = [38] from rfl, this]
      · cases ht
    · rw [if_neg h0]
      have : x = [] := List.length_eq_zero_iff.mp (by omega)
      rw [this, cur_nil]
  | succ m ih =>
    intro i k K x hi hk hK hx hs
    obtain ⟨k, rfl⟩ : ∃ k', k = k' + 1 := ⟨k - 1, by omega⟩
    obtain ⟨K, rfl⟩ : ∃ k', K = k' + 1 + 1 := ⟨K - 2, by omega⟩
    have h1 : i < n.length := by omega
    have h2 : i < p.length := by rw [← hM.len]; omega
    have e1 : Hide (wrap64 ((i : Int) + 1) = ((i + 1 : Nat) : Int)) := ⟨by clear z7 z1 z5 zc hs; rw [w64 (by omega)]; omega⟩
    have g1 : (i : Int) < (n.length : Int) := Int.ofNat_lt.mpr h1
    have g2 : (0 : Int) ≤ (i : Int) := Int.natCast_nonneg i
    have g3 : (i : Int) < (p.length : Int) := Int.ofNat_lt.mpr h2
    have f1 : n.length = (i + 1) + m := by clear z7 z1 z5 zc hs; omega
    have f2 : m + 1 ≤ k := by clear z7 z1 z5 zc hs; omega
    have f2' : 2 * m + 20 ≤ K := by clear z7 z1 z5 zc hs; omega
    have f3 : x.length + 1 ≤ 1 + (i + 1) := by clear z7 z1 z5 zc hs; omega
    have f4 : sumL x + 25 ≤ 186 + 25 * (i + 1) := by clear z7 z1 z5 zc; omega
    have q6 : x.length < 8796093022208 := Nat.lt_of_le_of_lt (show x.length ≤ 10 by clear z7 z1 z5 zc hs; omega) (by decide)
    have hX : (cur D x).size ≤ 1000 := by have := cur_size D x (by omega); omega
    have hS := sg_size x
    obtain ⟨hn, hp1, hp2⟩ := hM.each i h1 h2
    obtain ⟨A, hA, hA', s1⟩ : ∃ A, strconv_Itoa_64.f n[i] = some A ∧ mosaicref23_Num.f K n[i] = some A ∧ A.size ≤ 2 := ⟨_, itoa_f n[i] (by omega), Bq.num_eq _ K (by omega) (by omega), by rw [szL]; exact itoa_node n[i] hn⟩
    obtain ⟨B, hB, hB', s2⟩ : ∃ A, strconv_Itoa_64.f p[i].f0 = some A ∧ mosaicref23_Num.f K (pc p[i]).f0 = some A ∧ A.size ≤ 8 := ⟨_, itoa_f _ hp1, Bq.num_eq p[i].f0 K (by omega) (by omega), by rw [szL]; exact itoa_part _ hp1⟩
    obtain ⟨C, hC, hC', s3⟩ : ∃ A, strconv_Itoa_64.f p[i].f1 = some A ∧ mosaicref23_Num.f K (pc p[i]).f1 = some A ∧ A.size ≤ 8 := ⟨_, itoa_f _ hp2, Bq.num_eq p[i].f1 K (by omega) (by omega), by rw [szL]; exact itoa_part _ hp2⟩
    have q1 : 5 + A.size ≤ 9223372036854775807 := by omega
    have q2 : Hide (((⟨#[110, 111, 100, 101, 61]⟩ : ByteArray) ++ A).size + 1 ≤ 9223372036854775807) := ⟨by rw [ByteArray.size_append, z5]; omega⟩
    have q3 : Hide ((((⟨#[110, 111, 100, 101, 61]⟩ : ByteArray) ++ A) ++ (⟨#[44]⟩ : ByteArray)).size + B.size ≤ 9223372036854775807) := ⟨by rw [ByteArray.size_append, ByteArray.size_append, z5, zc]; omega⟩
    have q4 : Hide (((((⟨#[110, 111, 100, 101, 61]⟩ : ByteArray) ++ A) ++ (⟨#[44]⟩ : ByteArray)) ++ B).size + 1 ≤ 9223372036854775807) := ⟨by rw [ByteArray.size_append, ByteArray.size_append, ByteArray.size_append, z5, zc]; omega⟩
    have z : Hide ((((((⟨#[110, 111, 100, 101, 61]⟩ : ByteArray) ++ A) ++ (⟨#[44]⟩ : ByteArray)) ++ B) ++ (⟨#[44]⟩ : ByteArray)).size = 7 + A.size + B.size) := ⟨by rw [ByteArray.size_append, ByteArray.size_append, ByteArray.size_append, ByteArray.size_append, z5, zc]; omega⟩
    have q5 : Hide ((((((⟨#[110, 111, 100, 101, 61]⟩ : ByteArray) ++ A) ++ (⟨#[44]⟩ : ByteArray)) ++ B) ++ (⟨#[44]⟩ : ByteArray)).size + C.size ≤ 9223372036854775807) := ⟨by rw [z.out]; omega⟩
    have w1 : Hide ((cur D x ++ sg x).size = (cur D x).size + 1) := ⟨by rw [ByteArray.size_append, hS]⟩
    have w2 : Hide (((cur D x ++ sg x) ++ (⟨#[110, 111, 100, 101, 61]⟩ : ByteArray)).size = (cur D x).size + 6) := ⟨by rw [ByteArray.size_append, w1.out, z5]⟩
    have w3 : Hide ((((cur D x ++ sg x) ++ (⟨#[110, 111, 100, 101, 61]⟩ : ByteArray)) ++ A).size = (cur D x).size + 6 + A.size) := ⟨by rw [ByteArray.size_append, w2.out]⟩
    have w4 : Hide (((((cur D x ++ sg x) ++ (⟨#[110, 111, 100, 101, 61]⟩ : ByteArray)) ++ A) ++ (⟨#[44]⟩ : ByteArray)).size = (cur D x).size + 6 + A.size + 1) := ⟨by rw [ByteArray.size_append, w3.out, zc]⟩
    have w5 : Hide ((((((cur D x ++ sg x) ++ (⟨#[110, 111, 100, 101, 61]⟩ : ByteArray)) ++ A) ++ (⟨#[44]⟩ : ByteArray)) ++ B).size = (cur D x).size + 6 + A.size + 1 + B.size) := ⟨by rw [ByteArray.size_append, w4.out]⟩
    have w6 : Hide (((((((cur D x ++ sg x) ++ (⟨#[110, 111, 100, 101, 61]⟩ : ByteArray)) ++ A) ++ (⟨#[44]⟩ : ByteArray)) ++ B) ++ (⟨#[44]⟩ : ByteArray)).size = (cur D x).size + 6 + A.size + 1 + B.size + 1) := ⟨by rw [ByteArray.size_append, w5.out, zc]⟩
    rw [link_Text.l0, if_pos g1, if_pos g2, if_pos g1, rdI n i h1, rdP p i h2, hA, Option.bind_some, if_pos q1, if_pos q2.out, if_pos g3, hB, Option.bind_some, if_pos q3.out, if_pos q4.out, hC, Option.bind_some, if_pos q5.out, if_pos q6, e1.out]
    rw [mosaicref29_Text.l0, if_pos g1, lp, decide_eq_true g3, mosaicref29_Text.j2, if_pos rfl, if_pos (by rw [hS]; omega), if_pos (by rw [w1.out]; omega), if_pos g2, if_pos g1, rdI n i h1, hA', Option.bind_some, if_pos (by rw [w2.out]; omega), if_pos (by rw [w3.out]; omega), lp, if_pos g3, rdQ p i h2, hB', Option.bind_some, if_pos (by rw [w4.out]; omega), if_pos (by rw [w5.out]; omega), hC', Option.bind_some, if_pos (by rw [w6.out]; omega), e1.out, part_app, cur_snoc]
    have hz := z.out
    generalize ((((⟨#[110, 111, 100, 101, 61]⟩ : ByteArray) ++ A) ++ (⟨#[44]⟩ : ByteArray)) ++ B) ++ (⟨#[44]⟩ : ByteArray) = Z at hz ⊢
    have hs2 : sumL (x ++ [Z ++ C]) = sumL x + (Z.size + C.size) := by
      unfold sumL
      rw [List.map_append, List.sum_append, List.map_cons, List.map_nil, List.sum_cons, List.sum_nil, ByteArray.size_append]; rfl
    rw [← sg_snoc x (Z ++ C)]
    refine ih (i + 1) k K _ f1 f2 f2' (by rw [List.length_append]; exact f3) ?_
    rw [hs2]
    generalize sumL x = q at f4 ⊢
    clear hs2 hA hB hC hA' hB' hC' e1 q1 q2 q3 q4 q5 z z7 z1 z5 zc h32 hs hM ih w1 w2 w3 w4 w5 w6
    omega
end Go.Proofs.YtmimnlbkllgfpaaGreatDoor.Tx
/- link.Text and link.Nearest, and the document's: one answer. -/
namespace Go.Proofs.YtmimnlbkllgfpaaGreatDoor.Tx
open Go.RowKit Go.Proofs.YtmimnlbkllgfpaaGreatDoor.A Go.Proofs.YtmimnlbkllgfpaaGreatDoor.Hand Go.Proofs.YtmimnlbkllgfpaaGreatDoorW.PrintWords Go.Proofs.YtmimnlbkllgfpaaGreatDoorW.PrintLast Go.Proofs.YtmimnlbkllgfpaaGreatDoorW.PrintMore

theorem title_app (D E : ByteArray) : (((((⟨#[109, 111, 115, 97, 105, 99, 58]⟩ : ByteArray) ++ D) ++ (⟨#[63]⟩ : ByteArray)) ++ (⟨#[116, 105, 116, 108, 101, 61]⟩ : ByteArray)) ++ E) = cur D [(⟨#[116, 105, 116, 108, 101, 61]⟩ : ByteArray) ++ E] := by
  rw [cur_nil, ← List.nil_append [(⟨#[116, 105, 116, 108, 101, 61]⟩ : ByteArray) ++ E], ← cur_snoc]
  apply by_ext
  simp only [by_app, List.append_assoc]
  rfl
theorem text_ref (a b : ByteArray) (n : List Int) (p : List S24) (k K : Nat) (hk : 1200 ≤ k) (hK : 1300 ≤ K) : mosaicref29_Text.f K a b n (p.map pc) = link_Text.f k a b n p := by
  unfold mosaicref29_Text.f link_Text.f
  rw [check_ref a b n p k K (by omega) (by omega)]
  obtain ⟨r, hr, hM⟩ := check_eq a b n p k (by omega)
  rw [hr, Option.bind_some, Option.bind_some]
  by_cases h : r = true
  · have hM := hM h
    rw [if_pos h, if_pos h]
    have hsz := hM.name
    have hti := hM.title
    have hf := hM.few
    have hD : (Bp.b32 a).size = 52 := by unfold Bp.b32; rw [szL, Bp.encN_length, hM.name]
    have h32 : link_Base32.f a = some (Bp.b32 a) := by unfold link_Base32.f; rw [if_pos (by rw [hM.name]; omega)]
    have go : ∀ x : List ByteArray, x.length ≤ 1 → sumL x ≤ 186 → mosaicref29_Text.j0 K (cur (Bp.b32 a) x) (sg x) a b n (p.map pc) = link_Text.j0 k x a b n p := by
      intro x hx hs
      obtain ⟨k, rfl⟩ : ∃ k', k = k' + 1 := ⟨k - 1, by omega⟩
      obtain ⟨K, rfl⟩ : ∃ k', K = k' + 1 := ⟨K - 1, by omega⟩
      rw [link_Text.j0, mosaicref29_Text.j0]
      exact text_ref_l a b n p hM (Bp.b32 a) hD h32 n.length 0 k K x (by omega) (by omega) (by omega) (by omega) (by omega)
    rw [Bq.refBase32_eq a K (by omega) (by omega), Option.bind_some, if_pos (by omega)]
    by_cases ht : b.toList = []
    · rw [if_pos ht, if_pos ht, cur_nil]
      exact go [] (by simp) (by simp [sumL])
    · rw [if_neg ht, if_neg ht]
      obtain ⟨hE, hEl⟩ := esc_f b (by omega)
      rw [Bq.refEscape_eq b K (by omega) (by omega), hE, Option.bind_some, Option.bind_some]
      have z1 : (⟨#[63]⟩ : ByteArray).size = 1 := rfl
      have z6 : (⟨#[116, 105, 116, 108, 101, 61]⟩ : ByteArray).size = 6 := rfl
      have z7 : (⟨#[109, 111, 115, 97, 105, 99, 58]⟩ : ByteArray).size = 7 := rfl
      have v1 : ((⟨#[109, 111, 115, 97, 105, 99, 58]⟩ : ByteArray) ++ Bp.b32 a).size = 59 := by rw [ByteArray.size_append, z7, hD]
      have v2 : (((⟨#[109, 111, 115, 97, 105, 99, 58]⟩ : ByteArray) ++ Bp.b32 a) ++ (⟨#[63]⟩ : ByteArray)).size = 60 := by rw [ByteArray.size_append, v1, z1]
      have v3 : ((((⟨#[109, 111, 115, 97, 105, 99, 58]⟩ : ByteArray) ++ Bp.b32 a) ++ (⟨#[63]⟩ : ByteArray)) ++ (⟨#[116, 105, 116, 108, 101, 61]⟩ : ByteArray)).size = 66 := by rw [ByteArray.size_append, v2, z6]
      rw [if_pos (by rw [v1]; omega), if_pos (by rw [v2]; omega), if_pos (by rw [v3]; omega), title_app, if_pos (by omega), if_pos (by simp)]
      have := go [(⟨#[116, 105, 116, 108, 101, 61]⟩ : ByteArray) ++ Ex.escB b] (by simp) (by
        simp only [sumL, List.map_cons, List.map_nil, List.sum_cons, List.sum_nil, ByteArray.size_append, z6]; omega)
      rw [show sg [(⟨#[116, 105, 116, 108, 101, 61]⟩ : ByteArray) ++ Ex.escB b] = ⟨#[38]⟩ from rfl] at this
      exact this
  · rw [if_neg h, if_neg h]

end Go.Proofs.YtmimnlbkllgfpaaGreatDoor.Tx
