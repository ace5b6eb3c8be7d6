/- link.Check and link.Text: how long a link's text is, in plain words. -/
import Derived.Test.YtmimnlbkllgfpaaGreatDoorAx0
import Derived.Test.YtmimnlbkllgfpaaGreatDoorAx2
import Derived.Test.YtmimnlbkllgfpaaGreatDoorAx3
import Derived.Test.YtmimnlbkllgfpaaGreatDoorAx4
import Derived.Test.YtmimnlbkllgfpaaGreatDoorAx5
import Derived.Test.YtmimnlbkllgfpaaGreatDoorHd
import Derived.Lib.ItoaNum
import Derived.Lib.Join
namespace Go.Proofs.YtmimnlbkllgfpaaGreatDoor.Tx
open Go.RowKit Go.Proofs.YtmimnlbkllgfpaaGreatDoor.A Go.Proofs.YtmimnlbkllgfpaaGreatDoor.Hand Go.Proofs.YtmimnlbkllgfpaaGreatDoorW.PrintWords Go.Proofs.YtmimnlbkllgfpaaGreatDoorW.PrintLast Go.Proofs.YtmimnlbkllgfpaaGreatDoorW.PrintMore

theorem w64 {n : Int} (h : -9223372036854775808 ≤ n ∧ n ≤ 9223372036854775807) : wrap64 n = n := by
  unfold wrap64; omega
theorem szL (b : List UInt8) : (⟨b.toArray⟩ : ByteArray).size = b.length := by show b.toArray.size = _; simp
theorem rdI (l : List Int) (i : Nat) (h : i < l.length) : rd l (i : Int) = l[i] := by
  unfold rd; rw [Int.toNat_natCast, List.getD_eq_getElem?_getD, List.getElem?_eq_getElem h]; rfl
theorem rdP (l : List S24) (i : Nat) (h : i < l.length) : rd_T24 l (i : Int) = l[i] := by
  unfold rd_T24; rw [Int.toNat_natCast, List.getD_eq_getElem?_getD, List.getElem?_eq_getElem h]; rfl

theorem titled_l0 (s : ByteArray) (hs : s.size ≤ 1000) (m : Nat) : ∀ (i k : Nat), s.size = i + m → m + 1 ≤ k → ∃ b, link_titled.l0 k s (s.size : Int) (i : Int) = some b := by
  induction m with
  | zero =>
    intro i k hi hk
    obtain ⟨k, rfl⟩ : ∃ k', k = k' + 1 := ⟨k - 1, by omega⟩
    rw [link_titled.l0, if_neg (by omega)]; exact ⟨_, rfl⟩
  | succ m ih =>
    intro i k hi hk
    obtain ⟨k, rfl⟩ : ∃ k', k = k' + 1 := ⟨k - 1, by omega⟩
    rw [link_titled.l0, if_pos (by omega), if_pos (by omega), if_pos (by omega), w64 (by omega)]
    split
    · exact ⟨_, rfl⟩
    · split
      · exact ⟨_, rfl⟩
      · exact ih (i + 1) k (by omega) (by omega)
theorem titled_eq (s : ByteArray) (k : Nat) (hk : 1001 ≤ k) : ∃ b, link_titled.f k s = some b ∧ (b = true → s.size ≤ 60) := by
  unfold link_titled.f
  by_cases h : (s.size : Int) > 60
  · rw [if_pos h]; exact ⟨_, rfl, by simp⟩
  · rw [if_neg h]
    obtain ⟨b, hb⟩ := titled_l0 s (by omega) s.size 0 k (by omega) (by omega)
    exact ⟨b, hb, fun _ => by omega⟩
theorem within_eq (a : Int) : plane_within.f a = some (decide (-1048576 ≤ a) && decide (a ≤ 1048576)) := by
  unfold plane_within.f
  by_cases h : a ≥ -1048576
  · rw [if_pos h]; simp; omega
  · rw [if_neg h]; simp; omega
/-- A place's parts are not too great. -/
def Small (p : S24) : Prop := (-1048576 ≤ p.f0 ∧ p.f0 ≤ 1048576) ∧ (-1048576 ≤ p.f1 ∧ p.f1 ≤ 1048576)
theorem pcheck_eq (a b : Int) : ∃ r, plane_Check.f a b = some r ∧ (r = true → Small ⟨a, b⟩) := by
  unfold plane_Check.f
  rw [within_eq, Option.bind_some, within_eq]
  by_cases h : (decide (-1048576 ≤ a) && decide (a ≤ 1048576)) = true
  · rw [if_pos h]
    refine ⟨_, rfl, fun h2 => ?_⟩
    simp at h h2
    exact ⟨h, h2⟩
  · rw [if_neg h]; exact ⟨_, rfl, by simp⟩

theorem check_l0 (n : List Int) (p : List S24) (a b : ByteArray) (hn : n.length ≤ 6) (hp : n.length = p.length) (m : Nat) : ∀ (i k : Nat), n.length = i + m → m + 1 ≤ k →
    ∃ r, link_Check.l0 k n (n.length : Int) (i : Int) a b n p = some r ∧ (r = true → ∀ j, i ≤ j → ∀ (h1 : j < n.length) (h2 : j < p.length), (1 ≤ n[j] ∧ n[j] ≤ 15) ∧ Small p[j]) := by
  induction m with
  | zero =>
    intro i k hi hk
    obtain ⟨k, rfl⟩ : ∃ k', k = k' + 1 := ⟨k - 1, by omega⟩
    rw [link_Check.l0, if_neg (by omega)]; exact ⟨_, rfl, fun _ j hj h1 => by omega⟩
  | succ m ih =>
    intro i k hi hk
    obtain ⟨k, rfl⟩ : ∃ k', k = k' + 1 := ⟨k - 1, by omega⟩
    have h1 : i < n.length := by omega
    have h2 : i < p.length := by omega
    obtain ⟨c, hc, hc2⟩ := pcheck_eq p[i].f0 p[i].f1
    obtain ⟨r, hr, hr2⟩ := ih (i + 1) k (by omega) (by omega)
    have fin : 1 ≤ n[i] → n[i] ≤ 15 → ∃ r, (plane_Check.f p[i].f0 p[i].f1).bind (fun t => if t = true then link_Check.l0 k n (n.length : Int) ((i + 1 : Nat) : Int) a b n p else some false) = some r ∧ (r = true → ∀ j, i ≤ j → ∀ (h1 : j < n.length) (h2 : j < p.length), (1 ≤ n[j] ∧ n[j] ≤ 15) ∧ Small p[j]) := by
      intro l1 l2
      rw [hc, Option.bind_some]
      by_cases hct : c = true
      · rw [if_pos hct, hr]
        refine ⟨r, rfl, fun hrt j hj q1 q2 => ?_⟩
        rcases Nat.lt_or_ge i j with hlt | hge
        · exact hr2 hrt j (by omega) q1 q2
        · obtain rfl : j = i := by omega
          exact ⟨⟨l1, l2⟩, hc2 hct⟩
      · rw [if_neg hct]; exact ⟨_, rfl, by simp⟩
    have e1 : wrap64 ((i : Int) + 1) = ((i + 1 : Nat) : Int) := by rw [w64 (by omega)]; omega
    rw [link_Check.l0, if_pos (by omega), if_pos (by omega), if_pos (by omega), rdI n i h1, e1, rdP p i h2]
    by_cases l1 : n[i] < 1
    · rw [if_pos l1]; exact ⟨_, rfl, by simp⟩
    · rw [if_neg l1]
      by_cases l2 : n[i] > 15
      · rw [if_pos l2]; exact ⟨_, rfl, by simp⟩
      · rw [if_neg l2]
        by_cases l3 : (i : Int) > 0
        · rw [if_pos l3, w64 (n := (i : Int) - 1) (by omega), if_pos (by omega), if_pos (by omega)]
          split
          · exact ⟨_, rfl, by simp⟩
          · rw [if_pos (by omega)]; exact fin (by omega) (by omega)
        · rw [if_neg l3, if_pos (by omega)]; exact fin (by omega) (by omega)
/-- What a link is that may be. -/
structure May (a b : ByteArray) (n : List Int) (p : List S24) : Prop where
  name : a.size = 32
  title : b.size ≤ 60
  len : n.length = p.length
  few : n.length ≤ 6
  each : ∀ j (h1 : j < n.length) (h2 : j < p.length), (1 ≤ n[j] ∧ n[j] ≤ 15) ∧ Small p[j]
theorem check_eq (a b : ByteArray) (n : List Int) (p : List S24) (k : Nat) (hk : 1100 ≤ k) : ∃ r, link_Check.f k a b n p = some r ∧ (r = true → May a b n p) := by
  unfold link_Check.f
  obtain ⟨k, rfl⟩ : ∃ k', k = k' + 1 := ⟨k - 1, by omega⟩
  have no : link_Check.j0 (k + 1) true a b n p = some false := by rw [link_Check.j0, if_pos rfl]
  by_cases h1 : (a.size : Int) = 32
  · rw [if_pos h1]
    obtain ⟨t, ht, ht2⟩ := titled_eq b (k + 1) (by omega)
    rw [ht, Option.bind_some]
    by_cases h2 : t = true
    · rw [if_pos h2]
      by_cases h3 : (n.length : Int) = (p.length : Int)
      · rw [if_pos h3]
        by_cases h4 : (n.length : Int) > 6
        · rw [decide_eq_true h4, no]; exact ⟨_, rfl, by simp⟩
        · rw [decide_eq_false h4, link_Check.j0, if_neg (by simp)]
          obtain ⟨r, hr, hr2⟩ := check_l0 n p a b (by omega) (by omega) n.length 0 k (by omega) (by omega)
          exact ⟨r, hr, fun h => ⟨by omega, ht2 h2, by omega, by omega, fun j q1 q2 => hr2 h j (by omega) q1 q2⟩⟩
      · rw [if_neg h3, no]; exact ⟨_, rfl, by simp⟩
    · rw [if_neg h2, no]; exact ⟨_, rfl, by simp⟩
  · rw [if_neg h1, no]; exact ⟨_, rfl, by simp⟩

theorem dec_len (k : Nat) : ∀ u, u < 10 ^ (k + 1) → (Lib.decDigits u).length ≤ k + 1 := by
  induction k with
  | zero => intro u h; rw [Lib.decDigits, dif_pos (by omega)]; simp
  | succ k ih =>
    intro u h
    rw [Lib.decDigits]
    split
    · simp
    · have := ih (u / 10) (by rw [Nat.pow_succ] at h; omega)
      simp only [List.length_append, List.length_cons, List.length_nil]; omega
theorem itoa_node (n : Int) (h : 1 ≤ n ∧ n ≤ 15) : (Lib.itoa n).length ≤ 2 := by
  unfold Lib.itoa; rw [if_neg (by omega)]; exact dec_len 1 _ (by omega)
theorem itoa_part (n : Int) (h : -1048576 ≤ n ∧ n ≤ 1048576) : (Lib.itoa n).length ≤ 8 := by
  unfold Lib.itoa
  split
  · have := dec_len 6 n.natAbs (by omega)
    simp only [List.length_cons]; omega
  · have := dec_len 6 n.toNat (by omega)
    omega
theorem itoa_f (n : Int) (h : -1048576 ≤ n ∧ n ≤ 1048576) : strconv_Itoa_64.f n = some ⟨(Lib.itoa n).toArray⟩ := by
  unfold strconv_Itoa_64.f; rw [if_pos (by omega)]

/-- The sum of lengths. -/
def sumL (l : List ByteArray) : Nat := (l.map (·.size)).sum
theorem tail_len (r : List ByteArray) : (Lib.joinTail [38] (r.map (·.data.toList))).length = sumL r + r.length := by
  induction r with
  | nil => rfl
  | cons x r ih =>
    have hx : x.data.toList.length = x.size := Array.length_toList
    unfold Lib.joinTail sumL at *
    simp only [List.map_cons, List.flatten_cons, List.length_append, List.sum_cons, List.length_cons, List.length_nil, hx] at *
    omega
theorem join_len (l : List ByteArray) (h : 0 < l.length) : (Lib.join (l.map (·.data.toList)) [38]).length + 1 = sumL l + l.length := by
  cases l with
  | nil => simp at h
  | cons x r =>
    have hx : x.data.toList.length = x.size := Array.length_toList
    have := tail_len r
    rw [List.map_cons, Lib.join_cons, List.length_append, this, hx]
    unfold sumL
    simp only [List.map_cons, List.sum_cons, List.length_cons]
    omega
theorem join_f (l : List ByteArray) (h : 0 < l.length) (h2 : l.length ≤ 10) (h3 : sumL l ≤ 1000) : ∃ t, strings_Join.f l ⟨#[38]⟩ = some t ∧ t.size + 1 = sumL l + l.length := by
  have := join_len l h
  refine ⟨⟨(Lib.join (l.map (·.data.toList)) [38]).toArray⟩, ?_, by rw [szL]; exact this⟩
  have hc : 0 < l.length ∧ l.length ≤ 140737488355328 ∧ (Lib.join (l.map (·.data.toList)) (⟨#[38]⟩ : ByteArray).data.toList).length ≤ 140737488355328 := ⟨h, by omega, by
    show (Lib.join (l.map (·.data.toList)) [38]).length ≤ _
    omega⟩
  unfold strings_Join.f
  rw [if_pos hc]

/-- A fact that arithmetic shall not look into. -/
structure Hide (p : Prop) : Prop where mk :: (out : p)
theorem text_l0 (a b : ByteArray) (n : List Int) (p : List S24) (hM : May a b n p) (m : Nat) : ∀ (i k : Nat) (x : List ByteArray), n.length = i + m → m + 1 ≤ k → x.length ≤ 1 + i → sumL x ≤ 186 + 25 * i →
    ∃ t, link_Text.l0 k x n (n.length : Int) (i : Int) a b n p = some (t, 0) ∧ 0 < t.size ∧ t.size ≤ 402 := by
  obtain ⟨D, hb32, h32⟩ : ∃ D : ByteArray, D.size = 52 ∧ link_Base32.f a = some D :=
    ⟨Bp.b32 a, by unfold Bp.b32; rw [szL, Bp.encN_length, hM.name], by unfold link_Base32.f; rw [if_pos (by rw [hM.name]; omega)]⟩
  have z7 : (⟨#[109, 111, 115, 97, 105, 99, 58]⟩ : ByteArray).size = 7 := rfl
  have z1 : (⟨#[63]⟩ : ByteArray).size = 1 := rfl
  have z5 : (⟨#[110, 111, 100, 101, 61]⟩ : ByteArray).size = 5 := rfl
  have zc : (⟨#[44]⟩ : ByteArray).size = 1 := rfl
  have hfew := hM.few
  induction m with
  | zero =>
    intro i k x hi hk hx hs
    obtain ⟨k, rfl⟩ : ∃ k', k = k' + 1 := ⟨k - 1, by omega⟩
    rw [link_Text.l0, if_neg (by omega), h32, Option.bind_some, if_pos (by omega)]
    by_cases h0 : (x.length : Int) > 0
    · obtain ⟨t, ht, hz⟩ := join_f x (by omega) (by omega) (by omega)
      rw [if_pos h0, ht, Option.bind_some, if_pos (by omega), if_pos (by rw [ByteArray.size_append, ByteArray.size_append]; omega)]
      refine ⟨_, rfl, ?_, ?_⟩
      · simp only [ByteArray.size_append]; omega
      · simp only [ByteArray.size_append]; omega
    · rw [if_neg h0]
      refine ⟨_, rfl, ?_, ?_⟩
      · simp only [ByteArray.size_append]; omega
      · simp only [ByteArray.size_append]; omega
  | succ m ih =>
    intro i k x hi hk hx hs
    obtain ⟨k, rfl⟩ : ∃ k', k = k' + 1 := ⟨k - 1, by omega⟩
    have h1 : i < n.length := by omega
    have h2 : i < p.length := by rw [← hM.len]; omega
    have e1 : Hide (wrap64 ((i : Int) + 1) = ((i + 1 : Nat) : Int)) := ⟨by clear z7 z1 z5 zc hb32 hs; rw [w64 (by omega)]; omega⟩
    have g1 : (i : Int) < (n.length : Int) := Int.ofNat_lt.mpr h1
    have g2 : (0 : Int) ≤ (i : Int) := Int.natCast_nonneg i
    have g3 : (i : Int) < (p.length : Int) := Int.ofNat_lt.mpr h2
    have f1 : n.length = (i + 1) + m := by clear z7 z1 z5 zc hb32 hs; omega
    have f2 : m + 1 ≤ k := by clear z7 z1 z5 zc hb32 hs; omega
    have f3 : x.length + 1 ≤ 1 + (i + 1) := by clear z7 z1 z5 zc hb32 hs; omega
    have f4 : sumL x + 25 ≤ 186 + 25 * (i + 1) := by clear z7 z1 z5 zc hb32; omega
    have q6 : x.length < 8796093022208 := Nat.lt_of_le_of_lt (show x.length ≤ 10 by clear z7 z1 z5 zc hb32 hs; omega) (by decide)
    obtain ⟨hn, hp1, hp2⟩ := hM.each i h1 h2
    obtain ⟨A, hA, s1⟩ : ∃ A, strconv_Itoa_64.f n[i] = some A ∧ A.size ≤ 2 := ⟨_, itoa_f n[i] (by omega), by rw [szL]; exact itoa_node n[i] hn⟩
    obtain ⟨B, hB, s2⟩ : ∃ A, strconv_Itoa_64.f p[i].f0 = some A ∧ A.size ≤ 8 := ⟨_, itoa_f _ hp1, by rw [szL]; exact itoa_part _ hp1⟩
    obtain ⟨C, hC, s3⟩ : ∃ A, strconv_Itoa_64.f p[i].f1 = some A ∧ A.size ≤ 8 := ⟨_, itoa_f _ hp2, by rw [szL]; exact itoa_part _ hp2⟩
    have q1 : 5 + A.size ≤ 9223372036854775807 := by omega
    have q2 : Hide (((⟨#[110, 111, 100, 101, 61]⟩ : ByteArray) ++ A).size + 1 ≤ 9223372036854775807) := ⟨by rw [ByteArray.size_append, z5]; omega⟩
    have q3 : Hide ((((⟨#[110, 111, 100, 101, 61]⟩ : ByteArray) ++ A) ++ (⟨#[44]⟩ : ByteArray)).size + B.size ≤ 9223372036854775807) := ⟨by rw [ByteArray.size_append, ByteArray.size_append, z5, zc]; omega⟩
    have q4 : Hide (((((⟨#[110, 111, 100, 101, 61]⟩ : ByteArray) ++ A) ++ (⟨#[44]⟩ : ByteArray)) ++ B).size + 1 ≤ 9223372036854775807) := ⟨by rw [ByteArray.size_append, ByteArray.size_append, ByteArray.size_append, z5, zc]; omega⟩
    have z : Hide ((((((⟨#[110, 111, 100, 101, 61]⟩ : ByteArray) ++ A) ++ (⟨#[44]⟩ : ByteArray)) ++ B) ++ (⟨#[44]⟩ : ByteArray)).size = 7 + A.size + B.size) := ⟨by rw [ByteArray.size_append, ByteArray.size_append, ByteArray.size_append, ByteArray.size_append, z5, zc]; omega⟩
    have q5 : Hide ((((((⟨#[110, 111, 100, 101, 61]⟩ : ByteArray) ++ A) ++ (⟨#[44]⟩ : ByteArray)) ++ B) ++ (⟨#[44]⟩ : ByteArray)).size + C.size ≤ 9223372036854775807) := ⟨by rw [z.out]; omega⟩
    rw [link_Text.l0, if_pos g1, if_pos g2, if_pos g1, rdI n i h1, rdP p i h2, hA, Option.bind_some, if_pos q1, if_pos q2.out, if_pos g3, hB, Option.bind_some, if_pos q3.out, if_pos q4.out, hC, Option.bind_some, if_pos q5.out, if_pos q6, e1.out]
    refine ih (i + 1) k _ f1 f2 (by rw [List.length_append]; exact f3) ?_
    have hz := z.out
    generalize ((((⟨#[110, 111, 100, 101, 61]⟩ : ByteArray) ++ A) ++ (⟨#[44]⟩ : ByteArray)) ++ B) ++ (⟨#[44]⟩ : ByteArray) = Z at hz ⊢
    have hs2 : sumL (x ++ [Z ++ C]) = sumL x + (Z.size + C.size) := by
      unfold sumL
      rw [List.map_append, List.sum_append, List.map_cons, List.map_nil, List.sum_cons, List.sum_nil, ByteArray.size_append]; rfl
    rw [hs2]
    generalize sumL x = q at f4 ⊢
    clear hs2 hA hB hC e1 q1 q2 q3 q4 q5 z z7 z1 z5 zc hb32 h32 hs hM ih
    omega
theorem esc_f (s : ByteArray) (h : s.size ≤ 1000) : link_Escape.f s = some (Ex.escB s) ∧ (Ex.escB s).size ≤ 3 * s.size := by
  constructor
  · unfold link_Escape.f; rw [if_pos (by omega)]
  · have := Ex.escL_length s.data.toList
    have hz : s.data.toList.length = s.size := Array.length_toList
    unfold Ex.escB; rw [szL]; omega
/-- A link's text is not long; there is one just where the link may be. -/
theorem text_eq (a b : ByteArray) (n : List Int) (p : List S24) (k : Nat) (hk : 1200 ≤ k) : ∃ t e, link_Text.f k a b n p = some (t, e) ∧ t.size ≤ 402 ∧ ((e = 0 ∧ 0 < t.size) ∨ (e = 1 ∧ t.size = 0)) := by
  unfold link_Text.f
  obtain ⟨r, hr, hM⟩ := check_eq a b n p k (by omega)
  rw [hr, Option.bind_some]
  by_cases h : r = true
  · have hM := hM h
    rw [if_pos h]
    obtain ⟨k, rfl⟩ : ∃ k', k = k' + 1 := ⟨k - 1, by omega⟩
    have z6 : (⟨#[116, 105, 116, 108, 101, 61]⟩ : ByteArray).size = 6 := rfl
    have go : ∀ x : List ByteArray, x.length ≤ 1 → sumL x ≤ 186 → ∃ t e, link_Text.j0 (k + 1) x a b n p = some (t, e) ∧ t.size ≤ 402 ∧ ((e = 0 ∧ 0 < t.size) ∨ (e = 1 ∧ t.size = 0)) := by
      intro x hx hs
      rw [link_Text.j0]
      have hf := hM.few
      obtain ⟨t, ht, h1, h2⟩ := text_l0 a b n p hM n.length 0 k x (by omega) (by omega) (by omega) (by omega)
      exact ⟨t, 0, ht, h2, Or.inl ⟨rfl, h1⟩⟩
    by_cases ht : b.toList = []
    · rw [if_pos ht]; exact go [] (by simp) (by simp [sumL])
    · have hb := hM.title
      obtain ⟨h1, h2⟩ := esc_f b (by omega)
      rw [if_neg ht, h1, Option.bind_some, if_pos (by omega), if_pos (by simp)]
      refine go _ (by simp) ?_
      simp only [sumL, List.nil_append, List.map_cons, List.map_nil, List.sum_cons, List.sum_nil, ByteArray.size_append, z6]; omega
  · rw [if_neg h]
    exact ⟨_, _, rfl, by decide, Or.inr ⟨rfl, rfl⟩⟩

end Go.Proofs.YtmimnlbkllgfpaaGreatDoor.Tx
/- A link's text as bytes. -/
namespace Go.Proofs.YtmimnlbkllgfpaaGreatDoor.Tx
open Go.RowKit Go.Proofs.YtmimnlbkllgfpaaGreatDoor.A Go.Proofs.YtmimnlbkllgfpaaGreatDoor.Hand Go.Proofs.YtmimnlbkllgfpaaGreatDoorW.PrintWords Go.Proofs.YtmimnlbkllgfpaaGreatDoorW.PrintLast Go.Proofs.YtmimnlbkllgfpaaGreatDoorW.PrintMore

/-- The bytes of a text. -/
def by_ (s : ByteArray) : List UInt8 := s.data.toList
theorem by_app (s t : ByteArray) : by_ (s ++ t) = by_ s ++ by_ t := by
  unfold by_; rw [ByteArray.data_append]; simp
theorem by_ext {s t : ByteArray} (h : by_ s = by_ t) : s = t := by
  apply ByteArray.ext
  exact Array.toList_inj.1 h
theorem by_mk (l : List UInt8) : by_ ⟨l.toArray⟩ = l := by simp [by_]
theorem by_len (s : ByteArray) : (by_ s).length = s.size := Array.length_toList

/-- The parts behind the '?', with the '?'. -/
def behind (x : List ByteArray) : List UInt8 := if x = [] then [] else 63 :: Lib.join (x.map (·.data.toList)) [38]
/-- A link's text so far. -/
def cur (D : ByteArray) (x : List ByteArray) : ByteArray := ⟨([109, 111, 115, 97, 105, 99, 58] ++ by_ D ++ behind x).toArray⟩
/-- The sign ahead of the next part. -/
def sg (x : List ByteArray) : ByteArray := if x = [] then ⟨#[63]⟩ else ⟨#[38]⟩
theorem sg_size (x : List ByteArray) : (sg x).size = 1 := by unfold sg; split <;> rfl
theorem sg_snoc (x : List ByteArray) (y : ByteArray) : sg (x ++ [y]) = ⟨#[38]⟩ := by unfold sg; rw [if_neg (by simp)]
theorem join_snoc (x : List (List UInt8)) (y : List UInt8) (h : x ≠ []) : Lib.join (x ++ [y]) [38] = Lib.join x [38] ++ 38 :: y := by
  cases x with
  | nil => exact absurd rfl h
  | cons a r =>
    rw [List.cons_append, Lib.join_cons, Lib.join_cons]
    simp [Lib.joinTail]
theorem behind_snoc (x : List ByteArray) (y : ByteArray) : behind (x ++ [y]) = behind x ++ by_ (sg x) ++ by_ y := by
  unfold behind sg
  rw [if_neg (by simp), List.map_append, List.map_cons, List.map_nil]
  by_cases h : x = []
  · subst h
    rw [if_pos rfl, if_pos rfl]
    simp only [List.map_nil, List.nil_append, Lib.join_one]
    rfl
  · rw [if_neg h, if_neg h, join_snoc _ _ (by simpa using h)]
    simp only [List.append_assoc, List.cons_append]
    rfl
theorem by_cur (D : ByteArray) (x : List ByteArray) : by_ (cur D x) = [109, 111, 115, 97, 105, 99, 58] ++ by_ D ++ behind x := by_mk _
theorem cur_snoc (D : ByteArray) (x : List ByteArray) (y : ByteArray) : cur D x ++ sg x ++ y = cur D (x ++ [y]) := by
  apply by_ext
  rw [by_app, by_app, by_cur, by_cur, behind_snoc]
  simp only [List.append_assoc]
theorem behind_len (x : List ByteArray) (h : x.length ≤ 10) : (behind x).length ≤ sumL x + 10 := by
  unfold behind
  split
  · simp
  · rename_i hx
    have := join_len x (List.length_pos_iff.mpr hx)
    rw [List.length_cons]; omega
theorem cur_size (D : ByteArray) (x : List ByteArray) (h : x.length ≤ 10) : (cur D x).size ≤ 17 + D.size + sumL x := by
  have := behind_len x h
  have e : (cur D x).size = 7 + D.size + (behind x).length := by
    rw [← by_len (cur D x), by_cur, List.length_append, List.length_append, by_len]; rfl
  omega
theorem cur_end (D : ByteArray) (x : List ByteArray) (h : x ≠ []) : ((⟨#[109, 111, 115, 97, 105, 99, 58]⟩ : ByteArray) ++ D) ++ ((⟨#[63]⟩ : ByteArray) ++ ⟨(Lib.join (x.map (·.data.toList)) [38]).toArray⟩) = cur D x := by
  apply by_ext
  rw [by_cur, by_app, by_app, by_app, by_mk (Lib.join _ _)]
  unfold behind
  rw [if_neg h]
  rfl
theorem cur_nil (D : ByteArray) : (⟨#[109, 111, 115, 97, 105, 99, 58]⟩ : ByteArray) ++ D = cur D [] := by
  apply by_ext
  rw [by_cur, by_app]
  unfold behind
  rw [if_pos rfl, List.append_nil]
  rfl
theorem part_app (X S N A C B E : ByteArray) : ((((((X ++ S) ++ N) ++ A) ++ C) ++ B) ++ C) ++ E = X ++ S ++ (((((N ++ A) ++ C) ++ B) ++ C) ++ E) := by
  apply by_ext
  simp only [by_app, List.append_assoc]
end Go.Proofs.YtmimnlbkllgfpaaGreatDoor.Tx
