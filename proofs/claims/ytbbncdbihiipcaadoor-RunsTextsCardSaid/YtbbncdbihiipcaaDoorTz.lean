/- The text of a set, written and read by the document. -/
import Derived.Test.YtbbncdbihiipcaaDoorTy
import Derived.Test.YtbbncdbihiipcaaDoorPx2
import Derived.Test.YtbbncdbihiipcaaDoorPx3
import Derived.Test.YtbbncdbihiipcaaDoorPx4
import Derived.Test.YtbbncdbihiipcaaDoorPx5
namespace Go.Proofs.YtbbncdbihiipcaaDoor.Th
open Go.RowKit Go.Proofs.YtbbncdbihiipcaaDoor.P Go.Proofs.YtbbncdbihiipcaaDoorW.PrintWords Go.Proofs.YtbbncdbihiipcaaDoor.Ru

theorem cat (a b : List UInt8) : (⟨a.toArray⟩ : ByteArray) ++ ⟨b.toArray⟩ = ⟨(a ++ b).toArray⟩ := by
  apply ByteArray.ext
  rw [ByteArray.data_append]
  simp
theorem dig_byte (v : Nat) (h : v < 10) : strOfNums [(wrap64 (48 + (v : Int))) % 256] = ⟨[UInt8.ofNat (48 + v)].toArray⟩ := by
  unfold strOfNums
  rw [w64 (by omega), List.map_cons, List.map_nil, show ((48 + (v : Int)) % 256) = ((48 + v : Nat) : Int) by omega, Int.toNat_natCast]
theorem digits_l0 : ∀ (m u : Nat) (acc : List UInt8), u < 10 ^ (m + 1) → u ≤ 1000000 → acc.length + m ≤ 100000 → Ev (fun k => mosaicref25_digits.l0 k u ⟨acc.toArray⟩) ⟨(Lib.decDigits u ++ acc).toArray⟩
  | 0, u, acc, h, h1, h2 => by
    have hu : u < 10 := by omega
    have hz : (⟨acc.toArray⟩ : ByteArray).size = acc.length := rfl
    refine Ev.step (G := fun _ => some _) (fun k => ?_) (Ev.const _)
    rw [mosaicref25_digits.l0, if_neg (by omega), Option.bind_some, dig_byte u hu, if_pos (show (⟨[UInt8.ofNat (48 + u)].toArray⟩ : ByteArray).size + (⟨acc.toArray⟩ : ByteArray).size ≤ _ from (show 1 + acc.length ≤ 9223372036854775807 by omega)), cat, Lib.decDigits_one hu]
  | m + 1, u, acc, h, h1, h2 => by
    by_cases hu : u < 10
    · exact digits_l0 0 u acc (by omega) h1 (by omega)
    · have hq : Int.tdiv (u : Int) 10 = ((u / 10 : Nat) : Int) := by rw [show (10 : Int) = ((10 : Nat) : Int) from rfl, ← Int.ofNat_tdiv]
      have hr : Int.tmod (u : Int) 10 = ((u % 10 : Nat) : Int) := by rw [show (10 : Int) = ((10 : Nat) : Int) from rfl, ← Int.ofNat_tmod]
      have hp : 10 ^ (m + 1 + 1) = 10 * 10 ^ (m + 1) := by rw [Nat.pow_succ, Nat.mul_comm]
      refine Ev.step (fun k => ?_) (r := ⟨(Lib.decDigits u ++ acc).toArray⟩) ?_ (G := fun k => mosaicref25_digits.l0 k ((u / 10 : Nat) : Int) ⟨(UInt8.ofNat (48 + u % 10) :: acc).toArray⟩)
      · rw [mosaicref25_digits.l0, if_pos (by omega), Option.bind_some, hr, dig_byte (u % 10) (by omega), if_pos (show (⟨[UInt8.ofNat (48 + u % 10)].toArray⟩ : ByteArray).size + (⟨acc.toArray⟩ : ByteArray).size ≤ _ from (show 1 + acc.length ≤ 9223372036854775807 by omega)), cat, hq, w64 (by omega)]; rfl
      · have := digits_l0 m (u / 10) (UInt8.ofNat (48 + u % 10) :: acc) (by omega) (by omega) (by simp; omega)
        rw [Lib.decDigits, dif_neg hu, List.append_assoc]
        exact this
theorem digits {v : Int} (h : 0 ≤ v ∧ v ≤ 200) : Ev (fun k => mosaicref25_digits.f k v) ⟨(dg v).toArray⟩ := by
  obtain ⟨u, rfl⟩ := Int.eq_ofNat_of_zero_le h.1
  have := digits_l0 2 u [] (by omega) (by omega) (by simp)
  rw [List.append_nil] at this
  exact this
theorem join_snoc : ∀ (xs : List (List UInt8)) (y : List UInt8), xs ≠ [] → Lib.join (xs ++ [y]) [44] = Lib.join xs [44] ++ 44 :: y
  | [], _, h => absurd rfl h
  | [x], y, _ => by rw [List.singleton_append, join_two, Lib.join_one, Lib.join_one]
  | x :: z :: r, y, _ => by
    rw [List.cons_append, List.cons_append, join_two, ← List.cons_append, join_snoc (z :: r) y (by simp), join_two, List.append_assoc]; rfl
theorem reftext_l0 (L : List (Int × Int)) (hL : L.length ≤ 1000) (hne : L ≠ []) (hi : ∀ x ∈ L, In200 x) : ∀ (d i : Nat), i + d = L.length →
    Ev (fun k => mosaicref25_Text.l0 k (L.map toSp4) ⟨(Lib.join ((L.take i).map piece) [44]).toArray⟩ i) (⟨(txt L).toArray⟩, 0)
  | 0, i, h => by
    rw [List.take_of_length_le (by omega)]
    refine Ev.step (G := fun _ => some _) (fun k => ?_) (Ev.const _)
    have et : txt L = Lib.join (L.map piece) [44] := by unfold txt; rw [if_neg hne]
    rw [mosaicref25_Text.l0, if_neg (by rw [List.length_map]; omega), et]
  | d + 1, i, h => by
    have hlt : i < L.length := by omega
    have hsp : rd_T54 (L.map toSp4) (i : Int) = (⟨L[i].1, L[i].2⟩ : S54) := rd54 L i L[i] (List.getElem?_eq_getElem hlt)
    have hT : L.take (i + 1) = L.take i ++ [L[i]] := by rw [List.take_add_one, List.getElem?_eq_getElem hlt]; rfl
    have hx := hi L[i] (List.getElem_mem hlt)
    have ih := reftext_l0 L hL hne hi d (i + 1) (by omega)
    have hjl := join_len ((L.take i).map piece) (fun y hy => by obtain ⟨x, hx, rfl⟩ := List.mem_map.mp hy; exact (piece_len (hi x (List.mem_of_mem_take hx))).1)
    rw [List.length_map, List.length_take] at hjl
    generalize L[i] = x at *
    -- ahead of this run
    have hj1 : ∀ (A : List UInt8), A.length ≤ 9000 → Lib.join ((L.take (i + 1)).map piece) [44] = A ++ piece x → Ev (fun k => mosaicref25_Text.j1 k (L.map toSp4) ⟨A.toArray⟩ i) (⟨(txt L).toArray⟩, 0) := by
      intro A hA he
      rw [he] at ih
      have r1 : 0 ≤ x.1 ∧ x.1 ≤ 200 := ⟨hx.1, by have := hx.2.1; have := hx.2.2; omega⟩
      have r2 : 0 ≤ x.2 - 1 ∧ x.2 - 1 ≤ 200 := ⟨by have := hx.2.1; have := hx.1; omega, by have := hx.2.2; omega⟩
      have d1 := dg_len r1
      have d2 := dg_len r2
      have hx1 := hx.2.1
      have hw : wrap64 ((i : Int) + 1) = ((i + 1 : Nat) : Int) := by rw [w64 (by omega)]; rfl
      have w1 : wrap64 (x.1 + 1) = x.1 + 1 := w64 (by omega)
      have w2 : wrap64 (x.2 - 1) = x.2 - 1 := w64 (by omega)
      have q1 : (⟨A.toArray⟩ : ByteArray).size + (⟨(dg x.1).toArray⟩ : ByteArray).size ≤ 9223372036854775807 := show A.length + (dg x.1).length ≤ _ by omega
      have q2 : (⟨(A ++ dg x.1).toArray⟩ : ByteArray).size + 1 ≤ 9223372036854775807 := show (A ++ dg x.1).length + 1 ≤ _ by rw [List.length_append]; omega
      have q3 : (⟨(A ++ dg x.1 ++ [45]).toArray⟩ : ByteArray).size + (⟨(dg (x.2 - 1)).toArray⟩ : ByteArray).size ≤ 9223372036854775807 := show (A ++ dg x.1 ++ [45]).length + (dg (x.2 - 1)).length ≤ _ by rw [List.length_append, List.length_append, List.length_singleton]; omega
      have e45 : (⟨(A ++ dg x.1).toArray⟩ : ByteArray) ++ (⟨#[45]⟩ : ByteArray) = ⟨(A ++ dg x.1 ++ [45]).toArray⟩ := cat _ [45]
      have p1 : (0 : Int) ≤ (i : Int) := Int.natCast_nonneg i
      have p2 : (i : Int) < ((L.map toSp4).length : Int) := by rw [List.length_map]; omega
      refine Ev.step (fun k => by rw [mosaicref25_Text.j1, if_pos p1, if_pos p2, hsp]) ?_
      dsimp only
      rw [w1, w2, hw]
      refine Ev.bind (G := fun t157 k => _) (digits r1) ?_
      by_cases he2 : x.2 = x.1 + 1
      · have p3 : ¬ x.2 > x.1 + 1 := by omega
        refine Ev.congr (fun k => by rw [if_pos q1, if_neg p3, cat]) ?_
        have : piece x = dg x.1 := by unfold piece; rw [if_pos he2]
        rw [this] at ih
        exact ih
      · have p3 : x.2 > x.1 + 1 := by omega
        refine Ev.congr (fun k => by rw [if_pos q1, if_pos p3, cat, if_pos q2]) ?_
        refine Ev.bind (G := fun t161 k => _) (digits r2) ?_
        refine Ev.congr (fun k => by rw [e45, if_pos q3, cat]) ?_
        have : piece x = dg x.1 ++ 45 :: dg (x.2 - 1) := by unfold piece; rw [if_neg he2]
        rw [this] at ih
        simp only [List.append_assoc, List.singleton_append] at ih ⊢
        exact ih
    by_cases h0 : i = 0
    · subst h0
      refine Ev.step (G := fun k => mosaicref25_Text.j1 k (L.map toSp4) ⟨([] : List UInt8).toArray⟩ ((0 : Nat) : Int)) (fun k => by rw [mosaicref25_Text.l0, if_pos (by rw [List.length_map]; omega), if_neg (by omega)]; rfl) ?_
      refine hj1 [] (by simp) ?_
      rw [hT]
      simp [Lib.join_one]
    · have e44 : (⟨(Lib.join ((L.take i).map piece) [44]).toArray⟩ : ByteArray) ++ (⟨#[44]⟩ : ByteArray) = ⟨(Lib.join ((L.take i).map piece) [44] ++ [44]).toArray⟩ := cat _ [44]
      have q5 : (⟨(Lib.join ((L.take i).map piece) [44]).toArray⟩ : ByteArray).size + 1 ≤ 9223372036854775807 := show (Lib.join ((L.take i).map piece) [44]).length + 1 ≤ _ by omega
      refine Ev.step (G := fun k => mosaicref25_Text.j1 k (L.map toSp4) ⟨(Lib.join ((L.take i).map piece) [44] ++ [44]).toArray⟩ (i : Int)) (fun k => by rw [mosaicref25_Text.l0, if_pos (by rw [List.length_map]; omega), if_pos (by omega), if_pos q5, e44]) ?_
      refine hj1 _ (by rw [List.length_append, List.length_singleton]; omega) ?_
      rw [hT, List.map_append, List.map_singleton, join_snoc _ _ (by simp; exact ⟨h0, hne⟩)]
      simp
theorem ref_text (n : Int) (s : ByteArray) (hs : s.size ≤ 140737488351232) : Ev (fun k => mosaicref25_Text.f k n s) (if chk n s = true then (textB n s, 0) else (⟨#[]⟩, 3)) := by
  refine Ev.bind (G := fun bt152 k => _) (ref_of n s true hs) ?_
  cases hc : chk n s with
  | false => exact Ev.const _
  | true =>
    obtain ⟨hi, hl, _⟩ := runs_in hc
    unfold textB
    generalize runsOf (inP s true) n.toNat = L at *
    refine Ev.congr (G := fun k => if (L.length : Int) = 0 then (some ((⟨#[45]⟩ : ByteArray), (0 : Int))) else (mosaicref25_Text.l0 k (L.map toSp4) (⟨#[]⟩ : ByteArray) 0)) (fun k => by rw [if_pos rfl, if_pos rfl]; simp only [List.length_map]) ?_
    by_cases hne : L = []
    · subst hne; exact Ev.const _
    · refine Ev.congr (fun k => by rw [if_neg (by have := List.length_pos_iff.mpr hne; omega)]; rfl) (reftext_l0 L (by omega) hne hi L.length 0 (by omega))

/-- What the document makes of the numbers that it read. -/
theorem refread_j6 (n : Int) (hn : 0 ≤ n ∧ n ≤ 160) (t : ByteArray) (x6 : List Int) (h6 : x6.length ≤ 1000000)
    (hit : ∀ s, chk n s = true → textB n s = t → ∀ i : Nat, (i : Int) < n → (hb s i = true ↔ (i : Int) ∈ x6)) :
    ∃ r, Ev (fun k => mosaicref25_Read.j6 k n t x6) r ∧ TxR n t r := by
  obtain ⟨q, hq, c1, hb0⟩ := make n hn x6 h6
  have hz := (chk_true c1).2.2.1
  have hT := ref_text n q (by omega)
  rw [if_pos c1] at hT
  have hj : ∀ r, (if (textB n q).toList = t.toList then (some (q, (0 : Int))) else (some ((⟨#[]⟩ : ByteArray), 3))) = some r → Ev (fun k => mosaicref25_Read.j6 k n t x6) r := by
    intro r hr
    refine Ev.step (fun k => by rw [mosaicref25_Read.j6]) ?_
    refine Ev.bind (G := fun t193 k => _) hq ?_
    refine Ev.bind (G := fun bt194 k => _) hT ?_
    exact Ev.of fun _ => hr
  have same_set : ∀ s, chk n s = true → textB n s = t → q = s := fun s hs ht => chk_ext c1 hs (fun i hi => by
    rw [hb0 i hi]
    have := hit s hs ht i hi
    cases hx : hb s i with
    | true => exact decide_eq_true (this.mp hx)
    | false => exact decide_eq_false (fun h => by rw [this.mpr h] at hx; cases hx))
  by_cases he : textB n q = t
  · refine ⟨(q, 0), hj _ (by rw [he, if_pos rfl]), fun s hs ht => by rw [same_set s hs ht], fun h => absurd ⟨q, c1, he⟩ h⟩
  · refine ⟨(⟨#[]⟩, 3), hj _ (by rw [if_neg (fun h => he (bytes_eq (by rw [← ByteArray.toList_eq, ← ByteArray.toList_eq]; exact h)))]), fun s hs ht => ?_, fun _ => rfl⟩
    rw [same_set s hs ht] at he
    exact absurd ht he
/-- Numbers from a to b, as far as they are below n. -/
def rg (n a b : Int) : List Int := span a (min (b + 1) n - a).toNat
theorem mem_rg (n a b i : Int) : i ∈ rg n a b ↔ a ≤ i ∧ i ≤ b ∧ i < n := by unfold rg; rw [mem_span]; omega
theorem rg_len {n a b : Int} (ha : 0 ≤ a) (hn : n ≤ 160) : (rg n a b).length ≤ 160 := by unfold rg; rw [span_len]; omega
theorem bt_at' (t : ByteArray) (pre : List UInt8) (b : UInt8) (s : List UInt8) (h : pre ++ b :: s = t.data.toList) : bt t (pre.length : Int) = (b.toNat : Int) := by
  rw [bt_val, ← h, List.getD_eq_getElem?_getD, List.getElem?_append_right (Nat.le_refl _), Nat.sub_self]; rfl
/-- The document's reading, byte by byte. -/
def rp (n : Int) : List UInt8 → List Int → Int → Int → List Int
  | [], x6, lo, x => x6 ++ rg n (if lo < 0 then x else lo) x
  | b :: l, x6, lo, x => if (48 ≤ b.toNat ∧ b.toNat ≤ 57) ∧ x ≤ 160 then rp n l x6 lo (10 * x + b.toNat - 48) else if b.toNat = 45 then rp n l x6 x 0 else rp n l (x6 ++ rg n (if lo < 0 then x else lo) x) (-1) 0
theorem refread_l1 (n : Int) (hn : n ≤ 160) (t : ByteArray) (i : Nat) (hi : i ≤ 1000000) (R : ByteArray × Int) (b : Int) (hb' : b ≤ 10000) : ∀ (d : Nat) (a : Int) (x6 : List Int), 0 ≤ a → d = (min (b + 1) n - a).toNat → x6.length + d ≤ 1000000000 →
    Ev (fun k => mosaicref25_Read.l0 k n t (x6 ++ span a d) (-1) 0 ((i + 1 : Nat) : Int)) R → Ev (fun k => mosaicref25_Read.l1 k n t x6 b i a) R
  | 0, a, x6, ha, hd, hl, hR => by
    rw [span, List.append_nil] at hR
    have hw : wrap64 ((i : Int) + 1) = ((i + 1 : Nat) : Int) := by rw [w64 (by omega)]; rfl
    refine Ev.step (fun k => ?_) hR
    rw [mosaicref25_Read.l1, hw]
    by_cases h1 : a ≤ b
    · rw [if_pos h1, if_neg (by omega)]
    · rw [if_neg h1]
  | d + 1, a, x6, ha, hd, hl, hR => by
    refine Ev.step (fun k => ?_) (refread_l1 n hn t i hi R b hb' d (a + 1) (x6 ++ [a]) (by omega) (by omega) (by simp; omega) (by rw [List.append_assoc]; exact hR))
    rw [mosaicref25_Read.l1, if_pos (by omega), if_pos (by omega), if_pos (by omega), w64 (by omega)]
theorem refread_j4 (n : Int) (hn : n ≤ 160) (t : ByteArray) (i : Nat) (hi : i ≤ 1000000) (R : ByteArray × Int) (x6 : List Int) (lo x : Int) (hx : 0 ≤ x ∧ x ≤ 10000) (h6 : x6.length ≤ 999990000)
    (hR : Ev (fun k => mosaicref25_Read.l0 k n t (x6 ++ rg n (if lo < 0 then x else lo) x) (-1) 0 ((i + 1 : Nat) : Int)) R) : Ev (fun k => mosaicref25_Read.j3 k n t x6 lo x i false) R := by
  have key : ∀ a : Int, 0 ≤ a → Ev (fun k => mosaicref25_Read.l0 k n t (x6 ++ rg n a x) (-1) 0 ((i + 1 : Nat) : Int)) R → Ev (fun k => mosaicref25_Read.j4 k n t x6 a x i) R := by
    intro a ha h
    have := rg_len (b := x) ha hn
    unfold rg at this
    rw [span_len] at this
    exact Ev.step (fun k => by rw [mosaicref25_Read.j4]) (refread_l1 n hn t i hi R x hx.2 _ a x6 ha rfl (by omega) h)
  by_cases h : lo < 0
  · rw [if_pos h] at hR
    exact Ev.step (fun k => by rw [mosaicref25_Read.j3, if_neg (by simp), if_pos h]) (key x hx.1 hR)
  · rw [if_neg h] at hR
    exact Ev.step (fun k => by rw [mosaicref25_Read.j3, if_neg (by simp), if_neg h]) (key lo (by omega) hR)
theorem refread_l0 (n : Int) (hn : n ≤ 160) (t : ByteArray) (ht : t.size ≤ 100000) (R : ByteArray × Int) (z6 : List Int) (hz : z6 = rp n t.data.toList [] (-1) 0)
    (hR : Ev (fun k => mosaicref25_Read.j6 k n t (if t.toList = [45] then [] else z6)) R) : ∀ (rest pre : List UInt8) (x6 : List Int) (lo x : Int), pre ++ rest = t.data.toList → 0 ≤ x ∧ x ≤ 2000 → -1 ≤ lo ∧ lo ≤ 2000 → x6.length ≤ 160 * pre.length → rp n rest x6 lo x = z6 →
    Ev (fun k => mosaicref25_Read.l0 k n t x6 lo x (pre.length : Int)) R
  | [], pre, x6, lo, x, hp, hx, hlo, h6, hr => by
    have hl := congrArg List.length hp
    rw [List.append_nil, data_length] at hl
    rw [rp] at hr
    have hend : Ev (fun k => mosaicref25_Read.l0 k n t z6 (-1) 0 ((pre.length + 1 : Nat) : Int)) R := by
      refine Ev.step (fun k => ?_) hR
      rw [mosaicref25_Read.l0, if_neg (by omega)]
      split <;> rfl
    rw [← hr] at hend
    refine Ev.step (fun k => by rw [mosaicref25_Read.l0, if_pos (by omega), if_neg (by omega)]) ?_
    refine Ev.step (fun k => by rw [mosaicref25_Read.j2, if_neg (by simp), if_neg (by omega)]) ?_
    exact refread_j4 n hn t pre.length (by omega) R x6 lo x ⟨hx.1, by omega⟩ (by omega) hend
  | b :: l, pre, x6, lo, x, hp, hx, hlo, h6, hr => by
    have hl := congrArg List.length hp
    rw [List.length_append, List.length_cons, data_length] at hl
    have hb := Pa.Aside.mk (bt_at' t pre b l hp)
    have hb2 := b.toNat_lt
    have hp2 : (pre ++ [b]) ++ l = t.data.toList := by rw [← hp]; simp
    have hpl : (pre ++ [b]).length = pre.length + 1 := by simp
    have hw : Pa.Aside (wrap64 ((pre.length : Int) + 1) = ((pre.length + 1 : Nat) : Int)) := ⟨by rw [w64 (by omega)]; rfl⟩
    have e1 : Pa.Aside (wrap64 (10 * x) = 10 * x) := ⟨w64 (by omega)⟩
    have e2 : Pa.Aside (wrap64 ((b.toNat : Int)) = (b.toNat : Int)) := ⟨w64 (by omega)⟩
    have e3 : Pa.Aside (wrap64 (wrap64 (10 * x + (b.toNat : Int)) - 48) = 10 * x + (b.toNat : Int) - 48) := ⟨by rw [w64 (n := 10 * x + (b.toNat : Int)) (by omega), w64 (by omega)]⟩
    rw [rp] at hr
    have c1 : (pre.length : Int) ≤ (t.size : Int) := by omega
    have c2 : (pre.length : Int) < (t.size : Int) := by omega
    have c3 : (0 : Int) ≤ (pre.length : Int) := by omega
    by_cases hd : (48 ≤ b.toNat ∧ b.toNat ≤ 57) ∧ x ≤ 160
    · rw [if_pos hd] at hr
      have ih := refread_l0 n hn t ht R z6 hz hR l (pre ++ [b]) x6 lo (10 * x + b.toNat - 48) hp2 ⟨by omega, by omega⟩ hlo (by rw [hpl]; omega) hr
      rw [hpl] at ih
      refine Ev.step (fun k => by rw [mosaicref25_Read.l0, if_pos c1, if_pos c2, if_pos c3, hb.out, if_pos (by omega), if_pos (by omega), decide_eq_true hd.2]) ?_
      exact Ev.step (fun k => by rw [mosaicref25_Read.j2, if_pos rfl, if_pos c3, if_pos c2, hb.out, e2.out, e1.out, e3.out, hw.out]) ih
    · rw [if_neg hd] at hr
      have h3 : Ev (fun k => mosaicref25_Read.j3 k n t x6 lo x (pre.length : Int) ((b.toNat : Int) == 45)) R := by
        by_cases h45 : b.toNat = 45
        · rw [if_pos h45] at hr
          have ih := refread_l0 n hn t ht R z6 hz hR l (pre ++ [b]) x6 x 0 hp2 ⟨by omega, by omega⟩ ⟨by omega, hx.2⟩ (by rw [hpl]; omega) hr
          rw [hpl] at ih
          exact Ev.step (fun k => by rw [mosaicref25_Read.j3, if_pos (by rw [h45]; rfl), hw.out]) ih
        · rw [if_neg h45] at hr
          have hg : (rg n (if lo < 0 then x else lo) x).length ≤ 160 := rg_len (by split <;> omega) hn
          have ih := refread_l0 n hn t ht R z6 hz hR l (pre ++ [b]) (x6 ++ rg n (if lo < 0 then x else lo) x) (-1) 0 hp2 ⟨by omega, by omega⟩ ⟨by omega, by omega⟩ (by rw [hpl, List.length_append]; omega) hr
          rw [hpl] at ih
          rw [show ((b.toNat : Int) == 45) = false by rw [beq_eq_false_iff_ne]; omega]
          exact refread_j4 n hn t pre.length (by omega) R x6 lo x ⟨hx.1, by omega⟩ (by omega) ih
      have h2 : Ev (fun k => mosaicref25_Read.j2 k n t x6 lo x (pre.length : Int) false) R := Ev.step (fun k => by rw [mosaicref25_Read.j2, if_neg (by simp), if_pos c2, if_pos c3, hb.out]) h3
      refine Ev.step (fun k => ?_) h2
      rw [mosaicref25_Read.l0, if_pos c1, if_pos c2, if_pos c3, hb.out]
      by_cases g1 : (b.toNat : Int) ≥ 48
      · by_cases g2 : (b.toNat : Int) ≤ 57
        · rw [if_pos g1, if_pos g2, decide_eq_false (fun h => hd ⟨⟨by omega, by omega⟩, h⟩)]
        · rw [if_pos g1, if_neg g2]
      · rw [if_neg g1]
/-- Digits, one behind the other, as the document reads them. -/
def okD : List UInt8 → Int → Bool
  | [], _ => true
  | b :: l, x => decide ((48 ≤ b.toNat ∧ b.toNat ≤ 57) ∧ x ≤ 160) && okD l (10 * x + b.toNat - 48)
def foD : List UInt8 → Int → Int
  | [], x => x
  | b :: l, x => foD l (10 * x + b.toNat - 48)
theorem digs2 : ∀ v : Fin 161, okD (Lib.decDigits v.val) 0 = true ∧ foD (Lib.decDigits v.val) 0 = (v.val : Int) := by decide +kernel
theorem rp_digits (n : Int) (rest : List UInt8) (x6 : List Int) (lo : Int) : ∀ (l : List UInt8) (x : Int), okD l x = true → rp n (l ++ rest) x6 lo x = rp n rest x6 lo (foD l x)
  | [], _, _ => rfl
  | b :: l, x, h => by
    rw [okD, Bool.and_eq_true] at h
    rw [List.cons_append, rp, if_pos (of_decide_eq_true h.1), rp_digits n rest x6 lo l _ h.2]; rfl
theorem rp_dg (n : Int) (rest : List UInt8) (x6 : List Int) (lo : Int) {v : Int} (h : 0 ≤ v ∧ v ≤ 160) : rp n (dg v ++ rest) x6 lo 0 = rp n rest x6 lo v := by
  have := digs2 ⟨v.toNat, by omega⟩
  unfold dg
  rw [rp_digits n rest x6 lo _ 0 this.1, this.2]
  congr 1
  exact Int.toNat_of_nonneg h.1
/-- A run's text, and what stands behind it. -/
theorem rp_piece (n : Int) (x6 : List Int) {x : Int × Int} (h : In200 x) (rest : List UInt8) : ∃ lo : Int, rp n (piece x ++ rest) x6 (-1) 0 = rp n rest x6 lo (x.2 - 1) ∧ (if lo < 0 then x.2 - 1 else lo) = x.1 := by
  have h1 := h.1
  have h2 := h.2.1
  have h3 := h.2.2
  unfold piece
  by_cases he : x.2 = x.1 + 1
  · refine ⟨-1, ?_, by rw [if_pos (by decide)]; omega⟩
    rw [if_pos he, rp_dg n rest x6 (-1) (v := x.1) ⟨by omega, by omega⟩, show x.2 - 1 = x.1 by omega]
  · refine ⟨x.1, ?_, by rw [if_neg (by omega)]⟩
    rw [if_neg he, List.append_assoc, rp_dg n _ x6 (-1) (v := x.1) ⟨by omega, by omega⟩, List.cons_append, rp, if_neg (by simp), if_pos (by decide), rp_dg n rest x6 x.1 (v := x.2 - 1) ⟨by omega, by omega⟩]
/-- All numbers of runs, below n. -/
def nm (n : Int) (L : List (Int × Int)) : List Int := (L.map fun x => rg n x.1 (x.2 - 1)).flatten
theorem rp_join (n : Int) : ∀ (x : Int × Int) (r : List (Int × Int)) (x6 : List Int), (∀ y ∈ x :: r, In200 y) → rp n (Lib.join ((x :: r).map piece) [44]) x6 (-1) 0 = x6 ++ nm n (x :: r)
  | x, [], x6, h => by
    obtain ⟨lo, h1, h2⟩ := rp_piece n x6 (h x (by simp)) []
    rw [List.append_nil] at h1
    rw [List.map_cons, List.map_nil, Lib.join_one, h1, rp, h2]
    simp [nm]
  | x, y :: r, x6, h => by
    obtain ⟨lo, h1, h2⟩ := rp_piece n x6 (h x (by simp)) (44 :: Lib.join ((y :: r).map piece) [44])
    have e : Lib.join ((x :: y :: r).map piece) [44] = piece x ++ 44 :: Lib.join ((y :: r).map piece) [44] := by
      rw [List.map_cons, List.map_cons, join_two]
    rw [e, h1, rp, if_neg (fun h => absurd h.1.1 (by decide)), if_neg (by decide), h2, rp_join n y r _ (fun z hz => h z (List.mem_cons_of_mem _ hz)), List.append_assoc]
    simp [nm]
theorem mem_nm (n : Int) (L : List (Int × Int)) (i : Int) (hi : i < n) : i ∈ nm n L ↔ mem L i = true := by
  unfold nm mem
  rw [List.mem_flatten, List.any_eq_true]
  constructor
  · rintro ⟨l, hl, h⟩
    obtain ⟨x, hx, rfl⟩ := List.mem_map.mp hl
    rw [mem_rg] at h
    exact ⟨x, hx, by rw [decide_eq_true (by omega), decide_eq_true (by omega)]; rfl⟩
  · rintro ⟨x, hx, h⟩
    rw [Bool.and_eq_true, decide_eq_true_iff, decide_eq_true_iff] at h
    exact ⟨_, List.mem_map.mpr ⟨x, hx, rfl⟩, by rw [mem_rg]; omega⟩
theorem rp_len (n : Int) (hn : n ≤ 160) : ∀ (l : List UInt8) (x6 : List Int) (lo x : Int), 0 ≤ x → -1 ≤ lo → (rp n l x6 lo x).length ≤ x6.length + 160 * (l.length + 1)
  | [], x6, lo, x, hx, hlo => by
    have := rg_len (n := n) (a := if lo < 0 then x else lo) (b := x) (by split <;> omega) hn
    rw [rp, List.length_append]; simp; omega
  | b :: l, x6, lo, x, hx, hlo => by
    rw [rp]
    split
    · next h => have := rp_len n hn l x6 lo (10 * x + b.toNat - 48) (by omega) hlo; simp only [List.length_cons]; omega
    · split
      · have := rp_len n hn l x6 x 0 (by omega) (by omega); simp only [List.length_cons]; omega
      · have h1 := rg_len (n := n) (a := if lo < 0 then x else lo) (b := x) (by split <;> omega) hn
        have := rp_len n hn l (x6 ++ rg n (if lo < 0 then x else lo) x) (-1) 0 (by omega) (by omega)
        rw [List.length_append] at this
        simp only [List.length_cons]; omega
/-- The document's set of a text. -/
theorem ref_read (n : Int) (hn : 0 ≤ n ∧ n ≤ 160) (t : ByteArray) (ht : t.size ≤ 5000) : ∃ r, Ev (fun k => mosaicref25_Read.f k n t) r ∧ TxR n t r := by
  have hzl := rp_len n hn.2 t.data.toList [] (-1) 0 (by omega) (by omega)
  rw [data_length, List.length_nil] at hzl
  obtain ⟨r, hr, hT⟩ := refread_j6 n hn t (if t.toList = [45] then [] else rp n t.data.toList [] (-1) 0) (by split; simp; omega) (fun s hs htx i hi => by
    obtain ⟨hin, _, g⟩ := runs_in hs
    have hx : txt (runsOf (inP s true) n.toNat) = t.data.toList := by rw [← htx]; rfl
    have hm := (runsOf_good (inP s true) n.toNat).2 i (by omega)
    have hb1 : hb s i = mem (runsOf (inP s true) n.toNat) i := by rw [hm]; unfold inP; simp
    rw [hb1]
    generalize runsOf (inP s true) n.toNat = L at *
    by_cases hd : t.toList = [45]
    · rw [if_pos hd]
      rw [ByteArray.toList_eq, ← hx] at hd
      rw [txt_dash hin hd, mem_nil]; simp
    · rw [if_neg hd]
      have hne : L ≠ [] := by
        intro e; subst e
        apply hd
        rw [ByteArray.toList_eq, ← hx]; rfl
      rw [← hx]
      cases L with
      | nil => exact absurd rfl hne
      | cons x r =>
        unfold txt
        rw [if_neg hne, rp_join n x r [] hin, List.nil_append, mem_nm n _ _ hi])
  refine ⟨r, ?_, hT⟩
  have hl := refread_l0 n hn.2 t (by omega) r (rp n t.data.toList [] (-1) 0) rfl hr t.data.toList [] [] (-1) 0 rfl ⟨by omega, by omega⟩ ⟨by omega, by omega⟩ (by simp) rfl
  have hj := Ev.step (F := fun k => mosaicref25_Read.j0 k n t false) (fun k => by rw [mosaicref25_Read.j0, if_neg (by simp)]; rfl) hl
  refine Ev.congr (fun k => ?_) hj
  unfold mosaicref25_Read.f
  rw [if_neg (by omega), decide_eq_false (by omega)]
theorem ref_read_no (n : Int) (hn : ¬ (0 ≤ n ∧ n ≤ 160)) (t : ByteArray) : Ev (fun k => mosaicref25_Read.f k n t) (⟨#[]⟩, 1) := by
  have hj : Ev (fun k => mosaicref25_Read.j0 k n t true) (⟨#[]⟩, 1) := Ev.step (G := fun _ => some _) (fun k => by rw [mosaicref25_Read.j0, if_pos rfl]) (Ev.const _)
  refine Ev.congr (fun k => ?_) hj
  unfold mosaicref25_Read.f
  by_cases h : n < 0
  · rw [if_pos h]
  · rw [if_neg h, decide_eq_true (by omega)]
theorem both_read (n : Int) (t : ByteArray) (ht : t.size ≤ 5000) : ∃ r, Ev (fun k => runs_Read.f k n t) r ∧ Ev (fun k => mosaicref25_Read.f k n t) r := by
  by_cases hn : 0 ≤ n ∧ n ≤ 160
  · obtain ⟨r, h1, s1⟩ := prog_read n hn t (by omega)
    obtain ⟨q, h2, s2⟩ := ref_read n hn t ht
    rw [TxR.unique s1 s2] at h1
    exact ⟨q, h1, h2⟩
  · exact ⟨_, prog_read_no n hn t, ref_read_no n hn t⟩
end Go.Proofs.YtbbncdbihiipcaaDoor.Th
