/- The text of runs: what it is, and how it is read: plain Lean. -/
import Derived.Test.YtbbncdbihiipcaaDoorRt
namespace Go.Proofs.YtbbncdbihiipcaaDoor.Th
open Go.RowKit Go.Proofs.YtbbncdbihiipcaaDoor.P Go.Proofs.YtbbncdbihiipcaaDoorW.PrintWords Go.Proofs.YtbbncdbihiipcaaDoor.Ru

/-- What the numbers up to 200 are as text. -/
theorem digs : ∀ v : Fin 201, Hand.atoiO (Lib.decDigits v.val) = some (v.val : Int) ∧ (Lib.decDigits v.val).all (fun b => decide (48 ≤ b.toNat ∧ b.toNat ≤ 57)) = true ∧ (Lib.decDigits v.val).length ≤ 3 ∧ 1 ≤ (Lib.decDigits v.val).length := by decide +kernel
def dg (v : Int) : List UInt8 := Lib.decDigits v.toNat
theorem dg_atoi {v : Int} (h : 0 ≤ v ∧ v ≤ 200) : Hand.atoiO (dg v) = some v := by
  have := (digs ⟨v.toNat, by omega⟩).1
  unfold dg; rw [this]; exact congrArg some (Int.toNat_of_nonneg h.1)
theorem dg_digit {v : Int} (h : 0 ≤ v ∧ v ≤ 200) {b : UInt8} (hb : b ∈ dg v) : 48 ≤ b.toNat ∧ b.toNat ≤ 57 := by
  have := (digs ⟨v.toNat, by omega⟩).2.1
  exact of_decide_eq_true (List.all_eq_true.mp this b hb)
theorem dg_len {v : Int} (h : 0 ≤ v ∧ v ≤ 200) : (dg v).length ≤ 3 ∧ 1 ≤ (dg v).length := (digs ⟨v.toNat, by omega⟩).2.2
theorem itoa_dg {v : Int} (h : 0 ≤ v) : Lib.itoa v = dg v := by unfold Lib.itoa; rw [if_neg (by omega)]; rfl
/-- The text of a run. -/
def piece (x : Int × Int) : List UInt8 := if x.2 = x.1 + 1 then dg x.1 else dg x.1 ++ 45 :: dg (x.2 - 1)
/-- The text of runs. -/
def txt (L : List (Int × Int)) : List UInt8 := if L = [] then [45] else Lib.join (L.map piece) [44]
def In200 (x : Int × Int) : Prop := 0 ≤ x.1 ∧ x.1 < x.2 ∧ x.2 ≤ 160
theorem good_in {N : Int} (hN : N ≤ 160) : ∀ {L : List (Int × Int)} {last : Int}, -1 ≤ last → Ru.Good last N L → ∀ x ∈ L, In200 x
  | [], _, _, _, _, h => by cases h
  | y :: r, last, hl, g, x, h => by
    have h1 := g.1
    have h2 := g.2.1
    have h3 := g.2.2.1
    rcases List.mem_cons.mp h with rfl | h
    · exact ⟨by omega, h2, by omega⟩
    · exact good_in hN (by omega) g.2.2.2 x h
theorem piece_len {x : Int × Int} (h : In200 x) : (piece x).length ≤ 7 ∧ 1 ≤ (piece x).length := by
  have h1 := dg_len (v := x.1) ⟨h.1, by have := h.2.1; have := h.2.2; omega⟩
  have h2 := dg_len (v := x.2 - 1) ⟨by have := h.2.1; have := h.1; omega, by have := h.2.2; omega⟩
  unfold piece
  split
  · omega
  · rw [List.length_append, List.length_cons]; omega
/-- The bytes of a run's text. -/
theorem piece_mem {x : Int × Int} (h : In200 x) {b : UInt8} (hb : b ∈ piece x) : b = 45 ∨ (48 ≤ b.toNat ∧ b.toNat ≤ 57) := by
  unfold piece at hb
  have r1 : 0 ≤ x.1 ∧ x.1 ≤ 200 := ⟨h.1, by have := h.2.1; have := h.2.2; omega⟩
  have r2 : 0 ≤ x.2 - 1 ∧ x.2 - 1 ≤ 200 := ⟨by have := h.2.1; have := h.1; omega, by have := h.2.2; omega⟩
  split at hb
  · exact Or.inr (dg_digit r1 hb)
  · rcases List.mem_append.mp hb with hb | hb
    · exact Or.inr (dg_digit r1 hb)
    · rcases List.mem_cons.mp hb with hb | hb
      · exact Or.inl hb
      · exact Or.inr (dg_digit r2 hb)
theorem piece_no44 {x : Int × Int} (h : In200 x) : (44 : UInt8) ∉ piece x := by
  intro hb
  rcases piece_mem h hb with e | e
  · exact absurd e (by decide)
  · exact absurd e.1 (by decide)
theorem dg_no45 {v : Int} (h : 0 ≤ v ∧ v ≤ 200) : (45 : UInt8) ∉ dg v := fun hb => absurd (dg_digit h hb).1 (by decide)
theorem join_two (x y : List UInt8) (r : List (List UInt8)) : Lib.join (x :: y :: r) [44] = x ++ 44 :: Lib.join (y :: r) [44] := by
  rw [Lib.join_cons, Lib.join_cons]
  unfold Lib.joinTail
  simp
theorem join_len : ∀ (xs : List (List UInt8)), (∀ x ∈ xs, x.length ≤ 7) → (Lib.join xs [44]).length ≤ 8 * xs.length
  | [], _ => by rw [Lib.join_nil]; simp
  | [x], h => by rw [Lib.join_one]; have := h x (by simp); simp; omega
  | x :: y :: r, h => by
    have := join_len (y :: r) (fun z hz => h z (by simp [List.mem_cons.mp hz]))
    have h1 := h x (by simp)
    rw [join_two, List.length_append, List.length_cons]
    simp only [List.length_cons] at this ⊢
    omega
theorem txt_len {L : List (Int × Int)} (h : ∀ x ∈ L, In200 x) : (txt L).length ≤ 8 * L.length + 1 := by
  unfold txt
  split
  · simp
  · have := join_len (L.map piece) (fun y hy => by obtain ⟨x, hx, rfl⟩ := List.mem_map.mp hy; exact (piece_len (h x hx)).1)
    rw [List.length_map] at this
    omega
theorem index_none {c : UInt8} : ∀ {l : List UInt8}, c ∉ l → Lib.index l [c] = -1
  | [], _ => rfl
  | b :: l, h => by
    have h1 : c ≠ b := fun e => h (by rw [e]; simp)
    have h2 := index_none (c := c) (l := l) (fun e => h (List.mem_cons_of_mem _ e))
    rw [Lib.index, h2]
    simp [List.isPrefixOf, h1]
theorem index_at {c : UInt8} (t : List UInt8) : ∀ {l : List UInt8}, c ∉ l → Lib.index (l ++ c :: t) [c] = l.length
  | [], _ => by rw [List.nil_append, Lib.index]; simp [List.isPrefixOf]
  | b :: l, h => by
    have h1 : c ≠ b := fun e => h (by rw [e]; simp)
    have h2 := index_at (c := c) t (l := l) (fun e => h (List.mem_cons_of_mem _ e))
    rw [List.cons_append, Lib.index, h2]
    have : ¬ ((l.length : Int) = -1) := by omega
    simp [List.isPrefixOf, h1]

/-- What was joined is split. -/
theorem split_join : ∀ (x : List UInt8) (r : List (List UInt8)), (∀ y ∈ x :: r, (44 : UInt8) ∉ y) → Lib.splitK [44] 0 (Lib.count (Lib.join (x :: r) [44]) [44]) (Lib.join (x :: r) [44]) = x :: r
  | x, [], h => by
    rw [Lib.join_one, Lib.count_one, List.count_eq_zero.mpr (h x (by simp))]; rfl
  | x, y :: r, h => by
    have ih := split_join y r (fun z hz => h z (by simp [List.mem_cons.mp hz]))
    have hx := h x (by simp)
    rw [Lib.count_one] at ih ⊢
    rw [join_two]
    have hc : (x ++ 44 :: Lib.join (y :: r) [44]).count 44 = (Lib.join (y :: r) [44]).count 44 + 1 := by
      rw [List.count_append, List.count_eq_zero.mpr hx, List.count_cons_self]; omega
    rw [hc, Lib.splitK, index_at _ hx, if_neg (by simp), Int.toNat_natCast, Nat.add_zero]
    have e1 : (x ++ 44 :: Lib.join (y :: r) [44]).take x.length = x := List.take_left' rfl
    have e2 : (x ++ 44 :: Lib.join (y :: r) [44]).drop (x.length + [(44 : UInt8)].length) = Lib.join (y :: r) [44] := by
      rw [show x.length + [(44 : UInt8)].length = x.length + 1 from rfl, ← List.drop_drop, List.drop_left' rfl]; rfl
    rw [e1, e2, ih]
/-- A run's text says the run. -/
theorem span_piece {x : Int × Int} (h : In200 x) : Hand.runs_span.f ⟨(piece x).toArray⟩ = some x := by
  have r1 : 0 ≤ x.1 ∧ x.1 ≤ 200 := ⟨h.1, by have := h.2.1; have := h.2.2; omega⟩
  have r2 : 0 ≤ x.2 - 1 ∧ x.2 - 1 ≤ 200 := ⟨by have := h.2.1; have := h.1; omega, by have := h.2.2; omega⟩
  have hl := piece_len h
  have h2 := h.2.2
  unfold Hand.runs_span.f
  rw [if_pos (show (⟨(piece x).toArray⟩ : ByteArray).size ≤ 1000000 from (show (piece x).length ≤ 1000000 by omega)), Hand.of_list]
  by_cases he : x.2 = x.1 + 1
  · have hp : piece x = dg x.1 := by unfold piece; rw [if_pos he]
    have hc : Lib.cut (dg x.1) [45] = (dg x.1, [], false) := by unfold Lib.cut; rw [index_none (dg_no45 r1), if_neg (by omega)]
    rw [hp, hc, dg_atoi r1]
    simp only
    rw [if_neg (by simp), w64 (by omega), ← he]
  · have hp : piece x = dg x.1 ++ 45 :: dg (x.2 - 1) := by unfold piece; rw [if_neg he]
    have hc : Lib.cut (dg x.1 ++ 45 :: dg (x.2 - 1)) [45] = (dg x.1, dg (x.2 - 1), true) := by
      unfold Lib.cut
      rw [index_at _ (dg_no45 r1), if_pos (by omega), Int.toNat_natCast, List.take_left' rfl, show (dg x.1).length + [(45 : UInt8)].length = (dg x.1).length + 1 from rfl, ← List.drop_drop, List.drop_left' rfl]; rfl
    rw [hp, hc, dg_atoi r1]
    simp only
    rw [if_pos trivial, dg_atoi r2]
    simp only
    rw [if_neg (by omega), w64 (by omega), Int.sub_add_cancel]
/-- What is no text of runs but the text of none. -/
theorem txt_dash {L : List (Int × Int)} (h : ∀ x ∈ L, In200 x) (ht : txt L = [45]) : L = [] := by
  cases L with
  | nil => rfl
  | cons x r =>
    exfalso
    have hx := h x (by simp)
    unfold txt at ht
    rw [if_neg (by simp), List.map_cons, Lib.join_cons] at ht
    have r1 : 0 ≤ x.1 ∧ x.1 ≤ 200 := ⟨hx.1, by have := hx.2.1; have := hx.2.2; omega⟩
    have hl := (dg_len r1).2
    cases hd : dg x.1 with
    | nil => rw [hd] at hl; simp at hl
    | cons b t =>
      have hb := dg_digit r1 (b := b) (by rw [hd]; simp)
      have hp : ∃ u, piece x = b :: u := by
        unfold piece
        split
        · exact ⟨t, hd⟩
        · exact ⟨t ++ 45 :: dg (x.2 - 1), by rw [hd]; rfl⟩
      obtain ⟨u, hu⟩ := hp
      rw [hu] at ht
      have := (List.cons.inj ht).1
      rw [this] at hb
      exact absurd hb.1 (by decide)
/-- The text of a set. -/
def textB (n : Int) (s : ByteArray) : ByteArray := ⟨(txt (runsOf (inP s true) n.toNat)).toArray⟩
theorem runs_in {n : Int} {s : ByteArray} (h : chk n s = true) : (∀ x ∈ runsOf (inP s true) n.toNat, In200 x) ∧ (runsOf (inP s true) n.toNat).length ≤ 161 ∧ Ru.Good (-1) n (runsOf (inP s true) n.toNat) := by
  have hc := chk_true h
  have g := (runsOf_good (inP s true) n.toNat).1
  have gl := good_len (n.toNat : Int) _ (-1) g (by omega)
  rw [Int.toNat_of_nonneg hc.1] at g
  exact ⟨good_in hc.2.1 (Int.le_refl _) g, by omega, g⟩
/-- The same runs: the same set. -/
theorem set_of_runs {n : Int} {a b : ByteArray} (ha : chk n a = true) (hb' : chk n b = true) (h : runsOf (inP a true) n.toNat = runsOf (inP b true) n.toNat) : a = b := by
  have h1 := chk_true ha
  refine chk_ext ha hb' (fun i hi => ?_)
  have q1 := (runsOf_good (inP a true) n.toNat).2 i (by omega)
  have q2 := (runsOf_good (inP b true) n.toNat).2 i (by omega)
  rw [h, q2] at q1
  unfold inP at q1
  cases hx : hb a i <;> cases hy : hb b i <;> rw [hx, hy] at q1 <;> simp at q1 <;> rfl
theorem set_runs {n : Int} {s : ByteArray} {L : List (Int × Int)} (hs : chk n s = true) (g : Ru.Good (-1) n L) (h : ∀ i : Nat, (i : Int) < n → hb s i = mem L i) : runsOf (inP s true) n.toNat = L := by
  have hc := chk_true hs
  refine runsOf_is _ _ L (by rw [Int.toNat_of_nonneg hc.1]; exact g) (fun j hj => ?_)
  unfold inP; rw [h j (by omega)]; simp
/-- The set of a text, or the error. -/
def TxR (n : Int) (t : ByteArray) (r : ByteArray × Int) : Prop :=
  (∀ s, chk n s = true → textB n s = t → r = (s, 0)) ∧ ((¬ ∃ s, chk n s = true ∧ textB n s = t) → r = (⟨#[]⟩, 3))
theorem TxR.unique {n : Int} {t : ByteArray} {r q : ByteArray × Int} (h : TxR n t r) (k : TxR n t q) : r = q := by
  by_cases he : ∃ s, chk n s = true ∧ textB n s = t
  · obtain ⟨s, hs, ht⟩ := he
    rw [h.1 s hs ht, k.1 s hs ht]
  · rw [h.2 he, k.2 he]
end Go.Proofs.YtbbncdbihiipcaaDoor.Th
