/- The search that splits two sorted parts at their middle, in plain words. -/
import Derived.Test.YtlpidjenifbjeaaSm
namespace Go.Proofs.PlaceSort

theorem up_idx0 {d : Int → Int} : ∀ {l : List Int}, Up d l → ∀ {i j : Nat} {x y : Int}, i ≤ j → l[i]? = some x → l[j]? = some y → d x ≤ d y
  | [], _, i, _, _, _, _, h, _ => by simp at h
  | z :: l, hu, 0, 0, x, y, hij, hx, hy => by
    rw [hx] at hy; rw [Option.some.inj hy]; exact Int.le_refl _
  | z :: l, hu, 0, j + 1, x, y, hij, hx, hy => by
    rw [List.getElem?_cons_zero] at hx
    rw [List.getElem?_cons_succ] at hy
    rw [← Option.some.inj hx]
    have := hu.1 y (List.mem_of_getElem? hy)
    omega
  | z :: l, hu, i + 1, 0, x, y, hij, hx, hy => by omega
  | z :: l, hu, i + 1, j + 1, x, y, hij, hx, hy => by
    rw [List.getElem?_cons_succ] at hx hy
    exact up_idx0 hu.2 (by omega) hx hy
/-- The four parts, and where the search looks. -/
structure Sa (d : Int → Int) (P S T R : List Int) (N a m b c0 p0 lo hi : Nat) : Prop where
  n : N = (P ++ S ++ T ++ R).length
  a_ : a = P.length
  m_ : m = a + S.length
  b_ : b = m + T.length
  s2 : 2 ≤ S.length
  t2 : 2 ≤ T.length
  us : Up d S
  ut : Up d T
  c_ : c0 = (a + b) / 2
  p_ : p0 + 1 = c0 + m
  w : (c0 < m ∧ lo + b = p0 + 1 ∧ hi = c0) ∨ (m ≤ c0 ∧ lo = a ∧ hi = m)
theorem Sa.bN {d P S T R N a m b c0 p0 lo hi} (h : Sa d P S T R N a m b c0 p0 lo hi) : b ≤ N := by
  have := h.n; have := h.a_; have := h.m_; have := h.b_
  simp only [List.length_append] at *
  omega
theorem Sa.rng {d P S T R N a m b c0 p0 lo hi} (h : Sa d P S T R N a m b c0 p0 lo hi) : a ≤ lo ∧ lo ≤ hi ∧ hi ≤ m ∧ hi ≤ c0 ∧ p0 < lo + b ∧ p0 + 1 = c0 + m ∧ a + 2 ≤ m ∧ m + 2 ≤ b ∧ c0 ≤ b ∧ a ≤ c0 := by
  have := h.m_; have := h.b_; have := h.s2; have := h.t2; have := h.c_; have := h.p_; have := h.w
  omega
theorem at_s {P S T R : List Int} {a m : Nat} (ha : a = P.length) (hm : m = a + S.length) {c : Nat} (h1 : a ≤ c) (h2 : c < m) : (P ++ S ++ T ++ R)[c]? = S[c - a]? := by
  rw [List.append_assoc, List.append_assoc, List.getElem?_append_right (by omega), List.getElem?_append_left (by omega), ha]
theorem at_t {P S T R : List Int} {a m b : Nat} (ha : a = P.length) (hm : m = a + S.length) (hb : b = m + T.length) {c : Nat} (h1 : m ≤ c) (h2 : c < b) : (P ++ S ++ T ++ R)[c]? = T[c - m]? := by
  rw [List.append_assoc, List.getElem?_append_right (by rw [List.length_append]; omega), List.getElem?_append_left (by rw [List.length_append]; omega), List.length_append, hm, ha]
/-- What the search knows. -/
structure Sr (d : Int → Int) (L : List Int) (p0 lo hi i h : Nat) : Prop where
  l : lo ≤ i
  r : h ≤ hi
  k1 : ∀ (c : Nat) (x y : Int), lo ≤ c → c < i → L[c]? = some x → L[p0 - c]? = some y → d x ≤ d y
  k2 : ∀ (c : Nat) (x y : Int), h ≤ c → c < hi → L[c]? = some x → L[p0 - c]? = some y → d y < d x
theorem Sa.mono {d P S T R N a m b c0 p0 lo hi} (H : Sa d P S T R N a m b c0 p0 lo hi) {c c' : Nat} {x y x' y' : Int} (h1 : lo ≤ c) (h2 : c ≤ c') (h3 : c' < hi)
    (e1 : (P ++ S ++ T ++ R)[c]? = some x) (e2 : (P ++ S ++ T ++ R)[p0 - c]? = some y) (e3 : (P ++ S ++ T ++ R)[c']? = some x') (e4 : (P ++ S ++ T ++ R)[p0 - c']? = some y') : d x ≤ d x' ∧ d y' ≤ d y := by
  have r := H.rng
  have e := H.a_
  have e' := H.m_
  have e'' := H.b_
  rw [at_s e e' (by omega) (by omega)] at e1 e3
  rw [at_t e e' e'' (by omega) (by omega)] at e2 e4
  exact ⟨up_idx0 H.us (by omega) e1 e3, up_idx0 H.ut (by omega) e4 e2⟩
theorem Sa.here {d P S T R N a m b c0 p0 lo hi} (H : Sa d P S T R N a m b c0 p0 lo hi) {c : Nat} (h1 : lo ≤ c) (h3 : c < hi) :
    ∃ x y, (P ++ S ++ T ++ R)[c]? = some x ∧ (P ++ S ++ T ++ R)[p0 - c]? = some y := by
  have r := H.rng
  have e := H.a_
  have e' := H.m_
  have e'' := H.b_
  rw [at_s e e' (by omega) (by omega), at_t e e' e'' (by omega) (by omega)]
  exact ⟨_, _, List.getElem?_eq_getElem (show c - a < S.length by omega), List.getElem?_eq_getElem (show p0 - c - m < T.length by omega)⟩
theorem Sr.zero (d : Int → Int) (L : List Int) (p0 lo hi : Nat) : Sr d L p0 lo hi lo hi :=
  ⟨Nat.le_refl _, Nat.le_refl _, fun _ _ _ h1 h2 => by omega, fun _ _ _ h1 h2 => by omega⟩
theorem Sr.right {d P S T R N a m b c0 p0 lo hi i h c} {x y : Int} (H : Sa d P S T R N a m b c0 p0 lo hi) (K : Sr d (P ++ S ++ T ++ R) p0 lo hi i h) (h1 : i ≤ c) (h2 : c < h)
    (ex : (P ++ S ++ T ++ R)[c]? = some x) (ey : (P ++ S ++ T ++ R)[p0 - c]? = some y) (hd : d y < d x) : Sr d (P ++ S ++ T ++ R) p0 lo hi i c :=
  ⟨K.l, Nat.le_trans (Nat.le_of_lt h2) K.r, K.k1, fun c' x' y' g1 g2 e1 e2 => by
    have := H.mono (Nat.le_trans K.l h1) g1 g2 ex ey e1 e2
    omega⟩
theorem Sr.left {d P S T R N a m b c0 p0 lo hi i h c} {x y : Int} (H : Sa d P S T R N a m b c0 p0 lo hi) (K : Sr d (P ++ S ++ T ++ R) p0 lo hi i h) (h1 : i ≤ c) (h2 : c < h)
    (ex : (P ++ S ++ T ++ R)[c]? = some x) (ey : (P ++ S ++ T ++ R)[p0 - c]? = some y) (hd : d x ≤ d y) : Sr d (P ++ S ++ T ++ R) p0 lo hi (c + 1) h :=
  ⟨Nat.le_trans K.l (Nat.le_succ_of_le h1), K.r, fun c' x' y' g1 g2 e1 e2 => by
    have := H.mono g1 (Nat.le_of_lt_succ g2) (Nat.lt_of_lt_of_le h2 K.r) e1 e2 ex ey
    omega, K.k2⟩
/-- Where it stops. -/
structure Cut (d : Int → Int) (P S T R : List Int) (N a m b c0 i : Nat) (S1 S2 T1 T2 : List Int) : Prop where
  s : S = S1 ++ S2
  t : T = T1 ++ T2
  a_ : a = P.length
  i_ : i = a + S1.length
  c_ : c0 = i + T1.length
  m_ : m = i + S2.length
  b_ : b = m + T1.length + T2.length
  n : N = (P ++ S ++ T ++ R).length
  mg : mrg d S T = mrg d S1 T1 ++ mrg d S2 T2
theorem Sr.final {d P S T R N a m b c0 p0 lo hi i} (H : Sa d P S T R N a m b c0 p0 lo hi) (K : Sr d (P ++ S ++ T ++ R) p0 lo hi i i) : ∃ S1 S2 T1 T2, Cut d P S T R N a m b c0 i S1 S2 T1 T2 := by
  have r := H.rng
  have e := H.a_
  have e' := H.m_
  have e'' := H.b_
  have k1 := K.l
  have k2 := K.r
  have hw := H.w
  have hp := H.p_
  have hc := H.c_
  have l1 : (S.take (i - a)).length = i - a := by rw [List.length_take]; omega
  have l2 : (S.drop (i - a)).length = m - i := by rw [List.length_drop]; omega
  have l3 : (T.take (c0 - i)).length = c0 - i := by rw [List.length_take]; omega
  have l4 : (T.drop (c0 - i)).length = b - m - (c0 - i) := by rw [List.length_drop]; omega
  refine ⟨S.take (i - a), S.drop (i - a), T.take (c0 - i), T.drop (c0 - i), (List.take_append_drop _ _).symm, (List.take_append_drop _ _).symm, e, by omega, by omega, by omega, by omega, H.n, ?_⟩
  conv => lhs; rw [← List.take_append_drop (i - a) S, ← List.take_append_drop (c0 - i) T]
  refine mrg_split d _ _ _ _ (by rw [List.take_append_drop]; exact H.us) (by rw [List.take_append_drop]; exact H.ut) (fun z x y D' hA hD => ?_) (fun z y x B' hC hB => ?_)
  · have n1 : (S.take (i - a)).length = z.length + 1 := by rw [hA]; simp
    have n2 : (T.drop (c0 - i)).length = D'.length + 1 := by rw [hD]; simp
    have ex : S[i - a - 1]? = some x := by
      rw [← List.getElem?_take_of_lt (show i - a - 1 < i - a by omega), hA, List.getElem?_append_right (by omega), show i - a - 1 - z.length = 0 by omega]; rfl
    have ey : T[c0 - i]? = some y := by
      have := List.getElem?_drop (xs := T) (i := c0 - i) (j := 0)
      rw [hD] at this; exact this.symm
    have := K.k1 (i - 1) x y (by omega) (by omega) (by rw [at_s e e' (by omega) (by omega), ← ex]; congr 1; omega) (by rw [at_t e e' e'' (by omega) (by omega), ← ey]; congr 1; omega)
    omega
  · have n1 : (T.take (c0 - i)).length = z.length + 1 := by rw [hC]; simp
    have n2 : (S.drop (i - a)).length = B'.length + 1 := by rw [hB]; simp
    have ey : T[c0 - i - 1]? = some y := by
      rw [← List.getElem?_take_of_lt (show c0 - i - 1 < c0 - i by omega), hC, List.getElem?_append_right (by omega), show c0 - i - 1 - z.length = 0 by omega]; rfl
    have ex : S[i - a]? = some x := by
      have := List.getElem?_drop (xs := S) (i := i - a) (j := 0)
      rw [hB] at this; exact this.symm
    exact K.k2 i x y (Nat.le_refl _) (by omega) (by rw [at_s e e' (by omega) (by omega), ← ex]) (by rw [at_t e e' e'' (by omega) (by omega), ← ey]; congr 1; omega)
theorem Cut.up {d P S T R N a m b c0 i S1 S2 T1 T2} (h : Cut d P S T R N a m b c0 i S1 S2 T1 T2) (us : Up d S) (ut : Up d T) : Up d S1 ∧ Up d S2 ∧ Up d T1 ∧ Up d T2 := by
  rw [h.s] at us
  rw [h.t] at ut
  exact ⟨(up_app.mp us).1, (up_app.mp us).2.1, (up_app.mp ut).1, (up_app.mp ut).2.1⟩
end Go.Proofs.PlaceSort
