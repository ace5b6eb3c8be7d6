/- The place of any number on the spiral, and the number of any place, are what the document says. No condition. -/
import Derived.Test.YtlpidjenifbjeaaPx7
import Derived.Test.YtlpidjenifbjeaaPa
namespace Go.Proofs.Ytlpidjenifbjeaa.Pure
open Go.RowKit Go.Proofs.Ytlpidjenifbjeaa.P Go.Proofs.YtlpidjenifbjeaaW.PrintWords Go.Proofs.YtlpidjenifbjeaaW.PrintLast Go.Proofs.Ytlpidjenifbjeaa.Pl

/-- One leg of the reference's way. -/
theorem leg (k : Nat) (r dx dy L n px py : Int) (hr : 0 ≤ r ∧ r ≤ 1000000) (hx : -1 ≤ dx ∧ dx ≤ 1) (hy : -1 ≤ dy ∧ dy ≤ 1) (hL : 1 ≤ L ∧ L ≤ 1000000) (hn : 0 ≤ n ∧ n ≤ 1000000)
    (hpx : -1000000 ≤ px ∧ px ≤ 1000000) (hpy : -1000000 ≤ py ∧ py ≤ 1000000) :
    mosaicref17_Spiral.l0 (k + 2) r dx dy L n px py = if r ≤ L then some (px + dx * r, py + dy * r, 0) else if n % 2 = 1 then mosaicref17_Spiral.l0 k (r - L) (-dy) dx (L + 1) (n + 1) (px + dx * L) (py + dy * L) else mosaicref17_Spiral.l0 k (r - L) (-dy) dx L (n + 1) (px + dx * L) (py + dy * L) := by
  have w : ∀ s, 0 ≤ s ∧ s ≤ 1000000 → wrap64 (dx * s) = dx * s ∧ wrap64 (dy * s) = dy * s ∧ wrap64 (px + dx * s) = px + dx * s ∧ wrap64 (py + dy * s) = py + dy * s := by
    intro s hs
    have m1 : -(1 * 1000000) ≤ dx * s ∧ dx * s ≤ 1 * 1000000 := mul_le hx (by omega)
    have m2 : -(1 * 1000000) ≤ dy * s ∧ dy * s ≤ 1 * 1000000 := mul_le hy (by omega)
    exact ⟨wrap_eq (by omega), wrap_eq (by omega), wrap_eq (by omega), wrap_eq (by omega)⟩
  have hm := tmod2 n
  simp only [mosaicref17_Spiral.l0]
  rw [if_pos (by omega)]
  by_cases c : r ≤ L
  · rw [if_pos c]
    obtain ⟨a1, a2, a3, a4⟩ := w r (by omega)
    have e : (if L > r then mosaicref17_Spiral.j2 (k + 1) r dx dy L n r px py else mosaicref17_Spiral.j2 (k + 1) r dx dy L n L px py) = mosaicref17_Spiral.j2 (k + 1) r dx dy L n r px py := by
      split
      · rfl
      · rw [show L = r from by omega]
    rw [e]
    simp only [mosaicref17_Spiral.j2]
    rw [if_pos (by rw [Int.sub_self]; exact wrap_eq (by omega)), a1, a2, a3, a4]
  · rw [if_neg c, if_neg (by omega)]
    obtain ⟨a1, a2, a3, a4⟩ := w L (by omega)
    simp only [mosaicref17_Spiral.j2]
    have w1 : wrap64 (r - L) = r - L := wrap_eq (by omega)
    have w2 : wrap64 (-dy) = -dy := wrap_eq (by omega)
    have w3 : wrap64 (L + 1) = L + 1 := wrap_eq (by omega)
    have w4 : wrap64 (n + 1) = n + 1 := wrap_eq (by omega)
    rw [w1, w2, w3, w4, a1, a2, a3, a4, if_neg (by omega)]
    by_cases c2 : n % 2 = 1
    · rw [if_pos (by omega), if_pos c2]
    · rw [if_neg (by omega), if_neg c2]

theorem corner_next (K : Int) : cornerC (K + 1) = cornerC K + sgn K * (K + 1) ∧ sgn (K + 1) = -sgn K := by
  unfold cornerC sgn
  by_cases e : K % 2 = 1
  · rw [if_pos e, if_pos e, if_neg (by omega), if_neg (by omega)]; omega
  · rw [if_neg e, if_neg e, if_pos (by omega), if_pos (by omega)]; omega

theorem ref_legs (Kt rt : Int) (hrt : 0 ≤ rt ∧ rt ≤ 2 * Kt + 1) (hKt : Kt ≤ 1000) (d : Nat) : ∀ (k : Nat) (K r : Int), 0 ≤ K → Kt - K = d → r + K * (K + 1) = Kt * (Kt + 1) + rt → r ≤ 1000000 → 4 * d + 4 ≤ k →
    mosaicref17_Spiral.l0 k r (sgn K) 0 (K + 1) (2 * K) (cornerC K) (cornerC K) = some (spX Kt rt, spY Kt rt, 0) := by
  have hs : ∀ K, -1 ≤ sgn K ∧ sgn K ≤ 1 := by intro K; unfold sgn; split <;> omega
  have hc : ∀ K, 0 ≤ K → K ≤ 1001 → -1000 ≤ cornerC K ∧ cornerC K ≤ 1001 := by intro K h0 h1; unfold cornerC; split <;> omega
  have sp : ∀ a K, sgn K * a = a ∨ sgn K * a = -a := by intro a K; unfold sgn; split <;> omega
  induction d with
  | zero =>
    intro k K r h0 hd hr hb hk
    obtain rfl : K = Kt := by omega
    obtain rfl : r = rt := by omega
    obtain ⟨k, rfl⟩ : ∃ m, k = m + 2 + 2 := ⟨k - 4, by omega⟩
    have q := hc K h0 (by omega)
    rw [leg (k + 2) r (sgn K) 0 (K + 1) (2 * K) _ _ (by omega) (hs K) (by omega) (by omega) (by omega) (by omega) (by omega)]
    by_cases c : r ≤ K + 1
    · rw [if_pos c]
      unfold spX spY spF
      rw [if_pos c, Int.zero_mul, Int.sub_self, Int.mul_zero]
    · rw [if_neg c, if_neg (by omega)]
      have p := sp (K + 1) K
      rw [leg k (r - (K + 1)) (-0) (sgn K) (K + 1) (2 * K + 1) _ _ (by omega) (by omega) (hs K) (by omega) (by omega) (by omega) (by omega)]
      rw [if_pos (by omega)]
      unfold spX spY spF
      rw [if_neg c]
      simp
  | succ d ih =>
    intro k K r h0 hd hr hb hk
    obtain ⟨k, rfl⟩ : ∃ m, k = m + 2 + 2 := ⟨k - 4, by omega⟩
    have q := hc K h0 (by omega)
    have hge : K * (K + 1) + (2 * K + 2) ≤ Kt * (Kt + 1) := by
      have a : (K + 1) * (K + 1 + 1) ≤ Kt * (Kt + 1) := Int.mul_le_mul (by omega) (by omega) (by omega) (by omega)
      have b : (K + 1) * (K + 1 + 1) = K * (K + 1) + (2 * K + 2) := by grind
      omega
    rw [leg (k + 2) r (sgn K) 0 (K + 1) (2 * K) _ _ (by omega) (hs K) (by omega) (by omega) (by omega) (by omega) (by omega)]
    rw [if_neg (by omega), if_neg (by omega)]
    have p := sp (K + 1) K
    rw [leg k (r - (K + 1)) (-0) (sgn K) (K + 1) (2 * K + 1) _ _ (by omega) (by omega) (hs K) (by omega) (by omega) (by omega) (by omega)]
    obtain ⟨n1, n2⟩ := corner_next K
    by_cases c : r - (K + 1) ≤ K + 1
    · rw [if_pos c]
      have e : Kt = K + 1 ∧ rt = 0 := by
        have b : (K + 1) * (K + 1 + 1) = K * (K + 1) + (2 * K + 2) := by grind
        have u := split_unique (K := K + 1) (r := 0) (K' := Kt) (r' := rt) (by omega) (by omega) (by omega) hrt (by omega)
        omega
      obtain ⟨rfl, rfl⟩ := e
      have hrr : r - (K + 1) = K + 1 := by omega
      rw [hrr]
      unfold spX spY spF
      rw [if_pos (by omega), n1, Int.zero_mul]
      simp
    · rw [if_neg c, if_pos (by omega)]
      have b : (K + 1) * (K + 1 + 1) = K * (K + 1) + (2 * K + 2) := by grind
      have hi := ih k (K + 1) (r - (K + 1) - (K + 1)) (by omega) (by omega) (by omega) (by omega) (by omega)
      rw [n2, n1] at hi
      simp only [Int.neg_zero, Int.zero_mul, Int.add_zero]
      rw [show 2 * K + 1 + 1 = 2 * (K + 1) from by omega]
      exact hi

theorem refSpiral_eq (K r : Int) (hK : 0 ≤ K ∧ K ≤ 1000) (hr : 0 ≤ r ∧ r ≤ 2 * K + 1) (hn : K * (K + 1) + r ≤ 1000000) (k : Nat) (hk : 4 * K.toNat + 6 ≤ k) :
    mosaicref17_Spiral.f k (K * (K + 1) + r) = some (spX K r, spY K r, 0) := by
  obtain ⟨k, rfl⟩ : ∃ m, k = m + 1 := ⟨k - 1, by omega⟩
  have m0 : 0 ≤ K * (K + 1) := Int.mul_nonneg (by omega) (by omega)
  unfold mosaicref17_Spiral.f
  rw [if_neg (by omega), decide_eq_false (by omega)]
  simp only [mosaicref17_Spiral.j0]
  rw [if_neg (by simp)]
  exact ref_legs K r hr (by omega) K.toNat k 0 (K * (K + 1) + r) (by omega) (by omega) (by omega) hn (by omega)

theorem refSpiral_out (n : Int) (h : ¬ (0 ≤ n ∧ n ≤ 1099511627776)) (k : Nat) (hk : 1 ≤ k) : mosaicref17_Spiral.f k n = some (0, 0, 1) := by
  obtain ⟨k, rfl⟩ : ∃ j, k = j + 1 := ⟨k - 1, by omega⟩
  unfold mosaicref17_Spiral.f
  split
  · simp [mosaicref17_Spiral.j0]
  · rw [decide_eq_true (by omega)]; simp [mosaicref17_Spiral.j0]

/-- The two Spirals agree on what the statement asks. -/
theorem spirals_agree (n : Int) (h : n ≤ 20000 ∨ 1099511627776 < n) (k : Nat) (hk : 5000 ≤ k) : ∃ p, plane_Spiral.f k n = some p ∧ mosaicref17_Spiral.f k n = some p := by
  by_cases c : 0 ≤ n ∧ n ≤ 1099511627776
  · obtain ⟨K, r, hs, _, hK, _, hr, hr2, hn⟩ := spiral_eq n c k (by omega)
    have hK2 : K ≤ 1000 := by
      rcases Int.lt_or_le K 1000 with q | q
      · omega
      · have a : 1000 * (1000 + 1) ≤ K * (K + 1) := Int.mul_le_mul q (by omega) (by omega) (by omega)
        omega
    refine ⟨_, hs, ?_⟩
    rw [hn]
    exact refSpiral_eq K r ⟨hK, hK2⟩ ⟨hr, hr2⟩ (by omega) k (by omega)
  · exact ⟨_, spiral_out n c k (by omega), refSpiral_out n c k (by omega)⟩

theorem last_part (n x y : Int) (h : n ≤ 20000 ∨ 1099511627776 < n) (hp : okB x y = true → -300 ≤ x ∧ x ≤ 300 ∧ -300 ≤ y ∧ y ≤ 300) (k : Nat) (hk : 5000 ≤ k) : mosaiclaw17_PlaneSpirals.j3 (k + 1) n x y = some true := by
  obtain ⟨p, h1, h2⟩ := spirals_agree n h k hk
  simp only [mosaiclaw17_PlaneSpirals.j3]
  rw [h1, h2, awake_eq k (by omega)]
  simp only [Option.bind_some, if_true, mosaiclaw17_Ref.f, beq_self_eq_true, Bool.and_self]
  rw [uns_eq x y, refUns_eq x y k (fun ho => by have := hp ho; have := ring_spec x y; omega)]
  simp

theorem PlaneSpirals : mosaiclaw17_PlaneSpirals.Pure := by
  intro n x y _ _
  refine ⟨5004, ?_⟩
  have hj2 : ∀ (m : Int) (b : Bool), (m ≤ 20000 ∨ 1099511627776 < m) → (b = false → okB x y = true → -300 ≤ x ∧ x ≤ 300 ∧ -300 ≤ y ∧ y ≤ 300) → mosaiclaw17_PlaneSpirals.j2 5002 m b x y = some true := by
    intro m b hm hb
    simp only [mosaiclaw17_PlaneSpirals.j2]
    cases b
    · rw [if_neg (by simp)]
      exact last_part m x y hm (hb rfl) 5000 (by omega)
    · rw [if_pos rfl]
      have hx := tmod_cases x 301
      have hy := tmod_cases y 301
      simp only [show ((301 : Nat) : Int) = 301 from rfl] at hx hy
      exact last_part m _ _ hm (fun _ => by omega) 5000 (by omega)
  have hj1 : ∀ m : Int, (m ≤ 20000 ∨ 1099511627776 < m) → mosaiclaw17_PlaneSpirals.j1 5003 m x y = some true := by
    intro m hm
    simp only [mosaiclaw17_PlaneSpirals.j1]
    rw [check_eq]
    simp only [Option.bind_some]
    cases ho : okB x y
    · rw [if_neg (by simp)]
      exact hj2 m false hm (fun _ h => by rw [ho] at h; cases h)
    · rw [if_pos rfl]
      split
      · exact hj2 m true hm (fun h => by cases h)
      · split
        · exact hj2 m true hm (fun h => by cases h)
        · split
          · exact hj2 m true hm (fun h => by cases h)
          · refine hj2 m _ hm (fun h _ => ?_)
            have := of_decide_eq_false h
            omega
  unfold mosaiclaw17_PlaneSpirals.f
  have ht := tmod_cases n 20001
  simp only [show ((20001 : Nat) : Int) = 20001 from rfl] at ht
  split
  · simp only [mosaiclaw17_PlaneSpirals.j0]
    split
    · exact hj1 _ (by omega)
    · rename_i h1 h2
      exact hj1 n (by simp at h2; omega)
  · simp only [mosaiclaw17_PlaneSpirals.j0]
    rw [if_neg (by simp)]
    exact hj1 n (by omega)

end Go.Proofs.Ytlpidjenifbjeaa.Pure
