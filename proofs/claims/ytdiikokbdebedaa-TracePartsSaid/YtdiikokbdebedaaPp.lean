/- trace.Part and the document's Part and Kind, in plain words. -/
import Derived.Test.YtdiikokbdebedaaPx0
import Derived.Test.YtdiikokbdebedaaPx2
import Derived.Test.YtdiikokbdebedaaRf
import Derived.Test.YtdiikokbdebedaaKi
namespace Go.Proofs.Ytdiikokbdebedaa.Rf
open Go.RowKit Go.Proofs.Ytdiikokbdebedaa.P Go.Proofs.Ytdiikokbdebedaa.Tr Go.Proofs.Ytdiikokbdebedaa.Ck Go.Proofs.Ytdiikokbdebedaa.Ki Go.Proofs.Ytdiikokbdebedaa.Hand Go.Proofs.YtdiikokbdebedaaW.PrintWords Go.Proofs.YtdiikokbdebedaaW.PrintLast Go.Proofs.YtdiikokbdebedaaW.PrintMore

theorem cnt_cons (j : Nat) (x : Ev) (l : List Ev) : cnt j (x :: l) = cnt j l + if slot x = j then 1 else 0 := by
  unfold cnt
  rw [List.countP_cons]
  by_cases h : slot x = j <;> simp [h]
theorem kind_l0 (l : List S54) (hl : l.length ≤ 1000) (j : Nat) (hj : j ≤ 3) (m : Nat) : ∀ (i k n : Nat), l.length = i + m → m + 1 ≤ k → n ≤ i →
    mosaicref32_Kind.l0 k l (j : Int) (n : Int) (i : Int) = some ((n + cnt j ((l.drop i).map ev) : Nat) : Int) := by
  induction m with
  | zero =>
    intro i k n hi hk hn
    obtain ⟨k, rfl⟩ : ∃ k', k = k' + 1 := ⟨k - 1, by omega⟩
    rw [mosaicref32_Kind.l0, if_neg (by omega), List.drop_of_length_le (by omega)]
    simp [cnt]
  | succ m ih =>
    intro i k n hi hk hn
    obtain ⟨k, rfl⟩ : ∃ k', k = k' + 1 := ⟨k - 1, by omega⟩
    have hlt : i < l.length := by omega
    rw [mosaicref32_Kind.l0, if_pos (by omega), if_pos (by omega), rd_get l i hlt, List.drop_eq_getElem_cons hlt, List.map_cons, cnt_cons, w64 (n := (i : Int) + 1) (by omega), w64 (n := (n : Int) + 1) (by omega)]
    generalize l[i] = x
    have yes := ih (i + 1) k (n + 1) (by omega) (by omega) (by omega)
    have no := ih (i + 1) k n (by omega) (by omega) (by omega)
    have hsl : slot (ev x) = j ↔ (x.f0 = (j : Int) ∨ (j = 0 ∧ (x.f0 < 1 ∨ x.f0 > 3))) := by
      unfold slot ev
      simp only
      split
      · omega
      · split <;> omega
    by_cases h : slot (ev x) = j
    · rw [if_pos h, show n + (cnt j (List.map ev (List.drop (i + 1) l)) + 1) = (n + 1) + cnt j (List.map ev (List.drop (i + 1) l)) by omega, ← yes]
      rcases hsl.mp h with h1 | ⟨h1, h2⟩
      · rw [if_pos h1]; rfl
      · by_cases h3 : x.f0 = (j : Int)
        · rw [if_pos h3]; rfl
        · rw [if_neg h3, if_pos (by omega)]
          by_cases h4 : x.f0 < 1
          · rw [if_pos h4]; rfl
          · rw [if_neg h4, if_pos (by omega)]; rfl
    · have h' := fun h2 => h (hsl.mpr h2)
      rw [if_neg h, Nat.add_zero, ← no, if_neg (fun h2 => h' (Or.inl h2))]
      by_cases h1 : (j : Int) = 0
      · rw [if_pos h1, if_neg (fun h2 => h' (Or.inr ⟨by omega, Or.inl h2⟩)), if_neg (fun h2 => h' (Or.inr ⟨by omega, Or.inr h2⟩))]; rfl
      · rw [if_neg h1]; rfl
theorem kind_eq (l : List S47) (hl : l.length ≤ 1000) (j : Nat) (hj : j ≤ 3) (k : Nat) (hk : 1001 ≤ k) : mosaicref32_Kind.f k (l.map toR) (j : Int) = some ((cnt j (l.map toEv) : Nat) : Int) := by
  have := kind_l0 (l.map toR) (by rw [List.length_map]; omega) j hj l.length 0 k 0 (by rw [List.length_map]; omega) (by omega) (Nat.le_refl _)
  rw [List.drop_zero, ev_toR, Nat.zero_add] at this
  exact this

/-- Some of the events. -/
def sub (l : List S54) (F T : Nat) (i : Nat) : List S54 := (l.take (min i T)).drop F
theorem sub_step (l : List S54) (F T i : Nat) (hi : i < l.length) : sub l F T (i + 1) = if F ≤ i ∧ i < T then sub l F T i ++ [l[i]] else sub l F T i := by
  unfold sub
  by_cases h1 : i < T
  · rw [Nat.min_eq_left (by omega), Nat.min_eq_left (by omega)]
    have ht : l.take (i + 1) = l.take i ++ [l[i]] := by rw [List.take_add_one, List.getElem?_eq_getElem hi]; rfl
    have hlen : (l.take i).length = i := by rw [List.length_take]; omega
    by_cases h2 : F ≤ i
    · rw [if_pos ⟨h2, h1⟩, ht, List.drop_append_of_le_length (by omega)]
    · rw [if_neg (fun h => h2 h.1), List.drop_of_length_le (by rw [List.length_take]; omega), List.drop_of_length_le (by omega)]
  · rw [if_neg (fun h => h1 h.2), Nat.min_eq_right (by omega), Nat.min_eq_right (by omega)]
theorem part_l0 (l : List S54) (hl : l.length ≤ 1000) (a b : Int) (m : Nat) : ∀ (i k : Nat), l.length = i + m → m + 1 ≤ k →
    mosaicref32_Part.l0 k l a b (sub l a.toNat (mn b (l.length : Int)).toNat i) (i : Int) = some (sub l a.toNat (mn b (l.length : Int)).toNat l.length) := by
  have hT : ∀ i : Nat, i < l.length → (i < (mn b (l.length : Int)).toNat ↔ (i : Int) < b) := by
    intro i hi
    unfold mn
    split <;> omega
  induction m with
  | zero =>
    intro i k hi hk
    obtain ⟨k, rfl⟩ : ∃ k', k = k' + 1 := ⟨k - 1, by omega⟩
    rw [mosaicref32_Part.l0, if_neg (by omega), show i = l.length by omega]
  | succ m ih =>
    intro i k hi hk
    obtain ⟨k, rfl⟩ : ∃ k', k = k' + 1 := ⟨k - 1, by omega⟩
    have hlt : i < l.length := by omega
    have hi2 := ih (i + 1) k (by omega) (by omega)
    rw [sub_step l _ _ i hlt] at hi2
    have hsz : (sub l a.toNat (mn b (l.length : Int)).toNat i).length ≤ 1000 := by unfold sub; rw [List.length_drop, List.length_take]; omega
    rw [mosaicref32_Part.l0, if_pos (by omega), rd_get l i hlt, w64 (by omega)]
    by_cases h1 : (i : Int) ≥ a
    · rw [if_pos h1]
      by_cases h2 : (i : Int) < b
      · rw [if_pos h2, if_pos (by omega), if_pos (by omega)]
        rw [if_pos ⟨by omega, (hT i hlt).mpr h2⟩] at hi2
        exact hi2
      · rw [if_neg h2]
        rw [if_neg (fun h => h2 ((hT i hlt).mp h.2))] at hi2
        exact hi2
    · rw [if_neg h1]
      rw [if_neg (fun h => h1 (by omega))] at hi2
      exact hi2
theorem part_eq (l : List S47) (hl : l.length ≤ 1000) (a b : Int) (k : Nat) (hk : 1001 ≤ k) :
    ∃ p, p.length ≤ 1000 ∧ trace_Part.f l a b = some p ∧ mosaicref32_Part.f k (l.map toR) a b = some (p.map toR) := by
  have h := part_l0 (l.map toR) (by rw [List.length_map]; omega) a b l.length 0 k (by rw [List.length_map]; omega) (by omega)
  have h0 : sub (l.map toR) a.toNat (mn b ((l.map toR).length : Int)).toNat 0 = [] := by unfold sub; simp
  have hm : (mx a 0).toNat = a.toNat := by unfold mx; split <;> omega
  have hm0 : 0 ≤ mx a 0 := by unfold mx; split <;> omega
  have hn : mn b (l.length : Int) ≤ l.length := by unfold mn; split <;> omega
  rw [h0, List.length_map] at h
  refine ⟨(l.take (mn b (l.length : Int)).toNat).drop a.toNat, by rw [List.length_drop, List.length_take]; omega, ?_, ?_⟩
  · unfold trace_Part.f
    by_cases hg : mx a 0 ≥ mn b (l.length : Int)
    · rw [if_pos hg, List.drop_of_length_le (by rw [List.length_take]; omega)]
    · rw [if_neg hg, if_pos hm0, if_pos (by omega), if_pos hn, hm]
      unfold api_Event_40.f
      rw [if_pos (by rw [List.length_drop, List.length_take]; omega)]
      rfl
  · have hs : sub (l.map toR) a.toNat (mn b (l.length : Int)).toNat l.length = ((l.take (mn b (l.length : Int)).toNat).drop a.toNat).map toR := by
      unfold sub
      rw [Nat.min_eq_right (by omega), List.map_drop, List.map_take]
    rw [← hs]
    exact h

end Go.Proofs.Ytdiikokbdebedaa.Rf
