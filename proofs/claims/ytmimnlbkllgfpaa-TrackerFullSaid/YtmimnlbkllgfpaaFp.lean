/- A table filled with names one by one: what is there. -/
import Derived.Test.YtmimnlbkllgfpaaCn
namespace Go.Proofs.Ytmimnlbkllgfpaa.Tb
open Go.RowKit Go.Maps Go.Proofs.Ytmimnlbkllgfpaa.A Go.Proofs.YtmimnlbkllgfpaaW.PrintWords

/-- The i-th note. -/
def nt (i : Nat) : Nt := ⟨nm (i : Int), 1, ⟨0, 0⟩, 10 + (i : Int)⟩
def nL (i : Nat) : List UInt8 := (nm (i : Int)).data.toList
theorem nameS_nt (i : Nat) : nameS (nt i) = nL i := rfl
theorem nL_head (i : Nat) (h : i ≤ 100) : (nL i).head? = some (UInt8.ofNat i) := by
  have e : (Int.tmod (i : Int) 256) % 256 = (i : Int) := by
    rw [Int.tmod_eq_emod_of_nonneg (by omega)]; omega
  unfold nL nm nmL strOfNums
  rw [e]
  simp
theorem nL_inj {i j : Nat} (hi : i ≤ 100) (hj : j ≤ 100) (h : nL i = nL j) : i = j := by
  have h1 := nL_head i hi
  rw [h, nL_head j hj] at h1
  have h2 := congrArg UInt8.toNat (Option.some.inj h1)
  simp at h2
  omega
/-- The table behind k rounds. -/
def TF : Nat → TT
  | 0 => noT
  | k + 1 => putT (nt k) (TF k)
theorem TF_in (k : Nat) (hk : k ≤ 100) : ∀ i, i < k → ∀ j : Nat, TF k (nL i) j = if j = 1 then some (nt i) else none := by
  induction k with
  | zero => intro i h; omega
  | succ k ih =>
    intro i h j
    unfold TF putT
    by_cases e : i = k
    · subst e
      by_cases h1 : j = 1
      · subst h1; rw [if_pos ⟨rfl, rfl⟩, if_pos rfl]
      · rw [if_neg (fun hh => h1 (by have : (j : Int) = 1 := hh.2; omega)), if_neg h1]
        clear ih h
        induction i with
        | zero => rfl
        | succ i _ =>
          have : ∀ m, m ≤ i + 1 → TF m (nL (i + 1)) j = none := by
            intro m
            induction m with
            | zero => intro _; rfl
            | succ m ihm =>
              intro hm
              unfold TF putT
              rw [if_neg (fun hh => by have := nL_inj (by omega) (by omega) hh.1; omega)]
              exact ihm (by omega)
          exact this (i + 1) (Nat.le_refl _)
    · rw [if_neg (fun hh => e (nL_inj (by omega) (by omega) hh.1))]
      exact ih (by omega) i (by omega) j
theorem TF_out (k : Nat) (s : List UInt8) (h : ∀ i, i < k → s ≠ nL i) (j : Nat) : TF k s j = none := by
  induction k with
  | zero => rfl
  | succ k ih =>
    unfold TF putT
    rw [if_neg (fun hh => h k (Nat.lt_succ_self _) hh.1)]
    exact ih (fun i hi => h i (by omega))
theorem TF_cases (k : Nat) (s : List UInt8) : (∃ i, i < k ∧ s = nL i) ∨ ∀ i, i < k → s ≠ nL i := by
  by_cases h : ∃ i, i < k ∧ s = nL i
  · exact Or.inl h
  · exact Or.inr fun i hi e => h ⟨i, hi, e⟩
/-- Nothing of it goes as long as it counts. -/
theorem swp_TF (now : Int) (hn : now ≤ 10) (k : Nat) : (fun s j => swp now (TF k s j)) = TF k := by
  induction k with
  | zero => rfl
  | succ k ih =>
    funext s j
    have h := congrFun (congrFun ih s) j
    unfold TF putT
    by_cases c : s = nameS (nt k) ∧ (j : Int) = (nt k).f1
    · rw [if_pos c]
      show (if (10 + (k : Int)) < now then none else some (nt k)) = _
      rw [if_neg (by omega)]
    · rw [if_neg c]; exact h
theorem nodes_TF (k : Nat) (hk : k ≤ 100) (i : Nat) (hi : i < k) (now : Int) (h0 : 0 ≤ now) (h1 : now ≤ 1000) : nodesL (TF k) (nL i) now = if now ≤ 10 + (i : Int) then [nt i] else [] := by
  unfold nodesL
  rw [if_pos (by unfold tickB; simp; omega), show TF k (nL i) = fun j => if j = 1 then some (nt i) else none from funext (TF_in k hk i hi), cntL_one]
  by_cases c : now ≤ 10 + (i : Int)
  · rw [if_pos ⟨by omega, c⟩, if_pos c]
  · rw [if_neg (fun h => c h.2), if_neg c]
/-- The names of the first k. -/
def namesF (k : Nat) : List (List UInt8) := (List.range k).map nL
theorem nodup_nL {l : List Nat} (hl : l.Nodup) (hk : ∀ i ∈ l, i ≤ 100) : (l.map nL).Nodup := by
  refine List.pairwise_map.2 (hl.imp_of_mem fun {i j} hi hj hne e => hne (nL_inj (hk i hi) (hk j hj) e))
theorem names_TF (k : Nat) (hk : k ≤ 100) (now : Int) (h0 : 0 ≤ now) (h1 : now ≤ 10) : NamesAre (TF k) now (namesF k) := by
  refine ⟨nodup_nL List.nodup_range (fun i hi => by have := List.mem_range.1 hi; omega), fun s => ?_⟩
  unfold namesF
  rw [List.mem_map]
  rcases TF_cases k s with ⟨i, hi, rfl⟩ | h
  · rw [nodes_TF k hk i hi now h0 (by omega), if_pos (by omega)]
    exact ⟨fun _ => by simp, fun _ => ⟨i, List.mem_range.2 hi, rfl⟩⟩
  · rw [nodesL_none now (TF_out k s h)]
    refine ⟨fun ⟨i, hi, e⟩ => absurd e.symm (h i (List.mem_range.1 hi)), fun hh => absurd rfl hh⟩
theorem Ann.full_of {room : Int} {x : Nt} {now : Int} {T T' : TT} {c : Int} (h : Ann room x now T c T') (hm : mayB x now = true) (hN : nodesL T (nameS x) now = []) {ss : List (List UInt8)} (ha : NamesAre T now ss) (hl : room ≤ ss.length) : c = 6 ∧ T' = T := by
  cases h with
  | arg h => rw [hm] at h; cases h
  | full _ _ _ _ _ => exact ⟨rfl, rfl⟩
  | ok _ h2 =>
    rcases h2 with h2 | ⟨ss', ha', hl'⟩
    · exact absurd hN h2
    · have := ha.length ha'; omega
/-- The hundredth name; one more of the first name. -/
def nA : Nt := ⟨nm 100, 1, ⟨0, 0⟩, 90⟩
def nB : Nt := ⟨nm 0, 2, ⟨0, 0⟩, 10⟩
theorem nameS_nA : nameS nA = nL 100 := rfl
theorem nameS_nB : nameS nB = nL 0 := rfl
theorem may_nt (i : Nat) (h : i ≤ 100) : mayB (nt i) 0 = true := (may_iff _ _).2 ⟨by decide, nm_size _, (by decide : (1 : Int) ≤ 1 ∧ (1 : Int) ≤ 15), (by decide : ((-1048576 : Int) ≤ 0 ∧ (0 : Int) ≤ 1048576) ∧ (-1048576 : Int) ≤ 0 ∧ (0 : Int) ≤ 1048576), by show (0 : Int) ≤ 10 + (i : Int); omega, by show 10 + (i : Int) ≤ 1099511627776; omega⟩
theorem may_nA5 : mayB nA 5 = true := (may_iff _ _).2 ⟨by decide, nm_size _, by decide, by decide, by decide, by decide⟩
theorem may_nA11 : mayB nA 11 = true := (may_iff _ _).2 ⟨by decide, nm_size _, by decide, by decide, by decide, by decide⟩
theorem may_nB5 : mayB nB 5 = true := (may_iff _ _).2 ⟨by decide, nm_size _, by decide, by decide, by decide, by decide⟩
/-- Behind one more of the first name; behind the hundredth. -/
def TB (k : Nat) : TT := putT nB (TF k)
def TC (k : Nat) : TT := putT nA (fun s j => swp 11 (TB k s j))
theorem TB_zero (k : Nat) (hk : k ≤ 100) (h1 : 1 ≤ k) (j : Nat) : swp 11 (TB k (nL 0) j) = none := by
  unfold TB putT
  by_cases c : nL 0 = nameS nB ∧ (j : Int) = nB.f1
  · rw [if_pos c]; rfl
  · rw [if_neg c, TF_in k hk 0 (by omega)]
    by_cases h : j = 1
    · rw [if_pos h]; rfl
    · rw [if_neg h]; rfl
theorem TB_in (k : Nat) (hk : k ≤ 100) (i : Nat) (hi : i < k) (h1 : 1 ≤ i) (j : Nat) : TB k (nL i) j = if j = 1 then some (nt i) else none := by
  unfold TB putT
  rw [if_neg (fun hh => by have := nL_inj (i := i) (j := 0) (by omega) (by omega) hh.1; omega)]
  exact TF_in k hk i hi j
theorem TB_out (k : Nat) (h0 : 1 ≤ k) (s : List UInt8) (h : ∀ i, i < k → s ≠ nL i) (j : Nat) : TB k s j = none := by
  unfold TB putT
  rw [if_neg (fun hh => h 0 (by omega) hh.1)]
  exact TF_out k s h j
theorem swp_keep (i : Nat) (h1 : 1 ≤ i) (j : Nat) : swp 11 (if j = 1 then some (nt i) else none) = if j = 1 then some (nt i) else none := by
  by_cases h : j = 1
  · rw [if_pos h]
    show (if 10 + (i : Int) < 11 then none else some (nt i)) = _
    rw [if_neg (by omega)]
  · rw [if_neg h]; rfl
theorem nodes_T1 {T : TT} (i : Nat) (s : List UInt8) (h : ∀ j, T s j = if j = 1 then some (nt i) else none) (h1 : 1 ≤ i) : nodesL T s 11 = [nt i] := by
  unfold nodesL
  rw [if_pos (by decide), show T s = fun j => if j = 1 then some (nt i) else none from funext h, cntL_one, if_pos ⟨by omega, by show (11 : Int) ≤ 10 + (i : Int); omega⟩]
/-- The other names count on. -/
def restF (k : Nat) : List (List UInt8) := (List.range (k - 1)).map (fun i => nL (i + 1))
theorem nodup_rest (k : Nat) (hk : k ≤ 100) : (restF k).Nodup := by
  unfold restF
  rw [show (List.range (k - 1)).map (fun i => nL (i + 1)) = ((List.range (k - 1)).map (· + 1)).map nL by rw [List.map_map]; rfl]
  refine nodup_nL (List.pairwise_map.2 (List.nodup_range.imp (fun {a b} h e => h (by omega)))) (fun i hi => ?_)
  obtain ⟨m, hm, rfl⟩ := List.mem_map.1 hi
  have := List.mem_range.1 hm
  omega
theorem mem_rest (k : Nat) (s : List UInt8) : s ∈ restF k ↔ ∃ i, 1 ≤ i ∧ i < k ∧ s = nL i := by
  unfold restF
  rw [List.mem_map]
  constructor
  · rintro ⟨m, hm, rfl⟩
    have := List.mem_range.1 hm
    exact ⟨m + 1, by omega, by omega, rfl⟩
  · rintro ⟨i, h1, h2, rfl⟩
    exact ⟨i - 1, List.mem_range.2 (by omega), by rw [show i - 1 + 1 = i by omega]⟩
theorem names_TB (k : Nat) (hk : k ≤ 100) (h1 : 1 ≤ k) : NamesAre (TB k) 11 (restF k) := by
  refine ⟨nodup_rest k hk, fun s => ?_⟩
  rw [mem_rest]
  rcases TF_cases k s with ⟨i, hi, rfl⟩ | h
  · by_cases h0 : i = 0
    · subst h0
      have hz : nodesL (TB k) (nL 0) 11 = [] := by
        have e : ∀ m, cntL (TB k (nL 0)) 11 m = [] := by
          intro m
          induction m with
          | zero => rfl
          | succ m ih =>
            rw [cntL, ih]
            have := TB_zero k hk h1 m
            cases hc : TB k (nL 0) m with
            | none => rfl
            | some y =>
              rw [hc] at this
              have hy : y.f3 < 11 := by
                by_cases hh : y.f3 < 11
                · exact hh
                · simp only [swp, if_neg hh] at this; cases this
              simp only [List.nil_append]
              rw [if_neg (by omega)]
        unfold nodesL
        rw [if_pos (by decide), e]
      rw [hz]
      refine ⟨fun ⟨i, h2, h3, e⟩ => by have := nL_inj (by omega) (by omega) e; omega, fun hh => absurd rfl hh⟩
    · rw [nodes_T1 i (nL i) (TB_in k hk i hi (by omega)) (by omega)]
      exact ⟨fun _ => by simp, fun _ => ⟨i, by omega, hi, rfl⟩⟩
  · rw [nodesL_none 11 (TB_out k h1 s h)]
    exact ⟨fun ⟨i, _, h3, e⟩ => absurd e (h i h3), fun hh => absurd rfl hh⟩
theorem TC_at (k : Nat) (s : List UInt8) (h : s ≠ nL 100) (j : Nat) : TC k s j = swp 11 (TB k s j) := by
  unfold TC putT
  rw [if_neg (fun hh => h hh.1)]
theorem names_TC (k : Nat) (hk : k ≤ 64) (h1 : 1 ≤ k) : NamesAre (TC k) 11 (nL 100 :: restF k) := by
  have hnew : nL 100 ∉ restF k := fun h => by
    obtain ⟨i, _, h3, e⟩ := (mem_rest k _).1 h
    have := nL_inj (by omega) (by omega) e
    omega
  refine ⟨List.nodup_cons.2 ⟨hnew, nodup_rest k (by omega)⟩, fun s => ?_⟩
  rw [List.mem_cons, mem_rest]
  by_cases e : s = nL 100
  · subst e
    have h2 : nodesL (TC k) (nL 100) 11 = [nA] := by
      have e2 : TC k (nL 100) = fun j => if j = 1 then some nA else none := by
        funext j
        unfold TC putT
        by_cases hj : j = 1
        · subst hj; rw [if_pos ⟨rfl, rfl⟩, if_pos rfl]
        · rw [if_neg (fun hh => hj (by have : (j : Int) = 1 := hh.2; omega)), if_neg hj]
          show swp 11 (TB k (nL 100) j) = none
          rw [TB_out k h1 (nL 100) (fun i hi e => by have := nL_inj (i := 100) (j := i) (by omega) (by omega) e; omega)]; rfl
      unfold nodesL
      rw [if_pos (by decide), e2, cntL_one, if_pos (by decide)]
    rw [h2]; simp
  · have hT : nodesL (TC k) s 11 ≠ [] ↔ ∃ i, 1 ≤ i ∧ i < k ∧ s = nL i := by
      rcases TF_cases k s with ⟨i, hi, rfl⟩ | h
      · by_cases h0 : i = 0
        · subst h0
          rw [nodesL_none 11 (fun j => by rw [TC_at k _ e, TB_zero k (by omega) h1])]
          refine ⟨fun hh => absurd rfl hh, fun ⟨i, h2, h3, e⟩ => by have := nL_inj (by omega) (by omega) e; omega⟩
        · rw [nodes_T1 i (nL i) (fun j => by rw [TC_at k _ e, TB_in k (by omega) i hi (by omega), swp_keep i (by omega)]) (by omega)]
          exact ⟨fun _ => ⟨i, by omega, hi, rfl⟩, fun _ => by simp⟩
      · rw [nodesL_none 11 (fun j => by rw [TC_at k _ e, TB_out k h1 s h]; rfl)]
        exact ⟨fun hh => absurd rfl hh, fun ⟨i, _, h3, e⟩ => absurd e (h i h3)⟩
    rw [hT]
    exact ⟨fun h => h.resolve_left e, Or.inr⟩
theorem nodes_TC (k : Nat) (hk : k ≤ 64) (h1 : 1 ≤ k) (now : Int) : nodesL (TC k) (nL 0) now = [] :=
  nodesL_none now (fun j => by rw [TC_at k _ (fun e => by have := nL_inj (i := 0) (j := 100) (by omega) (by omega) e; omega), TB_zero k (by omega) h1])
end Go.Proofs.Ytmimnlbkllgfpaa.Tb
