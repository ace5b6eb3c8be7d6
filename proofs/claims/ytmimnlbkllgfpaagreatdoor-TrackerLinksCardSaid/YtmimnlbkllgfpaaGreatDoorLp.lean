/- What is asked and what is found, in plain lists. -/
import Derived.Test.YtmimnlbkllgfpaaGreatDoorFd
import Derived.Test.YtmimnlbkllgfpaaGreatDoorAx2
import Derived.Test.YtmimnlbkllgfpaaGreatDoorNr
namespace Go.Proofs.YtmimnlbkllgfpaaGreatDoor.Tb
set_option linter.unusedVariables false
set_option linter.unusedSimpArgs false
open Go.RowKit Go.Maps Go.Proofs.YtmimnlbkllgfpaaGreatDoor.A Go.Proofs.YtmimnlbkllgfpaaGreatDoorW.PrintWords Go.Proofs.YtmimnlbkllgfpaaGreatDoor.Di Go.Proofs.YtmimnlbkllgfpaaGreatDoor.So

/-- What few lets through. -/
def Few (l : List S37) (n ti : ByteArray) : Prop := l.length ≤ 60 ∧ (∀ (j : Nat) x, l[j]? = some x → x.f2.f0.size ≤ 100) ∧ n.size ≤ 100 ∧ ti.size ≤ 100
theorem few_from (l : List S37) (n ti : ByteArray) (a b c d : Int) : ∀ (m j k : Nat), (j + m = 61 ∨ j + m = l.length) → m < k → j ≤ 60 → j ≤ l.length → (∀ (i : Nat) x, i < j → l[i]? = some x → x.f2.f0.size ≤ 100) →
    ∃ r, mosaiclaw31_few.l0 k l (j : Int) n ti a b c d = some r ∧ (r = true → Few l n ti)
  | m, j, 0, _, hk, _, _, _ => by omega
  | m, j, k + 1, hj, hk, h60, hjl, hp => by
    by_cases hlt : j < l.length
    · rw [mosaiclaw31_few.l0, if_pos (by omega)]
      by_cases hg : j = 60
      · rw [if_pos (by omega)]; exact ⟨false, rfl, fun h => by cases h⟩
      · rw [if_neg (by omega), if_pos (by omega)]
        have e : rd_T37 l (j : Int) = l[j] := by unfold rd_T37; rw [Int.toNat_natCast, List.getD_eq_getElem?_getD, List.getElem?_eq_getElem hlt]; rfl
        rw [e]
        by_cases hb : (l[j].f2.f0.size : Int) > 100
        · rw [if_pos hb]; exact ⟨false, rfl, fun h => by cases h⟩
        · rw [if_neg hb, show wrap64 ((j : Int) + 1) = ((j + 1 : Nat) : Int) from by unfold wrap64; omega]
          obtain ⟨m', rfl⟩ : ∃ m', m = m' + 1 := ⟨m - 1, by omega⟩
          refine few_from l n ti a b c d m' (j + 1) k (by omega) (by omega) (by omega) (by omega) (fun i x hi hx => ?_)
          rcases Nat.lt_or_ge i j with q | q
          · exact hp i x q hx
          · obtain rfl : i = j := by omega
            rw [List.getElem?_eq_getElem hlt] at hx
            obtain rfl := Option.some.inj hx
            omega
    · rw [mosaiclaw31_few.l0, if_neg (by omega)]
      by_cases hn : (n.size : Int) ≤ 100
      · rw [if_pos hn]
        refine ⟨_, rfl, fun h => ⟨by omega, fun i x hx => hp i x ?_ hx, by omega, ?_⟩⟩
        · rcases Nat.lt_or_ge i l.length with q | q
          · omega
          · rw [List.getElem?_eq_none q] at hx; cases hx
        · have := of_decide_eq_true h; omega
      · rw [if_neg hn]; exact ⟨false, rfl, fun h => by cases h⟩
theorem few_spec (l : List S37) (n ti : ByteArray) (a b c d : Int) : ∃ r, mosaiclaw31_few.f 62 l n ti a b c d = some r ∧ (r = true → Few l n ti) :=
  few_from l n ti a b c d 61 0 62 (Or.inl rfl) (by omega) (by omega) (by omega) (fun i x hi => by omega)
/-- An entry's notes stand by their nodes. -/
theorem cntL_pw {f : Nat → Option Nt} (hf : ∀ j x, f j = some x → x.f1 = (j : Int)) (now : Int) : ∀ m, (cntL f now m).Pairwise (fun x y => x.f1 < y.f1) ∧ ∀ x ∈ cntL f now m, x.f1 < (m : Int)
  | 0 => ⟨List.Pairwise.nil, fun x h => by cases h⟩
  | m + 1 => by
    obtain ⟨h1, h2⟩ := cntL_pw hf now m
    rw [cntL]
    have key : ∀ r : List Nt, (∀ x ∈ r, x.f1 = (m : Int)) → r.length ≤ 1 → (cntL f now m ++ r).Pairwise (fun x y => x.f1 < y.f1) ∧ ∀ x ∈ cntL f now m ++ r, x.f1 < ((m + 1 : Nat) : Int) := by
      intro r hr hl
      refine ⟨List.pairwise_append.2 ⟨h1, ?_, fun x hx y hy => by have := h2 x hx; have := hr y hy; omega⟩, fun x hx => ?_⟩
      · rcases r with _ | ⟨z, _ | ⟨z', r⟩⟩
        · exact List.Pairwise.nil
        · exact List.pairwise_singleton _ _
        · simp at hl
      · rcases List.mem_append.1 hx with hx | hx
        · have := h2 x hx; omega
        · have := hr x hx; omega
    split
    · next x hx =>
      split
      · exact key [x] (fun y hy => by obtain rfl := List.mem_singleton.1 hy; exact hf m _ hx) (by simp)
      · exact key [] (fun y hy => by cases hy) (by simp)
    · exact key [] (fun y hy => by cases hy) (by simp)
theorem nodesL_pw {T : TT} (h : ∀ s j x, T s j = some x → x.f1 = (j : Int)) (s : List UInt8) (now : Int) : (nodesL T s now).Pairwise (fun x y => x.f1 < y.f1) := by
  unfold nodesL
  split
  · exact (cntL_pw (fun j x => h s j x) now 16).1
  · exact List.Pairwise.nil
theorem rd_at {ns : List Nt} {i : Nat} (h : i < ns.length) : rd_T35 ns (i : Int) = ns[i] := by
  unfold rd_T35; rw [Int.toNat_natCast, List.getD_eq_getElem?_getD, List.getElem?_eq_getElem h]; rfl
theorem node_inj {ns : List Nt} (hp : ns.Pairwise (fun x y => x.f1 < y.f1)) {i j : Nat} (hi : i < ns.length) (hj : j < ns.length) (h : (rd_T35 ns (i : Int)).f1 = (rd_T35 ns (j : Int)).f1) : i = j := by
  rw [rd_at hi, rd_at hj] at h
  have := List.pairwise_iff_getElem.1 hp
  rcases Nat.lt_trichotomy i j with q | q | q
  · have := this i j hi hj q; omega
  · exact q
  · have := this j i hj hi q; omega
theorem found_len (ns : List Nt) (a : Int × Int) (k : Nat) : (foundL ns a k).length = min k ns.length := by
  unfold foundL; rw [List.length_map, List.length_take, nearL_len]
theorem found_mem {ns : List Nt} {a : Int × Int} {k i : Nat} (hp : ns.Pairwise (fun x y => x.f1 < y.f1)) (hi : i < ns.length) : (rd_T35 ns (i : Int)).f1 ∈ foundL ns a k ↔ (i : Int) ∈ (nearL (dst a (ns.map ntP)) ns.length).take k := by
  unfold foundL
  rw [List.mem_map]
  constructor
  · rintro ⟨q, hq, he⟩
    obtain ⟨h0, h1⟩ := (nearL_mem _ _ q).1 (List.mem_of_mem_take hq)
    obtain ⟨j, rfl⟩ := Int.eq_ofNat_of_zero_le h0
    rw [← node_inj hp (by omega) hi he]
    exact hq
  · exact fun h => ⟨_, h, rfl⟩
theorem dst_at (a : Int × Int) {ns : List Nt} {i : Nat} (h : i < ns.length) : dst a (ns.map ntP) (i : Int) = distP a.1 a.2 (rd_T35 ns (i : Int)).f2.f0 (rd_T35 ns (i : Int)).f2.f1 := by
  unfold dst
  rw [rd_at h, Int.toNat_natCast, List.getD_eq_getElem?_getD, List.getElem?_map, List.getElem?_eq_getElem h]; rfl
end Go.Proofs.YtmimnlbkllgfpaaGreatDoor.Tb
/- What TrackerLinks asks, in plain lists. -/
namespace Go.Proofs.YtmimnlbkllgfpaaGreatDoor.Tb
open Go.RowKit Go.Maps Go.Proofs.YtmimnlbkllgfpaaGreatDoor.A Go.Proofs.YtmimnlbkllgfpaaGreatDoorW.PrintWords Go.Proofs.YtmimnlbkllgfpaaGreatDoor.Di Go.Proofs.YtmimnlbkllgfpaaGreatDoor.So

/-- A link's nodes: of those that count, those that are found. -/
def linkN (ns : List Nt) (near : List Int) : List Nt := ns.filter (fun x => decide (x.f1 ∈ near))
theorem insL_perm (d : Int → Int) (x : Int) : ∀ l, (insL d x l).Perm (x :: l)
  | [] => List.Perm.refl _
  | y :: r => by
    unfold insL
    split
    · exact List.Perm.refl _
    · exact ((insL_perm d x r).cons y).trans (List.Perm.swap x y r)
theorem nearL_nodup (d : Int → Int) : ∀ n, (nearL d n).Nodup
  | 0 => List.nodup_nil
  | n + 1 => by
    rw [nearL, (insL_perm d n _).nodup_iff, List.nodup_cons]
    exact ⟨fun h => by have := (nearL_mem d n _).1 h; omega, nearL_nodup d n⟩
theorem found_nodup {ns : List Nt} {a : Int × Int} {k : Nat} (hp : ns.Pairwise (fun x y => x.f1 < y.f1)) : (foundL ns a k).Nodup := by
  unfold foundL
  have h : ((nearL (dst a (ns.map ntP)) ns.length).take k).Nodup := (nearL_nodup _ _).sublist (List.take_sublist _ _)
  rw [List.Nodup, List.pairwise_map]
  refine List.Pairwise.imp_of_mem (fun {x y} hx hy hne he => ?_) h
  obtain ⟨x0, x1⟩ := (nearL_mem _ _ x).1 (List.mem_of_mem_take hx)
  obtain ⟨y0, y1⟩ := (nearL_mem _ _ y).1 (List.mem_of_mem_take hy)
  obtain ⟨i, rfl⟩ := Int.eq_ofNat_of_zero_le x0
  obtain ⟨j, rfl⟩ := Int.eq_ofNat_of_zero_le y0
  exact hne (by rw [node_inj hp (by omega) (by omega) he])
theorem linkN_pw {ns : List Nt} {near : List Int} (hp : ns.Pairwise (fun x y => x.f1 < y.f1)) : (linkN ns near).Pairwise (fun x y => x.f1 < y.f1) := hp.sublist List.filter_sublist
theorem linkN_len {ns : List Nt} {a : Int × Int} {k : Nat} (hp : ns.Pairwise (fun x y => x.f1 < y.f1)) : (linkN ns (foundL ns a k)).length = min k ns.length := by
  have h1 : ((linkN ns (foundL ns a k)).map (·.f1)).Nodup := by
    rw [List.Nodup, List.pairwise_map]
    exact (linkN_pw hp).imp (fun h e => by omega)
  have h2 : ∀ v, v ∈ (linkN ns (foundL ns a k)).map (·.f1) ↔ v ∈ foundL ns a k := by
    intro v
    rw [List.mem_map]
    constructor
    · rintro ⟨x, hx, rfl⟩
      unfold linkN at hx
      exact of_decide_eq_true (List.mem_filter.1 hx).2
    · intro h
      have h' := h
      unfold foundL at h'
      obtain ⟨i, hi, he⟩ := List.mem_map.1 h'
      obtain ⟨i0, i1⟩ := (nearL_mem _ _ i).1 (List.mem_of_mem_take hi)
      obtain ⟨j, rfl⟩ := Int.eq_ofNat_of_zero_le i0
      refine ⟨rd_T35 ns (j : Int), ?_, he⟩
      unfold linkN
      rw [List.mem_filter]
      refine ⟨by rw [rd_at (by omega)]; exact List.getElem_mem _, decide_eq_true (by rw [he]; exact h)⟩
  have h3 := ((List.perm_ext_iff_of_nodup h1 (found_nodup hp)).2 h2).length_eq
  rw [List.length_map, found_len] at h3
  exact h3
theorem near_head {d : Int → Int} : ∀ {n : Nat} {i : Int} {r : List Int}, nearL d n = i :: r → (0 ≤ i ∧ i < n) ∧ ∀ j : Nat, j < n → d i ≤ d j ∧ (d j = d i → i ≤ j)
  | 0, i, r, h => by cases h
  | n + 1, i, r, h => by
    rw [nearL] at h
    cases hL : nearL d n with
    | nil =>
      have h0 : n = 0 := by have := nearL_len d n; rw [hL] at this; simpa using this.symm
      rw [hL, insL] at h
      simp only [List.cons.injEq] at h
      obtain ⟨rfl, rfl⟩ := h
      subst h0
      exact ⟨by omega, fun j hj => by obtain rfl : j = 0 := by omega
                                      exact ⟨Int.le_refl _, fun _ => Int.le_refl _⟩⟩
    | cons y r' =>
      obtain ⟨hy, hm⟩ := near_head hL
      rw [hL, insL] at h
      split at h
      · next hlt =>
        simp only [List.cons.injEq] at h
        obtain ⟨rfl, rfl⟩ := h
        refine ⟨by omega, fun j hj => ?_⟩
        rcases Nat.lt_or_ge j n with q | q
        · have := (hm j q).1
          exact ⟨by omega, fun e => by omega⟩
        · obtain rfl : j = n := by omega
          exact ⟨Int.le_refl _, fun _ => Int.le_refl _⟩
      · next hlt =>
        simp only [List.cons.injEq] at h
        obtain ⟨rfl, rfl⟩ := h
        refine ⟨by omega, fun j hj => ?_⟩
        rcases Nat.lt_or_ge j n with q | q
        · exact hm j q
        · obtain rfl : j = n := by omega
          exact ⟨by omega, fun _ => by omega⟩
theorem near_cons {d : Int → Int} {n : Nat} (h : 0 < n) : ∃ i r, nearL d n = i :: r := by
  cases hL : nearL d n with
  | nil => have := nearL_len d n; rw [hL] at this; simp at this; omega
  | cons i r => exact ⟨i, r, rfl⟩
/-- The nearest of a link is the first that is found. -/
theorem link_first {ns : List Nt} {a : Int × Int} {k : Nat} (hp : ns.Pairwise (fun x y => x.f1 < y.f1)) (hk : 1 ≤ k) (hne : ns ≠ []) :
    ∃ v, foundL ns a 1 = [v] ∧ linkN ns (foundL ns a k) ≠ [] ∧ ((linkN ns (foundL ns a k)).map (·.f1)).getD (Hand.first a ((linkN ns (foundL ns a k)).map (·.f2))).toNat 0 = v := by
  have hpos : 0 < ns.length := List.length_pos_iff.mpr hne
  obtain ⟨i, r, hL⟩ := near_cons (d := dst a (ns.map ntP)) hpos
  obtain ⟨⟨i0, i1⟩, hmin⟩ := near_head hL
  obtain ⟨i, rfl⟩ := Int.eq_ofNat_of_zero_le i0
  have hi : i < ns.length := by omega
  have hv : foundL ns a 1 = [(rd_T35 ns (i : Int)).f1] := by
    unfold foundL; rw [hL]; rfl
  have hin : (rd_T35 ns (i : Int)).f1 ∈ foundL ns a k := by
    unfold foundL
    rw [hL, List.mem_map]
    obtain ⟨k, rfl⟩ : ∃ k', k = k' + 1 := ⟨k - 1, by omega⟩
    exact ⟨i, by rw [List.take_succ_cons]; exact List.mem_cons_self .., rfl⟩
  have hpl := linkN_pw (near := foundL ns a k) hp
  have hxl : rd_T35 ns (i : Int) ∈ linkN ns (foundL ns a k) := by
    unfold linkN
    rw [List.mem_filter]
    exact ⟨by rw [rd_at hi]; exact List.getElem_mem _, decide_eq_true hin⟩
  have hsub : ∀ x ∈ linkN ns (foundL ns a k), x ∈ ns := fun x hx => (List.mem_filter.1 hx).1
  generalize linkN ns (foundL ns a k) = l at *
  have hlpos : 0 < l.length := List.length_pos_iff.mpr (List.ne_nil_of_mem hxl)
  obtain ⟨k0, r', hL'⟩ := near_cons (d := dst a (l.map ntP)) hlpos
  obtain ⟨⟨z0, z1⟩, hmin'⟩ := near_head hL'
  obtain ⟨k0, rfl⟩ := Int.eq_ofNat_of_zero_le z0
  have hk0 : k0 < l.length := by omega
  have hf : Hand.first a (l.map (·.f2)) = (k0 : Int) := by
    unfold Hand.first
    rw [List.map_map, show (Hand.pq ∘ fun x : Nt => x.f2) = ntP from rfl, List.length_map, hL']; rfl
  refine ⟨_, hv, List.ne_nil_of_mem hxl, ?_⟩
  rw [hf, Int.toNat_natCast, List.getD_eq_getElem?_getD, List.getElem?_map, List.getElem?_eq_getElem hk0]
  show l[k0].f1 = _
  obtain ⟨j, hj, hje⟩ := List.mem_iff_getElem.1 (hsub l[k0] (List.getElem_mem hk0))
  obtain ⟨k1, hk1, hke⟩ := List.mem_iff_getElem.1 hxl
  have m1 := hmin j hj
  have m2 := hmin' k1 hk1
  rw [dst_at a hi, dst_at a hj, rd_at hj, hje] at m1
  rw [dst_at a hk0, dst_at a hk1, rd_at hk0, rd_at hk1, hke] at m2
  have e : distP a.1 a.2 l[k0].f2.f0 l[k0].f2.f1 = distP a.1 a.2 (rd_T35 ns (i : Int)).f2.f0 (rd_T35 ns (i : Int)).f2.f1 := by omega
  have p1 := m1.2 e
  have p2 := m2.2 e.symm
  have q1 : (rd_T35 ns (i : Int)).f1 ≤ l[k0].f1 := by
    rw [rd_at hi, ← hje]
    rcases Nat.lt_or_ge i j with q | q
    · exact Int.le_of_lt (List.pairwise_iff_getElem.1 hp i j hi hj q)
    · obtain rfl : i = j := by omega
      exact Int.le_refl _
  have q2 : l[k0].f1 ≤ (rd_T35 ns (i : Int)).f1 := by
    rw [← hke]
    rcases Nat.lt_or_ge k0 k1 with q | q
    · exact Int.le_of_lt (List.pairwise_iff_getElem.1 hpl k0 k1 hk0 hk1 q)
    · obtain rfl : k0 = k1 := by omega
      exact Int.le_refl _
  omega
end Go.Proofs.YtmimnlbkllgfpaaGreatDoor.Tb
