/- What TrackerNear asks, in plain lists. -/
import Derived.Test.YtmimnlbkllgfpaaFd
import Derived.Test.YtmimnlbkllgfpaaAx2
namespace Go.Proofs.Ytmimnlbkllgfpaa.Tb
open Go.RowKit Go.Maps Go.Proofs.Ytmimnlbkllgfpaa.A Go.Proofs.YtmimnlbkllgfpaaW.PrintWords Go.Proofs.Ytmimnlbkllgfpaa.Di Go.Proofs.Ytmimnlbkllgfpaa.So

theorem has_from (l : List Int) (x : Int) (hl : l.length ≤ 1000000) : ∀ (m j k : Nat), j + m = l.length → m < k → mosaicref09_Has.l0 k l x (j : Int) = some (decide (x ∈ l.drop j))
  | m, j, 0, _, hk => by omega
  | 0, j, k + 1, hj, hk => by
    rw [mosaicref09_Has.l0, if_neg (by omega), List.drop_eq_nil_of_le (by omega)]; simp
  | m + 1, j, k + 1, hj, hk => by
    have hlt : j < l.length := by omega
    rw [mosaicref09_Has.l0, if_pos (by omega), if_pos (by omega)]
    have e : rd l (j : Int) = l[j] := by unfold rd; rw [Int.toNat_natCast, List.getD_eq_getElem?_getD, List.getElem?_eq_getElem hlt]; rfl
    rw [e, List.drop_eq_getElem_cons hlt]
    by_cases h : l[j] = x
    · rw [if_pos h]; simp [h]
    · rw [if_neg h, show wrap64 ((j : Int) + 1) = ((j + 1 : Nat) : Int) from by unfold wrap64; omega, has_from l x hl m (j + 1) k (by omega) (by omega)]
      congr 1
      have h2 : ¬ x = l[j] := fun q => h q.symm
      simp only [List.mem_cons, h2, false_or]
theorem has_eq (l : List Int) (x : Int) (hl : l.length ≤ 1000000) : mosaicref09_Has.f (l.length + 1) l x = some (decide (x ∈ l)) := by
  have := has_from l x hl l.length 0 (l.length + 1) (by omega) (by omega)
  unfold mosaicref09_Has.f
  simpa using this
theorem refCheck_eq (x y : Int) : mosaicref17_Check.f x y = some (okB x y) := by
  unfold mosaicref17_Check.f okB inB
  by_cases h1 : x ≥ -1048576 <;> by_cases h2 : x ≤ 1048576 <;> by_cases h3 : y ≥ -1048576 <;> by_cases h4 : y ≤ 1048576 <;> simp [h1, h2, h3, h4] <;> omega
theorem refDist_eq (a b c d : Int) : mosaicref17_Dist.f a b c d = some (distP a b c d) := by
  unfold mosaicref17_Dist.f distP
  simp only [refCheck_eq, Option.bind_some]
  cases h1 : okB a b <;> cases h2 : okB c d <;> simp
  rw [okB_iff] at h1 h2
  have m1 : -(2097152 * 2097152) ≤ (a - c) * (a - c) ∧ (a - c) * (a - c) ≤ 2097152 * 2097152 := mul_le (by omega) (by omega)
  have m2 : -(2097152 * 2097152) ≤ (b - d) * (b - d) ∧ (b - d) * (b - d) ≤ 2097152 * 2097152 := mul_le (by omega) (by omega)
  rw [wrap_eq (n := a - c) (by omega), wrap_eq (n := b - d) (by omega), wrap_eq (n := (a - c) * (a - c)) (by omega), wrap_eq (n := (b - d) * (b - d)) (by omega), wrap_eq (by omega)]
/-- What few lets through. -/
def Few (l : List S42) (n ti : ByteArray) : Prop := l.length ≤ 60 ∧ (∀ (j : Nat) x, l[j]? = some x → x.f2.f0.size ≤ 100) ∧ n.size ≤ 100 ∧ ti.size ≤ 100
theorem few_from (l : List S42) (n ti : ByteArray) (a b c d : Int) : ∀ (m j k : Nat), (j + m = 61 ∨ j + m = l.length) → m < k → j ≤ 60 → j ≤ l.length → (∀ (i : Nat) x, i < j → l[i]? = some x → x.f2.f0.size ≤ 100) →
    ∃ r, mosaiclaw31_few.l0 k l (j : Int) n ti a b c d = some r ∧ (r = true → Few l n ti)
  | m, j, 0, _, hk, _, _, _ => by omega
  | m, j, k + 1, hj, hk, h60, hjl, hp => by
    by_cases hlt : j < l.length
    · rw [mosaiclaw31_few.l0, if_pos (by omega)]
      by_cases hg : j = 60
      · rw [if_pos (by omega)]; exact ⟨false, rfl, fun h => by cases h⟩
      · rw [if_neg (by omega), if_pos (by omega)]
        have e : rd_T42 l (j : Int) = l[j] := by unfold rd_T42; rw [Int.toNat_natCast, List.getD_eq_getElem?_getD, List.getElem?_eq_getElem hlt]; rfl
        rw [e]
        by_cases hb : (l[j].f2.f0.size : Int) > 100
        · rw [if_pos hb]; exact ⟨false, rfl, fun h => by cases h⟩
        · rw [if_neg hb, show wrap64 ((j : Int) + 1) = ((j + 1 : Nat) : Int) from by unfold wrap64; omega]
          obtain ⟨m', rfl⟩ : ∃ m', m = m' + 1 := ⟨m - 1, by omega⟩
          refine few_from l n ti a b c d m' (j + 1) k (by omega) (by omega) (by omega) (by omega) (fun i x hi hx => ?_)
          rcases Nat.lt_or_ge i j with q | q
          · exact hp i x q hx
          · obtain rfl : i = j := by omega
            rw [List.getElem?_eq_getElem hlt] at hx
            obtain rfl := Option.some.inj hx
            omega
    · rw [mosaiclaw31_few.l0, if_neg (by omega)]
      by_cases hn : (n.size : Int) ≤ 100
      · rw [if_pos hn]
        refine ⟨_, rfl, fun h => ⟨by omega, fun i x hx => hp i x ?_ hx, by omega, ?_⟩⟩
        · rcases Nat.lt_or_ge i l.length with q | q
          · omega
          · rw [List.getElem?_eq_none q] at hx; cases hx
        · have := of_decide_eq_true h; omega
      · rw [if_neg hn]; exact ⟨false, rfl, fun h => by cases h⟩
theorem few_spec (l : List S42) (n ti : ByteArray) (a b c d : Int) : ∃ r, mosaiclaw31_few.f 62 l n ti a b c d = some r ∧ (r = true → Few l n ti) :=
  few_from l n ti a b c d 61 0 62 (Or.inl rfl) (by omega) (by omega) (by omega) (fun i x hi => by omega)
/-- An entry's notes stand by their nodes. -/
theorem cntL_pw {f : Nat → Option Nt} (hf : ∀ j x, f j = some x → x.f1 = (j : Int)) (now : Int) : ∀ m, (cntL f now m).Pairwise (fun x y => x.f1 < y.f1) ∧ ∀ x ∈ cntL f now m, x.f1 < (m : Int)
  | 0 => ⟨List.Pairwise.nil, fun x h => by cases h⟩
  | m + 1 => by
    obtain ⟨h1, h2⟩ := cntL_pw hf now m
    rw [cntL]
    have key : ∀ r : List Nt, (∀ x ∈ r, x.f1 = (m : Int)) → r.length ≤ 1 → (cntL f now m ++ r).Pairwise (fun x y => x.f1 < y.f1) ∧ ∀ x ∈ cntL f now m ++ r, x.f1 < ((m + 1 : Nat) : Int) := by
      intro r hr hl
      refine ⟨List.pairwise_append.2 ⟨h1, ?_, fun x hx y hy => by have := h2 x hx; have := hr y hy; omega⟩, fun x hx => ?_⟩
      · rcases r with _ | ⟨z, _ | ⟨z', r⟩⟩
        · exact List.Pairwise.nil
        · exact List.pairwise_singleton _ _
        · simp at hl
      · rcases List.mem_append.1 hx with hx | hx
        · have := h2 x hx; omega
        · have := hr x hx; omega
    split
    · next x hx =>
      split
      · exact key [x] (fun y hy => by obtain rfl := List.mem_singleton.1 hy; exact hf m _ hx) (by simp)
      · exact key [] (fun y hy => by cases hy) (by simp)
    · exact key [] (fun y hy => by cases hy) (by simp)
theorem nodesL_pw {T : TT} (h : ∀ s j x, T s j = some x → x.f1 = (j : Int)) (s : List UInt8) (now : Int) : (nodesL T s now).Pairwise (fun x y => x.f1 < y.f1) := by
  unfold nodesL
  split
  · exact (cntL_pw (fun j x => h s j x) now 16).1
  · exact List.Pairwise.nil
theorem rd_at {ns : List Nt} {i : Nat} (h : i < ns.length) : rd_T25 ns (i : Int) = ns[i] := by
  unfold rd_T25; rw [Int.toNat_natCast, List.getD_eq_getElem?_getD, List.getElem?_eq_getElem h]; rfl
theorem node_inj {ns : List Nt} (hp : ns.Pairwise (fun x y => x.f1 < y.f1)) {i j : Nat} (hi : i < ns.length) (hj : j < ns.length) (h : (rd_T25 ns (i : Int)).f1 = (rd_T25 ns (j : Int)).f1) : i = j := by
  rw [rd_at hi, rd_at hj] at h
  have := List.pairwise_iff_getElem.1 hp
  rcases Nat.lt_trichotomy i j with q | q | q
  · have := this i j hi hj q; omega
  · exact q
  · have := this j i hj hi q; omega
theorem found_len (ns : List Nt) (a : Int × Int) (k : Nat) : (foundL ns a k).length = min k ns.length := by
  unfold foundL; rw [List.length_map, List.length_take, nearL_len]
theorem found_mem {ns : List Nt} {a : Int × Int} {k i : Nat} (hp : ns.Pairwise (fun x y => x.f1 < y.f1)) (hi : i < ns.length) : (rd_T25 ns (i : Int)).f1 ∈ foundL ns a k ↔ (i : Int) ∈ (nearL (dst a (ns.map ntP)) ns.length).take k := by
  unfold foundL
  rw [List.mem_map]
  constructor
  · rintro ⟨q, hq, he⟩
    obtain ⟨h0, h1⟩ := (nearL_mem _ _ q).1 (List.mem_of_mem_take hq)
    obtain ⟨j, rfl⟩ := Int.eq_ofNat_of_zero_le h0
    rw [← node_inj hp (by omega) hi he]
    exact hq
  · exact fun h => ⟨_, h, rfl⟩
theorem dst_at (a : Int × Int) {ns : List Nt} {i : Nat} (h : i < ns.length) : dst a (ns.map ntP) (i : Int) = distP a.1 a.2 (rd_T25 ns (i : Int)).f2.f0 (rd_T25 ns (i : Int)).f2.f1 := by
  unfold dst
  rw [rd_at h, Int.toNat_natCast, List.getD_eq_getElem?_getD, List.getElem?_map, List.getElem?_eq_getElem h]; rfl
/-- None that is not found is nearer than one that is. -/
theorem near_law {ns : List Nt} {a : Int × Int} {k i j : Nat} (hp : ns.Pairwise (fun x y => x.f1 < y.f1)) (hi : i < ns.length) (hj : j < ns.length) (h1 : (rd_T25 ns (i : Int)).f1 ∈ foundL ns a k) (h2 : (rd_T25 ns (j : Int)).f1 ∉ foundL ns a k) :
    ¬ distP a.1 a.2 (rd_T25 ns (j : Int)).f2.f0 (rd_T25 ns (j : Int)).f2.f1 < distP a.1 a.2 (rd_T25 ns (i : Int)).f2.f0 (rd_T25 ns (i : Int)).f2.f1 := by
  rw [found_mem hp hi] at h1
  rw [found_mem hp hj] at h2
  have hm : (j : Int) ∈ nearL (dst a (ns.map ntP)) ns.length := (nearL_mem _ _ _).2 ⟨by omega, by omega⟩
  have hu := nearL_up (dst a (ns.map ntP)) ns.length
  generalize nearL (dst a (ns.map ntP)) ns.length = L at *
  rw [← List.take_append_drop k L] at hm hu
  rcases List.mem_append.1 hm with h | h
  · exact absurd h h2
  · have := (up_append _ _ _ hu).2.2 _ h1 _ h
    rw [dst_at a hi, dst_at a hj] at this
    omega
end Go.Proofs.Ytmimnlbkllgfpaa.Tb
