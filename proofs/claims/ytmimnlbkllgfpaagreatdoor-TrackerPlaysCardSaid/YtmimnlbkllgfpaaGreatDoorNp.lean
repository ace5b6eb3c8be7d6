/- What is asked and what is found, in plain lists. -/
import Derived.Test.YtmimnlbkllgfpaaGreatDoorAx0
import Derived.Test.YtmimnlbkllgfpaaGreatDoorAx2
import Derived.Test.YtmimnlbkllgfpaaGreatDoorFd
namespace Go.Proofs.YtmimnlbkllgfpaaGreatDoor.Tb
set_option linter.unusedVariables false
set_option linter.unusedSimpArgs false
open Go.RowKit Go.Maps Go.Proofs.YtmimnlbkllgfpaaGreatDoor.A Go.Proofs.YtmimnlbkllgfpaaGreatDoorW.PrintWords Go.Proofs.YtmimnlbkllgfpaaGreatDoor.Di Go.Proofs.YtmimnlbkllgfpaaGreatDoor.So

/-- What few lets through. -/
def Few (l : List S37) (n ti : ByteArray) : Prop := l.length ≤ 60 ∧ (∀ (j : Nat) x, l[j]? = some x → x.f2.f0.size ≤ 100) ∧ n.size ≤ 100 ∧ ti.size ≤ 100
theorem few_from (l : List S37) (n ti : ByteArray) (a b c d : Int) : ∀ (m j k : Nat), (j + m = 61 ∨ j + m = l.length) → m < k → j ≤ 60 → j ≤ l.length → (∀ (i : Nat) x, i < j → l[i]? = some x → x.f2.f0.size ≤ 100) →
    ∃ r, mosaiclaw31_few.l0 k l (j : Int) n ti a b c d = some r ∧ (r = true → Few l n ti)
  | m, j, 0, _, hk, _, _, _ => by omega
  | m, j, k + 1, hj, hk, h60, hjl, hp => by
    by_cases hlt : j < l.length
    · rw [mosaiclaw31_few.l0, if_pos (by omega)]
      by_cases hg : j = 60
      · rw [if_pos (by omega)]; exact ⟨false, rfl, fun h => by cases h⟩
      · rw [if_neg (by omega), if_pos (by omega)]
        have e : rd_T37 l (j : Int) = l[j] := by unfold rd_T37; rw [Int.toNat_natCast, List.getD_eq_getElem?_getD, List.getElem?_eq_getElem hlt]; rfl
        rw [e]
        by_cases hb : (l[j].f2.f0.size : Int) > 100
        · rw [if_pos hb]; exact ⟨false, rfl, fun h => by cases h⟩
        · rw [if_neg hb, show wrap64 ((j : Int) + 1) = ((j + 1 : Nat) : Int) from by unfold wrap64; omega]
          obtain ⟨m', rfl⟩ : ∃ m', m = m' + 1 := ⟨m - 1, by omega⟩
          refine few_from l n ti a b c d m' (j + 1) k (by omega) (by omega) (by omega) (by omega) (fun i x hi hx => ?_)
          rcases Nat.lt_or_ge i j with q | q
          · exact hp i x q hx
          · obtain rfl : i = j := by omega
            rw [List.getElem?_eq_getElem hlt] at hx
            obtain rfl := Option.some.inj hx
            omega
    · rw [mosaiclaw31_few.l0, if_neg (by omega)]
      by_cases hn : (n.size : Int) ≤ 100
      · rw [if_pos hn]
        refine ⟨_, rfl, fun h => ⟨by omega, fun i x hx => hp i x ?_ hx, by omega, ?_⟩⟩
        · rcases Nat.lt_or_ge i l.length with q | q
          · omega
          · rw [List.getElem?_eq_none q] at hx; cases hx
        · have := of_decide_eq_true h; omega
      · rw [if_neg hn]; exact ⟨false, rfl, fun h => by cases h⟩
theorem few_spec (l : List S37) (n ti : ByteArray) (a b c d : Int) : ∃ r, mosaiclaw31_few.f 62 l n ti a b c d = some r ∧ (r = true → Few l n ti) :=
  few_from l n ti a b c d 61 0 62 (Or.inl rfl) (by omega) (by omega) (by omega) (fun i x hi => by omega)
/-- An entry's notes stand by their nodes. -/
theorem cntL_pw {f : Nat → Option Nt} (hf : ∀ j x, f j = some x → x.f1 = (j : Int)) (now : Int) : ∀ m, (cntL f now m).Pairwise (fun x y => x.f1 < y.f1) ∧ ∀ x ∈ cntL f now m, x.f1 < (m : Int)
  | 0 => ⟨List.Pairwise.nil, fun x h => by cases h⟩
  | m + 1 => by
    obtain ⟨h1, h2⟩ := cntL_pw hf now m
    rw [cntL]
    have key : ∀ r : List Nt, (∀ x ∈ r, x.f1 = (m : Int)) → r.length ≤ 1 → (cntL f now m ++ r).Pairwise (fun x y => x.f1 < y.f1) ∧ ∀ x ∈ cntL f now m ++ r, x.f1 < ((m + 1 : Nat) : Int) := by
      intro r hr hl
      refine ⟨List.pairwise_append.2 ⟨h1, ?_, fun x hx y hy => by have := h2 x hx; have := hr y hy; omega⟩, fun x hx => ?_⟩
      · rcases r with _ | ⟨z, _ | ⟨z', r⟩⟩
        · exact List.Pairwise.nil
        · exact List.pairwise_singleton _ _
        · simp at hl
      · rcases List.mem_append.1 hx with hx | hx
        · have := h2 x hx; omega
        · have := hr x hx; omega
    split
    · next x hx =>
      split
      · exact key [x] (fun y hy => by obtain rfl := List.mem_singleton.1 hy; exact hf m _ hx) (by simp)
      · exact key [] (fun y hy => by cases hy) (by simp)
    · exact key [] (fun y hy => by cases hy) (by simp)
theorem nodesL_pw {T : TT} (h : ∀ s j x, T s j = some x → x.f1 = (j : Int)) (s : List UInt8) (now : Int) : (nodesL T s now).Pairwise (fun x y => x.f1 < y.f1) := by
  unfold nodesL
  split
  · exact (cntL_pw (fun j x => h s j x) now 16).1
  · exact List.Pairwise.nil
theorem rd_at {ns : List Nt} {i : Nat} (h : i < ns.length) : rd_T35 ns (i : Int) = ns[i] := by
  unfold rd_T35; rw [Int.toNat_natCast, List.getD_eq_getElem?_getD, List.getElem?_eq_getElem h]; rfl
theorem found_len (ns : List Nt) (a : Int × Int) (k : Nat) : (foundL ns a k).length = min k ns.length := by
  unfold foundL; rw [List.length_map, List.length_take, nearL_len]
end Go.Proofs.YtmimnlbkllgfpaaGreatDoor.Tb
