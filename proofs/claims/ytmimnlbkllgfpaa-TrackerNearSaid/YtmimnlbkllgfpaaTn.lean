/- A new name in the table; a note at its place. -/
import Derived.Test.YtmimnlbkllgfpaaAn
namespace Go.Proofs.Ytmimnlbkllgfpaa.Tb
open Go.RowKit Go.Maps Go.Proofs.Ytmimnlbkllgfpaa.A Go.Proofs.YtmimnlbkllgfpaaW.PrintWords

theorem Tab.add {W W' : World} {lo t bm n nb : Nat} {room : Int} {D : DataW Unit} {T : List UInt8 → Nat → Option Nt} (h : Tab W lo t bm n room D T) (s : List UInt8) (hs : has D (.string s) = false) (hg : W.grownBy W' (some bm)) (hown : W'.ownsMap Try.prog 9 ptrE bm (n + 1) (D.put (.string s) (blkD nb)))
    (hE : Ent W nb (fun _ => none)) (hlo : lo ≤ nb) (hf : ∀ s' b, has D (.string s') = true → D.atKey (.string s') nilD = blkD b → b ≠ nb) : Tab W' lo t bm (n + 1) room (D.put (.string s) (blkD nb)) T := by
  obtain ⟨es, clock, hm, _⟩ := h.own
  have hD : IsMap D := h.own.isMap
  have keep : ∀ (k : Nat) (o : Obj), W.heap[k]? = some o → (∀ c z, o ≠ .map c z) → W'.heap[k]? = some o := fun k o hk ho =>
    (hg.block k (lt_of_some hk) (fun e => by cases e; rw [hm] at hk; cases hk; exact ho _ _ rfl)).trans hk
  have kE : ∀ b f, Ent W b f → Ent W' b f := fun b f ⟨cur, hc, hsz, hf⟩ => ⟨cur, keep _ _ hc (by simp), hsz, fun j hj => by
    rcases hf j hj with h | ⟨x, nb, g1, g2, g3⟩
    · exact Or.inl h
    · exact Or.inr ⟨x, nb, g1, g2, keep _ _ g3 (by simp)⟩⟩
  have hd : ∀ s', s' ≠ s → has (D.put (.string s) (blkD nb)) (.string s') = has D (.string s') ∧ (D.put (.string s) (blkD nb)).atKey (.string s') nilD = D.atKey (.string s') nilD := fun s' hne => by
    have hne' : (Lit.string s') ≠ .string s := fun e => hne (by cases e; rfl)
    exact ⟨has_put_other hne' _, atKey_put_other hne' _ _⟩
  have hsame : (D.put (.string s) (blkD nb)).atKey (.string s) nilD = blkD nb := atKey_put_same hD (key_lit s) _ _
  have hhs : has (D.put (.string s) (blkD nb)) (.string s) = true := has_put_same hD (key_lit s) _
  refine ⟨keep _ _ h.hdr (by simp), hown, h.lom, fun s' hs' j => ?_, fun s' hs' => ?_, fun s1 s2 b h1 h2 h3 h4 => ?_, h.note⟩
  · by_cases e : s' = s
    · subst e; rw [hhs] at hs'; cases hs'
    · rw [(hd s' e).1] at hs'
      exact h.gone s' hs' j
  · by_cases e : s' = s
    · subst e
      refine ⟨nb, hlo, hsame, (kE _ _ hE).ext (fun j _ => (h.gone s' hs j).symm)⟩
    · rw [(hd s' e).1] at hs'
      obtain ⟨b, h0, hb, hEb⟩ := h.ent s' hs'
      exact ⟨b, h0, (hd s' e).2.trans hb, kE _ _ hEb⟩
  · by_cases e1 : s1 = s
    · subst e1
      by_cases e2 : s2 = s1
      · exact e2.symm
      · rw [(hd s2 e2).1] at h2
        rw [(hd s2 e2).2] at h4
        rw [hsame] at h3
        exact absurd (blk_inj h3.symm) (hf s2 b h2 h4)
    · rw [(hd s1 e1).1] at h1
      rw [(hd s1 e1).2] at h3
      by_cases e2 : s2 = s
      · subst e2
        rw [hsame] at h4
        exact absurd (blk_inj h4.symm) (hf s1 b h1 h3)
      · rw [(hd s2 e2).1] at h2
        rw [(hd s2 e2).2] at h4
        exact h.inj s1 s2 b h1 h2 h3 h4
/-- The note is put at its place. -/
theorem Tab.putn {W : World} {lo t bm n b nb j : Nat} {room : Int} {D : DataW Unit} {T : List UInt8 → Nat → Option Nt} (h : Tab W lo t bm n room D T) (x : Nt) (hs : has D (.string (nameS x)) = true) (hb : D.atKey (.string (nameS x)) nilD = blkD b) (hj : x.f1 = (j : Int)) (h1 : 1 ≤ j ∧ j < 16) (hnb : W.heap[nb]? = some (.cells (ntC x) 25 (0, 0))) :
    Tab (W.setCell ⟨b, j, none⟩ (.pointer (some ⟨nb, 0, none⟩))) lo t bm n room D (putT x T) ∧ Kp lo W (W.setCell ⟨b, j, none⟩ (.pointer (some ⟨nb, 0, none⟩))) := by
  obtain ⟨b0, hlo, hb0, hE⟩ := h.ent _ hs
  obtain rfl : b0 = b := blk_inj (hb0.symm.trans hb)
  have hp := hE.put h1.2 (some x) (some ⟨nb, 0, none⟩) (Or.inr ⟨x, nb, rfl, rfl, hnb⟩)
  have hT := h.entry (nameS x) hs hb (grown_set W b0 j _) _ hp (fun i y hy => by
    by_cases e : i = j
    · subst e
      simp only [if_true] at hy
      cases hy
      exact ⟨rfl, hj, h1⟩
    · simp only [if_neg e] at hy
      exact h.note _ _ _ hy)
  refine ⟨?_, ?_⟩
  · have e : (fun s' i => if s' = nameS x then (if i = j then some x else T (nameS x) i) else T s' i) = putT x T := by
      funext s' i
      unfold putT
      by_cases e1 : s' = nameS x
      · subst e1
        rw [if_pos rfl]
        by_cases e2 : i = j
        · subst e2; rw [if_pos rfl, if_pos ⟨rfl, hj.symm⟩]
        · rw [if_neg e2, if_neg (fun hh => e2 (by have := hh.2; omega))]
      · rw [if_neg e1, if_neg (fun hh => e1 hh.1)]
    rw [← e]; exact hT
  · obtain ⟨cur, hc, _, _⟩ := hE
    exact Kp.set hlo hc _
theorem ent_new (W : World) : Ent (W.alloc (.cells #[.pointer none, .pointer none, .pointer none, .pointer none, .pointer none, .pointer none, .pointer none, .pointer none, .pointer none, .pointer none, .pointer none, .pointer none, .pointer none, .pointer none, .pointer none, .pointer none] 57)) W.heap.size (fun _ => none) :=
  ⟨_, blk_new W _, rfl, fun j hj => Or.inl ⟨rfl, by
    rcases j with _ | _ | _ | _ | _ | _ | _ | _ | _ | _ | _ | _ | _ | _ | _ | _ | j
    all_goals first | rfl | omega⟩⟩
end Go.Proofs.Ytmimnlbkllgfpaa.Tb
