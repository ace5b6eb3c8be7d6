/- A scope through which the run jumps back to one label: what holds at every jump, with a number that falls. -/
import Derived.Tactics
import Derived.WalkMore
import Derived.ScopeJumps
namespace Go.Proofs.YtbbncdbihiipcaaDoor
namespace Gt

theorem exists_min (p : Nat → Prop) (h : ∃ n, p n) : ∃ n, p n ∧ ∀ m, p m → n ≤ m := by
  obtain ⟨n, hn⟩ := h
  induction n using Nat.strongRecOn with
  | _ n ih =>
    by_cases hm : ∃ m, m < n ∧ p m
    · obtain ⟨m, h1, h2⟩ := hm; exact ih m h1 h2
    · exact ⟨n, hn, fun m h => by
        rcases Nat.lt_or_ge m n with h' | h'
        · exact absurd ⟨m, h', h⟩ hm
        · exact h'⟩

open Classical in
theorem wp_scope_jumps2 {P : Program} {a : Act} {w : World} {Q : Exit → Act → World → Prop} {c rest : Code} (l : Nat) (J : Nat → Act → World → Prop) (hf : findLabel c l = some (.seq .skip rest))
    (pass : ∀ n a w, J n a w → rest.wp P (Exit.jump l (fun a' w' => ∃ m, m < n ∧ J m a' w') Q) a w)
    (first : (∀ n a w, J n a w → rest.wp P (Exit.jump l (fun a' w' => ∃ m, J m a' w') Q) a w) → c.wp P (Exit.jump l (fun a' w' => ∃ m, J m a' w') Q) a w) : (Code.scope c).wp P Q a w := by
  refine wp_scope_jumps l (fun a w => ∃ n, J n a w) (fun a w => if h : ∃ n, J n a w then Classical.choose (exists_min _ h) else 0) hf (first fun n a w h => Code.wp_mono ?_ (pass n a w h)) ?_
  · intro e a' w' h
    cases e <;> first | exact h | exact ⟨h.1, h.2.elim fun m hm => ⟨m, hm.2⟩⟩
  · intro a w h
    obtain ⟨h1, h2⟩ := Classical.choose_spec (exists_min _ h)
    apply wp_seq_k
    intro K hK
    apply wp_skip
    refine hK _ _ (Code.wp_mono ?_ (pass _ a w h1))
    intro e a' w' hq
    cases e <;> try exact hq
    obtain ⟨rfl, m, hm, hJ⟩ := hq
    refine ⟨rfl, ⟨m, hJ⟩, ?_⟩
    have he : ∃ n, J n a' w' := ⟨m, hJ⟩
    rw [dif_pos he, dif_pos h]
    exact Nat.lt_of_le_of_lt ((Classical.choose_spec (exists_min _ he)).2 m hJ) hm

end Gt
end Go.Proofs.YtbbncdbihiipcaaDoor
