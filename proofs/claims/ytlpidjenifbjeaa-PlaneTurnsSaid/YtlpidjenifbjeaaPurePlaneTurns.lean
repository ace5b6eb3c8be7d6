/- A place turned by any number of quarters is what the document says; four times it is as it was, and its norm stays. No condition. -/
import Derived.Test.YtlpidjenifbjeaaPx5
import Derived.Test.YtlpidjenifbjeaaPa
namespace Go.Proofs.Ytlpidjenifbjeaa.Pure
open Go.RowKit Go.Proofs.Ytlpidjenifbjeaa.P Go.Proofs.YtlpidjenifbjeaaW.PrintWords Go.Proofs.YtlpidjenifbjeaaW.PrintLast Go.Proofs.Ytlpidjenifbjeaa.Pl

theorem turn_one (X Y : Int) (h : okB X Y = true) : turnP X Y 1 = (-Y, X, 0) := by
  unfold turnP; rw [h]; rfl

theorem turns_loop (k : Nat) (hk : 24 ≤ k) (e X Y : Int) (h : okB X Y = true) : mosaiclaw17_PlaneTurns.l0 (k + 5) e 0 X Y X Y = some true := by
  have h1 : okB (-Y) X = true := by rw [okB_iff] at h ⊢; omega
  have h2 : okB (-X) (-Y) = true := by rw [okB_iff] at h ⊢; omega
  have h3 : okB Y (-X) = true := by rw [okB_iff] at h ⊢; omega
  have step : ∀ (n : Nat) (i a b : Int), okB a b = true → i < 4 → 0 ≤ i → 24 ≤ n → mosaiclaw17_PlaneTurns.l0 (n + 1) e i a b X Y = mosaiclaw17_PlaneTurns.l0 n e (i + 1) (-b) a X Y := by
    intro n i a b hab hi h0 hn
    simp only [mosaiclaw17_PlaneTurns.l0]
    rw [if_pos hi, turn_eq a b 1 n (by omega), turn_one a b hab]
    simp only [Option.bind_some, if_true]
    rw [show wrap64 (i + 1) = i + 1 from wrap_eq (by omega)]
    split <;> rfl
  rw [step (k + 4) 0 X Y h (by omega) (by omega) (by omega), step (k + 3) _ _ _ h1 (by omega) (by omega) (by omega), step (k + 2) _ _ _ h2 (by omega) (by omega) (by omega),
    step (k + 1) _ _ _ (by rw [Int.neg_neg]; exact h3) (by omega) (by omega) (by omega)]
  rw [Int.neg_neg, Int.neg_neg]
  simp only [mosaiclaw17_PlaneTurns.l0]
  rw [if_neg (by omega), awake_eq k hk]
  simp [mosaiclaw17_Ref.f]

theorem PlaneTurns : mosaiclaw17_PlaneTurns.Pure := by
  intro x y n _ _
  refine ⟨40, ?_⟩
  unfold mosaiclaw17_PlaneTurns.f
  rw [turn_eq x y n 40 (by omega)]
  simp only [Option.bind_some, mosaiclaw17_Ref.f]
  rw [refTurn_eq x y n 40 (by omega)]
  simp only [Option.bind_some]
  have key : ∃ e X Y, turnP x y n = (X, Y, e) ∧ okB X Y = true ∧ (normP X Y = normP x y ∨ (e == 0) = false) := by
    unfold turnP
    cases h : okB x y
    · refine ⟨1, 0, 0, rfl, by decide, .inr rfl⟩
    · refine ⟨0, _, _, rfl, by rw [okB_rot]; exact h, .inl (norm_rot _ _ _)⟩
  obtain ⟨e, X, Y, hE, hok, hn⟩ := key
  rw [hE]
  simp only [beq_self_eq_true, Bool.not_true, Bool.or_self, Bool.false_eq_true, if_false, if_true]
  rw [norm_eq, norm_eq]
  simp only [Option.bind_some]
  have hj : ∀ b, b = false → mosaiclaw17_PlaneTurns.j0 40 e b X Y X Y = some true := by
    intro b hb
    subst hb
    simp only [mosaiclaw17_PlaneTurns.j0]
    rw [if_neg (by simp)]
    exact turns_loop 34 (by omega) e X Y hok
  split
  · exact hj _ rfl
  · rename_i h1
    exact hj _ (hn.resolve_left h1)

end Go.Proofs.Ytlpidjenifbjeaa.Pure
