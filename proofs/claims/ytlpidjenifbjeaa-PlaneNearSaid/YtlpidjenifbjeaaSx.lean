/- slices.symMergeCmpFunc: what its three calls do once it has found where to split. -/
import Derived.Test.YtlpidjenifbjeaaSz
import Derived.Test.YtlpidjenifbjeaaSn
namespace Go.Proofs.Ytlpidjenifbjeaa.Sw
open Go.RowKit Go.Proofs.YtlpidjenifbjeaaW.PrintWords Go.Proofs.PlaceSort

/-- It merges two parts of together at most k. -/
def Does (B : World) (blk cap g : Nat) (cb : Array Value) (d : Int → Int) (N k : Nat) : Prop :=
  ∀ (P S T R L F : List Int) (a m b : Nat), S.length + T.length ≤ k → 1 ≤ S.length → 1 ≤ T.length → N = (P ++ S ++ T ++ R).length → a = P.length → m = a + S.length → b = m + T.length → L = P ++ S ++ T ++ R → F = P ++ mrg d S T ++ R → Up d S → Up d T → (∀ y ∈ L, 0 ≤ y ∧ y < N) → ∀ w, Arr B blk L w →
    Calls Try.prog 53 #[.slice (some ⟨blk, 0, none⟩) N cap, .int .i64 a, .int .i64 m, .int .i64 b, .func (.func g) #[] cb] w fun e w' => e = .returned (.tuple #[]) ∧ Arr B blk F w'
/-- The three calls, or none. -/
structure Tail (B : World) (blk cap g : Nat) (cb : Array Value) (N a m b c0 i e : Nat) (L L1 L2 F : List Int) : Prop where
  q1 : i < m → i < c0 → ∀ w, Arr B blk L w → Calls Try.prog 54 #[.slice (some ⟨blk, 0, none⟩) N cap, .int .i64 i, .int .i64 m, .int .i64 e, .func (.func g) #[] cb] w fun x w' => x = .returned (.tuple #[]) ∧ Arr B blk L1 w'
  n1 : ¬ (i < m ∧ i < c0) → L1 = L
  q2 : a < i → i < c0 → ∀ w, Arr B blk L1 w → Calls Try.prog 53 #[.slice (some ⟨blk, 0, none⟩) N cap, .int .i64 a, .int .i64 i, .int .i64 c0, .func (.func g) #[] cb] w fun x w' => x = .returned (.tuple #[]) ∧ Arr B blk L2 w'
  n2 : ¬ (a < i ∧ i < c0) → L2 = L1
  q3 : i < m → e < b → ∀ w, Arr B blk L2 w → Calls Try.prog 53 #[.slice (some ⟨blk, 0, none⟩) N cap, .int .i64 c0, .int .i64 e, .int .i64 b, .func (.func g) #[] cb] w fun x w' => x = .returned (.tuple #[]) ∧ Arr B blk F w'
  n3 : ¬ (i < m ∧ e < b) → F = L2
  e_ : e + i = c0 + m
  le : a ≤ i ∧ i ≤ c0 ∧ i ≤ m ∧ m ≤ e ∧ e ≤ b
theorem tail {B : World} {blk cap g : Nat} {cb : Array Value} {d : Int → Int} {P S T R L F S1 S2 T1 T2 : List Int} {N a m b c0 i k : Nat} (H : Cut d P S T R N a m b c0 i S1 S2 T1 T2) (hD : Does B blk cap g cb d N k) (hk : S.length + T.length ≤ k + 1) (hcc : a < c0 ∧ c0 < b) (hn : N ≤ 1000000) (us : Up d S) (ut : Up d T) (hL : L = P ++ S ++ T ++ R) (hF : F = P ++ mrg d S T ++ R) (hin : ∀ y ∈ L, 0 ≤ y ∧ y < N) :
    ∃ L1 L2 e, Tail B blk cap g cb N a m b c0 i e L L1 L2 F := by
  obtain ⟨u1, u2, u3, u4⟩ := H.up us ut
  obtain ⟨rfl, rfl, ha, hi, hc, hm, hb, hN, hmg⟩ := H
  clear us ut
  have hin1 : ∀ y ∈ P ++ S1 ++ T1 ++ (S2 ++ T2 ++ R), 0 ≤ y ∧ y < N := fun y hy => hin y (by
    rw [hL]; simp only [List.mem_append] at hy ⊢
    rcases hy with ((h | h) | h) | ((h | h) | h)
    · exact Or.inl (Or.inl (Or.inl h))
    · exact Or.inl (Or.inl (Or.inr (Or.inl h)))
    · exact Or.inl (Or.inr (Or.inl h))
    · exact Or.inl (Or.inl (Or.inr (Or.inr h)))
    · exact Or.inl (Or.inr (Or.inr h))
    · exact Or.inr h)
  have hin2 : ∀ y ∈ (P ++ mrg d S1 T1) ++ S2 ++ T2 ++ R, 0 ≤ y ∧ y < N := fun y hy => hin1 y (by
    simp only [List.mem_append, mem_mrg d y _ S1 T1 rfl] at hy ⊢
    rcases hy with (((h | h | h) | h) | h) | h
    all_goals simp [h])
  have hN' : N = P.length + S1.length + S2.length + T1.length + T2.length + R.length := by
    rw [hN]; simp only [List.length_append]; omega
  simp only [List.length_append] at hk
  refine ⟨P ++ S1 ++ T1 ++ (S2 ++ T2 ++ R), (P ++ mrg d S1 T1) ++ S2 ++ T2 ++ R, m + T1.length, ⟨fun h1 h2 w hA => ?_, fun h => ?_, fun h1 h2 w hA => ?_, fun h => ?_, fun h1 h2 w hA => ?_, fun h => ?_, by omega, by omega⟩⟩
  · exact rotate B blk cap _ (P ++ S1) S2 T1 (T2 ++ R) L _ N i m (m + T1.length) (by omega) (by omega) (by simp only [List.length_append]; omega) hn (by simp only [List.length_append]; omega) (by simp only [List.length_append]; omega) (by simp only [List.length_append]; omega) (by rw [hL]; simp) (by simp) w hA
  · rw [hL]
    by_cases h0 : S2.length = 0
    · rw [List.length_eq_zero_iff.mp h0]; simp
    · rw [List.length_eq_zero_iff.mp (show T1.length = 0 by omega)]; simp
  · exact hD P S1 T1 (S2 ++ T2 ++ R) _ _ a i c0 (by omega) (by omega) (by omega) (by simp only [List.length_append]; omega) ha hi hc rfl (by simp) u1 u3 hin1 w hA
  · by_cases h0 : S1.length = 0
    · rw [List.length_eq_zero_iff.mp h0, mrg_nil]; simp
    · rw [List.length_eq_zero_iff.mp (show T1.length = 0 by omega), mrg_nil']; simp
  · exact hD (P ++ mrg d S1 T1) S2 T2 R _ _ c0 (m + T1.length) b (by omega) (by omega) (by omega) (by simp only [List.length_append, mrg_length]; omega) (by simp only [List.length_append, mrg_length]; omega) (by omega) (by omega) rfl (by rw [hF, hmg]; simp) u2 u4 hin2 w hA
  · rw [hF, hmg]
    by_cases h0 : S2.length = 0
    · rw [List.length_eq_zero_iff.mp h0, mrg_nil]; simp
    · rw [List.length_eq_zero_iff.mp (show T2.length = 0 by omega), mrg_nil']; simp
end Go.Proofs.Ytlpidjenifbjeaa.Sw
