/- slices.symMergeCmpFunc: two sorted parts are merged; by induction on how long they are. -/
import Derived.Test.YtlpidjenifbjeaaSu
import Derived.Test.YtlpidjenifbjeaaSv0
namespace Go.Proofs.Ytlpidjenifbjeaa.Sw
open Go.RowKit Go.Proofs.YtlpidjenifbjeaaW.PrintWords Go.Proofs.PlaceSort

theorem does (B : World) (blk cap g : Nat) (cb : Array Value) (d : Int → Int) (N : Nat) (hn : N ≤ 1000000) (eg : ∀ args w, (callFunc g args).run Try.prog w = .ok (.enter g args) w) (hC : CmpIs B blk g cb d N) : ∀ k, Does B blk cap g cb d N k
  | 0 => by
    intro P S T R L F a m b hk h1 h2
    omega
  | k + 1 => by
    intro P S T R L F a m b hk h1 h2 hN ha hm hb hL hF us ut hin w hA
    by_cases hs : S.length = 1
    · obtain ⟨x, rfl⟩ := List.length_eq_one_iff.mp hs
      exact symLeft B blk cap g cb d P T R L F x N a m b (by rw [hN]; simp) hn ha hm hb (by rw [hL]; simp) hF ut hin w eg hC hA
    · by_cases ht : T.length = 1
      · obtain ⟨x, rfl⟩ := List.length_eq_one_iff.mp ht
        exact symRight B blk cap g cb d P S R L F x N a m b (by rw [hN]; simp) hn ha hm (by omega) hb (by rw [hL]; simp) hF us hin w eg hC hA
      · have ih := does B blk cap g cb d N hn eg hC k
        by_cases hc : (a + b) / 2 < m
        · obtain ⟨lo, hlo⟩ : ∃ lo, lo + b = (a + b) / 2 + m := ⟨(a + b) / 2 + m - b, by omega⟩
          have H : Sa d P S T R N a m b ((a + b) / 2) ((a + b) / 2 + m - 1) lo ((a + b) / 2) := ⟨hN, ha, hm, hb, by omega, by omega, us, ut, rfl, by omega, Or.inl ⟨hc, by omega, rfl⟩⟩
          refine symA B blk cap g cb d P S T R L F N a m b _ _ lo H hc hn hL hin (fun i hK => ?_) w eg hC hA
          obtain ⟨S1, S2, T1, T2, hcut⟩ := Sr.final H (hL ▸ hK)
          exact tail hcut ih hk (by omega) hn us ut hL hF hin
        · have H : Sa d P S T R N a m b ((a + b) / 2) ((a + b) / 2 + m - 1) a m := ⟨hN, ha, hm, hb, by omega, by omega, us, ut, rfl, by omega, Or.inr ⟨by omega, rfl, rfl⟩⟩
          refine symB B blk cap g cb d P S T R L F N a m b _ _ H (by omega) hn hL hin (fun i hK => ?_) w eg hC hA
          obtain ⟨S1, S2, T1, T2, hcut⟩ := Sr.final H (hL ▸ hK)
          exact tail hcut ih hk (by omega) hn us ut hL hF hin
theorem symMerge (B : World) (blk cap g : Nat) (cb : Array Value) (d : Int → Int) (P S T R L F : List Int) (N a m b : Nat) (h1 : 1 ≤ S.length) (h2 : 1 ≤ T.length) (hN : N = (P ++ S ++ T ++ R).length) (hn : N ≤ 1000000) (ha : a = P.length) (hm : m = a + S.length) (hb : b = m + T.length) (hL : L = P ++ S ++ T ++ R) (hF : F = P ++ mrg d S T ++ R) (us : Up d S) (ut : Up d T) (hin : ∀ y ∈ L, 0 ≤ y ∧ y < N) (w : World)
    (eg : ∀ args w, (callFunc g args).run Try.prog w = .ok (.enter g args) w) (hC : CmpIs B blk g cb d N) (hA : Arr B blk L w) :
    Calls Try.prog 53 #[.slice (some ⟨blk, 0, none⟩) N cap, .int .i64 a, .int .i64 m, .int .i64 b, .func (.func g) #[] cb] w fun e w' => e = .returned (.tuple #[]) ∧ Arr B blk F w' :=
  does B blk cap g cb d N hn eg hC (S.length + T.length) P S T R L F a m b (Nat.le_refl _) h1 h2 hN ha hm hb hL hF us ut hin w hA
end Go.Proofs.Ytlpidjenifbjeaa.Sw
