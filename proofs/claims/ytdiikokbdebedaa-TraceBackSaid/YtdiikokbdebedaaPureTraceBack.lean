/- What is packed is unpacked as it was, and back: in plain words, of the printed law. -/
import Derived.Test.YtdiikokbdebedaaPx4
import Derived.Test.YtdiikokbdebedaaTz
namespace Go.Proofs.Ytdiikokbdebedaa.Pure
open Go.RowKit Go.Proofs.Ytdiikokbdebedaa.P Go.Proofs.Ytdiikokbdebedaa.Tr Go.Proofs.Ytdiikokbdebedaa.Ck Go.Proofs.Ytdiikokbdebedaa.Pk Go.Proofs.Ytdiikokbdebedaa.Hand Go.Proofs.YtdiikokbdebedaaW.PrintWords Go.Proofs.YtdiikokbdebedaaW.PrintLast

theorem back_j1 (s : ByteArray) (hs : s.size ≤ 10000) (k : Nat) (hk : 1200 ≤ k) : mosaiclaw32_TraceBack.j1 k s = some true := by
  obtain ⟨k, rfl⟩ : ∃ k', k = k' + 1 := ⟨k - 1, by omega⟩
  rw [mosaiclaw32_TraceBack.j1]
  obtain ⟨m, e, hu, h⟩ := unpack s k (by omega)
  rw [hu, Option.bind_some]
  rcases h with ⟨rfl, hi⟩ | ⟨rfl, rfl, _⟩
  · rw [if_pos rfl, pack_is m s hi (by omega), Option.bind_some, awake_ge k (by omega), Option.bind_some, if_pos rfl, if_pos rfl]
    simp
  · rw [if_neg (by decide), awake_ge k (by omega)]
    rfl
theorem TraceBack : mosaiclaw32_TraceBack.Pure := by
  intro l s _ _ _
  refine ⟨2000, ?_⟩
  unfold mosaiclaw32_TraceBack.f
  obtain ⟨b, hb, hf⟩ := few_eq l 2000 (by omega)
  rw [hb, Option.bind_some]
  have hj : ∀ k, 10 ≤ k → mosaiclaw32_TraceBack.j0 k l s true = some true := by
    intro k hk
    obtain ⟨k, rfl⟩ : ∃ k', k = k' + 1 := ⟨k - 1, by omega⟩
    rw [mosaiclaw32_TraceBack.j0, if_pos rfl, awake_ge k (by omega)]; rfl
  by_cases h : b = true
  · rw [if_pos h]
    have hl := hf h
    by_cases hz : (s.size : Int) > 10000
    · rw [decide_eq_true hz]; exact hj 2000 (by omega)
    · rw [decide_eq_false hz]
      rw [mosaiclaw32_TraceBack.j0, if_neg (by simp)]
      have hb1 := back_j1 s (by omega) 1999 (by omega)
      cases hc : checkB (l.map toEv) with
      | false => rw [pack_bad l hc (by omega), Option.bind_some, if_neg (by decide), hb1]
      | true =>
        rw [pack_ok l hc hl, Option.bind_some, if_pos rfl]
        obtain ⟨m, e, hu, h⟩ := unpack ⟨(packL (l.map toEv)).toArray⟩ 1999 (by omega)
        have hI : Is ⟨(packL (l.map toEv)).toArray⟩ l := ⟨hc, by simp⟩
        rw [hu, Option.bind_some]
        rcases h with ⟨rfl, hi⟩ | ⟨_, _, hn⟩
        · rw [if_pos rfl]
          obtain rfl := Is.unique hi hI
          rw [refs_eq m (by omega) 1999 (by omega), Option.bind_some, Option.bind_some, same_eq _ (by rw [List.length_map]; omega) 1999 (by omega), Option.bind_some, if_pos rfl, hb1]
        · exact absurd hI (hn l)
  · rw [if_neg h]; exact hj 2000 (by omega)

end Go.Proofs.Ytdiikokbdebedaa.Pure
