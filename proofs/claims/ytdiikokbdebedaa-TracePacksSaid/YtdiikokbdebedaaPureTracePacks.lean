/- The bytes of any events, and the events of any bytes, are the document's: in plain words, of the printed law. -/
import Derived.Test.YtdiikokbdebedaaPx8
import Derived.Test.YtdiikokbdebedaaRg
namespace Go.Proofs.Ytdiikokbdebedaa.Pure
open Go.RowKit Go.Proofs.Ytdiikokbdebedaa.P Go.Proofs.Ytdiikokbdebedaa.Tr Go.Proofs.Ytdiikokbdebedaa.Rf Go.Proofs.Ytdiikokbdebedaa.Ck Go.Proofs.Ytdiikokbdebedaa.Pk Go.Proofs.Ytdiikokbdebedaa.Hand Go.Proofs.YtdiikokbdebedaaW.PrintWords Go.Proofs.YtdiikokbdebedaaW.PrintLast

theorem packs_eq (l : List S47) (hl : l.length ≤ 100) (k : Nat) (hk : 1100 ≤ k) : ∃ r, trace_Pack.f l = some r ∧ mosaicref32_Pack.f k (l.map toR) = some r := by
  cases h : checkB (l.map toEv) with
  | true => exact ⟨_, Tr.pack_ok l h hl, by rw [Rf.pack_ok _ (by rw [ev_toR]; exact h) k hk, ev_toR]⟩
  | false => exact ⟨_, Tr.pack_bad l h (by omega), Rf.pack_bad _ (by rw [ev_toR]; exact h) (by rw [List.length_map]; omega) k hk⟩
theorem unpacks_eq (s : ByteArray) (k : Nat) (hk : 3000 ≤ k) : ∃ m e, m.length ≤ 500 ∧ trace_Unpack.f k s = some (m, e) ∧ mosaicref32_Unpack.f k s = some (m.map toR, e) := by
  obtain ⟨m, e, h1, h2⟩ := Tr.unpack s k (by omega)
  obtain ⟨n, f, h3, h4⟩ := Rf.unpack_eq s k hk
  rcases h2 with ⟨rfl, hi⟩ | ⟨rfl, rfl, hn⟩
  · rcases h4 with ⟨rfl, hj⟩ | ⟨_, _, hn⟩
    · obtain rfl := Is.unique hi hj
      exact ⟨m, 0, (check_len m hi.1).1, h1, h3⟩
    · exact absurd hi (hn m)
  · rcases h4 with ⟨rfl, hj⟩ | ⟨rfl, rfl, _⟩
    · exact absurd hj (hn n)
    · exact ⟨[], 3, by simp, h1, h3⟩
theorem checks_eq (l : List S47) (hl : l.length ≤ 100) (k : Nat) (hk : 1001 ≤ k) : ∃ b, trace_Check.f l = some b ∧ mosaicref32_Check.f k (l.map toR) = some b :=
  ⟨checkB (l.map toEv), by unfold trace_Check.f; rw [if_pos (by omega)], by rw [check_eq _ (by rw [List.length_map]; omega) k hk, ev_toR]⟩

theorem TracePacks : mosaiclaw32_TracePacks.Pure := by
  intro l s _ _ _
  refine ⟨4000, ?_⟩
  unfold mosaiclaw32_TracePacks.f
  obtain ⟨b, hb, hf⟩ := few_eq l 4000 (by omega)
  rw [hb, Option.bind_some]
  have hj : mosaiclaw32_TracePacks.j0 4000 l s true = some true := by
    rw [mosaiclaw32_TracePacks.j0, if_pos rfl, awake_ge _ (by omega)]; rfl
  by_cases h : b = true
  · rw [if_pos h]
    have hl := hf h
    by_cases hz : (s.size : Int) > 10000
    · rw [decide_eq_true hz]; exact hj
    · rw [decide_eq_false hz]
      obtain ⟨⟨p, e⟩, hp1, hp2⟩ := packs_eq l hl 3999 (by omega)
      obtain ⟨m, g, hm, hu1, hu2⟩ := unpacks_eq s 3999 (by omega)
      obtain ⟨c, hc1, hc2⟩ := checks_eq l hl 3999 (by omega)
      have hr := refs_eq l (by omega) 3999 (by omega)
      rw [mosaiclaw32_TracePacks.j0, if_neg (by simp), hp1, Option.bind_some, hr, Option.bind_some, hp2, Option.bind_some, hu1, Option.bind_some, hu2, Option.bind_some, awake_ge _ (by omega), Option.bind_some,
        if_pos rfl, if_pos rfl, if_pos rfl, refs_eq m (by omega) 3999 (by omega), Option.bind_some, same_eq _ (by rw [List.length_map]; omega) 3999 (by omega), Option.bind_some, if_pos rfl, if_pos rfl,
        hc1, Option.bind_some, Option.bind_some, hc2, Option.bind_some, beq_self_eq_true]
  · rw [if_neg h]; exact hj

end Go.Proofs.Ytdiikokbdebedaa.Pure
