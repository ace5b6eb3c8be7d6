/- What is packed, and what is written as text, is read as it was, and the other way round. -/
import Derived.Test.YtbbncdbihiipcaaDoorPx7
import Derived.Test.YtbbncdbihiipcaaDoorPf
import Derived.Test.YtbbncdbihiipcaaDoorTy
namespace Go.Proofs.YtbbncdbihiipcaaDoor.Th
open Go.RowKit Go.Proofs.YtbbncdbihiipcaaDoor.P Go.Proofs.YtbbncdbihiipcaaDoorW.PrintWords Go.Proofs.YtbbncdbihiipcaaDoorW.PrintLast Go.Proofs.YtbbncdbihiipcaaDoor.Ru

theorem pack_list (n : Int) (e : ByteArray) : (packB n e).toList = pk 0 (runsOf (inP e true) n.toNat) := by unfold packB; rw [ByteArray.toList_eq]
theorem unpack_pack {n : Int} {s : ByteArray} (hs : chk n s = true) : Ev (fun k => runs_Unpack.f k n (packB n s)) (s, 0) := by
  have h1 := chk_true hs
  obtain ⟨_, hl, g⟩ := runs_in hs
  have hz : (packB n s).size ≤ 1000000 := by
    show (pk 0 (runsOf (inP s true) n.toNat)).length ≤ 1000000
    rw [pk_len]; omega
  obtain ⟨r, u1, s1⟩ := prog_unpack n ⟨h1.1, h1.2.1⟩ (packB n s) hz
  have hm := runsOf_good (inP s true) n.toNat
  have hU : UnR n (packB n s).data.toList (s, 0) := Or.inl ⟨runsOf (inP s true) n.toNat, g, rfl, hs, rfl, fun i hi => by rw [hm.2 i (by omega)]; unfold inP; simp⟩
  rw [UnR.unique ⟨h1.1, h1.2.1⟩ s1 hU] at u1
  exact u1
theorem read_text {n : Int} {s : ByteArray} (hs : chk n s = true) : Ev (fun k => runs_Read.f k n (textB n s)) (s, 0) := by
  have h1 := chk_true hs
  obtain ⟨hi, hl, _⟩ := runs_in hs
  have hz : (textB n s).size ≤ 900000 := by
    have := txt_len hi
    show (txt (runsOf (inP s true) n.toNat)).length ≤ 900000
    omega
  obtain ⟨r, u1, s1⟩ := prog_read n ⟨h1.1, h1.2.1⟩ (textB n s) hz
  rw [s1.1 s hs rfl] at u1
  exact u1
theorem pureRunsBack : mosaiclaw25_RunsBack.Pure := by
  intro n s t _ hs ht
  suffices h : Ev (fun k => mosaiclaw25_RunsBack.f k n s t) true by
    obtain ⟨k, hk⟩ := h
    exact ⟨k, hk k (Nat.le_refl _)⟩
  have haw : Ev (fun k => (mosaiclaw25_awake.f k).bind fun t => some t) true := Ev.bind (G := fun t182 _ => (some t182)) awake (Ev.const _)
  have ha0 : Ev (fun k => mosaiclaw25_RunsBack.j0 k n s t true) true := Ev.step (fun k => by rw [mosaiclaw25_RunsBack.j0, if_pos rfl]) haw
  by_cases h30 : s.size > 30
  · refine Ev.congr (fun k => ?_) ha0
    unfold mosaiclaw25_RunsBack.f; rw [if_pos (by omega)]
  · by_cases h400 : t.size > 1000
    · refine Ev.congr (fun k => ?_) ha0
      unfold mosaiclaw25_RunsBack.f; rw [if_neg (by omega), decide_eq_true (by omega)]
    · refine Ev.congr (G := fun k => mosaiclaw25_RunsBack.j0 k n s t false) (fun k => by unfold mosaiclaw25_RunsBack.f; rw [if_neg (by omega), decide_eq_false (by omega)]) ?_
      -- what any text says, written again
      have h2 : Ev (fun k => mosaiclaw25_RunsBack.j2 k n t) true := by
        refine Ev.step (fun k => by rw [mosaiclaw25_RunsBack.j2]) ?_
        by_cases hn : 0 ≤ n ∧ n ≤ 160
        · obtain ⟨r, hr, hT⟩ := prog_read n hn t (by omega)
          refine Ev.bind (G := fun bt258 k => _) hr ?_
          by_cases he : ∃ s, chk n s = true ∧ textB n s = t
          · obtain ⟨a, ha, hat⟩ := he
            rw [hT.1 a ha hat]
            have hX := prog_text n a
            rw [if_pos ha] at hX
            refine Ev.congr (fun k => by rw [if_pos rfl]) ?_
            refine Ev.bind (G := fun bt260 k => _) hX ?_
            exact Ev.congr (fun k => by rw [if_pos rfl, if_pos (by rw [hat])]) haw
          · rw [hT.2 he]
            exact Ev.congr (fun k => by rw [if_neg (by decide)]) haw
        · refine Ev.bind (G := fun bt258 k => _) (prog_read_no n hn t) ?_
          exact Ev.congr (fun k => by rw [if_neg (by decide)]) haw
      have h1 : Ev (fun k => mosaiclaw25_RunsBack.j1 k n t) true := by
        refine Ev.step (fun k => by rw [mosaiclaw25_RunsBack.j1]) ?_
        by_cases hn : 0 ≤ n ∧ n ≤ 160
        · obtain ⟨r, hr, hU⟩ := prog_unpack n hn t (by omega)
          refine Ev.bind (G := fun bt254 k => _) hr ?_
          rcases hU with ⟨L, g, hp, c1, c2, c3⟩ | ⟨_, rfl⟩
          · have hX := prog_pack n r.1
            rw [if_pos c1] at hX
            have hl : (packB n r.1).toList = t.toList := by rw [pack_list, set_runs c1 g c3, hp, ByteArray.toList_eq]
            exact Ev.congr (fun k => by rw [if_pos c2, hX, Option.bind_some, if_pos rfl, if_pos hl]) h2
          · exact Ev.congr (fun k => by rw [if_neg (by decide)]) h2
        · refine Ev.bind (G := fun bt254 k => _) (prog_unpack_no n hn t) ?_
          exact Ev.congr (fun k => by rw [if_neg (by decide)]) h2
      have hP := prog_pack n s
      cases hc : chk n s with
      | false =>
        rw [hc] at hP
        refine Ev.step (fun k => ?_) h1
        rw [mosaiclaw25_RunsBack.j0, if_neg (by simp), hP, if_neg (by simp), Option.bind_some, if_neg (by decide)]
      | true =>
        rw [hc] at hP
        have hX := prog_text n s
        rw [if_pos hc] at hX
        refine Ev.step (G := fun k => _) (fun k => by rw [mosaiclaw25_RunsBack.j0, if_neg (by simp), hP, if_pos rfl, Option.bind_some, if_pos rfl]) ?_
        refine Ev.bind (G := fun bt248 k => _) (unpack_pack hc) ?_
        refine Ev.bind (G := fun bt250 k => _) hX ?_
        refine Ev.bind (G := fun bt252 k => _) (read_text hc) ?_
        exact Ev.congr (fun k => by rw [if_pos (show wrap64 (wrap64 ((0 : Int) + 0) + 0) = 0 by unfold wrap64; omega), if_pos rfl, if_pos rfl]) h1
end Go.Proofs.YtbbncdbihiipcaaDoor.Th
namespace Go.Proofs.YtbbncdbihiipcaaDoor.Pure
open Go.Proofs.YtbbncdbihiipcaaDoor.P
theorem RunsBack : mosaiclaw25_RunsBack.Pure := Th.pureRunsBack
end Go.Proofs.YtbbncdbihiipcaaDoor.Pure
