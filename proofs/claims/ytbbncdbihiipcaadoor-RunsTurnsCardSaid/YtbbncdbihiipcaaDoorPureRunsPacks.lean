/- Packed sets and patches: the program's are the document's. -/
import Derived.Test.YtbbncdbihiipcaaDoorPx11
import Derived.Test.YtbbncdbihiipcaaDoorPf
namespace Go.Proofs.YtbbncdbihiipcaaDoor.Th
open Go.RowKit Go.Proofs.YtbbncdbihiipcaaDoor.P Go.Proofs.YtbbncdbihiipcaaDoorW.PrintWords Go.Proofs.YtbbncdbihiipcaaDoorW.PrintLast Go.Proofs.YtbbncdbihiipcaaDoor.Ru

theorem of_Ev {F : Nat → Option Bool} (h : Ev F true) : ∃ k, F k = some true := by
  obtain ⟨k, hk⟩ := h
  exact ⟨k, hk k (Nat.le_refl _)⟩
theorem pureRunsPacks : mosaiclaw25_RunsPacks.Pure := by
  intro n s t _ hs ht
  have haw : Ev (fun k => mosaiclaw25_RunsPacks.j0 k n s t true) true := by
    refine Ev.step (fun k => by rw [mosaiclaw25_RunsPacks.j0, if_pos rfl]) ?_
    exact Ev.bind (G := fun t182 _ => (some t182)) awake (Ev.const _)
  refine of_Ev (F := fun k => mosaiclaw25_RunsPacks.f k n s t) ?_
  by_cases h30 : s.size > 30
  · refine Ev.congr (fun k => ?_) haw
    unfold mosaiclaw25_RunsPacks.f; rw [if_pos (by omega)]
  · by_cases h400 : t.size > 400
    · refine Ev.congr (fun k => ?_) haw
      unfold mosaiclaw25_RunsPacks.f; rw [if_neg (by omega), decide_eq_true (by omega)]
    · refine Ev.congr (G := fun k => mosaiclaw25_RunsPacks.j0 k n s t false) (fun k => by unfold mosaiclaw25_RunsPacks.f; rw [if_neg (by omega), decide_eq_false (by omega)]) ?_
      obtain ⟨u, u1, u2⟩ := both_unpack n t (by omega)
      have p1 := prog_pack n s
      have p2 := ref_pack n s hs
      generalize (if chk n s = true then (packB n s, (0 : Int)) else (⟨#[]⟩, 3)) = P at *
      refine Ev.step (G := fun k => _) (fun k => by rw [mosaiclaw25_RunsPacks.j0, if_neg (by simp), p1, Option.bind_some]) ?_
      refine Ev.bind (G := fun bt345 k => _) p2 ?_
      refine Ev.bind (G := fun bt347 k => _) u1 ?_
      refine Ev.bind (G := fun bt349 k => _) u2 ?_
      refine Ev.bind (G := fun t351 k => _) awake ?_
      refine Ev.of fun k => ?_
      rw [if_pos rfl, if_pos rfl, if_pos rfl, if_pos rfl]
      simp
theorem pureRunsPatches : mosaiclaw25_RunsPatches.Pure := by
  intro n a b p _ hq
  have haw : ∀ c : Bool, c = true → Ev (fun k => mosaiclaw25_RunsPatches.j0 k n c a b p) true := by
    intro c hc
    refine Ev.step (fun k => by rw [mosaiclaw25_RunsPatches.j0, if_pos hc]) ?_
    exact Ev.bind (G := fun t182 _ => (some t182)) awake (Ev.const _)
  refine of_Ev (F := fun k => mosaiclaw25_RunsPatches.f k n a b p) ?_
  by_cases h1 : a.size > 30
  · refine Ev.congr (fun k => ?_) (haw true rfl)
    unfold mosaiclaw25_RunsPatches.f; rw [if_pos (by omega)]
  · by_cases h2 : b.size > 30
    · refine Ev.congr (fun k => ?_) (haw true rfl)
      unfold mosaiclaw25_RunsPatches.f; rw [if_neg (by omega), if_pos (by omega)]
    · by_cases h3 : p.size > 400
      · refine Ev.congr (fun k => ?_) (haw true rfl)
        unfold mosaiclaw25_RunsPatches.f; rw [if_neg (by omega), if_neg (by omega), decide_eq_true (by omega)]
      · refine Ev.congr (G := fun k => mosaiclaw25_RunsPatches.j0 k n false a b p) (fun k => by unfold mosaiclaw25_RunsPatches.f; rw [if_neg (by omega), if_neg (by omega), decide_eq_false (by omega)]) ?_
        obtain ⟨u, u1, u2⟩ := both_apply n a p (by omega) (by omega)
        have p1 := prog_patch n a b
        have p2 := ref_patch n a b (by omega) (by omega)
        generalize patchR n a b = P at *
        refine Ev.step (G := fun k => _) (fun k => by rw [mosaiclaw25_RunsPatches.j0, if_neg (by simp)]) ?_
        refine Ev.bind (G := fun bt333 k => _) p1 ?_
        refine Ev.bind (G := fun bt345 k => _) p2 ?_
        refine Ev.bind (G := fun bt347 k => _) u1 ?_
        refine Ev.bind (G := fun bt349 k => _) u2 ?_
        refine Ev.bind (G := fun t351 k => _) awake ?_
        refine Ev.of fun k => ?_
        rw [if_pos rfl, if_pos rfl, if_pos rfl, if_pos rfl]
        simp
theorem apply_either {n : Int} {a e : ByteArray} (ha : chk n a = true) (he : chk n e = true) : Ev (fun k => runs_Apply.f k n a (packB n e)) (eitherB a e, 0) := by
  have h1 := chk_true ha
  have h2 := chk_true he
  have hg := runsOf_good (inP e true) n.toNat
  have hl := good_len (n.toNat : Int) _ (-1) hg.1 (by omega)
  rw [Int.toNat_of_nonneg h1.1] at hg
  have hz : (packB n e).size ≤ 1000000 := by
    show (pk 0 (runsOf (inP e true) n.toNat)).length ≤ 1000000
    rw [pk_len]; omega
  obtain ⟨r, u1, s1⟩ := prog_unpack n ⟨h1.1, h1.2.1⟩ (packB n e) hz
  have hU : UnR n (packB n e).data.toList (e, 0) := Or.inl ⟨runsOf (inP e true) n.toNat, hg.1, rfl, he, rfl, fun i hi => by rw [hg.2 i (by omega)]; unfold inP; simp⟩
  have := UnR.unique ⟨h1.1, h1.2.1⟩ s1 hU
  subst this
  have c1 := check n a
  rw [ha] at c1
  refine Ev.bind (G := fun t317 k => _) c1 (Ev.bind (G := fun bt318 k => _) u1 (Ev.congr (G := fun _ => some (eitherB a e, 0)) (fun k => ?_) (Ev.const _)))
  rw [if_pos rfl, prog_either a e (by omega) (by omega), Option.bind_some]
theorem either_back {n : Int} {a b : ByteArray} (ha : chk n a = true) (hb' : chk n b = true) : eitherB a (eitherB a b) = b ∧ eitherB b (eitherB a b) = a := by
  have h1 := chk_true ha
  have h2 := chk_true hb'
  have he := chk_either ha hb'
  have h3 := either_size a b
  refine ⟨chk_ext (chk_either ha he) hb' (fun i _ => ?_), chk_ext (chk_either hb' he) ha (fun i _ => ?_)⟩
  · rw [hb_either _ _ h3, hb_either _ _ (by omega)]; cases hb a i <;> cases hb b i <;> rfl
  · rw [hb_either _ _ (by omega), hb_either _ _ (by omega)]; cases hb a i <;> cases hb b i <;> rfl
theorem pack_list (n : Int) (e : ByteArray) : (packB n e).toList = pk 0 (runsOf (inP e true) n.toNat) := by unfold packB; rw [ByteArray.toList_eq]
theorem pack_nil {n : Int} {a b : ByteArray} (ha : chk n a = true) (hb' : chk n b = true) : (packB n (eitherB a b)).toList = [] ↔ a = b := by
  have h1 := chk_true ha
  have h2 := chk_true hb'
  rw [pack_list]
  constructor
  · intro h
    have hg := runsOf_good (inP (eitherB a b) true) n.toNat
    have h0 : runsOf (inP (eitherB a b) true) n.toNat = [] := by
      have := congrArg List.length h
      rw [pk_len, List.length_nil] at this
      exact List.length_eq_zero_iff.mp (by omega)
    rw [h0] at hg
    refine chk_ext ha hb' (fun i hi => ?_)
    have := hg.2 i (by omega)
    rw [mem_nil] at this
    unfold inP at this
    rw [hb_either _ _ (by omega)] at this
    cases hx : hb a i <;> cases hy : hb b i <;> rw [hx, hy] at this <;> simp at this <;> rfl
  · intro h
    subst h
    rw [runsOf_is _ _ [] trivial (fun i hi => by rw [mem_nil]; unfold inP; rw [hb_either _ _ rfl]; cases hb a i <;> rfl)]; rfl
theorem pureRunsTurns : mosaiclaw25_RunsTurns.Pure := by
  intro n a b _ sa sb
  have haw : ∀ c : Bool, c = true → Ev (fun k => mosaiclaw25_RunsTurns.j0 k n a b c) true := by
    intro c hc
    refine Ev.step (fun k => by rw [mosaiclaw25_RunsTurns.j0, if_pos hc]) ?_
    exact Ev.bind (G := fun t182 _ => (some t182)) awake (Ev.const _)
  refine of_Ev (F := fun k => mosaiclaw25_RunsTurns.f k n a b) ?_
  refine Ev.bind (G := fun t352 k => (if t352 = true then ((bits_Check.f k n b).bind fun t353 => (mosaiclaw25_RunsTurns.j0 k n a b (!t353))) else (mosaiclaw25_RunsTurns.j0 k n a b true))) (check n a) ?_
  cases ha : chk n a with
  | false => exact haw true rfl
  | true =>
    refine Ev.bind (G := fun t353 k => (mosaiclaw25_RunsTurns.j0 k n a b (!t353))) (check n b) ?_
    cases hb' : chk n b with
    | false => exact haw _ rfl
    | true =>
      have p1 := prog_patch n a b
      have p2 := prog_patch n a a
      unfold patchR at p1 p2
      rw [if_pos ⟨ha, hb'⟩] at p1
      rw [if_pos ⟨ha, ha⟩] at p2
      have e1 := apply_either ha (chk_either ha hb')
      have e2 := apply_either hb' (chk_either ha hb')
      rw [(either_back ha hb').1] at e1
      rw [(either_back ha hb').2] at e2
      have q1 := pack_nil ha hb'
      have q2 := (pack_nil ha ha).mpr rfl
      refine Ev.step (G := fun k => _) (fun k => by rw [mosaiclaw25_RunsTurns.j0, if_neg (by simp)]) ?_
      refine Ev.bind (G := fun bt355 k => _) p1 ?_
      refine Ev.bind (G := fun bt357 k => _) e1 ?_
      refine Ev.bind (G := fun bt359 k => _) e2 ?_
      refine Ev.bind (G := fun bt361 k => _) p2 ?_
      refine Ev.bind (G := fun t363 k => _) awake ?_
      refine Ev.of fun k => ?_
      rw [if_pos rfl, if_pos (show wrap64 (wrap64 (wrap64 ((0 : Int) + 0) + 0) + 0) = 0 by unfold wrap64; omega), if_pos rfl, if_pos rfl, if_pos q2]
      congr 1
      rw [beq_iff_eq, Bool.eq_iff_iff, beq_iff_eq, beq_iff_eq, q1]
      constructor
      · intro h; rw [h]
      · intro h
        rw [ByteArray.toList_eq, ByteArray.toList_eq] at h
        apply ByteArray.ext
        exact Array.ext' h
end Go.Proofs.YtbbncdbihiipcaaDoor.Th
namespace Go.Proofs.YtbbncdbihiipcaaDoor.Pure
open Go.Proofs.YtbbncdbihiipcaaDoor.P
theorem RunsPacks : mosaiclaw25_RunsPacks.Pure := Th.pureRunsPacks
theorem RunsPatches : mosaiclaw25_RunsPatches.Pure := Th.pureRunsPatches
theorem RunsTurns : mosaiclaw25_RunsTurns.Pure := Th.pureRunsTurns
end Go.Proofs.YtbbncdbihiipcaaDoor.Pure
