/- The runs of any set, and the set of any runs: the program's are the document's. -/
import Derived.Test.YtbbncdbihiipcaaDoorPx6
import Derived.Test.YtbbncdbihiipcaaDoorRt
namespace Go.Proofs.YtbbncdbihiipcaaDoor.Th
open Go.RowKit Go.Proofs.YtbbncdbihiipcaaDoor.P Go.Proofs.YtbbncdbihiipcaaDoorW.PrintWords Go.Proofs.YtbbncdbihiipcaaDoorW.PrintLast Go.Proofs.YtbbncdbihiipcaaDoor.Ru

def ansOf (n : Int) (s : ByteArray) (b : Bool) : List (Int × Int) × Int := if chk n s = true then (runsOf (inP s b) n.toNat, 0) else ([], 3)
theorem prog_of' (n : Int) (s : ByteArray) (b : Bool) : Hand.runs_of.f n s b = some ((ansOf n s b).1.map Hand.toSp, (ansOf n s b).2) := by
  rw [prog_of]; unfold ansOf; cases chk n s <;> rfl
theorem ref_of' (n : Int) (s : ByteArray) (b : Bool) (hs : s.size ≤ 140737488351232) : Ev (fun k => mosaicref25_Of.f k n s b) ((ansOf n s b).1.map toSp4, (ansOf n s b).2) := by
  have := ref_of n s b hs
  unfold ansOf
  cases h : chk n s <;> (rw [h] at this; exact this)
theorem ans_len (n : Int) (s : ByteArray) (b : Bool) : (ansOf n s b).1.length ≤ 1000 := by
  unfold ansOf
  cases h : chk n s with
  | true =>
    have hc := chk_true h
    have := good_len n.toNat _ (-1) (runsOf_good (inP s b) n.toNat).1 (by omega)
    show (runsOf (inP s b) n.toNat).length ≤ 1000
    omega
  | false => show ([] : List (Int × Int)).length ≤ 1000; simp
theorem both_set (n : Int) (L : List (Int × Int)) (hL : L.length ≤ 1000) : ∃ r, Ev (fun k => runs_Set.f k n (L.map Hand.toSp)) r ∧ Ev (fun k => mosaicref25_Set.f k n (L.map toSp4)) r := by
  by_cases hn : 0 ≤ n ∧ n ≤ 160
  · obtain ⟨r, h1, s1⟩ := prog_set n hn L (by omega)
    obtain ⟨q, h2, s2⟩ := ref_set n hn L hL
    rw [SetR.unique s1 s2] at h1
    exact ⟨q, h1, h2⟩
  · exact ⟨_, prog_set_no n hn _, ref_set_no n hn _⟩
theorem pureRunsOf : mosaiclaw25_RunsOf.Pure := by
  intro n s l _ hs _ _
  have haw : Ev (fun k => mosaiclaw25_RunsOf.j0 k n s l true) true := by
    refine Ev.step (fun k => by rw [mosaiclaw25_RunsOf.j0, if_pos rfl]) ?_
    exact Ev.bind (G := fun t182 _ => (some t182)) awake (Ev.const _)
  suffices h : Ev (fun k => mosaiclaw25_RunsOf.f k n s l) true by
    obtain ⟨k, hk⟩ := h
    exact ⟨k, hk k (Nat.le_refl _)⟩
  by_cases h30 : s.size > 30
  · refine Ev.congr (fun k => ?_) haw
    unfold mosaiclaw25_RunsOf.f; rw [if_pos (by omega)]
  · by_cases h100 : l.length > 100
    · refine Ev.congr (fun k => ?_) haw
      unfold mosaiclaw25_RunsOf.f; rw [if_neg (by omega), decide_eq_true (by omega)]
    · refine Ev.congr (G := fun k => mosaiclaw25_RunsOf.j0 k n s l false) (fun k => by unfold mosaiclaw25_RunsOf.f; rw [if_neg (by omega), decide_eq_false (by omega)]) ?_
      obtain ⟨L, rfl⟩ : ∃ L : List (Int × Int), l = L.map Hand.toSp := ⟨l.map fun x => (x.f0, x.f1), by rw [List.map_map]; exact (List.map_id' l).symm⟩
      rw [List.length_map] at h100
      obtain ⟨r, hr1, hr2⟩ := both_set n L (by omega)
      have o1 := prog_of' n s true
      have o2 := prog_of' n s false
      have p1 := ref_of' n s true hs
      have p2 := ref_of' n s false hs
      have l1 := ans_len n s true
      have l2 := ans_len n s false
      generalize ansOf n s true = A at *
      generalize ansOf n s false = B at *
      refine Ev.step (G := fun k => _) (fun k => by rw [mosaiclaw25_RunsOf.j0, if_neg (by simp), runs_Of.f, runs_Gaps.f, o1, o2, Option.bind_some, Option.bind_some, Option.bind_some]) ?_
      refine Ev.bind (G := fun bt187 k => _) p1 ?_
      refine Ev.bind (G := fun bt191 k => _) (Ev.const _) ?_
      refine Ev.bind (G := fun bt195 k => _) p2 ?_
      refine Ev.bind (G := fun bt199 k => _) hr1 ?_
      refine Ev.bind (G := fun t201 k => _) (refs L (by omega)) ?_
      refine Ev.bind (G := fun bt204 k => _) hr2 ?_
      refine Ev.bind (G := fun t206 k => _) awake ?_
      refine Ev.congr (fun k => by rw [if_pos rfl]) ?_
      refine Ev.bind (G := fun t207 k => _) (refs A.1 (by omega)) ?_
      refine Ev.bind (G := fun t210 k => _) (same A.1 A.1 (by omega)) ?_
      refine Ev.congr (fun k => by rw [if_pos (decide_eq_true rfl), if_pos rfl]) ?_
      refine Ev.bind (G := fun t211 k => _) (refs B.1 (by omega)) ?_
      refine Ev.bind (G := fun t214 k => _) (same B.1 B.1 (by omega)) ?_
      refine Ev.of fun k => ?_
      rw [if_pos (decide_eq_true rfl), if_pos rfl, if_pos rfl]
      simp
end Go.Proofs.YtbbncdbihiipcaaDoor.Th
namespace Go.Proofs.YtbbncdbihiipcaaDoor.Pure
open Go.Proofs.YtbbncdbihiipcaaDoor.P
theorem RunsOf : mosaiclaw25_RunsOf.Pure := Th.pureRunsOf
end Go.Proofs.YtbbncdbihiipcaaDoor.Pure
