/- tracker.New; Announce, whatever it answers; the page's example. -/
import Derived.Test.YtmimnlbkllgfpaaGreatDoorAp
namespace Go.Proofs.YtmimnlbkllgfpaaGreatDoor.Tb
set_option linter.unusedVariables false
set_option linter.unusedSimpArgs false
open Go.RowKit Go.Maps Go.Proofs.YtmimnlbkllgfpaaGreatDoor.A Go.Proofs.YtmimnlbkllgfpaaGreatDoorW.PrintWords

abbrev TT := List UInt8 → Nat → Option Nt
def noT : TT := fun _ _ => none
theorem announce {lo t bm n : Nat} {room : Int} {D : DataW Unit} {T : TT} (x : Nt) (now : Int) (w : World) (h : Tab w lo t bm n room D T) (hn : n ≤ 90000) (hlw : lo ≤ w.heap.size) (hx : x.f0.size ≤ maxLen) :
    Calls Tryz.prog 10 #[.pointer (some ⟨t, 0, none⟩), .agg #[.string x.f0, .int .i64 x.f1, .int .i64 x.f2.f0, .int .i64 x.f2.f1, .int .i64 x.f3], .int .i64 now] w fun e w' => ∃ (c : Int) (D' : DataW Unit) (T' : TT), e = .returned (.int .i64 c) ∧ Ann room x now T c T' ∧ Tab w' lo t bm (n + 1) room D' T' ∧ Kp lo w w' := by
  cases hm : mayB x now with
  | false =>
    refine (announce_arg x now w h hm).mono ?_
    rintro e w' ⟨rfl, hb⟩
    exact ⟨1, D, T, rfl, .arg hm, (h.below hb).mono (Nat.le_succ _), Kp.of_below hb⟩
  | true =>
    by_cases hN : nodesL T (nameS x) now = []
    · by_cases hF : room ≤ ((namesL T now D).length : Nat)
      · refine (announce_full x now w h hn hx hm hN hF).mono ?_
        rintro e w' ⟨rfl, hb⟩
        exact ⟨6, D, T, rfl, .full _ hm hN (namesAre h now) hF, (h.below hb).mono (Nat.le_succ _), Kp.of_below hb⟩
      · refine (announce_new x now w h hn hlw hx hm hN (by omega)).mono ?_
        rintro e w' ⟨rfl, D', hT, hK⟩
        exact ⟨0, D', _, rfl, .ok hm (Or.inr ⟨_, namesAre h now, by omega⟩), hT, hK⟩
    · refine (announce_old x now w h hn hlw hx hm hN).mono ?_
      rintro e w' ⟨rfl, D', hT, hK⟩
      exact ⟨0, D', _, rfl, .ok hm (Or.inl hN), hT, hK⟩
set_option maxRecDepth 100000 in
theorem new_ok (room : Int) (w : World) (h1 : 1 ≤ room) (h2 : room ≤ 64) :
    Calls Tryz.prog 7 #[.int .i64 room] w fun e w' => ∃ t bm, e = .returned (.pointer (some ⟨t, 0, none⟩)) ∧ Tab w' w.heap.size t bm 0 room (.map []) noT ∧ Below w.heap.size w w' := by
  have hmm := @run_makeMap Tryz.prog
  have g1 : ¬ room < 1 := by omega
  have g2 : ¬ room > 64 := by omega
  have hB1 : Below w.heap.size w (w.alloc (.map #[] 0)) := (Below.refl _ w).alloc (Nat.le_refl _) _
  have hB2 : Below w.heap.size w ((w.alloc (.map #[] 0)).alloc (.cells #[.int .i64 room, .map (some w.heap.size)] 78)) := hB1.alloc hB1.size _
  have hown := (World.ownsMap_made w Tryz.prog 9 ptrE).alloc (.cells #[.int .i64 room, .map (some w.heap.size)] 78)
  go_enter Tryz.func7, Tryz.ntmps7
  go_wp2
  go_ret
  refine ⟨w.heap.size + 1, rfl, ⟨w.heap.size, ⟨?_, hown, Nat.le_refl _, fun _ _ _ => rfl, fun s hs => (by cases hs), fun s s' b hs => (by cases hs), fun s j x hx => (by cases hx)⟩⟩, hB2⟩
  have := blk_new (w.alloc (.map #[] 0)) (.cells #[.int .i64 room, .map (some w.heap.size)] 78)
  simpa using this
/-- The table's room, the notes ahead: what is answered, where it is known. -/
theorem Ann.ok_of {room : Int} {x : Nt} {now : Int} {T T' : TT} {c : Int} (h : Ann room x now T c T') (hm : mayB x now = true) (hr : nodesL T (nameS x) now ≠ [] ∨ ∃ ss, NamesAre T now ss ∧ (ss.length : Int) < room) : c = 0 ∧ T' = putT x (fun s j => swp now (T s j)) := by
  cases h with
  | arg h => rw [hm] at h; cases h
  | full ss _ hn ha hl =>
    rcases hr with hr | ⟨ss', ha', hl'⟩
    · exact absurd hn hr
    · have := ha.length ha'
      omega
  | ok _ _ => exact ⟨rfl, rfl⟩
theorem names_none (now : Int) : NamesAre noT now [] := ⟨List.nodup_nil, fun s => by simp [nodesL_none now (T := noT) (s := s) (fun _ => rfl)]⟩
/-- A table with notes of one name alone. -/
theorem names_one {T : TT} {now : Int} {s : List UInt8} (h : ∀ s', s' ≠ s → ∀ j, T s' j = none) : NamesAre T now (if nodesL T s now = [] then [] else [s]) := by
  by_cases hn : nodesL T s now = []
  · rw [if_pos hn]
    refine ⟨List.nodup_nil, fun s' => ?_⟩
    by_cases e : s' = s
    · subst e; simp [hn]
    · simp [nodesL_none now (h s' e)]
  · rw [if_neg hn]
    refine ⟨by simp, fun s' => ?_⟩
    by_cases e : s' = s
    · subst e; simp [hn]
    · simp [e, nodesL_none now (h s' e)]
end Go.Proofs.YtmimnlbkllgfpaaGreatDoor.Tb
