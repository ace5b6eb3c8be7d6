/- Table.Announce: walked. -/
import Derived.Test.YtmimnlbkllgfpaaGreatDoorAx2
import Derived.Test.YtmimnlbkllgfpaaGreatDoorSwp
namespace Go.Proofs.YtmimnlbkllgfpaaGreatDoor.Tb
set_option linter.unusedVariables false
set_option linter.unusedSimpArgs false
open Go.RowKit Go.Maps Go.Proofs.YtmimnlbkllgfpaaGreatDoor.A Go.Proofs.YtmimnlbkllgfpaaGreatDoorW.PrintWords

def nameS (x : Nt) : List UInt8 := x.f0.data.toList
/-- May the note be announced? -/
def mayB (x : Nt) (now : Int) : Bool := (tracker_may.f x.f0 x.f1 x.f2.f0 x.f2.f1 x.f3 now).getD false
theorem peer_eq (n : Int) : tracker_peer.f n = some (decide (1 ≤ n ∧ n ≤ 15)) := by
  unfold tracker_peer.f
  by_cases h : n ≥ 1
  · rw [if_pos h]; congr 1; simp; omega
  · rw [if_neg h]; congr 1; simp; omega
theorem within_eq (n : Int) : plane_within.f n = some (decide (-1048576 ≤ n ∧ n ≤ 1048576)) := by
  unfold plane_within.f
  split
  · congr 1; simp; omega
  · congr 1; simp; omega
theorem check_eq (x y : Int) : plane_Check.f x y = some (decide (-1048576 ≤ x ∧ x ≤ 1048576) && decide (-1048576 ≤ y ∧ y ≤ 1048576)) := by
  unfold plane_Check.f
  rw [within_eq, within_eq]
  by_cases h : (-1048576 ≤ x ∧ x ≤ 1048576)
  · simp [h]
  · simp [h]
theorem may_eq (x : Nt) (now : Int) : tracker_may.f x.f0 x.f1 x.f2.f0 x.f2.f1 x.f3 now = some (mayB x now) := by
  unfold mayB
  cases h : tracker_may.f x.f0 x.f1 x.f2.f0 x.f2.f1 x.f3 now with
  | some r => rfl
  | none =>
    exfalso
    unfold tracker_may.f at h
    simp only [tick_eq, peer_eq, check_eq, Option.bind_some] at h
    repeat' split at h
    all_goals cases h
/-- What may be announced. -/
theorem may_iff (x : Nt) (now : Int) : mayB x now = true ↔ tickB now = true ∧ x.f0.size = 32 ∧ (1 ≤ x.f1 ∧ x.f1 ≤ 15) ∧ ((-1048576 ≤ x.f2.f0 ∧ x.f2.f0 ≤ 1048576) ∧ (-1048576 ≤ x.f2.f1 ∧ x.f2.f1 ≤ 1048576)) ∧ now ≤ x.f3 ∧ x.f3 ≤ 1099511627776 := by
  have h := may_eq x now
  unfold tracker_may.f at h
  simp only [tick_eq, peer_eq, check_eq, Option.bind_some] at h
  by_cases c1 : tickB now = true
  · rw [if_pos c1] at h
    by_cases c2 : (x.f0.size : Int) = 32
    · rw [if_pos c2] at h
      have c2' : x.f0.size = 32 := by omega
      by_cases c3 : (1 ≤ x.f1 ∧ x.f1 ≤ 15)
      · rw [if_pos (decide_eq_true c3)] at h
        by_cases c4 : ((-1048576 ≤ x.f2.f0 ∧ x.f2.f0 ≤ 1048576) ∧ (-1048576 ≤ x.f2.f1 ∧ x.f2.f1 ≤ 1048576))
        · rw [if_pos (by simp [c4])] at h
          by_cases c5 : x.f3 ≥ now
          · rw [if_pos c5] at h
            rw [← Option.some.inj h]
            simp [c1, c2', c3, c4]
            omega
          · rw [if_neg c5] at h
            rw [← Option.some.inj h]
            simp
            omega
        · rw [if_neg (by simpa using c4)] at h
          rw [← Option.some.inj h]
          simp
          intro _ _ _ _ h1 h2 h3 h4
          exact absurd ⟨⟨h1, h2⟩, h3, h4⟩ c4
      · rw [if_neg (by simpa using c3)] at h
        rw [← Option.some.inj h]
        simp
        intro _ _ h1 h2
        exact absurd ⟨h1, h2⟩ c3
    · rw [if_neg c2] at h
      rw [← Option.some.inj h]
      simp
      intro _ h1
      omega
  · rw [if_neg c1] at h
    rw [← Option.some.inj h]
    simp [c1]
/-- A note is put into the table. -/
def putT (x : Nt) (T : List UInt8 → Nat → Option Nt) : List UInt8 → Nat → Option Nt := fun s j => if s = nameS x ∧ (j : Int) = x.f1 then some x else T s j
/-- What Announce answers, and what the table then holds. -/
inductive Ann (room : Int) (x : Nt) (now : Int) (T : List UInt8 → Nat → Option Nt) : Int → (List UInt8 → Nat → Option Nt) → Prop
  | arg : mayB x now = false → Ann room x now T 1 T
  | full (ss : List (List UInt8)) : mayB x now = true → nodesL T (nameS x) now = [] → NamesAre T now ss → room ≤ ss.length → Ann room x now T 6 T
  | ok : mayB x now = true → (nodesL T (nameS x) now ≠ [] ∨ ∃ ss, NamesAre T now ss ∧ (ss.length : Int) < room) → Ann room x now T 0 (putT x (fun s j => swp now (T s j)))
theorem Tab.mono {W : World} {lo t bm n n' : Nat} {room : Int} {D : DataW Unit} {T : List UInt8 → Nat → Option Nt} (h : Tab W lo t bm n room D T) (hn : n ≤ n') : Tab W lo t bm n' room D T :=
  ⟨h.hdr, h.own.mono hn, h.lom, h.gone, h.ent, h.inj, h.note⟩
set_option maxHeartbeats 4000000 in
set_option maxRecDepth 100000 in
theorem announce_arg {lo t bm n : Nat} {room : Int} {D : DataW Unit} {T : List UInt8 → Nat → Option Nt} (x : Nt) (now : Int) (w : World) (h : Tab w lo t bm n room D T) (hm : mayB x now = false) :
    Calls Tryz.prog 10 #[.pointer (some ⟨t, 0, none⟩), .agg #[.string x.f0, .int .i64 x.f1, .int .i64 x.f2.f0, .int .i64 x.f2.f1, .int .i64 x.f3], .int .i64 now] w fun e w' => e = .returned (.int .i64 1) ∧ Below w.heap.size w w' := by
  have hMy := fun w => tracker_may.calls x.f0 x.f1 x.f2.f0 x.f2.f1 x.f3 now false w (by rw [may_eq, hm])
  have hB1 : Below w.heap.size w (w.alloc (.cells #[.string x.f0, .int .i64 x.f1, .int .i64 x.f2.f0, .int .i64 x.f2.f1, .int .i64 x.f3] 35)) := (Below.refl _ w).alloc (Nat.le_refl _) _
  have hn1 : (w.alloc (.cells #[.string x.f0, .int .i64 x.f1, .int .i64 x.f2.f0, .int .i64 x.f2.f1, .int .i64 x.f3] 35)).heap[w.heap.size]? = some (.cells #[.string x.f0, .int .i64 x.f1, .int .i64 x.f2.f0, .int .i64 x.f2.f1, .int .i64 x.f3] 35 (0, 0)) := blk_new w _
  have e0 := blk_cell hn1 0
  have e1 := blk_cell hn1 1
  have e2 := blk_cell hn1 2
  have e3 := blk_cell hn1 3
  have e4 := blk_cell hn1 4
  clear h hn1
  go_enter Tryz.func10, Tryz.ntmps10
  go_wp2_with (go_at_call 33; refine (hMy _).mono ?_; rintro e w1 ⟨rfl, hd⟩)
  go_ret
  exact ⟨rfl, hB1.trans (hd.mono hB1.size)⟩
set_option maxHeartbeats 4000000 in
set_option maxRecDepth 100000 in
theorem announce_full {lo t bm n : Nat} {room : Int} {D : DataW Unit} {T : List UInt8 → Nat → Option Nt} (x : Nt) (now : Int) (w : World) (h : Tab w lo t bm n room D T) (hn : n ≤ 90000) (hx : x.f0.size ≤ maxLen) (hm : mayB x now = true) (hN : nodesL T (nameS x) now = []) (hF : room ≤ ((namesL T now D).length : Nat)) :
    Calls Tryz.prog 10 #[.pointer (some ⟨t, 0, none⟩), .agg #[.string x.f0, .int .i64 x.f1, .int .i64 x.f2.f0, .int .i64 x.f2.f1, .int .i64 x.f3], .int .i64 now] w fun e w' => e = .returned (.int .i64 6) ∧ Below w.heap.size w w' := by
  have hMy := fun w => tracker_may.calls x.f0 x.f1 x.f2.f0 x.f2.f1 x.f3 now true w (by rw [may_eq, hm])
  have hB1 : Below w.heap.size w (w.alloc (.cells #[.string x.f0, .int .i64 x.f1, .int .i64 x.f2.f0, .int .i64 x.f2.f1, .int .i64 x.f3] 35)) := (Below.refl _ w).alloc (Nat.le_refl _) _
  have hn1 : (w.alloc (.cells #[.string x.f0, .int .i64 x.f1, .int .i64 x.f2.f0, .int .i64 x.f2.f1, .int .i64 x.f3] 35)).heap[w.heap.size]? = some (.cells #[.string x.f0, .int .i64 x.f1, .int .i64 x.f2.f0, .int .i64 x.f2.f1, .int .i64 x.f3] 35 (0, 0)) := blk_new w _
  have e0 := blk_cell hn1 0
  have e1 := blk_cell hn1 1
  have e2 := blk_cell hn1 2
  have e3 := blk_cell hn1 3
  have e4 := blk_cell hn1 4
  have HT := Aside.mk h
  have hNd := fun W (hb : Below w.heap.size w W) => nodes x.f0 hx now W (HT.out.below hb)
  rw [show x.f0.data.toList = nameS x from rfl, hN] at hNd
  have hLn := fun W (hb : Below w.heap.size w W) => len_calls now W (HT.out.below hb) (by omega)
  have c0 : w.cell? ⟨t, 0, none⟩ = some (.int .i64 room) := blk_cell h.hdr 0
  generalize (namesL T now D).length = L at *
  have hge : ((L : Nat) : Int) ≥ room := hF
  clear h hN
  go_enter Tryz.func10, Tryz.ntmps10
  go_wp2_with (go_at_call 33; refine (hMy _).mono ?_; rintro e w1 ⟨rfl, hd⟩; have hB2 := hB1.trans (hd.mono hB1.size); have hlw1 := hd.size)
  have n0 := (blk_cell (blk_below hn1 hd) 0)
  have c0b := (hB2.cell (World.block_lt_of_cell? w _ c0)).trans c0
  have hlt0 : w.heap.size < w1.heap.size := World.block_lt_of_cell? _ _ n0
  have hlt1 : t < w1.heap.size := World.block_lt_of_cell? _ _ c0b
  go_region_held3 (fun w' => w'.cell? ⟨w.heap.size, 0, none⟩ = some (.string x.f0) ∧ w'.cell? ⟨t, 0, none⟩ = some (.int .i64 room)) (first | exact ⟨g0, g1⟩ | exact ⟨f0, f1⟩ | exact ⟨n0, c0b⟩) (first
    | ((with_reducible refine (hNd _ ?bel).mono ?_); (case bel => repeat (first | exact hB2 | apply pw_below_drewN | apply below_drew1)); rintro e w4 ⟨v, rfl, hR, hb4⟩; obtain ⟨A4, c4, rfl, _, _⟩ := Kd.R_reads hR; have hB2d := below_drew1 hB2; have hB4 := hB2d.trans (Below.mono hb4 hB2d.size); have f0 := (hb4.cell (p := ⟨w.heap.size, 0, none⟩) (by exact hlt0)).trans n0; have f1 := (hb4.cell (p := ⟨t, 0, none⟩) (by exact hlt1)).trans c0b; have hlt2 := Nat.lt_of_lt_of_le hlt0 hb4.size; have hlt3 := Nat.lt_of_lt_of_le hlt1 hb4.size)
    | ((with_reducible refine (hLn _ ?bel).mono ?_); (case bel => repeat (first | exact hB4 | apply pw_below_drewN | apply below_drew1)); rintro e w5 ⟨rfl, hb5⟩; have hB5 := hB4.trans (Below.mono hb5 hB4.size); have g0 := (hb5.cell (p := ⟨w.heap.size, 0, none⟩) (by exact hlt2)).trans f0; have g1 := (hb5.cell (p := ⟨t, 0, none⟩) (by exact hlt3)).trans f1))
  all_goals go_wp2_with fail
  all_goals go_ret
  all_goals exact ⟨rfl, hB5⟩
end Go.Proofs.YtmimnlbkllgfpaaGreatDoor.Tb
/- A new name in the table; a note at its place. -/
namespace Go.Proofs.YtmimnlbkllgfpaaGreatDoor.Tb
set_option linter.unusedVariables false
set_option linter.unusedSimpArgs false
open Go.RowKit Go.Maps Go.Proofs.YtmimnlbkllgfpaaGreatDoor.A Go.Proofs.YtmimnlbkllgfpaaGreatDoorW.PrintWords

theorem Tab.add {W W' : World} {lo t bm n nb : Nat} {room : Int} {D : DataW Unit} {T : List UInt8 → Nat → Option Nt} (h : Tab W lo t bm n room D T) (s : List UInt8) (hs : has D (.string s) = false) (hg : W.grownBy W' (some bm)) (hown : W'.ownsMap Tryz.prog 9 ptrE bm (n + 1) (D.put (.string s) (blkD nb)))
    (hE : Ent W nb (fun _ => none)) (hlo : lo ≤ nb) (hf : ∀ s' b, has D (.string s') = true → D.atKey (.string s') nilD = blkD b → b ≠ nb) : Tab W' lo t bm (n + 1) room (D.put (.string s) (blkD nb)) T := by
  obtain ⟨es, clock, hm, _⟩ := h.own
  have hD : IsMap D := h.own.isMap
  have keep : ∀ (k : Nat) (o : Obj), W.heap[k]? = some o → (∀ c z, o ≠ .map c z) → W'.heap[k]? = some o := fun k o hk ho =>
    (hg.block k (lt_of_some hk) (fun e => by cases e; rw [hm] at hk; cases hk; exact ho _ _ rfl)).trans hk
  have kE : ∀ b f, Ent W b f → Ent W' b f := fun b f ⟨cur, hc, hsz, hf⟩ => ⟨cur, keep _ _ hc (by simp), hsz, fun j hj => by
    rcases hf j hj with h | ⟨x, nb, g1, g2, g3⟩
    · exact Or.inl h
    · exact Or.inr ⟨x, nb, g1, g2, keep _ _ g3 (by simp)⟩⟩
  have hd : ∀ s', s' ≠ s → has (D.put (.string s) (blkD nb)) (.string s') = has D (.string s') ∧ (D.put (.string s) (blkD nb)).atKey (.string s') nilD = D.atKey (.string s') nilD := fun s' hne => by
    have hne' : (Lit.string s') ≠ .string s := fun e => hne (by cases e; rfl)
    exact ⟨has_put_other hne' _, atKey_put_other hne' _ _⟩
  have hsame : (D.put (.string s) (blkD nb)).atKey (.string s) nilD = blkD nb := atKey_put_same hD (key_lit s) _ _
  have hhs : has (D.put (.string s) (blkD nb)) (.string s) = true := has_put_same hD (key_lit s) _
  refine ⟨keep _ _ h.hdr (by simp), hown, h.lom, fun s' hs' j => ?_, fun s' hs' => ?_, fun s1 s2 b h1 h2 h3 h4 => ?_, h.note⟩
  · by_cases e : s' = s
    · subst e; rw [hhs] at hs'; cases hs'
    · rw [(hd s' e).1] at hs'
      exact h.gone s' hs' j
  · by_cases e : s' = s
    · subst e
      refine ⟨nb, hlo, hsame, (kE _ _ hE).ext (fun j _ => (h.gone s' hs j).symm)⟩
    · rw [(hd s' e).1] at hs'
      obtain ⟨b, h0, hb, hEb⟩ := h.ent s' hs'
      exact ⟨b, h0, (hd s' e).2.trans hb, kE _ _ hEb⟩
  · by_cases e1 : s1 = s
    · subst e1
      by_cases e2 : s2 = s1
      · exact e2.symm
      · rw [(hd s2 e2).1] at h2
        rw [(hd s2 e2).2] at h4
        rw [hsame] at h3
        exact absurd (blk_inj h3.symm) (hf s2 b h2 h4)
    · rw [(hd s1 e1).1] at h1
      rw [(hd s1 e1).2] at h3
      by_cases e2 : s2 = s
      · subst e2
        rw [hsame] at h4
        exact absurd (blk_inj h4.symm) (hf s1 b h1 h3)
      · rw [(hd s2 e2).1] at h2
        rw [(hd s2 e2).2] at h4
        exact h.inj s1 s2 b h1 h2 h3 h4
/-- The note is put at its place. -/
theorem Tab.putn {W : World} {lo t bm n b nb j : Nat} {room : Int} {D : DataW Unit} {T : List UInt8 → Nat → Option Nt} (h : Tab W lo t bm n room D T) (x : Nt) (hs : has D (.string (nameS x)) = true) (hb : D.atKey (.string (nameS x)) nilD = blkD b) (hj : x.f1 = (j : Int)) (h1 : 1 ≤ j ∧ j < 16) (hnb : W.heap[nb]? = some (.cells (ntC x) 35 (0, 0))) :
    Tab (W.setCell ⟨b, j, none⟩ (.pointer (some ⟨nb, 0, none⟩))) lo t bm n room D (putT x T) ∧ Kp lo W (W.setCell ⟨b, j, none⟩ (.pointer (some ⟨nb, 0, none⟩))) := by
  obtain ⟨b0, hlo, hb0, hE⟩ := h.ent _ hs
  obtain rfl : b0 = b := blk_inj (hb0.symm.trans hb)
  have hp := hE.put h1.2 (some x) (some ⟨nb, 0, none⟩) (Or.inr ⟨x, nb, rfl, rfl, hnb⟩)
  have hT := h.entry (nameS x) hs hb (grown_set W b0 j _) _ hp (fun i y hy => by
    by_cases e : i = j
    · subst e
      simp only [if_true] at hy
      cases hy
      exact ⟨rfl, hj, h1⟩
    · simp only [if_neg e] at hy
      exact h.note _ _ _ hy)
  refine ⟨?_, ?_⟩
  · have e : (fun s' i => if s' = nameS x then (if i = j then some x else T (nameS x) i) else T s' i) = putT x T := by
      funext s' i
      unfold putT
      by_cases e1 : s' = nameS x
      · subst e1
        rw [if_pos rfl]
        by_cases e2 : i = j
        · subst e2; rw [if_pos rfl, if_pos ⟨rfl, hj.symm⟩]
        · rw [if_neg e2, if_neg (fun hh => e2 (by have := hh.2; omega))]
      · rw [if_neg e1, if_neg (fun hh => e1 hh.1)]
    rw [← e]; exact hT
  · obtain ⟨cur, hc, _, _⟩ := hE
    exact Kp.set hlo hc _
theorem ent_new (W : World) : Ent (W.alloc (.cells #[.pointer none, .pointer none, .pointer none, .pointer none, .pointer none, .pointer none, .pointer none, .pointer none, .pointer none, .pointer none, .pointer none, .pointer none, .pointer none, .pointer none, .pointer none, .pointer none] 87)) W.heap.size (fun _ => none) :=
  ⟨_, blk_new W _, rfl, fun j hj => Or.inl ⟨rfl, by
    rcases j with _ | _ | _ | _ | _ | _ | _ | _ | _ | _ | _ | _ | _ | _ | _ | _ | j
    all_goals first | rfl | omega⟩⟩
end Go.Proofs.YtmimnlbkllgfpaaGreatDoor.Tb
