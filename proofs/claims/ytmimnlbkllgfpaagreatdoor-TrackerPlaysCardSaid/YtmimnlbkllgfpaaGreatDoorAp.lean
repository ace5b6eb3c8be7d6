/- Table.Announce where it announces: walked. -/
import Derived.Test.YtmimnlbkllgfpaaGreatDoorAx2
import Derived.Test.YtmimnlbkllgfpaaGreatDoorTn
import Derived.Test.YtmimnlbkllgfpaaGreatDoorWMore
namespace Go.Proofs.YtmimnlbkllgfpaaGreatDoor.Tb
set_option linter.unusedVariables false
set_option linter.unusedSimpArgs false
open Go.RowKit Go.Maps Go.Proofs.YtmimnlbkllgfpaaGreatDoor.A Go.Proofs.YtmimnlbkllgfpaaGreatDoorW.PrintWords Go.Proofs.YtmimnlbkllgfpaaGreatDoorW.PrintLast
set_option linter.unusedSimpArgs false
set_option linter.unusedVariables false

set_option maxHeartbeats 8000000 in
set_option maxRecDepth 100000 in
theorem announce_new {lo t bm n : Nat} {room : Int} {D : DataW Unit} {T : List UInt8 → Nat → Option Nt} (x : Nt) (now : Int) (w : World) (h : Tab w lo t bm n room D T) (hn : n ≤ 90000) (hlw : lo ≤ w.heap.size) (hx : x.f0.size ≤ maxLen) (hm : mayB x now = true) (hN : nodesL T (nameS x) now = []) (hF : ((namesL T now D).length : Nat) < room) :
    Calls Tryz.prog 10 #[.pointer (some ⟨t, 0, none⟩), .agg #[.string x.f0, .int .i64 x.f1, .int .i64 x.f2.f0, .int .i64 x.f2.f1, .int .i64 x.f3], .int .i64 now] w fun e w' => e = .returned (.int .i64 0) ∧ ∃ D', Tab w' lo t bm (n + 1) room D' (putT x (fun s j => swp now (T s j))) ∧ Kp lo w w' := by
  have hMy := fun w => tracker_may.calls x.f0 x.f1 x.f2.f0 x.f2.f1 x.f3 now true w (by rw [may_eq, hm])
  have hB1 : Below w.heap.size w (w.alloc (.cells #[.string x.f0, .int .i64 x.f1, .int .i64 x.f2.f0, .int .i64 x.f2.f1, .int .i64 x.f3] 35)) := (Below.refl _ w).alloc (Nat.le_refl _) _
  have hn1 : (w.alloc (.cells #[.string x.f0, .int .i64 x.f1, .int .i64 x.f2.f0, .int .i64 x.f2.f1, .int .i64 x.f3] 35)).heap[w.heap.size]? = some (.cells #[.string x.f0, .int .i64 x.f1, .int .i64 x.f2.f0, .int .i64 x.f2.f1, .int .i64 x.f3] 35 (0, 0)) := blk_new w _
  have e0 := blk_cell hn1 0
  have e1 := blk_cell hn1 1
  have e2 := blk_cell hn1 2
  have e3 := blk_cell hn1 3
  have e4 := blk_cell hn1 4
  have HT := Aside.mk h
  have HM := Aside.mk ((may_iff x now).1 hm)
  have hNd := fun W (hb : Below w.heap.size w W) => nodes x.f0 hx now W (HT.out.below hb)
  rw [show x.f0.data.toList = nameS x from rfl, hN] at hNd
  have hLn := fun W (hb : Below w.heap.size w W) => len_calls now W (HT.out.below hb) (by omega)
  generalize (namesL T now D).length = L at *
  have hge : ¬ ((L : Nat) : Int) ≥ room := by omega
  have hge2 : ¬ room ≤ ((L : Nat) : Int) := by omega
  clear hN
  have c0 : w.cell? ⟨t, 0, none⟩ = some (.int .i64 room) := blk_cell h.hdr 0
  have hSw := fun W (hb : Below w.heap.size w W) => sweep now W (HT.out.below hb) (Nat.le_trans hlw hb.size)
  clear h hm
  go_enter Tryz.func10, Tryz.ntmps10
  go_wp2_with (go_at_call 33; refine (hMy _).mono ?_; rintro e w1 ⟨rfl, hd⟩; have hB2 := hB1.trans (hd.mono hB1.size); have hn2 := blk_below hn1 hd)
  have n0 := blk_cell hn2 0
  have c0b := (hB2.cell (World.block_lt_of_cell? w _ c0)).trans c0
  have hlt0 : w.heap.size < w1.heap.size := World.block_lt_of_cell? _ _ n0
  have hlt1 : t < w1.heap.size := World.block_lt_of_cell? _ _ c0b
  go_region_held3 (fun w' => w'.cell? ⟨w.heap.size, 0, none⟩ = some (.string x.f0) ∧ w'.cell? ⟨t, 0, none⟩ = some (.int .i64 room)) (first | exact ⟨g0, g1⟩ | exact ⟨f0, f1⟩ | exact ⟨n0, c0b⟩) (first
    | ((with_reducible refine (hNd _ ?bel).mono ?_); (case bel => repeat (first | exact hB2 | apply pw_below_drewN | apply below_drew1)); rintro e w4 ⟨v, rfl, hR, hb4⟩; obtain ⟨A4, c4, rfl, _, _⟩ := Kd.R_reads hR; have hB2d := below_drew1 hB2; have hB4 := hB2d.trans (Below.mono hb4 hB2d.size); have f0 := (hb4.cell (p := ⟨w.heap.size, 0, none⟩) (by exact hlt0)).trans n0; have f1 := (hb4.cell (p := ⟨t, 0, none⟩) (by exact hlt1)).trans c0b; have hlt2 := Nat.lt_of_lt_of_le hlt0 hb4.size; have hlt3 := Nat.lt_of_lt_of_le hlt1 hb4.size)
    | ((with_reducible refine (hLn _ ?bel).mono ?_); (case bel => repeat (first | exact hB4 | apply pw_below_drewN | apply below_drew1)); rintro e w5 ⟨rfl, hb5⟩; have hB5 := hB4.trans (Below.mono hb5 hB4.size); have g0 := (hb5.cell (p := ⟨w.heap.size, 0, none⟩) (by exact hlt2)).trans f0; have g1 := (hb5.cell (p := ⟨t, 0, none⟩) (by exact hlt3)).trans f1))
  all_goals go_wp2_with (go_at_call 34; refine (hSw _ hB5).mono ?_; rintro e w6 ⟨rfl, D1, hT6, hK6⟩)
  have hn6 : w6.heap[w.heap.size]? = some (.cells (ntC x) 35 (0, 0)) := by
    have hnW : w5.heap[w.heap.size]? = some (.cells (ntC x) 35 (0, 0)) := (hb5.block _ hlt2).trans ((hb4.block _ hlt0).trans hn2)
    exact hK6.oth _ _ hnW rfl
  have c6 : w6.cell? ⟨t, 1, none⟩ = some (.map (some bm)) := blk_cell hT6.hdr 1
  have m0 : w6.cell? ⟨w.heap.size, 0, none⟩ = some (.string x.f0) := blk_cell hn6 0
  have m1 : w6.cell? ⟨w.heap.size, 1, none⟩ = some (.int .i64 x.f1) := blk_cell hn6 1
  have HT6 := Aside.mk hT6
  have HK6 : Aside (Kp lo w w6) := ⟨(Kp.of_below hB5).trans hK6⟩
  obtain ⟨j, hj⟩ : ∃ j : Nat, x.f1 = (j : Int) := ⟨x.f1.toNat, by have := HM.out; omega⟩
  have hj16 : 1 ≤ j ∧ j < 16 := by have := HM.out; omega
  have HJ := Aside.mk hj
  have gj : (j : Int) < 16 := by omega
  have gj0 : (0 : Int) ≤ (j : Int) := by omega
  rw [hj] at m1
  clear hj hK6
  cases hh : has D1 (.string (nameS x)) with
  | true =>
    obtain ⟨b, hlb, hat, hE⟩ := hT6.ent _ hh
    have hl6 := hT6.look_some x.f0 hx hat
    have hl6d := (hT6.below (below_drew1 (Below.refl _ _))).look_some x.f0 hx hat
    have hl6e := (hT6.below (below_drew1 (below_drew1 (Below.refl _ _)))).look_some x.f0 hx hat
    have hz : w6.frozen? ⟨b, j, none⟩ = false := by
      obtain ⟨cur, hb, _, _⟩ := hE
      exact blk_frozen hb j
    obtain ⟨pe, hpe, _⟩ := hE.ptrs
    have hcj := hpe j hj16.2
    have HF := Aside.mk (hT6.putn x hh hat HJ.out hj16 hn6)
    clear hT6 hE hpe
    go_region
    all_goals go_wp2_with fail
    all_goals go_region
    all_goals go_wp2_with fail
    all_goals go_ret
    all_goals exact ⟨rfl, D1, (HF.out.1.below (below_drew1 (below_drew1 (Below.refl _ _)))).mono (Nat.le_succ _), (HK6.out.trans HF.out.2).trans (Kp.of_below (below_drew1 (below_drew1 (Below.refl _ _))))⟩
  | false =>
    have hl6 := hT6.look_none x.f0 hx hh
    have hl6d := (hT6.below (below_drew1 (Below.refl _ _))).look_none x.f0 hx hh
    go_region
    all_goals go_wp2_with fail
    refine start_ (n := 9) (S := fun w' => w'.cell? ⟨w.heap.size, 0, none⟩ = some (.string x.f0) ∧ w'.cell? ⟨t, 1, none⟩ = some (.map (some bm))) (ds := [8]) #[false, false, false, false, false, false, false, false, false] (by kernel_rfl) rfl rfl ⟨m0, c6⟩ (fun hHeld => ?_)
    refine pure_ (i := 0) (N := some 43) (v := ?_) (a' := ?_) #[true, false, false, false, false, false, false, false, false] rfl rfl (by kernel_rfl) (fun _ _ _ h => h) (Or.inl ⟨by rfl, ?_⟩) ?_ ?_
    rotate_left
    · intro w'
      go_simp
      with_reducible rfl
    rotate_left
    · simp only [Act.put, List.setIfInBounds_toArray, List.set_cons_zero, List.set_cons_succ, i64_w, i32_w, IntKind.wrap_u8]
      rfl
    refine pure_ (i := 1) (N := some 44) (v := ?_) (a' := ?_) #[true, true, false, false, false, false, false, false, false] rfl rfl (by kernel_rfl) (fun _ _ _ h => h) (Or.inl ⟨by rfl, ?_⟩) ?_ ?_
    rotate_left
    · intro w'
      go_simp
      with_reducible rfl
    rotate_left
    · simp only [Act.put, List.setIfInBounds_toArray, List.set_cons_zero, List.set_cons_succ, i64_w, i32_w, IntKind.wrap_u8]
      rfl
    refine pure_ (i := 2) (N := some 45) (v := ?_) (a' := ?_) #[true, true, true, false, false, false, false, false, false] rfl rfl (by kernel_rfl) (fun _ _ _ h => h) (Or.inl ⟨by rfl, ?_⟩) ?_ ?_
    rotate_left
    · intro w'
      go_simp
      with_reducible rfl
    rotate_left
    · simp only [Act.put, List.setIfInBounds_toArray, List.set_cons_zero, List.set_cons_succ, i64_w, i32_w, IntKind.wrap_u8]
      rfl
    refine pure_ (i := 4) (N := some 47) (v := ?_) (a' := ?_) #[true, true, true, false, true, false, false, false, false] rfl rfl (by kernel_rfl) (fun _ _ _ h => h) (Or.inl ⟨by rfl, ?_⟩) ?_ ?_
    rotate_left
    · intro w'
      go_simp
      with_reducible rfl
    rotate_left
    · simp only [Act.put, List.setIfInBounds_toArray, List.set_cons_zero, List.set_cons_succ, i64_w, i32_w, IntKind.wrap_u8]
      rfl
    refine take_ (i := 3) (N := some 46) (v := ?_) (a' := ?_) #[true, true, true, true, true, false, false, false, false] rfl rfl (by kernel_rfl) (fun _ _ _ h => h) (Or.inl ⟨by rfl, ?_⟩) hHeld ?_ ?_
    rotate_left
    · rintro w' ⟨s0, s1⟩
      go_simp
      with_reducible rfl
    rotate_left
    · simp only [Act.put, List.setIfInBounds_toArray, List.set_cons_zero, List.set_cons_succ, i64_w, i32_w, IntKind.wrap_u8]
      rfl
    refine take_ (i := 5) (N := some 48) (v := ?_) (a' := ?_) #[true, true, true, true, true, true, false, false, false] rfl rfl (by kernel_rfl) (fun _ _ _ h => h) (Or.inl ⟨by rfl, ?_⟩) hHeld ?_ ?_
    rotate_left
    · rintro w' ⟨s0, s1⟩
      go_simp
      with_reducible rfl
    rotate_left
    · simp only [Act.put, List.setIfInBounds_toArray, List.set_cons_zero, List.set_cons_succ, i64_w, i32_w, IntKind.wrap_u8]
      rfl
    refine pure_ (i := 6) (N := some 49) (v := ?_) (a' := ?_) #[true, true, true, true, true, true, true, false, false] rfl rfl (by kernel_rfl) (fun _ _ _ h => h) (Or.inl ⟨by rfl, ?_⟩) ?_ ?_
    rotate_left
    · intro w'
      go_simp
      with_reducible rfl
    rotate_left
    · simp only [Act.put, List.setIfInBounds_toArray, List.set_cons_zero, List.set_cons_succ, i64_w, i32_w, IntKind.wrap_u8]
      rfl
    refine one_ (i := 7) (N := some 50) #[true, true, true, true, true, true, true, true, false] rfl rfl (by kernel_rfl) (by decide) (fun K hK => ?_)
    refine value_ (w1 := ?_) (v := ?_) (by rfl) rfl ?_ ?_
    rotate_left 2
    · go_simp
      constructor
      · rfl
      · rfl
    have hBd : Below w6.drew.drew.heap.size w6.drew.drew (w6.drew.drew.alloc (.cells #[.pointer none, .pointer none, .pointer none, .pointer none, .pointer none, .pointer none, .pointer none, .pointer none, .pointer none, .pointer none, .pointer none, .pointer none, .pointer none, .pointer none, .pointer none, .pointer none] 87)) := (Below.refl _ _).alloc (Nat.le_refl _) _
    refine hK.out _ _ ⟨(hBd.cell (p := ⟨w.heap.size, 0, none⟩) (by exact World.block_lt_of_cell? w6 _ m0)).trans m0, (hBd.cell (p := ⟨t, 1, none⟩) (by exact World.block_lt_of_cell? w6 _ c6)).trans c6⟩ (fun hHeld => ?_)
    clear hK K
    refine norm_ (a' := ?_) ?_ ?_
    rotate_left
    · show Act.put _ (some 50) _ = _
      simp only [Act.put, List.setIfInBounds_toArray, List.set_cons_zero, List.set_cons_succ, i64_w, i32_w, IntKind.wrap_u8]
      rfl
    refine last_ (i := 8) (N := none) #[true, true, true, true, true, true, true, true, true] rfl rfl (by kernel_rfl) (by decide) (fun K hK => ?_)
    have hTd : Tab w6.drew.drew lo t bm n room D1 (fun s j => swp now (T s j)) := HT6.out.below (below_drew1 (below_drew1 (Below.refl _ _)))
    have hT8 := hTd.below hBd
    have hE8 := ent_new w6.drew.drew
    obtain ⟨w9, hrun9, hown9, hg9⟩ := hT8.own.update law9 Tryz.underlying76 (by unfold maxLen; omega) (key9 x.f0 hx) (ptrE_at w6.drew.drew.heap.size)
    have hrun8 : (Instr.mapUpdate 76 (.map (some bm)) (.string x.f0) (.pointer (some ⟨w6.heap.size, 0, none⟩))).run Tryz.prog (w6.alloc (.cells #[.pointer none, .pointer none, .pointer none, .pointer none, .pointer none, .pointer none, .pointer none, .pointer none, .pointer none, .pointer none, .pointer none, .pointer none, .pointer none, .pointer none, .pointer none, .pointer none] 87)).drew.drew = .ok () w9 := hrun9
    refine skip_ (w1 := w9) (by rfl) rfl ?_ ?_
    · go_simp
    refine hK.out _ _ ?_
    clear hK K
    refine done_ (by kernel_rfl) ?_
    have hnb8 : D1.put (.string (nameS x)) (blkD w6.drew.drew.heap.size) = D1.put (.string x.f0.data.toList) (.lit (.int .i64 (w6.drew.drew.heap.size : Int))) := rfl
    have hlo9 : lo ≤ w6.drew.drew.heap.size := Nat.le_trans hlw HK6.out.size
    have hT9 := hT8.add (nameS x) hh hg9 hown9 hE8 hlo9 (fun s' b h1 h2 => by
      obtain ⟨b', _, h3, cur, h4, _⟩ := hTd.ent s' h1
      obtain rfl : b' = b := blk_inj (h3.symm.trans h2)
      have := lt_of_some h4
      omega)
    have hat9 : (D1.put (.string (nameS x)) (blkD w6.drew.drew.heap.size)).atKey (.string (nameS x)) nilD = blkD w6.drew.drew.heap.size := atKey_put_same hT8.own.isMap (key_lit _) _ _
    have hh9 : has (D1.put (.string (nameS x)) (blkD w6.drew.drew.heap.size)) (.string (nameS x)) = true := has_put_same hT8.own.isMap (key_lit _) _
    have hK9 : Kp lo w6 w9 := (Kp.of_below (below_drew1 (below_drew1 (Below.refl _ _)))).trans ((Kp.of_below hBd).trans (by
      obtain ⟨es, clock, hm, _⟩ := hT8.own
      exact Kp.of_grown hg9 hT8.lom hm rfl))
    have hn9 : w9.heap[w.heap.size]? = some (.cells (ntC x) 35 (0, 0)) := hK9.oth _ _ hn6 rfl
    have c9 : w9.cell? ⟨t, 1, none⟩ = some (.map (some bm)) := blk_cell hT9.hdr 1
    have k0 : w9.cell? ⟨w.heap.size, 0, none⟩ = some (.string x.f0) := blk_cell hn9 0
    have k1 : w9.cell? ⟨w.heap.size, 1, none⟩ = some (.int .i64 x.f1) := blk_cell hn9 1
    rw [HJ.out] at k1
    have HK9 : Aside (Kp lo w w9) := ⟨HK6.out.trans hK9⟩
    generalize hNB : w6.drew.drew.heap.size = NB at *
    have hl9 := hT9.look_some x.f0 hx hat9
    have hl9d := (hT9.below (below_drew1 (Below.refl _ _))).look_some x.f0 hx hat9
    obtain ⟨b9, _, hb9, hE9⟩ := hT9.ent _ hh9
    obtain rfl : b9 = NB := blk_inj (hb9.symm.trans hat9)
    have hz9 : w9.frozen? ⟨b9, j, none⟩ = false := by
      obtain ⟨cur, hb, _, _⟩ := hE9
      exact blk_frozen hb j
    obtain ⟨pe, hpe, _⟩ := hE9.ptrs
    have hcj := hpe j hj16.2
    have HF := Aside.mk (hT9.putn x hh9 hat9 HJ.out hj16 hn9)
    clear hT6 hE9 hpe hT9 hT8 hTd hE8 hown9 hg9 hrun9 hK9 hBd hHeld hNB hnb8 hlo9 hrun8
    try go_wp2_with fail
    go_region
    all_goals go_wp2_with fail
    all_goals go_ret
    all_goals exact ⟨rfl, _, HF.out.1.below (below_drew1 (Below.refl _ _)), (HK9.out.trans HF.out.2).trans (Kp.of_below (below_drew1 (Below.refl _ _)))⟩
set_option maxHeartbeats 8000000 in
set_option maxRecDepth 100000 in
theorem announce_old {lo t bm n : Nat} {room : Int} {D : DataW Unit} {T : List UInt8 → Nat → Option Nt} (x : Nt) (now : Int) (w : World) (h : Tab w lo t bm n room D T) (hn : n ≤ 90000) (hlw : lo ≤ w.heap.size) (hx : x.f0.size ≤ maxLen) (hm : mayB x now = true) (hN : nodesL T (nameS x) now ≠ []) :
    Calls Tryz.prog 10 #[.pointer (some ⟨t, 0, none⟩), .agg #[.string x.f0, .int .i64 x.f1, .int .i64 x.f2.f0, .int .i64 x.f2.f1, .int .i64 x.f3], .int .i64 now] w fun e w' => e = .returned (.int .i64 0) ∧ ∃ D', Tab w' lo t bm (n + 1) room D' (putT x (fun s j => swp now (T s j))) ∧ Kp lo w w' := by
  have hMy := fun w => tracker_may.calls x.f0 x.f1 x.f2.f0 x.f2.f1 x.f3 now true w (by rw [may_eq, hm])
  have hB1 : Below w.heap.size w (w.alloc (.cells #[.string x.f0, .int .i64 x.f1, .int .i64 x.f2.f0, .int .i64 x.f2.f1, .int .i64 x.f3] 35)) := (Below.refl _ w).alloc (Nat.le_refl _) _
  have hn1 : (w.alloc (.cells #[.string x.f0, .int .i64 x.f1, .int .i64 x.f2.f0, .int .i64 x.f2.f1, .int .i64 x.f3] 35)).heap[w.heap.size]? = some (.cells #[.string x.f0, .int .i64 x.f1, .int .i64 x.f2.f0, .int .i64 x.f2.f1, .int .i64 x.f3] 35 (0, 0)) := blk_new w _
  have e0 := blk_cell hn1 0
  have e1 := blk_cell hn1 1
  have e2 := blk_cell hn1 2
  have e3 := blk_cell hn1 3
  have e4 := blk_cell hn1 4
  have HT := Aside.mk h
  have HM := Aside.mk ((may_iff x now).1 hm)
  have hNd := fun W (hb : Below w.heap.size w W) => nodes x.f0 hx now W (HT.out.below hb)
  rw [show x.f0.data.toList = nameS x from rfl] at hNd
  obtain ⟨L, hL⟩ : ∃ L, L = nodesL T (nameS x) now := ⟨_, rfl⟩
  rw [← hL] at hNd hN
  have hlp : (((L.length : Nat) : Int) == 0) = false := by have := List.length_pos_iff.mpr hN; rw [beq_eq_false_iff_ne]; omega
  have hlp2 : ¬ ((L.length : Nat) : Int) = 0 := by have := List.length_pos_iff.mpr hN; omega
  clear hL
  have c0 : w.cell? ⟨t, 0, none⟩ = some (.int .i64 room) := blk_cell h.hdr 0
  have hSw := fun W (hb : Below w.heap.size w W) => sweep now W (HT.out.below hb) (Nat.le_trans hlw hb.size)
  clear h hm
  go_enter Tryz.func10, Tryz.ntmps10
  go_wp2_with (go_at_call 33; refine (hMy _).mono ?_; rintro e w1 ⟨rfl, hd⟩; have hB2 := hB1.trans (hd.mono hB1.size); have hn2 := blk_below hn1 hd)
  have n0 := blk_cell hn2 0
  have c0b := (hB2.cell (World.block_lt_of_cell? w _ c0)).trans c0
  have hlt0 : w.heap.size < w1.heap.size := World.block_lt_of_cell? _ _ n0
  have hlt1 : t < w1.heap.size := World.block_lt_of_cell? _ _ c0b
  refine start_ (n := 17) (S := fun w' => w'.cell? ⟨w.heap.size, 0, none⟩ = some (.string x.f0) ∧ w'.cell? ⟨t, 0, none⟩ = some (.int .i64 room)) (ds := []) #[false, false, false, false, false, false, false, false, false, false, false, false, false, false, false, false, false] (by kernel_rfl) rfl rfl ⟨n0, c0b⟩ (fun hHeld => ?_)
  refine pure_ (i := 0) (N := some 15) (v := ?_) (a' := ?_) #[true, false, false, false, false, false, false, false, false, false, false, false, false, false, false, false, false] rfl rfl (by kernel_rfl) (fun _ _ _ h => h) (Or.inl ⟨by rfl, ?_⟩) ?_ ?_
  rotate_left
  · intro w'
    go_simp
    with_reducible rfl
  rotate_left
  · simp only [Act.put, List.setIfInBounds_toArray, List.set_cons_zero, List.set_cons_succ, i64_w, i32_w, IntKind.wrap_u8]
    rfl
  refine pure_ (i := 1) (N := some 16) (v := ?_) (a' := ?_) #[true, true, false, false, false, false, false, false, false, false, false, false, false, false, false, false, false] rfl rfl (by kernel_rfl) (fun _ _ _ h => h) (Or.inl ⟨by rfl, ?_⟩) ?_ ?_
  rotate_left
  · intro w'
    go_simp
    with_reducible rfl
  rotate_left
  · simp only [Act.put, List.setIfInBounds_toArray, List.set_cons_zero, List.set_cons_succ, i64_w, i32_w, IntKind.wrap_u8]
    rfl
  refine pure_ (i := 3) (N := some 18) (v := ?_) (a' := ?_) #[true, true, false, true, false, false, false, false, false, false, false, false, false, false, false, false, false] rfl rfl (by kernel_rfl) (fun _ _ _ h => h) (Or.inl ⟨by rfl, ?_⟩) ?_ ?_
  rotate_left
  · intro w'
    go_simp
    with_reducible rfl
  rotate_left
  · simp only [Act.put, List.setIfInBounds_toArray, List.set_cons_zero, List.set_cons_succ, i64_w, i32_w, IntKind.wrap_u8]
    rfl
  refine take_ (i := 2) (N := some 17) (v := ?_) (a' := ?_) #[true, true, true, true, false, false, false, false, false, false, false, false, false, false, false, false, false] rfl rfl (by kernel_rfl) (fun _ _ _ h => h) (Or.inl ⟨by rfl, ?_⟩) hHeld ?_ ?_
  rotate_left
  · rintro w' ⟨s0, s1⟩
    go_simp
    with_reducible rfl
  rotate_left
  · simp only [Act.put, List.setIfInBounds_toArray, List.set_cons_zero, List.set_cons_succ, i64_w, i32_w, IntKind.wrap_u8]
    rfl
  refine one_ (i := 4) (N := some 19) #[true, true, true, true, true, false, false, false, false, false, false, false, false, false, false, false, false] rfl rfl (by kernel_rfl) (by decide) (fun K hK => ?_)
  refine goes_ Tryz.func20 (by kernel_rfl) rfl #[.pointer (some ⟨t, 0, none⟩), .string x.f0, .int .i64 now] (by rfl) rfl rfl (by (try simp only [List.map_toArray, List.map_cons, List.map_nil]); first | done | rfl) ?_
  have hB2d := below_drew1 hB2
  refine (hNd _ hB2d).mono ?_
  rintro e w4 ⟨v, rfl, hR, hb4⟩
  obtain ⟨A4, c4, rfl, _, _⟩ := Kd.R_reads hR
  have hB4 := hB2d.trans (Below.mono hb4 hB2d.size)
  have f0 := (hb4.cell (p := ⟨w.heap.size, 0, none⟩) (by exact hlt0)).trans n0
  have f1 := (hb4.cell (p := ⟨t, 0, none⟩) (by exact hlt1)).trans c0b
  refine ⟨_, rfl, ?_⟩
  refine hK _ _ ⟨f0, f1⟩ (fun hHeld => ?_)
  refine norm_ (a' := ?_) ?_ ?_
  rotate_left
  · show Act.put _ (some 19) _ = _
    simp only [Act.put, List.setIfInBounds_toArray, List.set_cons_zero, List.set_cons_succ, i64_w, i32_w, IntKind.wrap_u8]
    rfl
  refine pure_ (i := 5) (N := some 20) (v := ?_) (a' := ?_) #[true, true, true, true, true, true, false, false, false, false, false, false, false, false, false, false, false] rfl rfl (by kernel_rfl) (fun _ _ _ h => h) (Or.inl ⟨by rfl, ?_⟩) ?_ ?_
  rotate_left
  · intro w'
    go_simp
    with_reducible rfl
  rotate_left
  · simp only [Act.put, List.setIfInBounds_toArray, List.set_cons_zero, List.set_cons_succ, i64_w, i32_w, IntKind.wrap_u8]
    rfl
  refine pure_ (i := 6) (N := some 21) (v := ?_) (a' := ?_) #[true, true, true, true, true, true, true, false, false, false, false, false, false, false, false, false, false] rfl rfl (by kernel_rfl) (fun _ _ _ h => h) (Or.inl ⟨by rfl, ?_⟩) ?_ ?_
  rotate_left
  · intro w'
    go_simp
    with_reducible rfl
  rotate_left
  · simp only [Act.put, List.setIfInBounds_toArray, List.set_cons_zero, List.set_cons_succ, i64_w, i32_w, IntKind.wrap_u8]
    rfl
  refine pure_ (i := 7) (N := some 22) (v := ?_) (a' := ?_) #[true, true, true, true, true, true, true, true, false, false, false, false, false, false, false, false, false] rfl rfl (by kernel_rfl) (fun _ _ _ h => h) (Or.inl ⟨by rfl, ?_⟩) ?_ ?_
  rotate_left
  · intro w'
    go_simp
    with_reducible rfl
  rotate_left
  · simp only [Act.put, List.setIfInBounds_toArray, List.set_cons_zero, List.set_cons_succ, i64_w, i32_w, IntKind.wrap_u8]
    rfl
  refine pure_ (i := 8) (N := some 23) (v := undef) (a' := ?_) #[true, true, true, true, true, true, true, true, true, false, false, false, false, false, false, false, false] rfl rfl (by kernel_rfl) (fun _ _ _ h => h) (Or.inr ⟨by rfl, rfl⟩) ?_ ?_
  rotate_left
  · simp only [Act.put, List.setIfInBounds_toArray, List.set_cons_zero, List.set_cons_succ, i64_w, i32_w, IntKind.wrap_u8]
    rfl
  refine pure_ (i := 9) (N := some 24) (v := undef) (a' := ?_) #[true, true, true, true, true, true, true, true, true, true, false, false, false, false, false, false, false] rfl rfl (by kernel_rfl) (fun _ _ _ h => h) (Or.inr ⟨by rfl, rfl⟩) ?_ ?_
  rotate_left
  · simp only [Act.put, List.setIfInBounds_toArray, List.set_cons_zero, List.set_cons_succ, i64_w, i32_w, IntKind.wrap_u8]
    rfl
  refine pure_ (i := 11) (N := some 26) (v := undef) (a' := ?_) #[true, true, true, true, true, true, true, true, true, true, false, true, false, false, false, false, false] rfl rfl (by kernel_rfl) (fun _ _ _ h => h) (Or.inr ⟨by rfl, rfl⟩) ?_ ?_
  rotate_left
  · simp only [Act.put, List.setIfInBounds_toArray, List.set_cons_zero, List.set_cons_succ, i64_w, i32_w, IntKind.wrap_u8]
    rfl
  refine pure_ (i := 12) (N := some 27) (v := undef) (a' := ?_) #[true, true, true, true, true, true, true, true, true, true, false, true, true, false, false, false, false] rfl rfl (by kernel_rfl) (fun _ _ _ h => h) (Or.inr ⟨by rfl, rfl⟩) ?_ ?_
  rotate_left
  · simp only [Act.put, List.setIfInBounds_toArray, List.set_cons_zero, List.set_cons_succ, i64_w, i32_w, IntKind.wrap_u8]
    rfl
  refine pure_ (i := 13) (N := some 28) (v := undef) (a' := ?_) #[true, true, true, true, true, true, true, true, true, true, false, true, true, true, false, false, false] rfl rfl (by kernel_rfl) (fun _ _ _ h => h) (Or.inr ⟨by rfl, rfl⟩) ?_ ?_
  rotate_left
  · simp only [Act.put, List.setIfInBounds_toArray, List.set_cons_zero, List.set_cons_succ, i64_w, i32_w, IntKind.wrap_u8]
    rfl
  refine pure_ (i := 14) (N := some 29) (v := undef) (a' := ?_) #[true, true, true, true, true, true, true, true, true, true, false, true, true, true, true, false, false] rfl rfl (by kernel_rfl) (fun _ _ _ h => h) (Or.inr ⟨by rfl, rfl⟩) ?_ ?_
  rotate_left
  · simp only [Act.put, List.setIfInBounds_toArray, List.set_cons_zero, List.set_cons_succ, i64_w, i32_w, IntKind.wrap_u8]
    rfl
  refine one_ (i := 10) (N := some 25) #[true, true, true, true, true, true, true, true, true, true, true, true, true, true, true, false, false] rfl rfl (by kernel_rfl) (by decide) (fun K hK => ?_)
  refine off_ (by rfl) ?_
  refine hK _ _ hHeld (fun _ => ?_)
  refine norm_ (a' := ?_) ?_ ?_
  rotate_left
  · show Act.put _ (some 25) _ = _
    simp only [Act.put, List.setIfInBounds_toArray, List.set_cons_zero, List.set_cons_succ, i64_w, i32_w, IntKind.wrap_u8]
    rfl
  refine pure_ (i := 15) (N := some 30) (v := undef) (a' := ?_) #[true, true, true, true, true, true, true, true, true, true, true, true, true, true, true, true, false] rfl rfl (by kernel_rfl) (fun _ _ _ h => h) (Or.inr ⟨by rfl, rfl⟩) ?_ ?_
  rotate_left
  · simp only [Act.put, List.setIfInBounds_toArray, List.set_cons_zero, List.set_cons_succ, i64_w, i32_w, IntKind.wrap_u8]
    rfl
  refine pure_ (i := 16) (N := some 31) (v := ?_) (a' := ?_) #[true, true, true, true, true, true, true, true, true, true, true, true, true, true, true, true, true] rfl rfl (by kernel_rfl) (fun _ _ _ h => h) (Or.inl ⟨by rfl, ?_⟩) ?_ ?_
  rotate_left
  · intro w'
    go_simp
    with_reducible rfl
  rotate_left
  · simp only [Act.put, List.setIfInBounds_toArray, List.set_cons_zero, List.set_cons_succ, i64_w, i32_w, IntKind.wrap_u8]
    rfl
  refine done_ (by kernel_rfl) ?_
  all_goals go_wp2_with (go_at_call 34; refine (hSw _ hB4).mono ?_; rintro e w6 ⟨rfl, D1, hT6, hK6⟩)
  have hn6 : w6.heap[w.heap.size]? = some (.cells (ntC x) 35 (0, 0)) := by
    have hnW : w4.heap[w.heap.size]? = some (.cells (ntC x) 35 (0, 0)) := (hb4.block _ hlt0).trans hn2
    exact hK6.oth _ _ hnW rfl
  have c6 : w6.cell? ⟨t, 1, none⟩ = some (.map (some bm)) := blk_cell hT6.hdr 1
  have m0 : w6.cell? ⟨w.heap.size, 0, none⟩ = some (.string x.f0) := blk_cell hn6 0
  have m1 : w6.cell? ⟨w.heap.size, 1, none⟩ = some (.int .i64 x.f1) := blk_cell hn6 1
  have HT6 := Aside.mk hT6
  have HK6 : Aside (Kp lo w w6) := ⟨(Kp.of_below hB4).trans hK6⟩
  obtain ⟨j, hj⟩ : ∃ j : Nat, x.f1 = (j : Int) := ⟨x.f1.toNat, by have := HM.out; omega⟩
  have hj16 : 1 ≤ j ∧ j < 16 := by have := HM.out; omega
  have HJ := Aside.mk hj
  have gj : (j : Int) < 16 := by omega
  have gj0 : (0 : Int) ≤ (j : Int) := by omega
  rw [hj] at m1
  clear hj hK6
  cases hh : has D1 (.string (nameS x)) with
  | true =>
    obtain ⟨b, hlb, hat, hE⟩ := hT6.ent _ hh
    have hl6 := hT6.look_some x.f0 hx hat
    have hl6d := (hT6.below (below_drew1 (Below.refl _ _))).look_some x.f0 hx hat
    have hl6e := (hT6.below (below_drew1 (below_drew1 (Below.refl _ _)))).look_some x.f0 hx hat
    have hz : w6.frozen? ⟨b, j, none⟩ = false := by
      obtain ⟨cur, hb, _, _⟩ := hE
      exact blk_frozen hb j
    obtain ⟨pe, hpe, _⟩ := hE.ptrs
    have hcj := hpe j hj16.2
    have HF := Aside.mk (hT6.putn x hh hat HJ.out hj16 hn6)
    clear hT6 hE hpe
    go_region
    all_goals go_wp2_with fail
    all_goals go_region
    all_goals go_wp2_with fail
    all_goals go_ret
    all_goals exact ⟨rfl, D1, (HF.out.1.below (below_drew1 (below_drew1 (Below.refl _ _)))).mono (Nat.le_succ _), (HK6.out.trans HF.out.2).trans (Kp.of_below (below_drew1 (below_drew1 (Below.refl _ _))))⟩
  | false =>
    have hl6 := hT6.look_none x.f0 hx hh
    have hl6d := (hT6.below (below_drew1 (Below.refl _ _))).look_none x.f0 hx hh
    go_region
    all_goals go_wp2_with fail
    refine start_ (n := 9) (S := fun w' => w'.cell? ⟨w.heap.size, 0, none⟩ = some (.string x.f0) ∧ w'.cell? ⟨t, 1, none⟩ = some (.map (some bm))) (ds := [8]) #[false, false, false, false, false, false, false, false, false] (by kernel_rfl) rfl rfl ⟨m0, c6⟩ (fun hHeld => ?_)
    refine pure_ (i := 0) (N := some 43) (v := ?_) (a' := ?_) #[true, false, false, false, false, false, false, false, false] rfl rfl (by kernel_rfl) (fun _ _ _ h => h) (Or.inl ⟨by rfl, ?_⟩) ?_ ?_
    rotate_left
    · intro w'
      go_simp
      with_reducible rfl
    rotate_left
    · simp only [Act.put, List.setIfInBounds_toArray, List.set_cons_zero, List.set_cons_succ, i64_w, i32_w, IntKind.wrap_u8]
      rfl
    refine pure_ (i := 1) (N := some 44) (v := ?_) (a' := ?_) #[true, true, false, false, false, false, false, false, false] rfl rfl (by kernel_rfl) (fun _ _ _ h => h) (Or.inl ⟨by rfl, ?_⟩) ?_ ?_
    rotate_left
    · intro w'
      go_simp
      with_reducible rfl
    rotate_left
    · simp only [Act.put, List.setIfInBounds_toArray, List.set_cons_zero, List.set_cons_succ, i64_w, i32_w, IntKind.wrap_u8]
      rfl
    refine pure_ (i := 2) (N := some 45) (v := ?_) (a' := ?_) #[true, true, true, false, false, false, false, false, false] rfl rfl (by kernel_rfl) (fun _ _ _ h => h) (Or.inl ⟨by rfl, ?_⟩) ?_ ?_
    rotate_left
    · intro w'
      go_simp
      with_reducible rfl
    rotate_left
    · simp only [Act.put, List.setIfInBounds_toArray, List.set_cons_zero, List.set_cons_succ, i64_w, i32_w, IntKind.wrap_u8]
      rfl
    refine pure_ (i := 4) (N := some 47) (v := ?_) (a' := ?_) #[true, true, true, false, true, false, false, false, false] rfl rfl (by kernel_rfl) (fun _ _ _ h => h) (Or.inl ⟨by rfl, ?_⟩) ?_ ?_
    rotate_left
    · intro w'
      go_simp
      with_reducible rfl
    rotate_left
    · simp only [Act.put, List.setIfInBounds_toArray, List.set_cons_zero, List.set_cons_succ, i64_w, i32_w, IntKind.wrap_u8]
      rfl
    refine take_ (i := 3) (N := some 46) (v := ?_) (a' := ?_) #[true, true, true, true, true, false, false, false, false] rfl rfl (by kernel_rfl) (fun _ _ _ h => h) (Or.inl ⟨by rfl, ?_⟩) hHeld ?_ ?_
    rotate_left
    · rintro w' ⟨s0, s1⟩
      go_simp
      with_reducible rfl
    rotate_left
    · simp only [Act.put, List.setIfInBounds_toArray, List.set_cons_zero, List.set_cons_succ, i64_w, i32_w, IntKind.wrap_u8]
      rfl
    refine take_ (i := 5) (N := some 48) (v := ?_) (a' := ?_) #[true, true, true, true, true, true, false, false, false] rfl rfl (by kernel_rfl) (fun _ _ _ h => h) (Or.inl ⟨by rfl, ?_⟩) hHeld ?_ ?_
    rotate_left
    · rintro w' ⟨s0, s1⟩
      go_simp
      with_reducible rfl
    rotate_left
    · simp only [Act.put, List.setIfInBounds_toArray, List.set_cons_zero, List.set_cons_succ, i64_w, i32_w, IntKind.wrap_u8]
      rfl
    refine pure_ (i := 6) (N := some 49) (v := ?_) (a' := ?_) #[true, true, true, true, true, true, true, false, false] rfl rfl (by kernel_rfl) (fun _ _ _ h => h) (Or.inl ⟨by rfl, ?_⟩) ?_ ?_
    rotate_left
    · intro w'
      go_simp
      with_reducible rfl
    rotate_left
    · simp only [Act.put, List.setIfInBounds_toArray, List.set_cons_zero, List.set_cons_succ, i64_w, i32_w, IntKind.wrap_u8]
      rfl
    refine one_ (i := 7) (N := some 50) #[true, true, true, true, true, true, true, true, false] rfl rfl (by kernel_rfl) (by decide) (fun K hK => ?_)
    refine value_ (w1 := ?_) (v := ?_) (by rfl) rfl ?_ ?_
    rotate_left 2
    · go_simp
      constructor
      · rfl
      · rfl
    have hBd : Below w6.drew.drew.heap.size w6.drew.drew (w6.drew.drew.alloc (.cells #[.pointer none, .pointer none, .pointer none, .pointer none, .pointer none, .pointer none, .pointer none, .pointer none, .pointer none, .pointer none, .pointer none, .pointer none, .pointer none, .pointer none, .pointer none, .pointer none] 87)) := (Below.refl _ _).alloc (Nat.le_refl _) _
    refine hK.out _ _ ⟨(hBd.cell (p := ⟨w.heap.size, 0, none⟩) (by exact World.block_lt_of_cell? w6 _ m0)).trans m0, (hBd.cell (p := ⟨t, 1, none⟩) (by exact World.block_lt_of_cell? w6 _ c6)).trans c6⟩ (fun hHeld => ?_)
    clear hK K
    refine norm_ (a' := ?_) ?_ ?_
    rotate_left
    · show Act.put _ (some 50) _ = _
      simp only [Act.put, List.setIfInBounds_toArray, List.set_cons_zero, List.set_cons_succ, i64_w, i32_w, IntKind.wrap_u8]
      rfl
    refine last_ (i := 8) (N := none) #[true, true, true, true, true, true, true, true, true] rfl rfl (by kernel_rfl) (by decide) (fun K hK => ?_)
    have hTd : Tab w6.drew.drew lo t bm n room D1 (fun s j => swp now (T s j)) := HT6.out.below (below_drew1 (below_drew1 (Below.refl _ _)))
    have hT8 := hTd.below hBd
    have hE8 := ent_new w6.drew.drew
    obtain ⟨w9, hrun9, hown9, hg9⟩ := hT8.own.update law9 Tryz.underlying76 (by unfold maxLen; omega) (key9 x.f0 hx) (ptrE_at w6.drew.drew.heap.size)
    have hrun8 : (Instr.mapUpdate 76 (.map (some bm)) (.string x.f0) (.pointer (some ⟨w6.heap.size, 0, none⟩))).run Tryz.prog (w6.alloc (.cells #[.pointer none, .pointer none, .pointer none, .pointer none, .pointer none, .pointer none, .pointer none, .pointer none, .pointer none, .pointer none, .pointer none, .pointer none, .pointer none, .pointer none, .pointer none, .pointer none] 87)).drew.drew = .ok () w9 := hrun9
    refine skip_ (w1 := w9) (by rfl) rfl ?_ ?_
    · go_simp
    refine hK.out _ _ ?_
    clear hK K
    refine done_ (by kernel_rfl) ?_
    have hnb8 : D1.put (.string (nameS x)) (blkD w6.drew.drew.heap.size) = D1.put (.string x.f0.data.toList) (.lit (.int .i64 (w6.drew.drew.heap.size : Int))) := rfl
    have hlo9 : lo ≤ w6.drew.drew.heap.size := Nat.le_trans hlw HK6.out.size
    have hT9 := hT8.add (nameS x) hh hg9 hown9 hE8 hlo9 (fun s' b h1 h2 => by
      obtain ⟨b', _, h3, cur, h4, _⟩ := hTd.ent s' h1
      obtain rfl : b' = b := blk_inj (h3.symm.trans h2)
      have := lt_of_some h4
      omega)
    have hat9 : (D1.put (.string (nameS x)) (blkD w6.drew.drew.heap.size)).atKey (.string (nameS x)) nilD = blkD w6.drew.drew.heap.size := atKey_put_same hT8.own.isMap (key_lit _) _ _
    have hh9 : has (D1.put (.string (nameS x)) (blkD w6.drew.drew.heap.size)) (.string (nameS x)) = true := has_put_same hT8.own.isMap (key_lit _) _
    have hK9 : Kp lo w6 w9 := (Kp.of_below (below_drew1 (below_drew1 (Below.refl _ _)))).trans ((Kp.of_below hBd).trans (by
      obtain ⟨es, clock, hm, _⟩ := hT8.own
      exact Kp.of_grown hg9 hT8.lom hm rfl))
    have hn9 : w9.heap[w.heap.size]? = some (.cells (ntC x) 35 (0, 0)) := hK9.oth _ _ hn6 rfl
    have c9 : w9.cell? ⟨t, 1, none⟩ = some (.map (some bm)) := blk_cell hT9.hdr 1
    have k0 : w9.cell? ⟨w.heap.size, 0, none⟩ = some (.string x.f0) := blk_cell hn9 0
    have k1 : w9.cell? ⟨w.heap.size, 1, none⟩ = some (.int .i64 x.f1) := blk_cell hn9 1
    rw [HJ.out] at k1
    have HK9 : Aside (Kp lo w w9) := ⟨HK6.out.trans hK9⟩
    generalize hNB : w6.drew.drew.heap.size = NB at *
    have hl9 := hT9.look_some x.f0 hx hat9
    have hl9d := (hT9.below (below_drew1 (Below.refl _ _))).look_some x.f0 hx hat9
    obtain ⟨b9, _, hb9, hE9⟩ := hT9.ent _ hh9
    obtain rfl : b9 = NB := blk_inj (hb9.symm.trans hat9)
    have hz9 : w9.frozen? ⟨b9, j, none⟩ = false := by
      obtain ⟨cur, hb, _, _⟩ := hE9
      exact blk_frozen hb j
    obtain ⟨pe, hpe, _⟩ := hE9.ptrs
    have hcj := hpe j hj16.2
    have HF := Aside.mk (hT9.putn x hh9 hat9 HJ.out hj16 hn9)
    clear hT6 hE9 hpe hT9 hT8 hTd hE8 hown9 hg9 hrun9 hK9 hBd hHeld hNB hnb8 hlo9 hrun8
    try go_wp2_with fail
    go_region
    all_goals go_wp2_with fail
    all_goals go_ret
    all_goals exact ⟨rfl, _, HF.out.1.below (below_drew1 (Below.refl _ _)), (HK9.out.trans HF.out.2).trans (Kp.of_below (below_drew1 (Below.refl _ _)))⟩
end Go.Proofs.YtmimnlbkllgfpaaGreatDoor.Tb
