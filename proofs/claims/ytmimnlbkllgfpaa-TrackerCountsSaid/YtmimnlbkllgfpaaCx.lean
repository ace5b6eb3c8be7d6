/- TrackerCounts, further on: walked. -/
import Derived.Test.YtmimnlbkllgfpaaCw
import Derived.Test.YtmimnlbkllgfpaaWLast
namespace Go.Proofs.Ytmimnlbkllgfpaa.Tb
open Go.RowKit Go.Maps Go.Proofs.Ytmimnlbkllgfpaa.A Go.Proofs.YtmimnlbkllgfpaaW.PrintWords Go.Proofs.YtmimnlbkllgfpaaW.PrintLast
set_option linter.unusedSimpArgs false
set_option linter.unusedVariables false

set_option maxHeartbeats 8000000 in
set_option maxRecDepth 100000 in
theorem counts_again_in (a b : Nt) (now : Int) (w : World) (ha : ¬ 100 < a.f0.size) (hb : ¬ 100 < b.f0.size) (hm : mayB a 0 = true) (htk : tickB now = true) (hle : now ≤ a.f3) (hm2 : mayB (asA a b) now = false) :
    Calls Try.prog 3 #[.agg #[.string a.f0, .int .i64 a.f1, .int .i64 a.f2.f0, .int .i64 a.f2.f1, .int .i64 a.f3], .agg #[.string b.f0, .int .i64 b.f1, .int .i64 b.f2.f0, .int .i64 b.f2.f1, .int .i64 b.f3], .int .i64 now] w fun e w' => e = .returned (.bool true) ∧ Below w.heap.size w w' := by
  have hAw := fun W => awake_calls W
  have hNew := fun W => new_ok 3 W (by decide) (by decide)
  have hB1 : Below w.heap.size w (w.alloc (.cells #[.string a.f0, .int .i64 a.f1, .int .i64 a.f2.f0, .int .i64 a.f2.f1, .int .i64 a.f3] 25)) := (Below.refl _ w).alloc (Nat.le_refl _) _
  have hB2 : Below w.heap.size w ((w.alloc (.cells #[.string a.f0, .int .i64 a.f1, .int .i64 a.f2.f0, .int .i64 a.f2.f1, .int .i64 a.f3] 25)).alloc (.cells #[.string b.f0, .int .i64 b.f1, .int .i64 b.f2.f0, .int .i64 b.f2.f1, .int .i64 b.f3] 25)) := hB1.alloc hB1.size _
  have hna := blk_alloc (blk_new w (.cells #[.string a.f0, .int .i64 a.f1, .int .i64 a.f2.f0, .int .i64 a.f2.f1, .int .i64 a.f3] 25)) (.cells #[.string b.f0, .int .i64 b.f1, .int .i64 b.f2.f0, .int .i64 b.f2.f1, .int .i64 b.f3] 25)
  have hnb := blk_new (w.alloc (.cells #[.string a.f0, .int .i64 a.f1, .int .i64 a.f2.f0, .int .i64 a.f2.f1, .int .i64 a.f3] 25)) (.cells #[.string b.f0, .int .i64 b.f1, .int .i64 b.f2.f0, .int .i64 b.f2.f1, .int .i64 b.f3] 25)
  rw [show (w.alloc (.cells #[.string a.f0, .int .i64 a.f1, .int .i64 a.f2.f0, .int .i64 a.f2.f1, .int .i64 a.f3] 25)).heap.size = w.heap.size + 1 by simp] at hnb
  have ga : ¬ (a.f0.size : Int) > 100 := by omega
  have gb : ¬ (b.f0.size : Int) > 100 := by omega
  have hsz : a.f0.size ≤ maxLen := by unfold maxLen; omega
  go_enter Try.func3, Try.ntmps3
  go_wp2_with (first
    | (go_at_call 7; refine (hNew _).mono ?_; rintro e w1 ⟨t, bm, rfl, hT1, hb1⟩; have hna1 := blk_below hna hb1; have hnb1 := blk_below hnb hb1)
    | (go_at_call 6; refine (hAw _).mono ?_; rintro e w2 ⟨rfl, hb2⟩; have hT2 := hT1.below hb2; have hna2 := blk_below hna1 hb2; have hnb2 := blk_below hnb1 hb2; have hBb := (hB2.trans (hb1.mono hB2.size)); have hBc := hBb.trans (hb2.mono hBb.size); have a0 := blk_cell hna2 0; have a1 := blk_cell hna2 1; have a2 := blk_cell hna2 2; have a3 := blk_cell hna2 3; have a4 := blk_cell hna2 4; have b0 := blk_cell hnb2 0; have b1 := blk_cell hnb2 1; have z0 := blk_frozen hnb2 0; have z1 := blk_frozen hnb2 1))
  have hT3 := (hT2.empty_set hnb2 (j := 0) (.string a.f0)).empty_set (setCell_at hnb2 (.string a.f0)) (j := 1) (.int .i64 a.f1)
  have hnb3 : ((w2.setCell ⟨w.heap.size + 1, 0, none⟩ (.string a.f0)).setCell ⟨w.heap.size + 1, 1, none⟩ (.int .i64 a.f1)).heap[w.heap.size + 1]? = some (.cells (ntC (asA a b)) 25 (0, 0)) := setCell_at (setCell_at hnb2 _) _
  have hna3 : ((w2.setCell ⟨w.heap.size + 1, 0, none⟩ (.string a.f0)).setCell ⟨w.heap.size + 1, 1, none⟩ (.int .i64 a.f1)).heap[w.heap.size]? = some (.cells (ntC a) 25 (0, 0)) := by
    rw [Below.heap_setCell _ _ _ _ (by show w.heap.size ≠ w.heap.size + 1; omega), Below.heap_setCell _ _ _ _ (by show w.heap.size ≠ w.heap.size + 1; omega)]
    exact hna2
  have hB3 : Below w.heap.size w ((w2.setCell ⟨w.heap.size + 1, 0, none⟩ (.string a.f0)).setCell ⟨w.heap.size + 1, 1, none⟩ (.int .i64 a.f1)) := (hBc.setCell (p := ⟨w.heap.size + 1, 0, none⟩) (by show w.heap.size ≤ w.heap.size + 1; omega) _).setCell (p := ⟨w.heap.size + 1, 1, none⟩) (by show w.heap.size ≤ w.heap.size + 1; omega) _
  have hlo : w.heap.size + 2 ≤ ((w2.setCell ⟨w.heap.size + 1, 0, none⟩ (.string a.f0)).setCell ⟨w.heap.size + 1, 1, none⟩ (.int .i64 a.f1)).heap.size := by
    have h1 := hb1.size
    have h2 := hb2.size
    simp [World.setCell] at h1 h2 ⊢
    omega
  have hlo2 : ((w.alloc (.cells #[.string a.f0, .int .i64 a.f1, .int .i64 a.f2.f0, .int .i64 a.f2.f1, .int .i64 a.f3] 25)).alloc (.cells #[.string b.f0, .int .i64 b.f1, .int .i64 b.f2.f0, .int .i64 b.f2.f1, .int .i64 b.f3] 25)).heap.size = w.heap.size + 2 := by simp
  rw [hlo2] at hT3
  clear hT2 hT1 hna2 hnb2 hna1 hnb1 hna hnb hBb hBc hb1 hb2 hB1 hB2 hlo2 a0 a1 a2 a3 a4 b0 b1 z0 z1 hNew hAw
  generalize ((w2.setCell ⟨w.heap.size + 1, 0, none⟩ (.string a.f0)).setCell ⟨w.heap.size + 1, 1, none⟩ (.int .i64 a.f1)) = w3 at *
  refine (announce a 0 w3 hT3 (by omega) hlo hsz).mono ?_
  rintro e w4 ⟨c, D4, T4, rfl, hAnn, hT4, hK4⟩
  have hB4 := hK4.below (B := w.heap.size) (by omega) hB3 (by omega)
  have hna4 := hK4.oth _ _ hna3 rfl
  have hnb4 := hK4.oth _ _ hnb3 rfl
  clear hT3 hK4 hB3 hna3 hnb3
  obtain ⟨rfl, rfl⟩ := hAnn.ok_of hm (Or.inr ⟨[], names_none 0, by decide⟩)
  have hT5 : Tab w4 (w.heap.size + 2) t bm 1 3 D4 (oneT a) := hT4
  have hM := (may_iff a 0).1 hm
  have HN := Aside.mk (oneT_nodes a now hM.2.2.1)
  have hNd := fun W (hT : Tab W (w.heap.size + 2) t bm 1 3 D4 (oneT a)) => nodes a.f0 hsz now W hT
  rw [show a.f0.data.toList = nameS a from rfl, HN.out, if_pos ⟨htk, hle⟩] at hNd
  have a0 : w4.cell? ⟨w.heap.size, 0, none⟩ = some (.string a.f0) := blk_cell hna4 0
  have a4 : w4.cell? ⟨w.heap.size, 4, none⟩ = some (.int .i64 a.f3) := blk_cell hna4 4
  have HM := Aside.mk hM
  have hneg : ¬ now < 0 := by unfold tickB at htk; simp at htk; omega
  have hgt : ¬ now > 1099511627776 := by unfold tickB at htk; simp at htk; omega
  have hgt2 : ¬ 1099511627776 < now := hgt
  clear hAnn hT4 hM
  go_wp2_with fail
  refine start_ (n := 12) (S := fun w' => w'.cell? ⟨w.heap.size, 0, none⟩ = some (.string a.f0) ∧ w'.cell? ⟨w.heap.size, 4, none⟩ = some (.int .i64 a.f3)) (ds := []) #[false, false, false, false, false, false, false, false, false, false, false, false] (by kernel_rfl) rfl rfl ⟨a0, a4⟩ (fun hHeld => ?_)
  refine pure_ (i := 0) (N := some 60) (v := ?_) (a' := ?_) #[true, false, false, false, false, false, false, false, false, false, false, false] rfl rfl (by kernel_rfl) (fun _ _ _ h => h) (Or.inl ⟨by rfl, ?_⟩) ?_ ?_
  rotate_left
  · intro w'
    go_simp
    with_reducible rfl
  rotate_left
  · simp only [Act.put, List.setIfInBounds_toArray, List.set_cons_zero, List.set_cons_succ, i64_w, i32_w, IntKind.wrap_u8]
    rfl
  refine pure_ (i := 1) (N := some 61) (v := ?_) (a' := ?_) #[true, true, false, false, false, false, false, false, false, false, false, false] rfl rfl (by kernel_rfl) (fun _ _ _ h => h) (Or.inl ⟨by rfl, ?_⟩) ?_ ?_
  rotate_left
  · intro w'
    go_simp
    with_reducible rfl
  rotate_left
  · simp only [Act.put, List.setIfInBounds_toArray, List.set_cons_zero, List.set_cons_succ, i64_w, i32_w, IntKind.wrap_u8]
    rfl
  refine pure_ (i := 3) (N := some 63) (v := ?_) (a' := ?_) #[true, true, false, true, false, false, false, false, false, false, false, false] rfl rfl (by kernel_rfl) (fun _ _ _ h => h) (Or.inl ⟨by rfl, ?_⟩) ?_ ?_
  rotate_left
  · intro w'
    go_simp
    with_reducible rfl
  rotate_left
  · simp only [Act.put, List.setIfInBounds_toArray, List.set_cons_zero, List.set_cons_succ, i64_w, i32_w, IntKind.wrap_u8]
    rfl
  refine pure_ (i := 7) (N := some 67) (v := ?_) (a' := ?_) #[true, true, false, true, false, false, false, true, false, false, false, false] rfl rfl (by kernel_rfl) (fun _ _ _ h => h) (Or.inl ⟨by rfl, ?_⟩) ?_ ?_
  rotate_left
  · intro w'
    go_simp
    with_reducible rfl
  rotate_left
  · simp only [Act.put, List.setIfInBounds_toArray, List.set_cons_zero, List.set_cons_succ, i64_w, i32_w, IntKind.wrap_u8]
    rfl
  refine pure_ (i := 8) (N := some 68) (v := ?_) (a' := ?_) #[true, true, false, true, false, false, false, true, true, false, false, false] rfl rfl (by kernel_rfl) (fun _ _ _ h => h) (Or.inl ⟨by rfl, ?_⟩) ?_ ?_
  rotate_left
  · intro w'
    go_simp
    with_reducible rfl
  rotate_left
  · simp only [Act.put, List.setIfInBounds_toArray, List.set_cons_zero, List.set_cons_succ, i64_w, i32_w, IntKind.wrap_u8]
    rfl
  refine take_ (i := 2) (N := some 62) (v := ?_) (a' := ?_) #[true, true, true, true, false, false, false, true, true, false, false, false] rfl rfl (by kernel_rfl) (fun _ _ _ h => h) (Or.inl ⟨by rfl, ?_⟩) hHeld ?_ ?_
  rotate_left
  · rintro w' ⟨s0, s1⟩
    go_simp
    with_reducible rfl
  rotate_left
  · simp only [Act.put, List.setIfInBounds_toArray, List.set_cons_zero, List.set_cons_succ, i64_w, i32_w, IntKind.wrap_u8]
    rfl
  refine take_ (i := 9) (N := some 69) (v := ?_) (a' := ?_) #[true, true, true, true, false, false, false, true, true, true, false, false] rfl rfl (by kernel_rfl) (fun _ _ _ h => h) (Or.inl ⟨by rfl, ?_⟩) hHeld ?_ ?_
  rotate_left
  · rintro w' ⟨s0, s1⟩
    go_simp
    with_reducible rfl
  rotate_left
  · simp only [Act.put, List.setIfInBounds_toArray, List.set_cons_zero, List.set_cons_succ, i64_w, i32_w, IntKind.wrap_u8]
    rfl
  refine pure_ (i := 10) (N := some 70) (v := ?_) (a' := ?_) #[true, true, true, true, false, false, false, true, true, true, true, false] rfl rfl (by kernel_rfl) (fun _ _ _ h => h) (Or.inl ⟨by rfl, ?_⟩) ?_ ?_
  rotate_left
  · intro w'
    go_simp
    with_reducible rfl
  rotate_left
  · simp only [Act.put, List.setIfInBounds_toArray, List.set_cons_zero, List.set_cons_succ, i64_w, i32_w, IntKind.wrap_u8]
    rfl
  refine one_ (i := 4) (N := some 64) #[true, true, true, true, true, false, false, true, true, true, true, false] rfl rfl (by kernel_rfl) (by decide) (fun K hK => ?_)
  refine goes_ Try.func10 (by kernel_rfl) rfl #[.pointer (some ⟨t, 0, none⟩), .string a.f0, .int .i64 now] (by rfl) rfl rfl (by (try simp only [List.map_toArray, List.map_cons, List.map_nil]); first | done | rfl) ?_
  refine (hNd w4.drew (hT5.below (below_drew1 (Below.refl _ _)))).mono ?_
  rintro e w5 ⟨v, rfl, hR, hb5⟩
  obtain ⟨A5, c5, rfl, _, _⟩ := Kd.R_reads hR
  have hb45 : Below w4.heap.size w4 w5 := (below_drew1 (Below.refl _ _)).trans hb5
  refine ⟨_, rfl, ?_⟩
  refine hK.out _ _ ⟨(hb45.cell (World.block_lt_of_cell? _ _ a0)).trans a0, (hb45.cell (World.block_lt_of_cell? _ _ a4)).trans a4⟩ (fun hHeld => ?_)
  clear hK K
  refine norm_ (a' := ?_) ?_ ?_
  rotate_left
  · show Act.put _ (some 64) _ = _
    simp only [Act.put, List.setIfInBounds_toArray, List.set_cons_zero, List.set_cons_succ, i64_w, i32_w, IntKind.wrap_u8]
    rfl
  refine pure_ (i := 5) (N := some 65) (v := ?_) (a' := ?_) #[true, true, true, true, true, true, false, true, true, true, true, false] rfl rfl (by kernel_rfl) (fun _ _ _ h => h) (Or.inl ⟨by rfl, ?_⟩) ?_ ?_
  rotate_left
  · intro w'
    go_simp
    with_reducible rfl
  rotate_left
  · simp only [Act.put, List.setIfInBounds_toArray, List.set_cons_zero, List.set_cons_succ, i64_w, i32_w, IntKind.wrap_u8]
    rfl
  refine pure_ (i := 6) (N := some 66) (v := ?_) (a' := ?_) #[true, true, true, true, true, true, true, true, true, true, true, false] rfl rfl (by kernel_rfl) (fun _ _ _ h => h) (Or.inl ⟨by rfl, ?_⟩) ?_ ?_
  rotate_left
  · intro w'
    go_simp
    with_reducible rfl
  rotate_left
  · simp only [Act.put, List.setIfInBounds_toArray, List.set_cons_zero, List.set_cons_succ, i64_w, i32_w, IntKind.wrap_u8]
    rfl
  refine pure_ (i := 11) (N := some 71) (v := ?_) (a' := ?_) #[true, true, true, true, true, true, true, true, true, true, true, true] rfl rfl (by kernel_rfl) (fun _ _ _ h => h) (Or.inl ⟨by rfl, ?_⟩) ?_ ?_
  rotate_left
  · intro w'
    go_simp
    with_reducible rfl
  rotate_left
  · simp only [Act.put, List.setIfInBounds_toArray, List.set_cons_zero, List.set_cons_succ, i64_w, i32_w, IntKind.wrap_u8]
    rfl
  refine done_ (by kernel_rfl) ?_
  have hTb5 := hT5.below hb45
  have hB5 := hB4.trans (hb45.mono hB4.size)
  have hna5 := blk_below hna4 hb45
  have hnb5 := blk_below hnb4 hb45
  clear hR hb5 hb45 hHeld hT5 hB4 hna4 hnb4 a0 a4 hNd
  have k0 : w5.cell? ⟨w.heap.size + 1, 0, none⟩ = some (.string a.f0) := blk_cell hnb5 0
  have k1 : w5.cell? ⟨w.heap.size + 1, 1, none⟩ = some (.int .i64 a.f1) := blk_cell hnb5 1
  have k2 : w5.cell? ⟨w.heap.size + 1, 2, none⟩ = some (.int .i64 b.f2.f0) := blk_cell hnb5 2
  have k3 : w5.cell? ⟨w.heap.size + 1, 3, none⟩ = some (.int .i64 b.f2.f1) := blk_cell hnb5 3
  have k4 : w5.cell? ⟨w.heap.size + 1, 4, none⟩ = some (.int .i64 b.f3) := blk_cell hnb5 4
  have hlo5 : w.heap.size + 2 ≤ w5.heap.size := by have := World.block_lt_of_cell? _ _ k0; have h2 : w.heap.size + 1 < w5.heap.size := this; omega
  go_wp2_with fail
  refine (announce (asA a b) now w5 hTb5 (by omega) hlo5 hsz).mono ?_
  rintro e w6 ⟨c, D6, T6, rfl, hAnn, hT6, hK6⟩
  have hB6 := hK6.below (B := w.heap.size) (by omega) hB5 (by omega)
  have hna6 := hK6.oth _ _ hna5 rfl
  have hnb6 := hK6.oth _ _ hnb5 rfl
  clear hTb5 hK6 hB5 hna5 hnb5 k0 k1 k2 k3 k4
  have a0 : w6.cell? ⟨w.heap.size, 0, none⟩ = some (.string a.f0) := blk_cell hna6 0
  have a4 : w6.cell? ⟨w.heap.size, 4, none⟩ = some (.int .i64 a.f3) := blk_cell hna6 4
  obtain ⟨rfl, rfl⟩ := hAnn.arg_of hm2
  have hNd := nodes a.f0 hsz now w6 hT6
  rw [show a.f0.data.toList = nameS a from rfl, HN.out, if_pos ⟨htk, hle⟩] at hNd
  clear hAnn
  go_wp2_with (go_at_call 10; refine hNd.mono ?_; rintro e w7 ⟨v7, rfl, hR7, hb7⟩; obtain ⟨A7, c7, rfl, _, _⟩ := Kd.R_reads hR7; have a4b := (hb7.cell (World.block_lt_of_cell? _ _ a4)).trans a4)
  go_ret
  exact ⟨by first | rfl | (show Ending.returned (Value.bool _) = _; simp; omega), hB6.trans (hb7.mono hB6.size)⟩
set_option maxHeartbeats 8000000 in
set_option maxRecDepth 100000 in
theorem counts_again_out (a b : Nt) (now : Int) (w : World) (ha : ¬ 100 < a.f0.size) (hb : ¬ 100 < b.f0.size) (hm : mayB a 0 = true) (htk : tickB now = true) (hle : ¬ now ≤ a.f3) (hm2 : mayB (asA a b) now = false) :
    Calls Try.prog 3 #[.agg #[.string a.f0, .int .i64 a.f1, .int .i64 a.f2.f0, .int .i64 a.f2.f1, .int .i64 a.f3], .agg #[.string b.f0, .int .i64 b.f1, .int .i64 b.f2.f0, .int .i64 b.f2.f1, .int .i64 b.f3], .int .i64 now] w fun e w' => e = .returned (.bool true) ∧ Below w.heap.size w w' := by
  have hAw := fun W => awake_calls W
  have hNew := fun W => new_ok 3 W (by decide) (by decide)
  have hB1 : Below w.heap.size w (w.alloc (.cells #[.string a.f0, .int .i64 a.f1, .int .i64 a.f2.f0, .int .i64 a.f2.f1, .int .i64 a.f3] 25)) := (Below.refl _ w).alloc (Nat.le_refl _) _
  have hB2 : Below w.heap.size w ((w.alloc (.cells #[.string a.f0, .int .i64 a.f1, .int .i64 a.f2.f0, .int .i64 a.f2.f1, .int .i64 a.f3] 25)).alloc (.cells #[.string b.f0, .int .i64 b.f1, .int .i64 b.f2.f0, .int .i64 b.f2.f1, .int .i64 b.f3] 25)) := hB1.alloc hB1.size _
  have hna := blk_alloc (blk_new w (.cells #[.string a.f0, .int .i64 a.f1, .int .i64 a.f2.f0, .int .i64 a.f2.f1, .int .i64 a.f3] 25)) (.cells #[.string b.f0, .int .i64 b.f1, .int .i64 b.f2.f0, .int .i64 b.f2.f1, .int .i64 b.f3] 25)
  have hnb := blk_new (w.alloc (.cells #[.string a.f0, .int .i64 a.f1, .int .i64 a.f2.f0, .int .i64 a.f2.f1, .int .i64 a.f3] 25)) (.cells #[.string b.f0, .int .i64 b.f1, .int .i64 b.f2.f0, .int .i64 b.f2.f1, .int .i64 b.f3] 25)
  rw [show (w.alloc (.cells #[.string a.f0, .int .i64 a.f1, .int .i64 a.f2.f0, .int .i64 a.f2.f1, .int .i64 a.f3] 25)).heap.size = w.heap.size + 1 by simp] at hnb
  have ga : ¬ (a.f0.size : Int) > 100 := by omega
  have gb : ¬ (b.f0.size : Int) > 100 := by omega
  have hsz : a.f0.size ≤ maxLen := by unfold maxLen; omega
  go_enter Try.func3, Try.ntmps3
  go_wp2_with (first
    | (go_at_call 7; refine (hNew _).mono ?_; rintro e w1 ⟨t, bm, rfl, hT1, hb1⟩; have hna1 := blk_below hna hb1; have hnb1 := blk_below hnb hb1)
    | (go_at_call 6; refine (hAw _).mono ?_; rintro e w2 ⟨rfl, hb2⟩; have hT2 := hT1.below hb2; have hna2 := blk_below hna1 hb2; have hnb2 := blk_below hnb1 hb2; have hBb := (hB2.trans (hb1.mono hB2.size)); have hBc := hBb.trans (hb2.mono hBb.size); have a0 := blk_cell hna2 0; have a1 := blk_cell hna2 1; have a2 := blk_cell hna2 2; have a3 := blk_cell hna2 3; have a4 := blk_cell hna2 4; have b0 := blk_cell hnb2 0; have b1 := blk_cell hnb2 1; have z0 := blk_frozen hnb2 0; have z1 := blk_frozen hnb2 1))
  have hT3 := (hT2.empty_set hnb2 (j := 0) (.string a.f0)).empty_set (setCell_at hnb2 (.string a.f0)) (j := 1) (.int .i64 a.f1)
  have hnb3 : ((w2.setCell ⟨w.heap.size + 1, 0, none⟩ (.string a.f0)).setCell ⟨w.heap.size + 1, 1, none⟩ (.int .i64 a.f1)).heap[w.heap.size + 1]? = some (.cells (ntC (asA a b)) 25 (0, 0)) := setCell_at (setCell_at hnb2 _) _
  have hna3 : ((w2.setCell ⟨w.heap.size + 1, 0, none⟩ (.string a.f0)).setCell ⟨w.heap.size + 1, 1, none⟩ (.int .i64 a.f1)).heap[w.heap.size]? = some (.cells (ntC a) 25 (0, 0)) := by
    rw [Below.heap_setCell _ _ _ _ (by show w.heap.size ≠ w.heap.size + 1; omega), Below.heap_setCell _ _ _ _ (by show w.heap.size ≠ w.heap.size + 1; omega)]
    exact hna2
  have hB3 : Below w.heap.size w ((w2.setCell ⟨w.heap.size + 1, 0, none⟩ (.string a.f0)).setCell ⟨w.heap.size + 1, 1, none⟩ (.int .i64 a.f1)) := (hBc.setCell (p := ⟨w.heap.size + 1, 0, none⟩) (by show w.heap.size ≤ w.heap.size + 1; omega) _).setCell (p := ⟨w.heap.size + 1, 1, none⟩) (by show w.heap.size ≤ w.heap.size + 1; omega) _
  have hlo : w.heap.size + 2 ≤ ((w2.setCell ⟨w.heap.size + 1, 0, none⟩ (.string a.f0)).setCell ⟨w.heap.size + 1, 1, none⟩ (.int .i64 a.f1)).heap.size := by
    have h1 := hb1.size
    have h2 := hb2.size
    simp [World.setCell] at h1 h2 ⊢
    omega
  have hlo2 : ((w.alloc (.cells #[.string a.f0, .int .i64 a.f1, .int .i64 a.f2.f0, .int .i64 a.f2.f1, .int .i64 a.f3] 25)).alloc (.cells #[.string b.f0, .int .i64 b.f1, .int .i64 b.f2.f0, .int .i64 b.f2.f1, .int .i64 b.f3] 25)).heap.size = w.heap.size + 2 := by simp
  rw [hlo2] at hT3
  clear hT2 hT1 hna2 hnb2 hna1 hnb1 hna hnb hBb hBc hb1 hb2 hB1 hB2 hlo2 a0 a1 a2 a3 a4 b0 b1 z0 z1 hNew hAw
  generalize ((w2.setCell ⟨w.heap.size + 1, 0, none⟩ (.string a.f0)).setCell ⟨w.heap.size + 1, 1, none⟩ (.int .i64 a.f1)) = w3 at *
  refine (announce a 0 w3 hT3 (by omega) hlo hsz).mono ?_
  rintro e w4 ⟨c, D4, T4, rfl, hAnn, hT4, hK4⟩
  have hB4 := hK4.below (B := w.heap.size) (by omega) hB3 (by omega)
  have hna4 := hK4.oth _ _ hna3 rfl
  have hnb4 := hK4.oth _ _ hnb3 rfl
  clear hT3 hK4 hB3 hna3 hnb3
  obtain ⟨rfl, rfl⟩ := hAnn.ok_of hm (Or.inr ⟨[], names_none 0, by decide⟩)
  have hT5 : Tab w4 (w.heap.size + 2) t bm 1 3 D4 (oneT a) := hT4
  have hM := (may_iff a 0).1 hm
  have HN := Aside.mk (oneT_nodes a now hM.2.2.1)
  have hNd := fun W (hT : Tab W (w.heap.size + 2) t bm 1 3 D4 (oneT a)) => nodes a.f0 hsz now W hT
  rw [show a.f0.data.toList = nameS a from rfl, HN.out, if_neg (fun h => by have := h.2; omega)] at hNd
  have a0 : w4.cell? ⟨w.heap.size, 0, none⟩ = some (.string a.f0) := blk_cell hna4 0
  have a4 : w4.cell? ⟨w.heap.size, 4, none⟩ = some (.int .i64 a.f3) := blk_cell hna4 4
  have HM := Aside.mk hM
  have hneg : ¬ now < 0 := by unfold tickB at htk; simp at htk; omega
  have hgt : ¬ now > 1099511627776 := by unfold tickB at htk; simp at htk; omega
  have hgt2 : ¬ 1099511627776 < now := hgt
  clear hAnn hT4 hM
  go_wp2_with fail
  refine start_ (n := 12) (S := fun w' => w'.cell? ⟨w.heap.size, 0, none⟩ = some (.string a.f0) ∧ w'.cell? ⟨w.heap.size, 4, none⟩ = some (.int .i64 a.f3)) (ds := []) #[false, false, false, false, false, false, false, false, false, false, false, false] (by kernel_rfl) rfl rfl ⟨a0, a4⟩ (fun hHeld => ?_)
  refine pure_ (i := 0) (N := some 60) (v := ?_) (a' := ?_) #[true, false, false, false, false, false, false, false, false, false, false, false] rfl rfl (by kernel_rfl) (fun _ _ _ h => h) (Or.inl ⟨by rfl, ?_⟩) ?_ ?_
  rotate_left
  · intro w'
    go_simp
    with_reducible rfl
  rotate_left
  · simp only [Act.put, List.setIfInBounds_toArray, List.set_cons_zero, List.set_cons_succ, i64_w, i32_w, IntKind.wrap_u8]
    rfl
  refine pure_ (i := 1) (N := some 61) (v := ?_) (a' := ?_) #[true, true, false, false, false, false, false, false, false, false, false, false] rfl rfl (by kernel_rfl) (fun _ _ _ h => h) (Or.inl ⟨by rfl, ?_⟩) ?_ ?_
  rotate_left
  · intro w'
    go_simp
    with_reducible rfl
  rotate_left
  · simp only [Act.put, List.setIfInBounds_toArray, List.set_cons_zero, List.set_cons_succ, i64_w, i32_w, IntKind.wrap_u8]
    rfl
  refine pure_ (i := 3) (N := some 63) (v := ?_) (a' := ?_) #[true, true, false, true, false, false, false, false, false, false, false, false] rfl rfl (by kernel_rfl) (fun _ _ _ h => h) (Or.inl ⟨by rfl, ?_⟩) ?_ ?_
  rotate_left
  · intro w'
    go_simp
    with_reducible rfl
  rotate_left
  · simp only [Act.put, List.setIfInBounds_toArray, List.set_cons_zero, List.set_cons_succ, i64_w, i32_w, IntKind.wrap_u8]
    rfl
  refine pure_ (i := 7) (N := some 67) (v := ?_) (a' := ?_) #[true, true, false, true, false, false, false, true, false, false, false, false] rfl rfl (by kernel_rfl) (fun _ _ _ h => h) (Or.inl ⟨by rfl, ?_⟩) ?_ ?_
  rotate_left
  · intro w'
    go_simp
    with_reducible rfl
  rotate_left
  · simp only [Act.put, List.setIfInBounds_toArray, List.set_cons_zero, List.set_cons_succ, i64_w, i32_w, IntKind.wrap_u8]
    rfl
  refine pure_ (i := 8) (N := some 68) (v := ?_) (a' := ?_) #[true, true, false, true, false, false, false, true, true, false, false, false] rfl rfl (by kernel_rfl) (fun _ _ _ h => h) (Or.inl ⟨by rfl, ?_⟩) ?_ ?_
  rotate_left
  · intro w'
    go_simp
    with_reducible rfl
  rotate_left
  · simp only [Act.put, List.setIfInBounds_toArray, List.set_cons_zero, List.set_cons_succ, i64_w, i32_w, IntKind.wrap_u8]
    rfl
  refine take_ (i := 2) (N := some 62) (v := ?_) (a' := ?_) #[true, true, true, true, false, false, false, true, true, false, false, false] rfl rfl (by kernel_rfl) (fun _ _ _ h => h) (Or.inl ⟨by rfl, ?_⟩) hHeld ?_ ?_
  rotate_left
  · rintro w' ⟨s0, s1⟩
    go_simp
    with_reducible rfl
  rotate_left
  · simp only [Act.put, List.setIfInBounds_toArray, List.set_cons_zero, List.set_cons_succ, i64_w, i32_w, IntKind.wrap_u8]
    rfl
  refine take_ (i := 9) (N := some 69) (v := ?_) (a' := ?_) #[true, true, true, true, false, false, false, true, true, true, false, false] rfl rfl (by kernel_rfl) (fun _ _ _ h => h) (Or.inl ⟨by rfl, ?_⟩) hHeld ?_ ?_
  rotate_left
  · rintro w' ⟨s0, s1⟩
    go_simp
    with_reducible rfl
  rotate_left
  · simp only [Act.put, List.setIfInBounds_toArray, List.set_cons_zero, List.set_cons_succ, i64_w, i32_w, IntKind.wrap_u8]
    rfl
  refine pure_ (i := 10) (N := some 70) (v := ?_) (a' := ?_) #[true, true, true, true, false, false, false, true, true, true, true, false] rfl rfl (by kernel_rfl) (fun _ _ _ h => h) (Or.inl ⟨by rfl, ?_⟩) ?_ ?_
  rotate_left
  · intro w'
    go_simp
    with_reducible rfl
  rotate_left
  · simp only [Act.put, List.setIfInBounds_toArray, List.set_cons_zero, List.set_cons_succ, i64_w, i32_w, IntKind.wrap_u8]
    rfl
  refine one_ (i := 4) (N := some 64) #[true, true, true, true, true, false, false, true, true, true, true, false] rfl rfl (by kernel_rfl) (by decide) (fun K hK => ?_)
  refine goes_ Try.func10 (by kernel_rfl) rfl #[.pointer (some ⟨t, 0, none⟩), .string a.f0, .int .i64 now] (by rfl) rfl rfl (by (try simp only [List.map_toArray, List.map_cons, List.map_nil]); first | done | rfl) ?_
  refine (hNd w4.drew (hT5.below (below_drew1 (Below.refl _ _)))).mono ?_
  rintro e w5 ⟨v, rfl, hR, hb5⟩
  obtain ⟨A5, c5, rfl, _, _⟩ := Kd.R_reads hR
  have hb45 : Below w4.heap.size w4 w5 := (below_drew1 (Below.refl _ _)).trans hb5
  refine ⟨_, rfl, ?_⟩
  refine hK.out _ _ ⟨(hb45.cell (World.block_lt_of_cell? _ _ a0)).trans a0, (hb45.cell (World.block_lt_of_cell? _ _ a4)).trans a4⟩ (fun hHeld => ?_)
  clear hK K
  refine norm_ (a' := ?_) ?_ ?_
  rotate_left
  · show Act.put _ (some 64) _ = _
    simp only [Act.put, List.setIfInBounds_toArray, List.set_cons_zero, List.set_cons_succ, i64_w, i32_w, IntKind.wrap_u8]
    rfl
  refine pure_ (i := 5) (N := some 65) (v := ?_) (a' := ?_) #[true, true, true, true, true, true, false, true, true, true, true, false] rfl rfl (by kernel_rfl) (fun _ _ _ h => h) (Or.inl ⟨by rfl, ?_⟩) ?_ ?_
  rotate_left
  · intro w'
    go_simp
    with_reducible rfl
  rotate_left
  · simp only [Act.put, List.setIfInBounds_toArray, List.set_cons_zero, List.set_cons_succ, i64_w, i32_w, IntKind.wrap_u8]
    rfl
  refine pure_ (i := 6) (N := some 66) (v := ?_) (a' := ?_) #[true, true, true, true, true, true, true, true, true, true, true, false] rfl rfl (by kernel_rfl) (fun _ _ _ h => h) (Or.inl ⟨by rfl, ?_⟩) ?_ ?_
  rotate_left
  · intro w'
    go_simp
    with_reducible rfl
  rotate_left
  · simp only [Act.put, List.setIfInBounds_toArray, List.set_cons_zero, List.set_cons_succ, i64_w, i32_w, IntKind.wrap_u8]
    rfl
  refine pure_ (i := 11) (N := some 71) (v := ?_) (a' := ?_) #[true, true, true, true, true, true, true, true, true, true, true, true] rfl rfl (by kernel_rfl) (fun _ _ _ h => h) (Or.inl ⟨by rfl, ?_⟩) ?_ ?_
  rotate_left
  · intro w'
    go_simp
    with_reducible rfl
  rotate_left
  · simp only [Act.put, List.setIfInBounds_toArray, List.set_cons_zero, List.set_cons_succ, i64_w, i32_w, IntKind.wrap_u8]
    rfl
  refine done_ (by kernel_rfl) ?_
  have hTb5 := hT5.below hb45
  have hB5 := hB4.trans (hb45.mono hB4.size)
  have hna5 := blk_below hna4 hb45
  have hnb5 := blk_below hnb4 hb45
  clear hR hb5 hb45 hHeld hT5 hB4 hna4 hnb4 a0 a4 hNd
  have k0 : w5.cell? ⟨w.heap.size + 1, 0, none⟩ = some (.string a.f0) := blk_cell hnb5 0
  have k1 : w5.cell? ⟨w.heap.size + 1, 1, none⟩ = some (.int .i64 a.f1) := blk_cell hnb5 1
  have k2 : w5.cell? ⟨w.heap.size + 1, 2, none⟩ = some (.int .i64 b.f2.f0) := blk_cell hnb5 2
  have k3 : w5.cell? ⟨w.heap.size + 1, 3, none⟩ = some (.int .i64 b.f2.f1) := blk_cell hnb5 3
  have k4 : w5.cell? ⟨w.heap.size + 1, 4, none⟩ = some (.int .i64 b.f3) := blk_cell hnb5 4
  have hlo5 : w.heap.size + 2 ≤ w5.heap.size := by have := World.block_lt_of_cell? _ _ k0; have h2 : w.heap.size + 1 < w5.heap.size := this; omega
  go_wp2_with fail
  refine (announce (asA a b) now w5 hTb5 (by omega) hlo5 hsz).mono ?_
  rintro e w6 ⟨c, D6, T6, rfl, hAnn, hT6, hK6⟩
  have hB6 := hK6.below (B := w.heap.size) (by omega) hB5 (by omega)
  have hna6 := hK6.oth _ _ hna5 rfl
  have hnb6 := hK6.oth _ _ hnb5 rfl
  clear hTb5 hK6 hB5 hna5 hnb5 k0 k1 k2 k3 k4
  have a0 : w6.cell? ⟨w.heap.size, 0, none⟩ = some (.string a.f0) := blk_cell hna6 0
  have a4 : w6.cell? ⟨w.heap.size, 4, none⟩ = some (.int .i64 a.f3) := blk_cell hna6 4
  obtain ⟨rfl, rfl⟩ := hAnn.arg_of hm2
  have hNd := nodes a.f0 hsz now w6 hT6
  rw [show a.f0.data.toList = nameS a from rfl, HN.out, if_neg (fun h => by have := h.2; omega)] at hNd
  clear hAnn
  go_wp2_with (go_at_call 10; refine hNd.mono ?_; rintro e w7 ⟨v7, rfl, hR7, hb7⟩; obtain ⟨A7, c7, rfl, _, _⟩ := Kd.R_reads hR7; have a4b := (hb7.cell (World.block_lt_of_cell? _ _ a4)).trans a4)
  go_ret
  exact ⟨by first | rfl | (show Ending.returned (Value.bool _) = _; simp; omega), hB6.trans (hb7.mono hB6.size)⟩
end Go.Proofs.Ytmimnlbkllgfpaa.Tb
