/- TrackerCounts: walked. -/
import Derived.Test.YtmimnlbkllgfpaaCn
import Derived.Test.YtmimnlbkllgfpaaWLast
namespace Go.Proofs.Ytmimnlbkllgfpaa.Tb
open Go.RowKit Go.Maps Go.Proofs.Ytmimnlbkllgfpaa.A Go.Proofs.YtmimnlbkllgfpaaW.PrintWords Go.Proofs.YtmimnlbkllgfpaaW.PrintLast

def agN (a : Nt) : Value := .agg #[.string a.f0, .int .i64 a.f1, .int .i64 a.f2.f0, .int .i64 a.f2.f1, .int .i64 a.f3]
set_option maxHeartbeats 2000000 in
set_option maxRecDepth 100000 in
theorem counts_long (a b : Nt) (now : Int) (w : World) (h : 100 < a.f0.size ∨ 100 < b.f0.size) :
    Calls Try.prog 3 #[.agg #[.string a.f0, .int .i64 a.f1, .int .i64 a.f2.f0, .int .i64 a.f2.f1, .int .i64 a.f3], .agg #[.string b.f0, .int .i64 b.f1, .int .i64 b.f2.f0, .int .i64 b.f2.f1, .int .i64 b.f3], .int .i64 now] w fun e w' => e = .returned (.bool true) ∧ Below w.heap.size w w' := by
  have hAw := fun W => awake_calls W
  have hB1 : Below w.heap.size w (w.alloc (.cells #[.string a.f0, .int .i64 a.f1, .int .i64 a.f2.f0, .int .i64 a.f2.f1, .int .i64 a.f3] 25)) := (Below.refl _ w).alloc (Nat.le_refl _) _
  have hB2 : Below w.heap.size w ((w.alloc (.cells #[.string a.f0, .int .i64 a.f1, .int .i64 a.f2.f0, .int .i64 a.f2.f1, .int .i64 a.f3] 25)).alloc (.cells #[.string b.f0, .int .i64 b.f1, .int .i64 b.f2.f0, .int .i64 b.f2.f1, .int .i64 b.f3] 25)) := hB1.alloc hB1.size _
  by_cases ha : 100 < a.f0.size
  · have ga : (a.f0.size : Int) > 100 := by omega
    go_enter Try.func3, Try.ntmps3
    go_wp2_with (go_at_call 6; refine (hAw _).mono ?_; rintro e w1 ⟨rfl, hb⟩)
    go_ret
    exact ⟨rfl, hB2.trans (hb.mono hB2.size)⟩
  · have ga : ¬ (a.f0.size : Int) > 100 := by omega
    have gb : (b.f0.size : Int) > 100 := by omega
    go_enter Try.func3, Try.ntmps3
    go_wp2_with (go_at_call 6; refine (hAw _).mono ?_; rintro e w1 ⟨rfl, hb⟩)
    go_ret
    exact ⟨rfl, hB2.trans (hb.mono hB2.size)⟩
/-- b with a's name and node. -/
def asA (a b : Nt) : Nt := ⟨a.f0, a.f1, b.f2, b.f3⟩
set_option maxHeartbeats 8000000 in
set_option maxRecDepth 100000 in
theorem counts_bad (a b : Nt) (now : Int) (w : World) (ha : ¬ 100 < a.f0.size) (hb : ¬ 100 < b.f0.size) (hm : mayB a 0 = false) :
    Calls Try.prog 3 #[.agg #[.string a.f0, .int .i64 a.f1, .int .i64 a.f2.f0, .int .i64 a.f2.f1, .int .i64 a.f3], .agg #[.string b.f0, .int .i64 b.f1, .int .i64 b.f2.f0, .int .i64 b.f2.f1, .int .i64 b.f3], .int .i64 now] w fun e w' => e = .returned (.bool true) ∧ Below w.heap.size w w' := by
  have hAw := fun W => awake_calls W
  have hNew := fun W => new_ok 3 W (by decide) (by decide)
  have hB1 : Below w.heap.size w (w.alloc (.cells #[.string a.f0, .int .i64 a.f1, .int .i64 a.f2.f0, .int .i64 a.f2.f1, .int .i64 a.f3] 25)) := (Below.refl _ w).alloc (Nat.le_refl _) _
  have hB2 : Below w.heap.size w ((w.alloc (.cells #[.string a.f0, .int .i64 a.f1, .int .i64 a.f2.f0, .int .i64 a.f2.f1, .int .i64 a.f3] 25)).alloc (.cells #[.string b.f0, .int .i64 b.f1, .int .i64 b.f2.f0, .int .i64 b.f2.f1, .int .i64 b.f3] 25)) := hB1.alloc hB1.size _
  have hna := blk_alloc (blk_new w (.cells #[.string a.f0, .int .i64 a.f1, .int .i64 a.f2.f0, .int .i64 a.f2.f1, .int .i64 a.f3] 25)) (.cells #[.string b.f0, .int .i64 b.f1, .int .i64 b.f2.f0, .int .i64 b.f2.f1, .int .i64 b.f3] 25)
  have hnb := blk_new (w.alloc (.cells #[.string a.f0, .int .i64 a.f1, .int .i64 a.f2.f0, .int .i64 a.f2.f1, .int .i64 a.f3] 25)) (.cells #[.string b.f0, .int .i64 b.f1, .int .i64 b.f2.f0, .int .i64 b.f2.f1, .int .i64 b.f3] 25)
  rw [show (w.alloc (.cells #[.string a.f0, .int .i64 a.f1, .int .i64 a.f2.f0, .int .i64 a.f2.f1, .int .i64 a.f3] 25)).heap.size = w.heap.size + 1 by simp] at hnb
  have ga : ¬ (a.f0.size : Int) > 100 := by omega
  have gb : ¬ (b.f0.size : Int) > 100 := by omega
  have hsz : a.f0.size ≤ maxLen := by unfold maxLen; omega
  go_enter Try.func3, Try.ntmps3
  go_wp2_with (first
    | (go_at_call 7; refine (hNew _).mono ?_; rintro e w1 ⟨t, bm, rfl, hT1, hb1⟩; have hna1 := blk_below hna hb1; have hnb1 := blk_below hnb hb1)
    | (go_at_call 6; refine (hAw _).mono ?_; rintro e w2 ⟨rfl, hb2⟩; have hT2 := hT1.below hb2; have hna2 := blk_below hna1 hb2; have hnb2 := blk_below hnb1 hb2; have hBb := (hB2.trans (hb1.mono hB2.size)); have hBc := hBb.trans (hb2.mono hBb.size); have a0 := blk_cell hna2 0; have a1 := blk_cell hna2 1; have a2 := blk_cell hna2 2; have a3 := blk_cell hna2 3; have a4 := blk_cell hna2 4; have b0 := blk_cell hnb2 0; have b1 := blk_cell hnb2 1; have z0 := blk_frozen hnb2 0; have z1 := blk_frozen hnb2 1))
  have hT3 := (hT2.empty_set hnb2 (j := 0) (.string a.f0)).empty_set (setCell_at hnb2 (.string a.f0)) (j := 1) (.int .i64 a.f1)
  have hnb3 : ((w2.setCell ⟨w.heap.size + 1, 0, none⟩ (.string a.f0)).setCell ⟨w.heap.size + 1, 1, none⟩ (.int .i64 a.f1)).heap[w.heap.size + 1]? = some (.cells (ntC (asA a b)) 25 (0, 0)) := setCell_at (setCell_at hnb2 _) _
  have hna3 : ((w2.setCell ⟨w.heap.size + 1, 0, none⟩ (.string a.f0)).setCell ⟨w.heap.size + 1, 1, none⟩ (.int .i64 a.f1)).heap[w.heap.size]? = some (.cells (ntC a) 25 (0, 0)) := by
    rw [Below.heap_setCell _ _ _ _ (by show w.heap.size ≠ w.heap.size + 1; omega), Below.heap_setCell _ _ _ _ (by show w.heap.size ≠ w.heap.size + 1; omega)]
    exact hna2
  have hB3 : Below w.heap.size w ((w2.setCell ⟨w.heap.size + 1, 0, none⟩ (.string a.f0)).setCell ⟨w.heap.size + 1, 1, none⟩ (.int .i64 a.f1)) := (hBc.setCell (p := ⟨w.heap.size + 1, 0, none⟩) (by show w.heap.size ≤ w.heap.size + 1; omega) _).setCell (p := ⟨w.heap.size + 1, 1, none⟩) (by show w.heap.size ≤ w.heap.size + 1; omega) _
  have hlo : w.heap.size + 2 ≤ ((w2.setCell ⟨w.heap.size + 1, 0, none⟩ (.string a.f0)).setCell ⟨w.heap.size + 1, 1, none⟩ (.int .i64 a.f1)).heap.size := by
    have h1 := hb1.size
    have h2 := hb2.size
    simp [World.setCell] at h1 h2 ⊢
    omega
  have hlo2 : ((w.alloc (.cells #[.string a.f0, .int .i64 a.f1, .int .i64 a.f2.f0, .int .i64 a.f2.f1, .int .i64 a.f3] 25)).alloc (.cells #[.string b.f0, .int .i64 b.f1, .int .i64 b.f2.f0, .int .i64 b.f2.f1, .int .i64 b.f3] 25)).heap.size = w.heap.size + 2 := by simp
  rw [hlo2] at hT3
  clear hT2 hT1 hna2 hnb2 hna1 hnb1 hna hnb hBb hBc hb1 hb2 hB1 hB2 hlo2 a0 a1 a2 a3 a4 b0 b1 z0 z1 hNew hAw
  generalize ((w2.setCell ⟨w.heap.size + 1, 0, none⟩ (.string a.f0)).setCell ⟨w.heap.size + 1, 1, none⟩ (.int .i64 a.f1)) = w3 at *
  refine (announce a 0 w3 hT3 (by omega) hlo hsz).mono ?_
  rintro e w4 ⟨c, D4, T4, rfl, hAnn, hT4, hK4⟩
  have hB4 := hK4.below (B := w.heap.size) (by omega) hB3 (by omega)
  have hna4 := hK4.oth _ _ hna3 rfl
  have hnb4 := hK4.oth _ _ hnb3 rfl
  clear hT3 hK4 hB3 hna3 hnb3
  obtain ⟨rfl, rfl⟩ := hAnn.arg_of hm
  have hLn := len_calls 0 w4 hT4 (by omega)
  rw [(namesAre hT4 0).length (names_none 0)] at hLn
  clear hAnn
  go_wp2_with (go_at_call 9; refine hLn.mono ?_; rintro e w5 ⟨rfl, hb5⟩)
  go_ret
  exact ⟨rfl, hB4.trans (hb5.mono hB4.size)⟩
set_option maxHeartbeats 8000000 in
set_option maxRecDepth 100000 in
theorem counts_past (a b : Nt) (now : Int) (w : World) (ha : ¬ 100 < a.f0.size) (hb : ¬ 100 < b.f0.size) (hm : mayB a 0 = true) (htk : tickB now = false) :
    Calls Try.prog 3 #[.agg #[.string a.f0, .int .i64 a.f1, .int .i64 a.f2.f0, .int .i64 a.f2.f1, .int .i64 a.f3], .agg #[.string b.f0, .int .i64 b.f1, .int .i64 b.f2.f0, .int .i64 b.f2.f1, .int .i64 b.f3], .int .i64 now] w fun e w' => e = .returned (.bool true) ∧ Below w.heap.size w w' := by
  have hAw := fun W => awake_calls W
  have hNew := fun W => new_ok 3 W (by decide) (by decide)
  have hB1 : Below w.heap.size w (w.alloc (.cells #[.string a.f0, .int .i64 a.f1, .int .i64 a.f2.f0, .int .i64 a.f2.f1, .int .i64 a.f3] 25)) := (Below.refl _ w).alloc (Nat.le_refl _) _
  have hB2 : Below w.heap.size w ((w.alloc (.cells #[.string a.f0, .int .i64 a.f1, .int .i64 a.f2.f0, .int .i64 a.f2.f1, .int .i64 a.f3] 25)).alloc (.cells #[.string b.f0, .int .i64 b.f1, .int .i64 b.f2.f0, .int .i64 b.f2.f1, .int .i64 b.f3] 25)) := hB1.alloc hB1.size _
  have hna := blk_alloc (blk_new w (.cells #[.string a.f0, .int .i64 a.f1, .int .i64 a.f2.f0, .int .i64 a.f2.f1, .int .i64 a.f3] 25)) (.cells #[.string b.f0, .int .i64 b.f1, .int .i64 b.f2.f0, .int .i64 b.f2.f1, .int .i64 b.f3] 25)
  have hnb := blk_new (w.alloc (.cells #[.string a.f0, .int .i64 a.f1, .int .i64 a.f2.f0, .int .i64 a.f2.f1, .int .i64 a.f3] 25)) (.cells #[.string b.f0, .int .i64 b.f1, .int .i64 b.f2.f0, .int .i64 b.f2.f1, .int .i64 b.f3] 25)
  rw [show (w.alloc (.cells #[.string a.f0, .int .i64 a.f1, .int .i64 a.f2.f0, .int .i64 a.f2.f1, .int .i64 a.f3] 25)).heap.size = w.heap.size + 1 by simp] at hnb
  have ga : ¬ (a.f0.size : Int) > 100 := by omega
  have gb : ¬ (b.f0.size : Int) > 100 := by omega
  have hsz : a.f0.size ≤ maxLen := by unfold maxLen; omega
  go_enter Try.func3, Try.ntmps3
  go_wp2_with (first
    | (go_at_call 7; refine (hNew _).mono ?_; rintro e w1 ⟨t, bm, rfl, hT1, hb1⟩; have hna1 := blk_below hna hb1; have hnb1 := blk_below hnb hb1)
    | (go_at_call 6; refine (hAw _).mono ?_; rintro e w2 ⟨rfl, hb2⟩; have hT2 := hT1.below hb2; have hna2 := blk_below hna1 hb2; have hnb2 := blk_below hnb1 hb2; have hBb := (hB2.trans (hb1.mono hB2.size)); have hBc := hBb.trans (hb2.mono hBb.size); have a0 := blk_cell hna2 0; have a1 := blk_cell hna2 1; have a2 := blk_cell hna2 2; have a3 := blk_cell hna2 3; have a4 := blk_cell hna2 4; have b0 := blk_cell hnb2 0; have b1 := blk_cell hnb2 1; have z0 := blk_frozen hnb2 0; have z1 := blk_frozen hnb2 1))
  have hT3 := (hT2.empty_set hnb2 (j := 0) (.string a.f0)).empty_set (setCell_at hnb2 (.string a.f0)) (j := 1) (.int .i64 a.f1)
  have hnb3 : ((w2.setCell ⟨w.heap.size + 1, 0, none⟩ (.string a.f0)).setCell ⟨w.heap.size + 1, 1, none⟩ (.int .i64 a.f1)).heap[w.heap.size + 1]? = some (.cells (ntC (asA a b)) 25 (0, 0)) := setCell_at (setCell_at hnb2 _) _
  have hna3 : ((w2.setCell ⟨w.heap.size + 1, 0, none⟩ (.string a.f0)).setCell ⟨w.heap.size + 1, 1, none⟩ (.int .i64 a.f1)).heap[w.heap.size]? = some (.cells (ntC a) 25 (0, 0)) := by
    rw [Below.heap_setCell _ _ _ _ (by show w.heap.size ≠ w.heap.size + 1; omega), Below.heap_setCell _ _ _ _ (by show w.heap.size ≠ w.heap.size + 1; omega)]
    exact hna2
  have hB3 : Below w.heap.size w ((w2.setCell ⟨w.heap.size + 1, 0, none⟩ (.string a.f0)).setCell ⟨w.heap.size + 1, 1, none⟩ (.int .i64 a.f1)) := (hBc.setCell (p := ⟨w.heap.size + 1, 0, none⟩) (by show w.heap.size ≤ w.heap.size + 1; omega) _).setCell (p := ⟨w.heap.size + 1, 1, none⟩) (by show w.heap.size ≤ w.heap.size + 1; omega) _
  have hlo : w.heap.size + 2 ≤ ((w2.setCell ⟨w.heap.size + 1, 0, none⟩ (.string a.f0)).setCell ⟨w.heap.size + 1, 1, none⟩ (.int .i64 a.f1)).heap.size := by
    have h1 := hb1.size
    have h2 := hb2.size
    simp [World.setCell] at h1 h2 ⊢
    omega
  have hlo2 : ((w.alloc (.cells #[.string a.f0, .int .i64 a.f1, .int .i64 a.f2.f0, .int .i64 a.f2.f1, .int .i64 a.f3] 25)).alloc (.cells #[.string b.f0, .int .i64 b.f1, .int .i64 b.f2.f0, .int .i64 b.f2.f1, .int .i64 b.f3] 25)).heap.size = w.heap.size + 2 := by simp
  rw [hlo2] at hT3
  clear hT2 hT1 hna2 hnb2 hna1 hnb1 hna hnb hBb hBc hb1 hb2 hB1 hB2 hlo2 a0 a1 a2 a3 a4 b0 b1 z0 z1 hNew hAw
  generalize ((w2.setCell ⟨w.heap.size + 1, 0, none⟩ (.string a.f0)).setCell ⟨w.heap.size + 1, 1, none⟩ (.int .i64 a.f1)) = w3 at *
  refine (announce a 0 w3 hT3 (by omega) hlo hsz).mono ?_
  rintro e w4 ⟨c, D4, T4, rfl, hAnn, hT4, hK4⟩
  have hB4 := hK4.below (B := w.heap.size) (by omega) hB3 (by omega)
  have hna4 := hK4.oth _ _ hna3 rfl
  have hnb4 := hK4.oth _ _ hnb3 rfl
  clear hT3 hK4 hB3 hna3 hnb3
  obtain ⟨rfl, rfl⟩ := hAnn.ok_of hm (Or.inr ⟨[], names_none 0, by decide⟩)
  have hT5 : Tab w4 _ t bm 1 3 D4 (oneT a) := hT4
  have hM := (may_iff a 0).1 hm
  have hNd := nodes a.f0 hsz now w4 hT5
  rw [show a.f0.data.toList = nameS a from rfl, oneT_nodes a now hM.2.2.1, if_neg (by simp [htk])] at hNd
  have a0 : w4.cell? ⟨w.heap.size, 0, none⟩ = some (.string a.f0) := blk_cell hna4 0
  have HM := Aside.mk hM
  clear hAnn hT4 hM
  by_cases hneg : now < 0
  · go_wp2_with (go_at_call 10; refine hNd.mono ?_; rintro e w5 ⟨v, rfl, hR, hb5⟩; obtain ⟨A5, c5, rfl, _, _⟩ := Kd.R_reads hR)
    go_ret
    exact ⟨rfl, hB4.trans (hb5.mono hB4.size)⟩
  · have hgt : now > 1099511627776 := by unfold tickB at htk; simp at htk; omega
    have hgt2 : 1099511627776 < now := hgt
    go_wp2_with (go_at_call 10; refine hNd.mono ?_; rintro e w5 ⟨v, rfl, hR, hb5⟩; obtain ⟨A5, c5, rfl, _, _⟩ := Kd.R_reads hR)
    go_ret
    exact ⟨rfl, hB4.trans (hb5.mono hB4.size)⟩
end Go.Proofs.Ytmimnlbkllgfpaa.Tb
