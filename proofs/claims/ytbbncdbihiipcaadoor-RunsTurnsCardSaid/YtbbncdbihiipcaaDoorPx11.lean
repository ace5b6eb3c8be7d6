-- Written for this claim by the session's own turn of the kit's print program (wip/tools/xprint.py).
import Derived.Test.YtbbncdbihiipcaaDoorPx0
import Derived.Test.YtbbncdbihiipcaaDoorPx2
import Derived.Test.YtbbncdbihiipcaaDoorPx3
import Derived.Test.YtbbncdbihiipcaaDoorPx7
import Derived.Test.YtbbncdbihiipcaaDoorPx8
import Derived.Test.YtbbncdbihiipcaaDoorPx9
import Derived.Test.YtbbncdbihiipcaaDoorPx10
import Derived.Test.YtbbncdbihiipcaaDoorHz
namespace Go.Proofs.YtbbncdbihiipcaaDoor.P
open Go.RowKit Go.Proofs.YtbbncdbihiipcaaDoor.Sq Go.Proofs.YtbbncdbihiipcaaDoor.Hand Go.Proofs.YtbbncdbihiipcaaDoorW.PrintWords Go.Proofs.YtbbncdbihiipcaaDoorW.PrintLast Go.Proofs.YtbbncdbihiipcaaDoorW.PrintMore
attribute [local go_sem] max2_int min2_int max_two min_two max_three min_three max_four min_four   -- for this text's walks alone
set_option linter.unusedVariables false
set_option linter.unusedSimpArgs false

/-! ### mosaiclaw25_RunsPatches: function 6 -/
def mosaiclaw25_RunsPatches.j0 : Nat → Int → Bool → ByteArray → ByteArray → ByteArray → Option (Bool)
 | 0, _, _, _, _, _ => none
 | k + 1, x0, x28, x332000, x332001, x332002 => if x28 = true then ((mosaiclaw25_awake.f k).bind fun t332 => (some t332)) else ((runs_Patch.f k x0 x332000 x332001).bind fun bt333 => ((mosaicref25_Patch.f k x0 x332000 x332001).bind fun bt335 => ((runs_Apply.f k x0 x332000 x332002).bind fun bt337 => ((mosaicref25_Apply.f k x0 x332000 x332002).bind fun bt339 => ((mosaiclaw25_awake.f k).bind fun t341 => (if t341 = true then (if bt333.1.toList = bt335.1.toList then (if bt333.2 = bt335.2 then (if bt337.1.toList = bt339.1.toList then (some (bt337.2 == bt339.2)) else (none)) else (none)) else (none)) else (none)))))))
def mosaiclaw25_RunsPatches.f (k : Nat) (a0 : Int) (a1_0 : ByteArray) (a1_1 : ByteArray) (a1_2 : ByteArray) : Option (Bool) := if (a1_0.size : Int) > 30 then (mosaiclaw25_RunsPatches.j0 k a0 true a1_0 a1_1 a1_2) else (if (a1_1.size : Int) > 30 then (mosaiclaw25_RunsPatches.j0 k a0 true a1_0 a1_1 a1_2) else (mosaiclaw25_RunsPatches.j0 k a0 (decide ((a1_2.size : Int) > 400)) a1_0 a1_1 a1_2))
theorem mosaiclaw25_RunsPatches.mono_l : ∀ k, (∀ y0 y1 y2 y3 y4, LeO (mosaiclaw25_RunsPatches.j0 k y0 y1 y2 y3 y4) (mosaiclaw25_RunsPatches.j0 (k + 1) y0 y1 y2 y3 y4))
 | 0 => fun _ _ _ _ _ r h => by simp [mosaiclaw25_RunsPatches.j0] at h
 | k + 1 => by
  have ih0 := mosaiclaw25_RunsPatches.mono_l k
  ·
   intro y0 y1 y2 y3 y4
   unfold mosaiclaw25_RunsPatches.j0
   repeat' first
   | (with_reducible exact ih0 _ _ _ _ _)
   | (with_reducible exact mosaiclaw25_awake.mono _)
   | (with_reducible exact mosaicref25_Apply.mono _ _ _ _)
   | (with_reducible exact mosaicref25_Patch.mono _ _ _ _)
   | (with_reducible exact runs_Apply.mono _ _ _ _)
   | (with_reducible exact runs_Patch.mono _ _ _ _)
   | (with_reducible exact LeO.refl _)
   | (with_reducible exact LeO.none _)
   | (with_reducible refine LeO.ite ?_ ?_)
   | (with_reducible refine LeO.bind ?_ (fun _ => ?_))
   | exact ih0 _ _ _ _ _
   | exact mosaiclaw25_awake.mono _
   | exact mosaicref25_Apply.mono _ _ _ _
   | exact mosaicref25_Patch.mono _ _ _ _
   | exact runs_Apply.mono _ _ _ _
   | exact runs_Patch.mono _ _ _ _
   | exact LeO.none _
   | refine LeO.ite ?_ ?_
   | refine LeO.bind ?_ (fun _ => ?_)
theorem mosaiclaw25_RunsPatches.mono : ∀ a0 a1 a2 a3 k, LeO (mosaiclaw25_RunsPatches.f k a0 a1 a2 a3) (mosaiclaw25_RunsPatches.f (k + 1) a0 a1 a2 a3) := by
 intro a0 a1 a2 a3 k
 have ih0 := mosaiclaw25_RunsPatches.mono_l k
 unfold mosaiclaw25_RunsPatches.f
 repeat' first
   | (with_reducible exact ih0 _ _ _ _ _)
   | (with_reducible exact mosaiclaw25_awake.mono _)
   | (with_reducible exact mosaicref25_Apply.mono _ _ _ _)
   | (with_reducible exact mosaicref25_Patch.mono _ _ _ _)
   | (with_reducible exact runs_Apply.mono _ _ _ _)
   | (with_reducible exact runs_Patch.mono _ _ _ _)
   | (with_reducible exact LeO.refl _)
   | (with_reducible exact LeO.none _)
   | (with_reducible refine LeO.ite ?_ ?_)
   | (with_reducible refine LeO.bind ?_ (fun _ => ?_))
   | exact ih0 _ _ _ _ _
   | exact mosaiclaw25_awake.mono _
   | exact mosaicref25_Apply.mono _ _ _ _
   | exact mosaicref25_Patch.mono _ _ _ _
   | exact runs_Apply.mono _ _ _ _
   | exact runs_Patch.mono _ _ _ _
   | exact LeO.none _
   | refine LeO.ite ?_ ?_
   | refine LeO.bind ?_ (fun _ => ?_)
set_option maxHeartbeats 8000000 in
set_option maxRecDepth 100000 in
theorem mosaiclaw25_RunsPatches.calls (k : Nat) (a0 : Int) (a1_0 : ByteArray) (a1_1 : ByteArray) (a1_2 : ByteArray) (r : Bool) (w : World) (h : mosaiclaw25_RunsPatches.f k a0 a1_0 a1_1 a1_2 = some r) (hTab : TabW w) :
  Calls Tryd.prog 6 #[.int .i64 a0, .agg #[.string a1_0, .string a1_1, .string a1_2]] w fun e w' => e = .returned (.bool r) ∧ Below w.heap.size w w' := by
 have hu46 := Tryd.underlying46
 have HB := Aside0.mk (Below.refl w.heap.size w)
 have H : (if (a1_0.size : Int) > 30 then (mosaiclaw25_RunsPatches.j0 k a0 true a1_0 a1_1 a1_2) else (if (a1_1.size : Int) > 30 then (mosaiclaw25_RunsPatches.j0 k a0 true a1_0 a1_1 a1_2) else (mosaiclaw25_RunsPatches.j0 k a0 (decide ((a1_2.size : Int) > 400)) a1_0 a1_1 a1_2))) = some r := h
 clear h
 have HC3 := Aside0.mk H
 clear H
 go_enter Tryd.func6, Tryd.ntmps6
 go_upto_region 1 with (first | ((with_reducible refine gate_dst (N := 3) rfl ?_); (try (refine gate_guard (by rfl) ?_; dsimp only)); refine box_event ?hg (N := 3) ?hd (cs := #[.string a1_0, .string a1_1, .string a1_2]) (t := 46) ?hr ?_; (case hd => rfl); (case hg => rfl); (case hr => first | (go_simp; done) | (go_simp; rfl)); intro gb331 hg w4 hbox hb; have n0_ := hS HB hb; have n1_ := Aside0.mk (hbox); have n2_ := hG HB hg; have n3_ := hG HB hg; clear HB; have HB := n0_; have BK331 := n1_; have GW331 := n2_; have GE331 := n3_; clear n0_ n1_ n2_ n3_; clear hb hbox hg))
 (try simp only [Act.put, List.setIfInBounds_toArray, List.set_cons_zero, List.set_cons_succ])
 go_cut [28] (fun v28 wc => ∃ (kq : Nat) (x28_2 : Bool), v28 = .bool x28_2 ∧ Aside0 (mosaiclaw25_RunsPatches.j0 kq a0 x28_2 a1_0 a1_1 a1_2 = some r) ∧ Aside0 (kq ≤ k) ∧ Aside0 (wc.heap[gb331]? = some (.cells #[.string a1_0, .string a1_1, .string a1_2] 46 (0, 0))) ∧ Aside0 (Below w.heap.size w wc))
 case first =>
  have H := HC3.out
  clear HC3
  by_cases c5 : (a1_0.size : Int) > 30
  ·
   rw [if_pos c5] at H
   have c5b0 : decide (30 < (a1_0.size : Int)) = true := decide_eq_true c5
   have c5b1 : decide (30 < a1_0.size) = true := decide_eq_true (by omega)
   clear c5
   (first | rw [c5b0] | (simp only [i64_w, i32_w, IntKind.wrap_u8]; rw [c5b0]) | skip)
   have H' := Aside0.mk H
   clear H
   have hcz6_0 : w4.cell? ⟨gb331, 0, none⟩ = some (.string a1_0) := (blk_cell BK331.out 0).trans rfl
   have hcz6_1 : w4.cell? ⟨gb331, 1, none⟩ = some (.string a1_1) := (blk_cell BK331.out 1).trans rfl
   have hcz6_2 : w4.cell? ⟨gb331, 2, none⟩ = some (.string a1_2) := (blk_cell BK331.out 2).trans rfl
   have hfz6_0 := blk_frozen BK331.out 0
   have hfz6_1 := blk_frozen BK331.out 1
   have hfz6_2 := blk_frozen BK331.out 2
   go_wp2
   go_meet
   case rel => exact ⟨_, (true), (by first | rfl | (simp; done) | (simp [*]; done)), H', ⟨by first | omega | exact Nat.le_refl _⟩, ⟨by (with_reducible repeat (first | refine blk_drewN ?_ _ | refine blk_drew ?_ | refine blk_alloc ?_ _)); exact BK331.out⟩, ⟨by repeat (first | (with_reducible first | exact HB.out | apply below_alloc | apply pw_below_drewN | apply below_drew1 | refine below_set ?_ GE331.out) | exact HB.out)⟩⟩
  ·
   rw [if_neg c5] at H
   have c5b0 : decide (30 < (a1_0.size : Int)) = false := decide_eq_false c5
   have c5b1 : decide (30 < a1_0.size) = false := decide_eq_false (by omega)
   clear c5
   (first | rw [c5b0] | (simp only [i64_w, i32_w, IntKind.wrap_u8]; rw [c5b0]) | skip)
   by_cases c7 : (a1_1.size : Int) > 30
   ·
    rw [if_pos c7] at H
    have c7b0 : decide (30 < (a1_1.size : Int)) = true := decide_eq_true c7
    have c7b1 : decide (30 < a1_1.size) = true := decide_eq_true (by omega)
    clear c7
    have H' := Aside0.mk H
    clear H
    have hcz8_0 : w4.cell? ⟨gb331, 0, none⟩ = some (.string a1_0) := (blk_cell BK331.out 0).trans rfl
    have hcz8_1 : w4.cell? ⟨gb331, 1, none⟩ = some (.string a1_1) := (blk_cell BK331.out 1).trans rfl
    have hcz8_2 : w4.cell? ⟨gb331, 2, none⟩ = some (.string a1_2) := (blk_cell BK331.out 2).trans rfl
    have hfz8_0 := blk_frozen BK331.out 0
    have hfz8_1 := blk_frozen BK331.out 1
    have hfz8_2 := blk_frozen BK331.out 2
    go_wp2
    go_meet
    case rel => exact ⟨_, (true), (by first | rfl | (simp; done) | (simp [*]; done)), H', ⟨by first | omega | exact Nat.le_refl _⟩, ⟨by (with_reducible repeat (first | refine blk_drewN ?_ _ | refine blk_drew ?_ | refine blk_alloc ?_ _)); exact BK331.out⟩, ⟨by repeat (first | (with_reducible first | exact HB.out | apply below_alloc | apply pw_below_drewN | apply below_drew1 | refine below_set ?_ GE331.out) | exact HB.out)⟩⟩
   ·
    rw [if_neg c7] at H
    have c7b0 : decide (30 < (a1_1.size : Int)) = false := decide_eq_false c7
    have c7b1 : decide (30 < a1_1.size) = false := decide_eq_false (by omega)
    clear c7
    have H' := Aside0.mk H
    clear H
    have hcz9_0 : w4.cell? ⟨gb331, 0, none⟩ = some (.string a1_0) := (blk_cell BK331.out 0).trans rfl
    have hcz9_1 : w4.cell? ⟨gb331, 1, none⟩ = some (.string a1_1) := (blk_cell BK331.out 1).trans rfl
    have hcz9_2 : w4.cell? ⟨gb331, 2, none⟩ = some (.string a1_2) := (blk_cell BK331.out 2).trans rfl
    have hfz9_0 := blk_frozen BK331.out 0
    have hfz9_1 := blk_frozen BK331.out 1
    have hfz9_2 := blk_frozen BK331.out 2
    go_wp2
    go_meet
    case rel => exact ⟨_, (decide ((a1_2.size : Int) > 400)), (by first | rfl | (simp; done) | (simp [*]; done)), H', ⟨by first | omega | exact Nat.le_refl _⟩, ⟨by (with_reducible repeat (first | refine blk_drewN ?_ _ | refine blk_drew ?_ | refine blk_alloc ?_ _)); exact BK331.out⟩, ⟨by repeat (first | (with_reducible first | exact HB.out | apply below_alloc | apply pw_below_drewN | apply below_drew1 | refine below_set ?_ GE331.out) | exact HB.out)⟩⟩
 case rest =>
  clear HC3
  try clear p2
  try clear c5
  try clear c5b0
  try clear c5b1
  try clear c6
  try clear c7
  try clear c7b0
  try clear c7b1
  try clear hcz6_0
  try clear hcz6_1
  try clear hcz6_2
  try clear hcz8_0
  try clear hcz8_1
  try clear hcz8_2
  try clear hcz9_0
  try clear hcz9_1
  try clear hcz9_2
  try clear hfz6_0
  try clear hfz6_1
  try clear hfz6_2
  try clear hfz8_0
  try clear hfz8_1
  try clear hfz8_2
  try clear hfz9_0
  try clear hfz9_1
  try clear hfz9_2
  obtain ⟨kq, x28_2, rfl, HA, HJ2, BK331, HB⟩ := hcut
  cases kq with
  | zero => exact absurd HA.out (by simp [mosaiclaw25_RunsPatches.j0])
  | succ kj2 =>
   have H := HA.out
   clear HA
   simp only [mosaiclaw25_RunsPatches.j0] at H
   by_cases c10 : x28_2 = true
   ·
    subst c10
    have H1 : ((mosaiclaw25_awake.f kj2).bind fun t332 => (some t332)) = some r := by rw [if_pos rfl] at H; exact H
    clear H
    have H := H1
    clear H1
    replace H := Option.bind_eq_some_iff.mp H
    obtain ⟨t332, A110, H⟩ := H
    replace H : (some t332) = some r := H
    have A11 := Aside0.mk A110
    clear A110
    obtain rfl := Option.some.inj H
    go_wp2_with (first | ((with_reducible refine gate_callee (f := 10) rfl ?_); refine goesL_ (some 29) rfl rfl Tryd.func10 (by kernel_rfl) rfl #[] rfl (by (try simp only [List.map_toArray, List.map_cons, List.map_nil]); first | done | rfl | (simp only [List.length_drop, List.length_take]; rfl)) ?_; (with_reducible refine (mosaiclaw25_awake.calls kj2  t332 _ A11.out (TabW.below hTab (by repeat (first | (with_reducible first | exact HB.out | apply below_alloc | apply pw_below_drewN | apply below_drew1 | refine below_set ?_ GE331.out) | exact HB.out)))).mono ?_); rintro e w12 ⟨rfl, hb⟩; refine ⟨_, rfl, ?_⟩; have n0_ := bB BK331 hb; have n1_ := Aside0.mk (below_step (by repeat (first | (with_reducible first | exact HB.out | apply below_alloc | apply pw_below_drewN | apply below_drew1 | refine below_set ?_ GE331.out) | exact HB.out)) hb); clear BK331; clear HB; have BK331 := n0_; have HB := n1_; clear n0_ n1_; (try clear hb); (try clear hb2); (try clear hk); (try clear hi)))
    go_ret
    exact ⟨by first | rfl | (simp [errW_none, errW_some] <;> rfl) | (simp [*, errW_none, errW_some] <;> rfl), by repeat (first | (with_reducible first | exact HB.out | apply below_alloc | apply pw_below_drewN | apply below_drew1 | refine below_set ?_ GE331.out) | exact HB.out)⟩
   ·
    replace c10 := Bool.eq_false_iff.mpr c10
    subst c10
    have H1 : ((runs_Patch.f kj2 a0 a1_0 a1_1).bind fun bt333 => ((mosaicref25_Patch.f kj2 a0 a1_0 a1_1).bind fun bt335 => ((runs_Apply.f kj2 a0 a1_0 a1_2).bind fun bt337 => ((mosaicref25_Apply.f kj2 a0 a1_0 a1_2).bind fun bt339 => ((mosaiclaw25_awake.f kj2).bind fun t341 => (if t341 = true then (if bt333.1.toList = bt335.1.toList then (if bt333.2 = bt335.2 then (if bt337.1.toList = bt339.1.toList then (some (bt337.2 == bt339.2)) else (none)) else (none)) else (none)) else (none))))))) = some r := by rw [if_neg (show ¬ (false = true) by decide)] at H; exact H
    clear H
    have H := H1
    clear H1
    replace H := Option.bind_eq_some_iff.mp H
    obtain ⟨⟨t333, t334⟩, A130, H⟩ := H
    replace H : ((mosaicref25_Patch.f kj2 a0 a1_0 a1_1).bind fun bt335 => ((runs_Apply.f kj2 a0 a1_0 a1_2).bind fun bt337 => ((mosaicref25_Apply.f kj2 a0 a1_0 a1_2).bind fun bt339 => ((mosaiclaw25_awake.f kj2).bind fun t341 => (if t341 = true then (if t333.toList = bt335.1.toList then (if t334 = bt335.2 then (if bt337.1.toList = bt339.1.toList then (some (bt337.2 == bt339.2)) else (none)) else (none)) else (none)) else (none)))))) = some r := H
    have A13 := Aside0.mk A130
    clear A130
    replace H := Option.bind_eq_some_iff.mp H
    obtain ⟨⟨t335, t336⟩, A140, H⟩ := H
    replace H : ((runs_Apply.f kj2 a0 a1_0 a1_2).bind fun bt337 => ((mosaicref25_Apply.f kj2 a0 a1_0 a1_2).bind fun bt339 => ((mosaiclaw25_awake.f kj2).bind fun t341 => (if t341 = true then (if t333.toList = t335.toList then (if t334 = t336 then (if bt337.1.toList = bt339.1.toList then (some (bt337.2 == bt339.2)) else (none)) else (none)) else (none)) else (none))))) = some r := H
    have A14 := Aside0.mk A140
    clear A140
    replace H := Option.bind_eq_some_iff.mp H
    obtain ⟨⟨t337, t338⟩, A150, H⟩ := H
    replace H : ((mosaicref25_Apply.f kj2 a0 a1_0 a1_2).bind fun bt339 => ((mosaiclaw25_awake.f kj2).bind fun t341 => (if t341 = true then (if t333.toList = t335.toList then (if t334 = t336 then (if t337.toList = bt339.1.toList then (some (t338 == bt339.2)) else (none)) else (none)) else (none)) else (none)))) = some r := H
    have A15 := Aside0.mk A150
    clear A150
    replace H := Option.bind_eq_some_iff.mp H
    obtain ⟨⟨t339, t340⟩, A160, H⟩ := H
    replace H : ((mosaiclaw25_awake.f kj2).bind fun t341 => (if t341 = true then (if t333.toList = t335.toList then (if t334 = t336 then (if t337.toList = t339.toList then (some (t338 == t340)) else (none)) else (none)) else (none)) else (none))) = some r := H
    have A16 := Aside0.mk A160
    clear A160
    replace H := Option.bind_eq_some_iff.mp H
    obtain ⟨t341, A170, H⟩ := H
    replace H : (if t341 = true then (if t333.toList = t335.toList then (if t334 = t336 then (if t337.toList = t339.toList then (some (t338 == t340)) else (none)) else (none)) else (none)) else (none)) = some r := H
    have A17 := Aside0.mk A170
    clear A170
    by_cases c18 : t341 = true
    ·
     subst c18
     have H1 : (if t333.toList = t335.toList then (if t334 = t336 then (if t337.toList = t339.toList then (some (t338 == t340)) else (none)) else (none)) else (none)) = some r := by rw [if_pos rfl] at H; exact H
     clear H
     have H := H1
     clear H1
     by_cases c19 : t333.toList = t335.toList
     ·
      rw [if_pos c19] at H
      have c19b0 : (t333.toList == t335.toList) = true := beq_iff_eq.mpr c19
      have c19b1 : (t333.toList != t335.toList) = false := bne_eq_false_iff_eq.mpr c19
      clear c19
      by_cases c20 : t334 = t336
      ·
       rw [if_pos c20] at H
       have c20b0 : (t334 == t336) = true := beq_iff_eq.mpr c20
       have c20b1 : (t334 != t336) = false := bne_eq_false_iff_eq.mpr c20
       clear c20
       by_cases c21 : t337.toList = t339.toList
       ·
        rw [if_pos c21] at H
        have c21b0 : (t337.toList == t339.toList) = true := beq_iff_eq.mpr c21
        have c21b1 : (t337.toList != t339.toList) = false := bne_eq_false_iff_eq.mpr c21
        clear c21
        obtain rfl := Option.some.inj H
        have hcz22_0 : wc.cell? ⟨gb331, 0, none⟩ = some (.string a1_0) := (blk_cell BK331.out 0).trans rfl
        have hcz22_1 : wc.cell? ⟨gb331, 1, none⟩ = some (.string a1_1) := (blk_cell BK331.out 1).trans rfl
        have hcz22_2 : wc.cell? ⟨gb331, 2, none⟩ = some (.string a1_2) := (blk_cell BK331.out 2).trans rfl
        have hfz22_0 := blk_frozen BK331.out 0
        have hfz22_1 := blk_frozen BK331.out 1
        have hfz22_2 := blk_frozen BK331.out 2
        go_wp2_with (first | ((with_reducible refine gate_callee (f := 25) rfl ?_); refine goesL_ (some 36) rfl rfl Tryd.func25 (by kernel_rfl) rfl #[.int .i64 a0, .string a1_0, .string a1_1] rfl (by (try simp only [List.map_toArray, List.map_cons, List.map_nil]); first | done | rfl | (simp only [List.length_drop, List.length_take]; rfl)) ?_; (with_reducible refine (runs_Patch.calls kj2 a0 a1_0 a1_1 t333 t334 _ A13.out).mono ?_); rintro e w23 ⟨rfl, hb⟩; refine ⟨_, rfl, ?_⟩; have n0_ := bB BK331 hb; have n1_ := Aside0.mk (below_step (by repeat (first | (with_reducible first | exact HB.out | apply below_alloc | apply pw_below_drewN | apply below_drew1 | refine below_set ?_ GE331.out) | exact HB.out)) hb); clear BK331; clear HB; have BK331 := n0_; have HB := n1_; clear n0_ n1_; (try clear hb); (try clear hb2); (try clear hk); (try clear hi); have hcz24_0 : w23.cell? ⟨gb331, 0, none⟩ = some (.string a1_0) := (blk_cell BK331.out 0).trans rfl; have hcz24_1 : w23.cell? ⟨gb331, 1, none⟩ = some (.string a1_1) := (blk_cell BK331.out 1).trans rfl; have hcz24_2 : w23.cell? ⟨gb331, 2, none⟩ = some (.string a1_2) := (blk_cell BK331.out 2).trans rfl; have hfz24_0 := blk_frozen BK331.out 0; have hfz24_1 := blk_frozen BK331.out 1; have hfz24_2 := blk_frozen BK331.out 2) | ((with_reducible refine gate_callee (f := 26) rfl ?_); refine goesL_ (some 45) rfl rfl Tryd.func26 (by kernel_rfl) rfl #[.int .i64 a0, .string a1_0, .string a1_1] rfl (by (try simp only [List.map_toArray, List.map_cons, List.map_nil]); first | done | rfl | (simp only [List.length_drop, List.length_take]; rfl)) ?_; (with_reducible refine (mosaicref25_Patch.calls kj2 a0 a1_0 a1_1 t335 t336 _ A14.out).mono ?_); rintro e w25 ⟨rfl, hb⟩; refine ⟨_, rfl, ?_⟩; have n0_ := bB BK331 hb; have n1_ := Aside0.mk (below_step (by repeat (first | (with_reducible first | exact HB.out | apply below_alloc | apply pw_below_drewN | apply below_drew1 | refine below_set ?_ GE331.out) | exact HB.out)) hb); clear BK331; clear HB; have BK331 := n0_; have HB := n1_; clear n0_ n1_; (try clear hb); (try clear hb2); (try clear hk); (try clear hi); have hcz26_0 : w25.cell? ⟨gb331, 0, none⟩ = some (.string a1_0) := (blk_cell BK331.out 0).trans rfl; have hcz26_1 : w25.cell? ⟨gb331, 1, none⟩ = some (.string a1_1) := (blk_cell BK331.out 1).trans rfl; have hcz26_2 : w25.cell? ⟨gb331, 2, none⟩ = some (.string a1_2) := (blk_cell BK331.out 2).trans rfl; have hfz26_0 := blk_frozen BK331.out 0; have hfz26_1 := blk_frozen BK331.out 1; have hfz26_2 := blk_frozen BK331.out 2) | ((with_reducible refine gate_callee (f := 27) rfl ?_); refine goesL_ (some 54) rfl rfl Tryd.func27 (by kernel_rfl) rfl #[.int .i64 a0, .string a1_0, .string a1_2] rfl (by (try simp only [List.map_toArray, List.map_cons, List.map_nil]); first | done | rfl | (simp only [List.length_drop, List.length_take]; rfl)) ?_; (with_reducible refine (runs_Apply.calls kj2 a0 a1_0 a1_2 t337 t338 _ A15.out).mono ?_); rintro e w27 ⟨rfl, hb⟩; refine ⟨_, rfl, ?_⟩; have n0_ := bB BK331 hb; have n1_ := Aside0.mk (below_step (by repeat (first | (with_reducible first | exact HB.out | apply below_alloc | apply pw_below_drewN | apply below_drew1 | refine below_set ?_ GE331.out) | exact HB.out)) hb); clear BK331; clear HB; have BK331 := n0_; have HB := n1_; clear n0_ n1_; (try clear hb); (try clear hb2); (try clear hk); (try clear hi); have hcz28_0 : w27.cell? ⟨gb331, 0, none⟩ = some (.string a1_0) := (blk_cell BK331.out 0).trans rfl; have hcz28_1 : w27.cell? ⟨gb331, 1, none⟩ = some (.string a1_1) := (blk_cell BK331.out 1).trans rfl; have hcz28_2 : w27.cell? ⟨gb331, 2, none⟩ = some (.string a1_2) := (blk_cell BK331.out 2).trans rfl; have hfz28_0 := blk_frozen BK331.out 0; have hfz28_1 := blk_frozen BK331.out 1; have hfz28_2 := blk_frozen BK331.out 2) | ((with_reducible refine gate_callee (f := 28) rfl ?_); refine goesL_ (some 63) rfl rfl Tryd.func28 (by kernel_rfl) rfl #[.int .i64 a0, .string a1_0, .string a1_2] rfl (by (try simp only [List.map_toArray, List.map_cons, List.map_nil]); first | done | rfl | (simp only [List.length_drop, List.length_take]; rfl)) ?_; (with_reducible refine (mosaicref25_Apply.calls kj2 a0 a1_0 a1_2 t339 t340 _ A16.out).mono ?_); rintro e w29 ⟨rfl, hb⟩; refine ⟨_, rfl, ?_⟩; have n0_ := bB BK331 hb; have n1_ := Aside0.mk (below_step (by repeat (first | (with_reducible first | exact HB.out | apply below_alloc | apply pw_below_drewN | apply below_drew1 | refine below_set ?_ GE331.out) | exact HB.out)) hb); clear BK331; clear HB; have BK331 := n0_; have HB := n1_; clear n0_ n1_; (try clear hb); (try clear hb2); (try clear hk); (try clear hi)) | ((with_reducible refine gate_callee (f := 10) rfl ?_); refine goesL_ (some 66) rfl rfl Tryd.func10 (by kernel_rfl) rfl #[] rfl (by (try simp only [List.map_toArray, List.map_cons, List.map_nil]); first | done | rfl | (simp only [List.length_drop, List.length_take]; rfl)) ?_; (with_reducible refine (mosaiclaw25_awake.calls kj2  true _ A17.out (TabW.below hTab (by repeat (first | (with_reducible first | exact HB.out | apply below_alloc | apply pw_below_drewN | apply below_drew1 | refine below_set ?_ GE331.out) | exact HB.out)))).mono ?_); rintro e w30 ⟨rfl, hb⟩; refine ⟨_, rfl, ?_⟩; have n0_ := bB BK331 hb; have n1_ := Aside0.mk (below_step (by repeat (first | (with_reducible first | exact HB.out | apply below_alloc | apply pw_below_drewN | apply below_drew1 | refine below_set ?_ GE331.out) | exact HB.out)) hb); clear BK331; clear HB; have BK331 := n0_; have HB := n1_; clear n0_ n1_; (try clear hb); (try clear hb2); (try clear hk); (try clear hi)))
        go_ret
        exact ⟨by first | rfl | (simp [errW_none, errW_some] <;> rfl) | (simp [*, errW_none, errW_some] <;> rfl), by repeat (first | (with_reducible first | exact HB.out | apply below_alloc | apply pw_below_drewN | apply below_drew1 | refine below_set ?_ GE331.out) | exact HB.out)⟩
       ·
        rw [if_neg c21] at H
        exact absurd H (by simp)
      ·
       rw [if_neg c20] at H
       exact absurd H (by simp)
     ·
      rw [if_neg c19] at H
      exact absurd H (by simp)
    ·
     replace c18 := Bool.eq_false_iff.mpr c18
     subst c18
     have H1 : (none) = some r := by rw [if_neg (show ¬ (false = true) by decide)] at H; exact H
     clear H
     have H := H1
     clear H1
     exact absurd H (by simp)

/-- THE ONE PURE STATEMENT of mosaiclaw25_RunsPatches: yours. -/
def mosaiclaw25_RunsPatches.Pure : Prop := ∀ (a0 : Int) (a1_0 : ByteArray) (a1_1 : ByteArray) (a1_2 : ByteArray), (Lit.int .i64 a0).wf = true → Q46 (⟨a1_0, a1_1, a1_2⟩ : S46) → ∃ k, mosaiclaw25_RunsPatches.f k a0 a1_0 a1_1 a1_2 = some true

/-! ### mosaiclaw25_RunsPacks: function 5 -/
def mosaiclaw25_RunsPacks.j0 : Nat → Int → ByteArray → ByteArray → Bool → Option (Bool)
 | 0, _, _, _, _ => none
 | k + 1, x0, x1, x2, x22 => if x22 = true then ((mosaiclaw25_awake.f k).bind fun t342 => (some t342)) else ((runs_Pack.f x0 x1).bind fun bt343 => ((mosaicref25_Pack.f k x0 x1).bind fun bt345 => ((runs_Unpack.f k x0 x2).bind fun bt347 => ((mosaicref25_Unpack.f k x0 x2).bind fun bt349 => ((mosaiclaw25_awake.f k).bind fun t351 => (if t351 = true then (if bt343.1.toList = bt345.1.toList then (if bt343.2 = bt345.2 then (if bt347.1.toList = bt349.1.toList then (some (bt347.2 == bt349.2)) else (none)) else (none)) else (none)) else (none)))))))
def mosaiclaw25_RunsPacks.f (k : Nat) (a0 : Int) (a1 : ByteArray) (a2 : ByteArray) : Option (Bool) := if (a1.size : Int) > 30 then (mosaiclaw25_RunsPacks.j0 k a0 a1 a2 true) else (mosaiclaw25_RunsPacks.j0 k a0 a1 a2 (decide ((a2.size : Int) > 400)))
theorem mosaiclaw25_RunsPacks.mono_l : ∀ k, (∀ y0 y1 y2 y3, LeO (mosaiclaw25_RunsPacks.j0 k y0 y1 y2 y3) (mosaiclaw25_RunsPacks.j0 (k + 1) y0 y1 y2 y3))
 | 0 => fun _ _ _ _ r h => by simp [mosaiclaw25_RunsPacks.j0] at h
 | k + 1 => by
  have ih0 := mosaiclaw25_RunsPacks.mono_l k
  ·
   intro y0 y1 y2 y3
   unfold mosaiclaw25_RunsPacks.j0
   repeat' first
   | (with_reducible exact ih0 _ _ _ _)
   | (with_reducible exact mosaiclaw25_awake.mono _)
   | (with_reducible exact mosaicref25_Pack.mono _ _ _)
   | (with_reducible exact mosaicref25_Unpack.mono _ _ _)
   | (with_reducible exact runs_Unpack.mono _ _ _)
   | (with_reducible exact LeO.refl _)
   | (with_reducible exact LeO.none _)
   | (with_reducible refine LeO.ite ?_ ?_)
   | (with_reducible refine LeO.bind ?_ (fun _ => ?_))
   | exact ih0 _ _ _ _
   | exact mosaiclaw25_awake.mono _
   | exact mosaicref25_Pack.mono _ _ _
   | exact mosaicref25_Unpack.mono _ _ _
   | exact runs_Unpack.mono _ _ _
   | exact LeO.none _
   | refine LeO.ite ?_ ?_
   | refine LeO.bind ?_ (fun _ => ?_)
theorem mosaiclaw25_RunsPacks.mono : ∀ a0 a1 a2 k, LeO (mosaiclaw25_RunsPacks.f k a0 a1 a2) (mosaiclaw25_RunsPacks.f (k + 1) a0 a1 a2) := by
 intro a0 a1 a2 k
 have ih0 := mosaiclaw25_RunsPacks.mono_l k
 unfold mosaiclaw25_RunsPacks.f
 repeat' first
   | (with_reducible exact ih0 _ _ _ _)
   | (with_reducible exact mosaiclaw25_awake.mono _)
   | (with_reducible exact mosaicref25_Pack.mono _ _ _)
   | (with_reducible exact mosaicref25_Unpack.mono _ _ _)
   | (with_reducible exact runs_Unpack.mono _ _ _)
   | (with_reducible exact LeO.refl _)
   | (with_reducible exact LeO.none _)
   | (with_reducible refine LeO.ite ?_ ?_)
   | (with_reducible refine LeO.bind ?_ (fun _ => ?_))
   | exact ih0 _ _ _ _
   | exact mosaiclaw25_awake.mono _
   | exact mosaicref25_Pack.mono _ _ _
   | exact mosaicref25_Unpack.mono _ _ _
   | exact runs_Unpack.mono _ _ _
   | exact LeO.none _
   | refine LeO.ite ?_ ?_
   | refine LeO.bind ?_ (fun _ => ?_)
set_option maxHeartbeats 8000000 in
set_option maxRecDepth 100000 in
theorem mosaiclaw25_RunsPacks.calls (k : Nat) (a0 : Int) (a1 : ByteArray) (a2 : ByteArray) (r : Bool) (w : World) (h : mosaiclaw25_RunsPacks.f k a0 a1 a2 = some r) (hTab : TabW w) :
  Calls Tryd.prog 5 #[.int .i64 a0, .string a1, .string a2] w fun e w' => e = .returned (.bool r) ∧ Below w.heap.size w w' := by
 have HB := Aside0.mk (Below.refl w.heap.size w)
 have H : (if (a1.size : Int) > 30 then (mosaiclaw25_RunsPacks.j0 k a0 a1 a2 true) else (mosaiclaw25_RunsPacks.j0 k a0 a1 a2 (decide ((a2.size : Int) > 400)))) = some r := h
 clear h
 have HC4 := Aside0.mk H
 clear H
 go_enter Tryd.func5, Tryd.ntmps5
 go_upto_region 1 with (fail)
 go_cut [22] (fun v22 wc => ∃ (kq : Nat) (x22_3 : Bool), v22 = .bool x22_3 ∧ Aside0 (mosaiclaw25_RunsPacks.j0 kq a0 a1 a2 x22_3 = some r) ∧ Aside0 (kq ≤ k) ∧ Aside0 (Below w.heap.size w wc))
 case first =>
  have H := HC4.out
  clear HC4
  by_cases c5 : (a1.size : Int) > 30
  ·
   rw [if_pos c5] at H
   have c5b0 : decide (30 < (a1.size : Int)) = true := decide_eq_true c5
   have c5b1 : decide (30 < a1.size) = true := decide_eq_true (by omega)
   clear c5
   (first | rw [c5b0] | (simp only [i64_w, i32_w, IntKind.wrap_u8]; rw [c5b0]) | skip)
   have H' := Aside0.mk H
   clear H
   go_wp2
   go_meet
   case rel => exact ⟨_, (true), (by first | rfl | (simp; done) | (simp [*]; done)), H', ⟨by first | omega | exact Nat.le_refl _⟩, ⟨by repeat (first | (with_reducible first | exact HB.out | apply below_alloc | apply pw_below_drewN | apply below_drew1) | exact HB.out)⟩⟩
  ·
   rw [if_neg c5] at H
   have c5b0 : decide (30 < (a1.size : Int)) = false := decide_eq_false c5
   have c5b1 : decide (30 < a1.size) = false := decide_eq_false (by omega)
   clear c5
   (first | rw [c5b0] | (simp only [i64_w, i32_w, IntKind.wrap_u8]; rw [c5b0]) | skip)
   have H' := Aside0.mk H
   clear H
   go_wp2
   go_meet
   case rel => exact ⟨_, (decide ((a2.size : Int) > 400)), (by first | rfl | (simp; done) | (simp [*]; done)), H', ⟨by first | omega | exact Nat.le_refl _⟩, ⟨by repeat (first | (with_reducible first | exact HB.out | apply below_alloc | apply pw_below_drewN | apply below_drew1) | exact HB.out)⟩⟩
 case rest =>
  clear HC4
  try clear p2
  try clear c5
  try clear c5b0
  try clear c5b1
  obtain ⟨kq, x22_3, rfl, HA, HJ3, HB⟩ := hcut
  cases kq with
  | zero => exact absurd HA.out (by simp [mosaiclaw25_RunsPacks.j0])
  | succ kj3 =>
   have H := HA.out
   clear HA
   simp only [mosaiclaw25_RunsPacks.j0] at H
   by_cases c6 : x22_3 = true
   ·
    subst c6
    have H1 : ((mosaiclaw25_awake.f kj3).bind fun t342 => (some t342)) = some r := by rw [if_pos rfl] at H; exact H
    clear H
    have H := H1
    clear H1
    replace H := Option.bind_eq_some_iff.mp H
    obtain ⟨t342, A70, H⟩ := H
    replace H : (some t342) = some r := H
    have A7 := Aside0.mk A70
    clear A70
    obtain rfl := Option.some.inj H
    go_wp2_with (first | ((with_reducible refine gate_callee (f := 10) rfl ?_); refine goesL_ (some 23) rfl rfl Tryd.func10 (by kernel_rfl) rfl #[] rfl (by (try simp only [List.map_toArray, List.map_cons, List.map_nil]); first | done | rfl | (simp only [List.length_drop, List.length_take]; rfl)) ?_; (with_reducible refine (mosaiclaw25_awake.calls kj3  t342 _ A7.out (TabW.below hTab (by repeat (first | (with_reducible first | exact HB.out | apply below_alloc | apply pw_below_drewN | apply below_drew1) | exact HB.out)))).mono ?_); rintro e w8 ⟨rfl, hb⟩; refine ⟨_, rfl, ?_⟩; have n0_ := Aside0.mk (below_step (by repeat (first | (with_reducible first | exact HB.out | apply below_alloc | apply pw_below_drewN | apply below_drew1) | exact HB.out)) hb); clear HB; have HB := n0_; clear n0_; (try clear hb); (try clear hb2); (try clear hk); (try clear hi)))
    go_ret
    exact ⟨by first | rfl | (simp [errW_none, errW_some] <;> rfl) | (simp [*, errW_none, errW_some] <;> rfl), by repeat (first | (with_reducible first | exact HB.out | apply below_alloc | apply pw_below_drewN | apply below_drew1) | exact HB.out)⟩
   ·
    replace c6 := Bool.eq_false_iff.mpr c6
    subst c6
    have H1 : ((runs_Pack.f a0 a1).bind fun bt343 => ((mosaicref25_Pack.f kj3 a0 a1).bind fun bt345 => ((runs_Unpack.f kj3 a0 a2).bind fun bt347 => ((mosaicref25_Unpack.f kj3 a0 a2).bind fun bt349 => ((mosaiclaw25_awake.f kj3).bind fun t351 => (if t351 = true then (if bt343.1.toList = bt345.1.toList then (if bt343.2 = bt345.2 then (if bt347.1.toList = bt349.1.toList then (some (bt347.2 == bt349.2)) else (none)) else (none)) else (none)) else (none))))))) = some r := by rw [if_neg (show ¬ (false = true) by decide)] at H; exact H
    clear H
    have H := H1
    clear H1
    replace H := Option.bind_eq_some_iff.mp H
    obtain ⟨⟨t343, t344⟩, A90, H⟩ := H
    replace H : ((mosaicref25_Pack.f kj3 a0 a1).bind fun bt345 => ((runs_Unpack.f kj3 a0 a2).bind fun bt347 => ((mosaicref25_Unpack.f kj3 a0 a2).bind fun bt349 => ((mosaiclaw25_awake.f kj3).bind fun t351 => (if t351 = true then (if t343.toList = bt345.1.toList then (if t344 = bt345.2 then (if bt347.1.toList = bt349.1.toList then (some (bt347.2 == bt349.2)) else (none)) else (none)) else (none)) else (none)))))) = some r := H
    have A9 := Aside0.mk A90
    clear A90
    replace H := Option.bind_eq_some_iff.mp H
    obtain ⟨⟨t345, t346⟩, A100, H⟩ := H
    replace H : ((runs_Unpack.f kj3 a0 a2).bind fun bt347 => ((mosaicref25_Unpack.f kj3 a0 a2).bind fun bt349 => ((mosaiclaw25_awake.f kj3).bind fun t351 => (if t351 = true then (if t343.toList = t345.toList then (if t344 = t346 then (if bt347.1.toList = bt349.1.toList then (some (bt347.2 == bt349.2)) else (none)) else (none)) else (none)) else (none))))) = some r := H
    have A10 := Aside0.mk A100
    clear A100
    replace H := Option.bind_eq_some_iff.mp H
    obtain ⟨⟨t347, t348⟩, A110, H⟩ := H
    replace H : ((mosaicref25_Unpack.f kj3 a0 a2).bind fun bt349 => ((mosaiclaw25_awake.f kj3).bind fun t351 => (if t351 = true then (if t343.toList = t345.toList then (if t344 = t346 then (if t347.toList = bt349.1.toList then (some (t348 == bt349.2)) else (none)) else (none)) else (none)) else (none)))) = some r := H
    have A11 := Aside0.mk A110
    clear A110
    replace H := Option.bind_eq_some_iff.mp H
    obtain ⟨⟨t349, t350⟩, A120, H⟩ := H
    replace H : ((mosaiclaw25_awake.f kj3).bind fun t351 => (if t351 = true then (if t343.toList = t345.toList then (if t344 = t346 then (if t347.toList = t349.toList then (some (t348 == t350)) else (none)) else (none)) else (none)) else (none))) = some r := H
    have A12 := Aside0.mk A120
    clear A120
    replace H := Option.bind_eq_some_iff.mp H
    obtain ⟨t351, A130, H⟩ := H
    replace H : (if t351 = true then (if t343.toList = t345.toList then (if t344 = t346 then (if t347.toList = t349.toList then (some (t348 == t350)) else (none)) else (none)) else (none)) else (none)) = some r := H
    have A13 := Aside0.mk A130
    clear A130
    by_cases c14 : t351 = true
    ·
     subst c14
     have H1 : (if t343.toList = t345.toList then (if t344 = t346 then (if t347.toList = t349.toList then (some (t348 == t350)) else (none)) else (none)) else (none)) = some r := by rw [if_pos rfl] at H; exact H
     clear H
     have H := H1
     clear H1
     by_cases c15 : t343.toList = t345.toList
     ·
      rw [if_pos c15] at H
      have c15b0 : (t343.toList == t345.toList) = true := beq_iff_eq.mpr c15
      have c15b1 : (t343.toList != t345.toList) = false := bne_eq_false_iff_eq.mpr c15
      clear c15
      by_cases c16 : t344 = t346
      ·
       rw [if_pos c16] at H
       have c16b0 : (t344 == t346) = true := beq_iff_eq.mpr c16
       have c16b1 : (t344 != t346) = false := bne_eq_false_iff_eq.mpr c16
       clear c16
       by_cases c17 : t347.toList = t349.toList
       ·
        rw [if_pos c17] at H
        have c17b0 : (t347.toList == t349.toList) = true := beq_iff_eq.mpr c17
        have c17b1 : (t347.toList != t349.toList) = false := bne_eq_false_iff_eq.mpr c17
        clear c17
        obtain rfl := Option.some.inj H
        go_wp2_with (first | ((with_reducible refine gate_callee (f := 21) rfl ?_); refine goesL_ (some 27) rfl rfl Tryd.func21 (by kernel_rfl) rfl #[.int .i64 a0, .string a1] rfl (by (try simp only [List.map_toArray, List.map_cons, List.map_nil]); first | done | rfl | (simp only [List.length_drop, List.length_take]; rfl)) ?_; (with_reducible refine (runs_Pack.calls a0 a1 t343 t344 _ A9.out).mono ?_); rintro e w18 ⟨rfl, hb⟩; refine ⟨_, rfl, ?_⟩; have n0_ := Aside0.mk (below_step (by repeat (first | (with_reducible first | exact HB.out | apply below_alloc | apply pw_below_drewN | apply below_drew1) | exact HB.out)) hb); clear HB; have HB := n0_; clear n0_; (try clear hb); (try clear hb2); (try clear hk); (try clear hi)) | ((with_reducible refine gate_callee (f := 22) rfl ?_); refine goesL_ (some 33) rfl rfl Tryd.func22 (by kernel_rfl) rfl #[.int .i64 a0, .string a1] rfl (by (try simp only [List.map_toArray, List.map_cons, List.map_nil]); first | done | rfl | (simp only [List.length_drop, List.length_take]; rfl)) ?_; (with_reducible refine (mosaicref25_Pack.calls kj3 a0 a1 t345 t346 _ A10.out).mono ?_); rintro e w19 ⟨rfl, hb⟩; refine ⟨_, rfl, ?_⟩; have n0_ := Aside0.mk (below_step (by repeat (first | (with_reducible first | exact HB.out | apply below_alloc | apply pw_below_drewN | apply below_drew1) | exact HB.out)) hb); clear HB; have HB := n0_; clear n0_; (try clear hb); (try clear hb2); (try clear hk); (try clear hi)) | ((with_reducible refine gate_callee (f := 23) rfl ?_); refine goesL_ (some 39) rfl rfl Tryd.func23 (by kernel_rfl) rfl #[.int .i64 a0, .string a2] rfl (by (try simp only [List.map_toArray, List.map_cons, List.map_nil]); first | done | rfl | (simp only [List.length_drop, List.length_take]; rfl)) ?_; (with_reducible refine (runs_Unpack.calls kj3 a0 a2 t347 t348 _ A11.out).mono ?_); rintro e w20 ⟨rfl, hb⟩; refine ⟨_, rfl, ?_⟩; have n0_ := Aside0.mk (below_step (by repeat (first | (with_reducible first | exact HB.out | apply below_alloc | apply pw_below_drewN | apply below_drew1) | exact HB.out)) hb); clear HB; have HB := n0_; clear n0_; (try clear hb); (try clear hb2); (try clear hk); (try clear hi)) | ((with_reducible refine gate_callee (f := 24) rfl ?_); refine goesL_ (some 45) rfl rfl Tryd.func24 (by kernel_rfl) rfl #[.int .i64 a0, .string a2] rfl (by (try simp only [List.map_toArray, List.map_cons, List.map_nil]); first | done | rfl | (simp only [List.length_drop, List.length_take]; rfl)) ?_; (with_reducible refine (mosaicref25_Unpack.calls kj3 a0 a2 t349 t350 _ A12.out).mono ?_); rintro e w21 ⟨rfl, hb⟩; refine ⟨_, rfl, ?_⟩; have n0_ := Aside0.mk (below_step (by repeat (first | (with_reducible first | exact HB.out | apply below_alloc | apply pw_below_drewN | apply below_drew1) | exact HB.out)) hb); clear HB; have HB := n0_; clear n0_; (try clear hb); (try clear hb2); (try clear hk); (try clear hi)) | ((with_reducible refine gate_callee (f := 10) rfl ?_); refine goesL_ (some 48) rfl rfl Tryd.func10 (by kernel_rfl) rfl #[] rfl (by (try simp only [List.map_toArray, List.map_cons, List.map_nil]); first | done | rfl | (simp only [List.length_drop, List.length_take]; rfl)) ?_; (with_reducible refine (mosaiclaw25_awake.calls kj3  true _ A13.out (TabW.below hTab (by repeat (first | (with_reducible first | exact HB.out | apply below_alloc | apply pw_below_drewN | apply below_drew1) | exact HB.out)))).mono ?_); rintro e w22 ⟨rfl, hb⟩; refine ⟨_, rfl, ?_⟩; have n0_ := Aside0.mk (below_step (by repeat (first | (with_reducible first | exact HB.out | apply below_alloc | apply pw_below_drewN | apply below_drew1) | exact HB.out)) hb); clear HB; have HB := n0_; clear n0_; (try clear hb); (try clear hb2); (try clear hk); (try clear hi)))
        go_ret
        exact ⟨by first | rfl | (simp [errW_none, errW_some] <;> rfl) | (simp [*, errW_none, errW_some] <;> rfl), by repeat (first | (with_reducible first | exact HB.out | apply below_alloc | apply pw_below_drewN | apply below_drew1) | exact HB.out)⟩
       ·
        rw [if_neg c17] at H
        exact absurd H (by simp)
      ·
       rw [if_neg c16] at H
       exact absurd H (by simp)
     ·
      rw [if_neg c15] at H
      exact absurd H (by simp)
    ·
     replace c14 := Bool.eq_false_iff.mpr c14
     subst c14
     have H1 : (none) = some r := by rw [if_neg (show ¬ (false = true) by decide)] at H; exact H
     clear H
     have H := H1
     clear H1
     exact absurd H (by simp)

/-- THE ONE PURE STATEMENT of mosaiclaw25_RunsPacks: yours. -/
def mosaiclaw25_RunsPacks.Pure : Prop := ∀ (a0 : Int) (a1 : ByteArray) (a2 : ByteArray), (Lit.int .i64 a0).wf = true → a1.size ≤ 140737488351232 → a2.size ≤ 140737488351232 → ∃ k, mosaiclaw25_RunsPacks.f k a0 a1 a2 = some true
theorem mosaiclaw25_RunsPacks.walk (P : mosaiclaw25_RunsPacks.Pure) (a0 : Int) (a1 : ByteArray) (a2 : ByteArray) (w : World) (hTab : TabW w) (w0 : (Lit.int .i64 a0).wf = true) (w1 : a1.size ≤ 140737488351232) (w2 : a2.size ≤ 140737488351232) :
  Calls Tryd.prog 5 #[.int .i64 a0, .string a1, .string a2] w fun e w' => e = .returned (.bool true) ∧ Below w.heap.size w w' := by
 obtain ⟨k, h⟩ := P a0 a1 a2 w0 w1 w2
 refine (mosaiclaw25_RunsPacks.calls k a0 a1 a2 true w h hTab).mono ?_
 rintro e w' ⟨rfl, hd⟩
 exact ⟨rfl, hd⟩

/-! ### mosaiclaw25_RunsTurns: function 7 -/
def mosaiclaw25_RunsTurns.j0 : Nat → Int → ByteArray → ByteArray → Bool → Option (Bool)
 | 0, _, _, _, _ => none
 | k + 1, x0, x1, x2, x24 => if x24 = true then ((mosaiclaw25_awake.f k).bind fun t354 => (some t354)) else ((runs_Patch.f k x0 x1 x2).bind fun bt355 => ((runs_Apply.f k x0 x1 bt355.1).bind fun bt357 => ((runs_Apply.f k x0 x2 bt355.1).bind fun bt359 => ((runs_Patch.f k x0 x1 x1).bind fun bt361 => ((mosaiclaw25_awake.f k).bind fun t363 => (if t363 = true then (if (wrap64 ((wrap64 ((wrap64 (bt355.2 + bt357.2)) + bt359.2)) + bt361.2)) = 0 then (if bt357.1.toList = x2.toList then (if bt359.1.toList = x1.toList then (if bt361.1.toList = ([] : List UInt8) then (some ((bt355.1.toList == ([] : List UInt8)) == (x1.toList == x2.toList))) else (none)) else (none)) else (none)) else (none)) else (none)))))))
def mosaiclaw25_RunsTurns.f (k : Nat) (a0 : Int) (a1 : ByteArray) (a2 : ByteArray) : Option (Bool) := (bits_Check.f k a0 a1).bind fun t352 => (if t352 = true then ((bits_Check.f k a0 a2).bind fun t353 => (mosaiclaw25_RunsTurns.j0 k a0 a1 a2 (!t353))) else (mosaiclaw25_RunsTurns.j0 k a0 a1 a2 true))
theorem mosaiclaw25_RunsTurns.mono_l : ∀ k, (∀ y0 y1 y2 y3, LeO (mosaiclaw25_RunsTurns.j0 k y0 y1 y2 y3) (mosaiclaw25_RunsTurns.j0 (k + 1) y0 y1 y2 y3))
 | 0 => fun _ _ _ _ r h => by simp [mosaiclaw25_RunsTurns.j0] at h
 | k + 1 => by
  have ih0 := mosaiclaw25_RunsTurns.mono_l k
  ·
   intro y0 y1 y2 y3
   unfold mosaiclaw25_RunsTurns.j0
   repeat' first
   | (with_reducible exact ih0 _ _ _ _)
   | (with_reducible exact bits_Check.mono _ _ _)
   | (with_reducible exact mosaiclaw25_awake.mono _)
   | (with_reducible exact runs_Apply.mono _ _ _ _)
   | (with_reducible exact runs_Patch.mono _ _ _ _)
   | (with_reducible exact LeO.refl _)
   | (with_reducible exact LeO.none _)
   | (with_reducible refine LeO.ite ?_ ?_)
   | (with_reducible refine LeO.bind ?_ (fun _ => ?_))
   | exact ih0 _ _ _ _
   | exact bits_Check.mono _ _ _
   | exact mosaiclaw25_awake.mono _
   | exact runs_Apply.mono _ _ _ _
   | exact runs_Patch.mono _ _ _ _
   | exact LeO.none _
   | refine LeO.ite ?_ ?_
   | refine LeO.bind ?_ (fun _ => ?_)
theorem mosaiclaw25_RunsTurns.mono : ∀ a0 a1 a2 k, LeO (mosaiclaw25_RunsTurns.f k a0 a1 a2) (mosaiclaw25_RunsTurns.f (k + 1) a0 a1 a2) := by
 intro a0 a1 a2 k
 have ih0 := mosaiclaw25_RunsTurns.mono_l k
 unfold mosaiclaw25_RunsTurns.f
 repeat' first
   | (with_reducible exact ih0 _ _ _ _)
   | (with_reducible exact bits_Check.mono _ _ _)
   | (with_reducible exact mosaiclaw25_awake.mono _)
   | (with_reducible exact runs_Apply.mono _ _ _ _)
   | (with_reducible exact runs_Patch.mono _ _ _ _)
   | (with_reducible exact LeO.refl _)
   | (with_reducible exact LeO.none _)
   | (with_reducible refine LeO.ite ?_ ?_)
   | (with_reducible refine LeO.bind ?_ (fun _ => ?_))
   | exact ih0 _ _ _ _
   | exact bits_Check.mono _ _ _
   | exact mosaiclaw25_awake.mono _
   | exact runs_Apply.mono _ _ _ _
   | exact runs_Patch.mono _ _ _ _
   | exact LeO.none _
   | refine LeO.ite ?_ ?_
   | refine LeO.bind ?_ (fun _ => ?_)
set_option maxHeartbeats 8000000 in
set_option maxRecDepth 100000 in
theorem mosaiclaw25_RunsTurns.calls (k : Nat) (a0 : Int) (a1 : ByteArray) (a2 : ByteArray) (r : Bool) (w : World) (h : mosaiclaw25_RunsTurns.f k a0 a1 a2 = some r) (hTab : TabW w) :
  Calls Tryd.prog 7 #[.int .i64 a0, .string a1, .string a2] w fun e w' => e = .returned (.bool r) ∧ Below w.heap.size w w' := by
 have HB := Aside0.mk (Below.refl w.heap.size w)
 have H : ((bits_Check.f k a0 a1).bind fun t352 => (if t352 = true then ((bits_Check.f k a0 a2).bind fun t353 => (mosaiclaw25_RunsTurns.j0 k a0 a1 a2 (!t353))) else (mosaiclaw25_RunsTurns.j0 k a0 a1 a2 true))) = some r := h
 clear h
 have HC4 := Aside0.mk H
 clear H
 go_enter Tryd.func7, Tryd.ntmps7
 go_upto_region 1 with (fail)
 go_cut [24] (fun v24 wc => ∃ (kq : Nat) (x24_3 : Bool), v24 = .bool x24_3 ∧ Aside0 (mosaiclaw25_RunsTurns.j0 kq a0 a1 a2 x24_3 = some r) ∧ Aside0 (kq ≤ k) ∧ Aside0 (Below w.heap.size w wc))
 case first =>
  have H := HC4.out
  clear HC4
  replace H := Option.bind_eq_some_iff.mp H
  obtain ⟨t352, A50, H⟩ := H
  replace H : (if t352 = true then ((bits_Check.f k a0 a2).bind fun t353 => (mosaiclaw25_RunsTurns.j0 k a0 a1 a2 (!t353))) else (mosaiclaw25_RunsTurns.j0 k a0 a1 a2 true)) = some r := H
  have A5 := Aside0.mk A50
  clear A50
  by_cases c6 : t352 = true
  ·
   subst c6
   have H1 : ((bits_Check.f k a0 a2).bind fun t353 => (mosaiclaw25_RunsTurns.j0 k a0 a1 a2 (!t353))) = some r := by rw [if_pos rfl] at H; exact H
   clear H
   have H := H1
   clear H1
   replace H := Option.bind_eq_some_iff.mp H
   obtain ⟨t353, A70, H⟩ := H
   replace H : (mosaiclaw25_RunsTurns.j0 k a0 a1 a2 (!t353)) = some r := H
   have A7 := Aside0.mk A70
   clear A70
   have H' := Aside0.mk H
   clear H
   go_wp2_with (first | ((with_reducible refine gate_callee (f := 18) rfl ?_); refine goesL_ (some 17) rfl rfl Tryd.func18 (by kernel_rfl) rfl #[.int .i64 a0, .string a1] rfl (by (try simp only [List.map_toArray, List.map_cons, List.map_nil]); first | done | rfl | (simp only [List.length_drop, List.length_take]; rfl)) ?_; (with_reducible refine (bits_Check.calls k a0 a1 true _ A5.out).mono ?_); rintro e w' ⟨rfl, ⟨nd, rfl⟩⟩; refine ⟨_, rfl, ?_⟩) | (go_at_call 18; (with_reducible refine (bits_Check.calls k a0 a2 t353 _ A7.out).mono ?_); rintro e w' ⟨rfl, ⟨nd, rfl⟩⟩))
   go_meet
   case rel => exact ⟨_, (!t353), (by first | rfl | (simp; done) | (simp [*]; done)), H', ⟨by first | omega | exact Nat.le_refl _⟩, ⟨by repeat (first | (with_reducible first | exact HB.out | apply below_alloc | apply pw_below_drewN | apply below_drew1) | exact HB.out)⟩⟩
  ·
   replace c6 := Bool.eq_false_iff.mpr c6
   subst c6
   have H1 : (mosaiclaw25_RunsTurns.j0 k a0 a1 a2 true) = some r := by rw [if_neg (show ¬ (false = true) by decide)] at H; exact H
   clear H
   have H := H1
   clear H1
   have H' := Aside0.mk H
   clear H
   go_wp2_with (first | ((with_reducible refine gate_callee (f := 18) rfl ?_); refine goesL_ (some 17) rfl rfl Tryd.func18 (by kernel_rfl) rfl #[.int .i64 a0, .string a1] rfl (by (try simp only [List.map_toArray, List.map_cons, List.map_nil]); first | done | rfl | (simp only [List.length_drop, List.length_take]; rfl)) ?_; (with_reducible refine (bits_Check.calls k a0 a1 false _ A5.out).mono ?_); rintro e w' ⟨rfl, ⟨nd, rfl⟩⟩; refine ⟨_, rfl, ?_⟩))
   go_meet
   case rel => exact ⟨_, (true), (by first | rfl | (simp; done) | (simp [*]; done)), H', ⟨by first | omega | exact Nat.le_refl _⟩, ⟨by repeat (first | (with_reducible first | exact HB.out | apply below_alloc | apply pw_below_drewN | apply below_drew1) | exact HB.out)⟩⟩
 case rest =>
  clear HC4
  try clear c1
  try clear p2
  try clear c6
  try clear c7
  obtain ⟨kq, x24_3, rfl, HA, HJ3, HB⟩ := hcut
  cases kq with
  | zero => exact absurd HA.out (by simp [mosaiclaw25_RunsTurns.j0])
  | succ kj3 =>
   have H := HA.out
   clear HA
   simp only [mosaiclaw25_RunsTurns.j0] at H
   by_cases c8 : x24_3 = true
   ·
    subst c8
    have H1 : ((mosaiclaw25_awake.f kj3).bind fun t354 => (some t354)) = some r := by rw [if_pos rfl] at H; exact H
    clear H
    have H := H1
    clear H1
    replace H := Option.bind_eq_some_iff.mp H
    obtain ⟨t354, A90, H⟩ := H
    replace H : (some t354) = some r := H
    have A9 := Aside0.mk A90
    clear A90
    obtain rfl := Option.some.inj H
    go_wp2_with (first | ((with_reducible refine gate_callee (f := 10) rfl ?_); refine goesL_ (some 25) rfl rfl Tryd.func10 (by kernel_rfl) rfl #[] rfl (by (try simp only [List.map_toArray, List.map_cons, List.map_nil]); first | done | rfl | (simp only [List.length_drop, List.length_take]; rfl)) ?_; (with_reducible refine (mosaiclaw25_awake.calls kj3  t354 _ A9.out (TabW.below hTab (by repeat (first | (with_reducible first | exact HB.out | apply below_alloc | apply pw_below_drewN | apply below_drew1) | exact HB.out)))).mono ?_); rintro e w10 ⟨rfl, hb⟩; refine ⟨_, rfl, ?_⟩; have n0_ := Aside0.mk (below_step (by repeat (first | (with_reducible first | exact HB.out | apply below_alloc | apply pw_below_drewN | apply below_drew1) | exact HB.out)) hb); clear HB; have HB := n0_; clear n0_; (try clear hb); (try clear hb2); (try clear hk); (try clear hi)))
    go_ret
    exact ⟨by first | rfl | (simp [errW_none, errW_some] <;> rfl) | (simp [*, errW_none, errW_some] <;> rfl), by repeat (first | (with_reducible first | exact HB.out | apply below_alloc | apply pw_below_drewN | apply below_drew1) | exact HB.out)⟩
   ·
    replace c8 := Bool.eq_false_iff.mpr c8
    subst c8
    have H1 : ((runs_Patch.f kj3 a0 a1 a2).bind fun bt355 => ((runs_Apply.f kj3 a0 a1 bt355.1).bind fun bt357 => ((runs_Apply.f kj3 a0 a2 bt355.1).bind fun bt359 => ((runs_Patch.f kj3 a0 a1 a1).bind fun bt361 => ((mosaiclaw25_awake.f kj3).bind fun t363 => (if t363 = true then (if (wrap64 ((wrap64 ((wrap64 (bt355.2 + bt357.2)) + bt359.2)) + bt361.2)) = 0 then (if bt357.1.toList = a2.toList then (if bt359.1.toList = a1.toList then (if bt361.1.toList = ([] : List UInt8) then (some ((bt355.1.toList == ([] : List UInt8)) == (a1.toList == a2.toList))) else (none)) else (none)) else (none)) else (none)) else (none))))))) = some r := by rw [if_neg (show ¬ (false = true) by decide)] at H; exact H
    clear H
    have H := H1
    clear H1
    replace H := Option.bind_eq_some_iff.mp H
    obtain ⟨⟨t355, t356⟩, A110, H⟩ := H
    replace H : ((runs_Apply.f kj3 a0 a1 t355).bind fun bt357 => ((runs_Apply.f kj3 a0 a2 t355).bind fun bt359 => ((runs_Patch.f kj3 a0 a1 a1).bind fun bt361 => ((mosaiclaw25_awake.f kj3).bind fun t363 => (if t363 = true then (if (wrap64 ((wrap64 ((wrap64 (t356 + bt357.2)) + bt359.2)) + bt361.2)) = 0 then (if bt357.1.toList = a2.toList then (if bt359.1.toList = a1.toList then (if bt361.1.toList = ([] : List UInt8) then (some ((t355.toList == ([] : List UInt8)) == (a1.toList == a2.toList))) else (none)) else (none)) else (none)) else (none)) else (none)))))) = some r := H
    have A11 := Aside0.mk A110
    clear A110
    replace H := Option.bind_eq_some_iff.mp H
    obtain ⟨⟨t357, t358⟩, A120, H⟩ := H
    replace H : ((runs_Apply.f kj3 a0 a2 t355).bind fun bt359 => ((runs_Patch.f kj3 a0 a1 a1).bind fun bt361 => ((mosaiclaw25_awake.f kj3).bind fun t363 => (if t363 = true then (if (wrap64 ((wrap64 ((wrap64 (t356 + t358)) + bt359.2)) + bt361.2)) = 0 then (if t357.toList = a2.toList then (if bt359.1.toList = a1.toList then (if bt361.1.toList = ([] : List UInt8) then (some ((t355.toList == ([] : List UInt8)) == (a1.toList == a2.toList))) else (none)) else (none)) else (none)) else (none)) else (none))))) = some r := H
    have A12 := Aside0.mk A120
    clear A120
    replace H := Option.bind_eq_some_iff.mp H
    obtain ⟨⟨t359, t360⟩, A130, H⟩ := H
    replace H : ((runs_Patch.f kj3 a0 a1 a1).bind fun bt361 => ((mosaiclaw25_awake.f kj3).bind fun t363 => (if t363 = true then (if (wrap64 ((wrap64 ((wrap64 (t356 + t358)) + t360)) + bt361.2)) = 0 then (if t357.toList = a2.toList then (if t359.toList = a1.toList then (if bt361.1.toList = ([] : List UInt8) then (some ((t355.toList == ([] : List UInt8)) == (a1.toList == a2.toList))) else (none)) else (none)) else (none)) else (none)) else (none)))) = some r := H
    have A13 := Aside0.mk A130
    clear A130
    replace H := Option.bind_eq_some_iff.mp H
    obtain ⟨⟨t361, t362⟩, A140, H⟩ := H
    replace H : ((mosaiclaw25_awake.f kj3).bind fun t363 => (if t363 = true then (if (wrap64 ((wrap64 ((wrap64 (t356 + t358)) + t360)) + t362)) = 0 then (if t357.toList = a2.toList then (if t359.toList = a1.toList then (if t361.toList = ([] : List UInt8) then (some ((t355.toList == ([] : List UInt8)) == (a1.toList == a2.toList))) else (none)) else (none)) else (none)) else (none)) else (none))) = some r := H
    have A14 := Aside0.mk A140
    clear A140
    replace H := Option.bind_eq_some_iff.mp H
    obtain ⟨t363, A150, H⟩ := H
    replace H : (if t363 = true then (if (wrap64 ((wrap64 ((wrap64 (t356 + t358)) + t360)) + t362)) = 0 then (if t357.toList = a2.toList then (if t359.toList = a1.toList then (if t361.toList = ([] : List UInt8) then (some ((t355.toList == ([] : List UInt8)) == (a1.toList == a2.toList))) else (none)) else (none)) else (none)) else (none)) else (none)) = some r := H
    have A15 := Aside0.mk A150
    clear A150
    by_cases c16 : t363 = true
    ·
     subst c16
     have H1 : (if (wrap64 ((wrap64 ((wrap64 (t356 + t358)) + t360)) + t362)) = 0 then (if t357.toList = a2.toList then (if t359.toList = a1.toList then (if t361.toList = ([] : List UInt8) then (some ((t355.toList == ([] : List UInt8)) == (a1.toList == a2.toList))) else (none)) else (none)) else (none)) else (none)) = some r := by rw [if_pos rfl] at H; exact H
     clear H
     have H := H1
     clear H1
     by_cases c17 : (wrap64 ((wrap64 ((wrap64 (t356 + t358)) + t360)) + t362)) = 0
     ·
      rw [if_pos c17] at H
      have c17b0 : ((wrap64 ((wrap64 ((wrap64 (t356 + t358)) + t360)) + t362)) == 0) = true := beq_iff_eq.mpr c17
      have c17b1 : ((wrap64 ((wrap64 ((wrap64 (t356 + t358)) + t360)) + t362)) != 0) = false := bne_eq_false_iff_eq.mpr c17
      clear c17
      by_cases c18 : t357.toList = a2.toList
      ·
       rw [if_pos c18] at H
       have c18b0 : (t357.toList == a2.toList) = true := beq_iff_eq.mpr c18
       have c18b1 : (t357.toList != a2.toList) = false := bne_eq_false_iff_eq.mpr c18
       clear c18
       by_cases c19 : t359.toList = a1.toList
       ·
        rw [if_pos c19] at H
        have c19b0 : (t359.toList == a1.toList) = true := beq_iff_eq.mpr c19
        have c19b1 : (t359.toList != a1.toList) = false := bne_eq_false_iff_eq.mpr c19
        clear c19
        by_cases c20 : t361.toList = ([] : List UInt8)
        ·
         rw [if_pos c20] at H
         have c20b0 : (t361.toList == ([] : List UInt8)) = true := beq_iff_eq.mpr c20
         have c20b1 : (t361.toList != ([] : List UInt8)) = false := bne_eq_false_iff_eq.mpr c20
         have c20b2 : t361.toList.isEmpty = true := by simpa using c20
         clear c20
         obtain rfl := Option.some.inj H
         go_wp2_with (first | ((with_reducible refine gate_callee (f := 25) rfl ?_); refine goesL_ (some 30) rfl rfl Tryd.func25 (by kernel_rfl) rfl #[.int .i64 a0, .string a1, .string a2] rfl (by (try simp only [List.map_toArray, List.map_cons, List.map_nil]); first | done | rfl | (simp only [List.length_drop, List.length_take]; rfl)) ?_; (with_reducible refine (runs_Patch.calls kj3 a0 a1 a2 t355 t356 _ A11.out).mono ?_); rintro e w21 ⟨rfl, hb⟩; refine ⟨_, rfl, ?_⟩; have n0_ := Aside0.mk (below_step (by repeat (first | (with_reducible first | exact HB.out | apply below_alloc | apply pw_below_drewN | apply below_drew1) | exact HB.out)) hb); clear HB; have HB := n0_; clear n0_; (try clear hb); (try clear hb2); (try clear hk); (try clear hi)) | ((with_reducible refine gate_callee (f := 27) rfl ?_); refine goesL_ (some 37) rfl rfl Tryd.func27 (by kernel_rfl) rfl #[.int .i64 a0, .string a1, .string t355] rfl (by (try simp only [List.map_toArray, List.map_cons, List.map_nil]); first | done | rfl | (simp only [List.length_drop, List.length_take]; rfl)) ?_; (with_reducible refine (runs_Apply.calls kj3 a0 a1 t355 t357 t358 _ A12.out).mono ?_); rintro e w22 ⟨rfl, hb⟩; refine ⟨_, rfl, ?_⟩; have n0_ := Aside0.mk (below_step (by repeat (first | (with_reducible first | exact HB.out | apply below_alloc | apply pw_below_drewN | apply below_drew1) | exact HB.out)) hb); clear HB; have HB := n0_; clear n0_; (try clear hb); (try clear hb2); (try clear hk); (try clear hi)) | ((with_reducible refine gate_callee (f := 27) rfl ?_); refine goesL_ (some 44) rfl rfl Tryd.func27 (by kernel_rfl) rfl #[.int .i64 a0, .string a2, .string t355] rfl (by (try simp only [List.map_toArray, List.map_cons, List.map_nil]); first | done | rfl | (simp only [List.length_drop, List.length_take]; rfl)) ?_; (with_reducible refine (runs_Apply.calls kj3 a0 a2 t355 t359 t360 _ A13.out).mono ?_); rintro e w23 ⟨rfl, hb⟩; refine ⟨_, rfl, ?_⟩; have n0_ := Aside0.mk (below_step (by repeat (first | (with_reducible first | exact HB.out | apply below_alloc | apply pw_below_drewN | apply below_drew1) | exact HB.out)) hb); clear HB; have HB := n0_; clear n0_; (try clear hb); (try clear hb2); (try clear hk); (try clear hi)) | ((with_reducible refine gate_callee (f := 25) rfl ?_); refine goesL_ (some 51) rfl rfl Tryd.func25 (by kernel_rfl) rfl #[.int .i64 a0, .string a1, .string a1] rfl (by (try simp only [List.map_toArray, List.map_cons, List.map_nil]); first | done | rfl | (simp only [List.length_drop, List.length_take]; rfl)) ?_; (with_reducible refine (runs_Patch.calls kj3 a0 a1 a1 t361 t362 _ A14.out).mono ?_); rintro e w24 ⟨rfl, hb⟩; refine ⟨_, rfl, ?_⟩; have n0_ := Aside0.mk (below_step (by repeat (first | (with_reducible first | exact HB.out | apply below_alloc | apply pw_below_drewN | apply below_drew1) | exact HB.out)) hb); clear HB; have HB := n0_; clear n0_; (try clear hb); (try clear hb2); (try clear hk); (try clear hi)) | ((with_reducible refine gate_callee (f := 10) rfl ?_); refine goesL_ (some 54) rfl rfl Tryd.func10 (by kernel_rfl) rfl #[] rfl (by (try simp only [List.map_toArray, List.map_cons, List.map_nil]); first | done | rfl | (simp only [List.length_drop, List.length_take]; rfl)) ?_; (with_reducible refine (mosaiclaw25_awake.calls kj3  true _ A15.out (TabW.below hTab (by repeat (first | (with_reducible first | exact HB.out | apply below_alloc | apply pw_below_drewN | apply below_drew1) | exact HB.out)))).mono ?_); rintro e w25 ⟨rfl, hb⟩; refine ⟨_, rfl, ?_⟩; have n0_ := Aside0.mk (below_step (by repeat (first | (with_reducible first | exact HB.out | apply below_alloc | apply pw_below_drewN | apply below_drew1) | exact HB.out)) hb); clear HB; have HB := n0_; clear n0_; (try clear hb); (try clear hb2); (try clear hk); (try clear hi)))
         go_ret
         exact ⟨by first | rfl | (simp [errW_none, errW_some] <;> rfl) | (simp [*, errW_none, errW_some] <;> rfl), by repeat (first | (with_reducible first | exact HB.out | apply below_alloc | apply pw_below_drewN | apply below_drew1) | exact HB.out)⟩
        ·
         rw [if_neg c20] at H
         exact absurd H (by simp)
       ·
        rw [if_neg c19] at H
        exact absurd H (by simp)
      ·
       rw [if_neg c18] at H
       exact absurd H (by simp)
     ·
      rw [if_neg c17] at H
      exact absurd H (by simp)
    ·
     replace c16 := Bool.eq_false_iff.mpr c16
     subst c16
     have H1 : (none) = some r := by rw [if_neg (show ¬ (false = true) by decide)] at H; exact H
     clear H
     have H := H1
     clear H1
     exact absurd H (by simp)

/-- THE ONE PURE STATEMENT of mosaiclaw25_RunsTurns: yours. -/
def mosaiclaw25_RunsTurns.Pure : Prop := ∀ (a0 : Int) (a1 : ByteArray) (a2 : ByteArray), (Lit.int .i64 a0).wf = true → a1.size ≤ 140737488351232 → a2.size ≤ 140737488351232 → ∃ k, mosaiclaw25_RunsTurns.f k a0 a1 a2 = some true
theorem mosaiclaw25_RunsTurns.walk (P : mosaiclaw25_RunsTurns.Pure) (a0 : Int) (a1 : ByteArray) (a2 : ByteArray) (w : World) (hTab : TabW w) (w0 : (Lit.int .i64 a0).wf = true) (w1 : a1.size ≤ 140737488351232) (w2 : a2.size ≤ 140737488351232) :
  Calls Tryd.prog 7 #[.int .i64 a0, .string a1, .string a2] w fun e w' => e = .returned (.bool true) ∧ Below w.heap.size w w' := by
 obtain ⟨k, h⟩ := P a0 a1 a2 w0 w1 w2
 refine (mosaiclaw25_RunsTurns.calls k a0 a1 a2 true w h hTab).mono ?_
 rintro e w' ⟨rfl, hd⟩
 exact ⟨rfl, hd⟩

end Go.Proofs.YtbbncdbihiipcaaDoor.P
