-- Written for this claim by the session's own turn of the kit's print program (wip/tools/xprint.py).
import Derived.Test.YtdccglkmkahblaaDoorPx0
import Derived.Test.YtdccglkmkahblaaDoorPx1
import Derived.Test.YtdccglkmkahblaaDoorPx3
import Derived.Test.YtdccglkmkahblaaDoorHd
namespace Go.Proofs.YtdccglkmkahblaaDoor.P
open Go.RowKit Go.Proofs.YtdccglkmkahblaaDoor.Sq Go.Proofs.YtdccglkmkahblaaDoor.Hand Go.Proofs.YtdccglkmkahblaaDoorW.PrintWords Go.Proofs.YtdccglkmkahblaaDoorW.PrintLast Go.Proofs.YtdccglkmkahblaaDoorW.PrintMore
attribute [local go_sem] max2_int min2_int max_two min_two max_three min_three max_four min_four   -- for this text's walks alone
set_option linter.unusedVariables false
set_option linter.unusedSimpArgs false

/-! ### mosaiclaw29_LinkLong: function 3 -/
def mosaiclaw29_LinkLong.j0 : Nat → ByteArray → Bool → ByteArray → ByteArray → List Int → List (S34) → Option (Bool)
 | 0, _, _, _, _, _, _ => none
 | k + 1, x1, x15, x140000, x140001, x140002, x140003 => if x15 = true then ((mosaiclaw29_awake.f k).bind fun t141 => (some t141)) else ((link_Escape.f x1).bind fun t142 => ((link_Base32.f x1).bind fun t143 => (if (t143.size : Int) = (wrap64 (Int.tdiv (wrap64 ((wrap64 (8 * (x1.size : Int))) + 4)) 5)) then (if (t142.size : Int) < (x1.size : Int) then (none) else (if (t142.size : Int) > (wrap64 (3 * (x1.size : Int))) then (none) else (if (Int.tmod (wrap64 ((t142.size : Int) - (x1.size : Int))) 2) = 0 then ((link_Text.f k x140000 x140001 x140002 x140003).bind fun bt144 => ((mosaiclaw29_awake.f k).bind fun t146 => (if t146 = true then (if ((bt144.2 == 0) == (bt144.1.toList != ([] : List UInt8))) = true then (some (decide ((bt144.1.size : Int) ≤ 402))) else (none)) else (none)))) else (none)))) else (none))))
def mosaiclaw29_LinkLong.f (k : Nat) (a0_0 : ByteArray) (a0_1 : ByteArray) (l0_2 : List Int) (l0_3 : List (S34)) (a1 : ByteArray) : Option (Bool) := (mosaiclaw29_few.f a0_0 a0_1 l0_2 l0_3).bind fun t140 => (if t140 = true then (mosaiclaw29_LinkLong.j0 k a1 (decide ((a1.size : Int) > 400)) a0_0 a0_1 l0_2 l0_3) else (mosaiclaw29_LinkLong.j0 k a1 true a0_0 a0_1 l0_2 l0_3))
theorem mosaiclaw29_LinkLong.mono_l : ∀ k, (∀ y0 y1 y2 y3 y4 y5, LeO (mosaiclaw29_LinkLong.j0 k y0 y1 y2 y3 y4 y5) (mosaiclaw29_LinkLong.j0 (k + 1) y0 y1 y2 y3 y4 y5))
 | 0 => fun _ _ _ _ _ _ r h => by simp [mosaiclaw29_LinkLong.j0] at h
 | k + 1 => by
  have ih0 := mosaiclaw29_LinkLong.mono_l k
  ·
   intro y0 y1 y2 y3 y4 y5
   unfold mosaiclaw29_LinkLong.j0
   repeat' first
   | (with_reducible exact ih0 _ _ _ _ _ _)
   | (with_reducible exact link_Text.mono _ _ _ _ _)
   | (with_reducible exact mosaiclaw29_awake.mono _)
   | (with_reducible exact LeO.refl _)
   | (with_reducible exact LeO.none _)
   | (with_reducible refine LeO.ite ?_ ?_)
   | (with_reducible refine LeO.bind ?_ (fun _ => ?_))
   | exact ih0 _ _ _ _ _ _
   | exact link_Text.mono _ _ _ _ _
   | exact mosaiclaw29_awake.mono _
   | exact LeO.none _
   | refine LeO.ite ?_ ?_
   | refine LeO.bind ?_ (fun _ => ?_)
theorem mosaiclaw29_LinkLong.mono : ∀ a0 a1 a2 a3 a4 k, LeO (mosaiclaw29_LinkLong.f k a0 a1 a2 a3 a4) (mosaiclaw29_LinkLong.f (k + 1) a0 a1 a2 a3 a4) := by
 intro a0 a1 a2 a3 a4 k
 have ih0 := mosaiclaw29_LinkLong.mono_l k
 unfold mosaiclaw29_LinkLong.f
 repeat' first
   | (with_reducible exact ih0 _ _ _ _ _ _)
   | (with_reducible exact link_Text.mono _ _ _ _ _)
   | (with_reducible exact mosaiclaw29_awake.mono _)
   | (with_reducible exact LeO.refl _)
   | (with_reducible exact LeO.none _)
   | (with_reducible refine LeO.ite ?_ ?_)
   | (with_reducible refine LeO.bind ?_ (fun _ => ?_))
   | exact ih0 _ _ _ _ _ _
   | exact link_Text.mono _ _ _ _ _
   | exact mosaiclaw29_awake.mono _
   | exact LeO.none _
   | refine LeO.ite ?_ ?_
   | refine LeO.bind ?_ (fun _ => ?_)
set_option maxHeartbeats 8000000 in
set_option maxRecDepth 100000 in
theorem mosaiclaw29_LinkLong.calls (k : Nat) (a0_0 : ByteArray) (a0_1 : ByteArray) (A0_2 : Option Addr) (c0_2 : Nat) (l0_2 : List Int) (A0_3 : Option Addr) (c0_3 : Nat) (l0_3 : List (S34)) (a1 : ByteArray) (r : Bool) (w : World) (hr0_2 : Kd.C (Kd.int .i64) w A0_2 l0_2.length l0_2) (hc0_2 : l0_2.length ≤ c0_2) (hr0_3 : Kd.C k34 w A0_3 l0_3.length l0_3) (hc0_3 : l0_3.length ≤ c0_3) (h : mosaiclaw29_LinkLong.f k a0_0 a0_1 l0_2 l0_3 a1 = some r) (hTab : TabW w) :
  Calls Tryd.prog 3 #[.agg #[.string a0_0, .string a0_1, .slice A0_2 l0_2.length c0_2, .slice A0_3 l0_3.length c0_3], .string a1] w fun e w' => e = .returned (.bool r) ∧ Below w.heap.size w w' := by
 have hu25 := Tryd.underlying25
 have HR0_2 := Aside0.mk hr0_2
 have HC0_2 := Aside0.mk hc0_2
 clear hr0_2 hc0_2
 have HR0_3 := Aside0.mk hr0_3
 have HC0_3 := Aside0.mk hc0_3
 clear hr0_3 hc0_3
 have HB := Aside0.mk (Below.refl w.heap.size w)
 have H : ((mosaiclaw29_few.f a0_0 a0_1 l0_2 l0_3).bind fun t140 => (if t140 = true then (mosaiclaw29_LinkLong.j0 k a1 (decide ((a1.size : Int) > 400)) a0_0 a0_1 l0_2 l0_3) else (mosaiclaw29_LinkLong.j0 k a1 true a0_0 a0_1 l0_2 l0_3))) = some r := h
 clear h
 have HC3 := Aside0.mk H
 clear H
 go_enter Tryd.func3, Tryd.ntmps3
 go_upto_region 1 with (first | ((with_reducible refine gate_dst (N := 2) rfl ?_); (try (refine gate_guard (by rfl) ?_; dsimp only)); refine box_event ?hg (N := 2) ?hd (cs := #[.string a0_0, .string a0_1, .slice A0_2 l0_2.length c0_2, .slice A0_3 l0_3.length c0_3]) (t := 25) ?hr ?_; (case hd => rfl); (case hg => rfl); (case hr => first | (go_simp; done) | (go_simp; rfl)); intro gb139 hg w4 hbox hb; have n0_ := hS HB hb; have n1_ := Aside0.mk (hbox); have n2_ := hG HB hg; have n3_ := hG HB hg; clear HB; have HB := n0_; have BK139 := n1_; have GW139 := n2_; have GE139 := n3_; clear n0_ n1_ n2_ n3_; clear hb hbox hg))
 (try simp only [Act.put, List.setIfInBounds_toArray, List.set_cons_zero, List.set_cons_succ])
 go_cut [15] (fun v15 wc => ∃ (kq : Nat) (x15_2 : Bool), v15 = .bool x15_2 ∧ Aside0 (mosaiclaw29_LinkLong.j0 kq a1 x15_2 a0_0 a0_1 l0_2 l0_3 = some r) ∧ Aside0 (kq ≤ k) ∧ Aside0 (wc.heap[gb139]? = some (.cells #[.string a0_0, .string a0_1, (.slice A0_2 l0_2.length c0_2), (.slice A0_3 l0_3.length c0_3)] 25 (0, 0))) ∧ Aside0 (Below w.heap.size w wc))
 case first =>
  have H := HC3.out
  clear HC3
  replace H := Option.bind_eq_some_iff.mp H
  obtain ⟨t140, A50, H⟩ := H
  replace H : (if t140 = true then (mosaiclaw29_LinkLong.j0 k a1 (decide ((a1.size : Int) > 400)) a0_0 a0_1 l0_2 l0_3) else (mosaiclaw29_LinkLong.j0 k a1 true a0_0 a0_1 l0_2 l0_3)) = some r := H
  have A5 := Aside0.mk A50
  clear A50
  by_cases c6 : t140 = true
  ·
   subst c6
   have H1 : (mosaiclaw29_LinkLong.j0 k a1 (decide ((a1.size : Int) > 400)) a0_0 a0_1 l0_2 l0_3) = some r := by rw [if_pos rfl] at H; exact H
   clear H
   have H := H1
   clear H1
   have H' := Aside0.mk H
   clear H
   have hcz7_0 : w4.cell? ⟨gb139, 0, none⟩ = some (.string a0_0) := (blk_cell BK139.out 0).trans rfl
   have hcz7_1 : w4.cell? ⟨gb139, 1, none⟩ = some (.string a0_1) := (blk_cell BK139.out 1).trans rfl
   have hcz7_2 : w4.cell? ⟨gb139, 2, none⟩ = some (.slice A0_2 l0_2.length c0_2) := (blk_cell BK139.out 2).trans rfl
   have hcz7_3 : w4.cell? ⟨gb139, 3, none⟩ = some (.slice A0_3 l0_3.length c0_3) := (blk_cell BK139.out 3).trans rfl
   have hfz7_0 := blk_frozen BK139.out 0
   have hfz7_1 := blk_frozen BK139.out 1
   have hfz7_2 := blk_frozen BK139.out 2
   have hfz7_3 := blk_frozen BK139.out 3
   go_wp2_with (first | ((with_reducible refine gate_callee (f := 7) rfl ?_); refine goesL_ (some 9) rfl rfl Tryd.func7 (by kernel_rfl) rfl #[.agg #[.string a0_0, .string a0_1, .slice A0_2 l0_2.length c0_2, .slice A0_3 l0_3.length c0_3]] rfl (by (try simp only [List.map_toArray, List.map_cons, List.map_nil]); first | done | rfl | (simp only [List.length_drop, List.length_take]; rfl)) ?_; (with_reducible refine (mosaiclaw29_few.calls a0_0 a0_1 _ _ l0_2 _ _ l0_3 true _ ?side1 ?side2 ?side3 ?side4 A5.out).mono ?_); (case side1 => repeat (first | exact (Kd.C_below HR0_2.out HB.out) | (with_reducible refine Kd.C_alloc ?_ _) | (with_reducible refine Kd.C_drewN ?_ _) | (with_reducible refine Kd.C_drew ?_))); (case side2 => exact HC0_2.out); (case side3 => repeat (first | exact (Kd.C_below HR0_3.out HB.out) | (with_reducible refine Kd.C_alloc ?_ _) | (with_reducible refine Kd.C_drewN ?_ _) | (with_reducible refine Kd.C_drew ?_))); (case side4 => exact HC0_3.out); rintro e w8 ⟨rfl, hb⟩; refine ⟨_, rfl, ?_⟩; have n0_ := bB BK139 hb; have n1_ := Aside0.mk (below_step (by repeat (first | (with_reducible first | exact HB.out | apply below_alloc | apply pw_below_drewN | apply below_drew1 | refine below_set ?_ GE139.out) | exact HB.out)) hb); clear BK139; clear HB; have BK139 := n0_; have HB := n1_; clear n0_ n1_; (try clear hb); (try clear hb2); (try clear hk); (try clear hi)))
   go_meet
   case rel => exact ⟨_, (decide ((a1.size : Int) > 400)), (by first | rfl | (simp; done) | (simp [*]; done)), H', ⟨by first | omega | exact Nat.le_refl _⟩, ⟨by (with_reducible repeat (first | refine blk_drewN ?_ _ | refine blk_drew ?_ | refine blk_alloc ?_ _)); exact BK139.out⟩, ⟨by repeat (first | (with_reducible first | exact HB.out | apply below_alloc | apply pw_below_drewN | apply below_drew1 | refine below_set ?_ GE139.out) | exact HB.out)⟩⟩
  ·
   replace c6 := Bool.eq_false_iff.mpr c6
   subst c6
   have H1 : (mosaiclaw29_LinkLong.j0 k a1 true a0_0 a0_1 l0_2 l0_3) = some r := by rw [if_neg (show ¬ (false = true) by decide)] at H; exact H
   clear H
   have H := H1
   clear H1
   have H' := Aside0.mk H
   clear H
   have hcz9_0 : w4.cell? ⟨gb139, 0, none⟩ = some (.string a0_0) := (blk_cell BK139.out 0).trans rfl
   have hcz9_1 : w4.cell? ⟨gb139, 1, none⟩ = some (.string a0_1) := (blk_cell BK139.out 1).trans rfl
   have hcz9_2 : w4.cell? ⟨gb139, 2, none⟩ = some (.slice A0_2 l0_2.length c0_2) := (blk_cell BK139.out 2).trans rfl
   have hcz9_3 : w4.cell? ⟨gb139, 3, none⟩ = some (.slice A0_3 l0_3.length c0_3) := (blk_cell BK139.out 3).trans rfl
   have hfz9_0 := blk_frozen BK139.out 0
   have hfz9_1 := blk_frozen BK139.out 1
   have hfz9_2 := blk_frozen BK139.out 2
   have hfz9_3 := blk_frozen BK139.out 3
   go_wp2_with (first | ((with_reducible refine gate_callee (f := 7) rfl ?_); refine goesL_ (some 9) rfl rfl Tryd.func7 (by kernel_rfl) rfl #[.agg #[.string a0_0, .string a0_1, .slice A0_2 l0_2.length c0_2, .slice A0_3 l0_3.length c0_3]] rfl (by (try simp only [List.map_toArray, List.map_cons, List.map_nil]); first | done | rfl | (simp only [List.length_drop, List.length_take]; rfl)) ?_; (with_reducible refine (mosaiclaw29_few.calls a0_0 a0_1 _ _ l0_2 _ _ l0_3 false _ ?side1 ?side2 ?side3 ?side4 A5.out).mono ?_); (case side1 => repeat (first | exact (Kd.C_below HR0_2.out HB.out) | (with_reducible refine Kd.C_alloc ?_ _) | (with_reducible refine Kd.C_drewN ?_ _) | (with_reducible refine Kd.C_drew ?_))); (case side2 => exact HC0_2.out); (case side3 => repeat (first | exact (Kd.C_below HR0_3.out HB.out) | (with_reducible refine Kd.C_alloc ?_ _) | (with_reducible refine Kd.C_drewN ?_ _) | (with_reducible refine Kd.C_drew ?_))); (case side4 => exact HC0_3.out); rintro e w10 ⟨rfl, hb⟩; refine ⟨_, rfl, ?_⟩; have n0_ := bB BK139 hb; have n1_ := Aside0.mk (below_step (by repeat (first | (with_reducible first | exact HB.out | apply below_alloc | apply pw_below_drewN | apply below_drew1 | refine below_set ?_ GE139.out) | exact HB.out)) hb); clear BK139; clear HB; have BK139 := n0_; have HB := n1_; clear n0_ n1_; (try clear hb); (try clear hb2); (try clear hk); (try clear hi)))
   go_meet
   case rel => exact ⟨_, (true), (by first | rfl | (simp; done) | (simp [*]; done)), H', ⟨by first | omega | exact Nat.le_refl _⟩, ⟨by (with_reducible repeat (first | refine blk_drewN ?_ _ | refine blk_drew ?_ | refine blk_alloc ?_ _)); exact BK139.out⟩, ⟨by repeat (first | (with_reducible first | exact HB.out | apply below_alloc | apply pw_below_drewN | apply below_drew1 | refine below_set ?_ GE139.out) | exact HB.out)⟩⟩
 case rest =>
  clear HC3
  try clear p2
  try clear c3
  try clear c6
  try clear c7
  try clear hcz7_0
  try clear hcz7_1
  try clear hcz7_2
  try clear hcz7_3
  try clear hcz9_0
  try clear hcz9_1
  try clear hcz9_2
  try clear hcz9_3
  try clear hfz7_0
  try clear hfz7_1
  try clear hfz7_2
  try clear hfz7_3
  try clear hfz9_0
  try clear hfz9_1
  try clear hfz9_2
  try clear hfz9_3
  obtain ⟨kq, x15_2, rfl, HA, HJ2, BK139, HB⟩ := hcut
  cases kq with
  | zero => exact absurd HA.out (by simp [mosaiclaw29_LinkLong.j0])
  | succ kj2 =>
   have H := HA.out
   clear HA
   simp only [mosaiclaw29_LinkLong.j0] at H
   by_cases c11 : x15_2 = true
   ·
    subst c11
    have H1 : ((mosaiclaw29_awake.f kj2).bind fun t141 => (some t141)) = some r := by rw [if_pos rfl] at H; exact H
    clear H
    have H := H1
    clear H1
    replace H := Option.bind_eq_some_iff.mp H
    obtain ⟨t141, A120, H⟩ := H
    replace H : (some t141) = some r := H
    have A12 := Aside0.mk A120
    clear A120
    obtain rfl := Option.some.inj H
    go_wp2_with (first | ((with_reducible refine gate_callee (f := 8) rfl ?_); refine goesL_ (some 16) rfl rfl Tryd.func8 (by kernel_rfl) rfl #[] rfl (by (try simp only [List.map_toArray, List.map_cons, List.map_nil]); first | done | rfl | (simp only [List.length_drop, List.length_take]; rfl)) ?_; (with_reducible refine (mosaiclaw29_awake.calls kj2  t141 _ A12.out).mono ?_); rintro e w13 ⟨rfl, hb⟩; refine ⟨_, rfl, ?_⟩; have n0_ := bB BK139 hb; have n1_ := Aside0.mk (below_step (by repeat (first | (with_reducible first | exact HB.out | apply below_alloc | apply pw_below_drewN | apply below_drew1 | refine below_set ?_ GE139.out) | exact HB.out)) hb); clear BK139; clear HB; have BK139 := n0_; have HB := n1_; clear n0_ n1_; (try clear hb); (try clear hb2); (try clear hk); (try clear hi)))
    go_ret
    exact ⟨by first | rfl | (simp [errW_none, errW_some] <;> rfl) | (simp [*, errW_none, errW_some] <;> rfl), by repeat (first | (with_reducible first | exact HB.out | apply below_alloc | apply pw_below_drewN | apply below_drew1 | refine below_set ?_ GE139.out) | exact HB.out)⟩
   ·
    replace c11 := Bool.eq_false_iff.mpr c11
    subst c11
    have H1 : ((link_Escape.f a1).bind fun t142 => ((link_Base32.f a1).bind fun t143 => (if (t143.size : Int) = (wrap64 (Int.tdiv (wrap64 ((wrap64 (8 * (a1.size : Int))) + 4)) 5)) then (if (t142.size : Int) < (a1.size : Int) then (none) else (if (t142.size : Int) > (wrap64 (3 * (a1.size : Int))) then (none) else (if (Int.tmod (wrap64 ((t142.size : Int) - (a1.size : Int))) 2) = 0 then ((link_Text.f kj2 a0_0 a0_1 l0_2 l0_3).bind fun bt144 => ((mosaiclaw29_awake.f kj2).bind fun t146 => (if t146 = true then (if ((bt144.2 == 0) == (bt144.1.toList != ([] : List UInt8))) = true then (some (decide ((bt144.1.size : Int) ≤ 402))) else (none)) else (none)))) else (none)))) else (none)))) = some r := by rw [if_neg (show ¬ (false = true) by decide)] at H; exact H
    clear H
    have H := H1
    clear H1
    replace H := Option.bind_eq_some_iff.mp H
    obtain ⟨t142, A140, H⟩ := H
    replace H : ((link_Base32.f a1).bind fun t143 => (if (t143.size : Int) = (wrap64 (Int.tdiv (wrap64 ((wrap64 (8 * (a1.size : Int))) + 4)) 5)) then (if (t142.size : Int) < (a1.size : Int) then (none) else (if (t142.size : Int) > (wrap64 (3 * (a1.size : Int))) then (none) else (if (Int.tmod (wrap64 ((t142.size : Int) - (a1.size : Int))) 2) = 0 then ((link_Text.f kj2 a0_0 a0_1 l0_2 l0_3).bind fun bt144 => ((mosaiclaw29_awake.f kj2).bind fun t146 => (if t146 = true then (if ((bt144.2 == 0) == (bt144.1.toList != ([] : List UInt8))) = true then (some (decide ((bt144.1.size : Int) ≤ 402))) else (none)) else (none)))) else (none)))) else (none))) = some r := H
    have A14 := Aside0.mk A140
    clear A140
    replace H := Option.bind_eq_some_iff.mp H
    obtain ⟨t143, A150, H⟩ := H
    replace H : (if (t143.size : Int) = (wrap64 (Int.tdiv (wrap64 ((wrap64 (8 * (a1.size : Int))) + 4)) 5)) then (if (t142.size : Int) < (a1.size : Int) then (none) else (if (t142.size : Int) > (wrap64 (3 * (a1.size : Int))) then (none) else (if (Int.tmod (wrap64 ((t142.size : Int) - (a1.size : Int))) 2) = 0 then ((link_Text.f kj2 a0_0 a0_1 l0_2 l0_3).bind fun bt144 => ((mosaiclaw29_awake.f kj2).bind fun t146 => (if t146 = true then (if ((bt144.2 == 0) == (bt144.1.toList != ([] : List UInt8))) = true then (some (decide ((bt144.1.size : Int) ≤ 402))) else (none)) else (none)))) else (none)))) else (none)) = some r := H
    have A15 := Aside0.mk A150
    clear A150
    by_cases c16 : (t143.size : Int) = (wrap64 (Int.tdiv (wrap64 ((wrap64 (8 * (a1.size : Int))) + 4)) 5))
    ·
     rw [if_pos c16] at H
     have c16b0 : ((t143.size : Int) == (wrap64 (Int.tdiv (wrap64 ((wrap64 (8 * (a1.size : Int))) + 4)) 5))) = true := beq_iff_eq.mpr c16
     have c16b1 : ((t143.size : Int) != (wrap64 (Int.tdiv (wrap64 ((wrap64 (8 * (a1.size : Int))) + 4)) 5))) = false := bne_eq_false_iff_eq.mpr c16
     clear c16
     by_cases c17 : (t142.size : Int) < (a1.size : Int)
     ·
      rw [if_pos c17] at H
      exact absurd H (by simp)
     ·
      rw [if_neg c17] at H
      have c17b0 : decide ((t142.size : Int) < (a1.size : Int)) = false := decide_eq_false c17
      have c17b1 : decide (t142.size < a1.size) = false := decide_eq_false (fun h => c17 (Int.ofNat_lt.mpr h))
      clear c17
      by_cases c18 : (t142.size : Int) > (wrap64 (3 * (a1.size : Int)))
      ·
       rw [if_pos c18] at H
       exact absurd H (by simp)
      ·
       rw [if_neg c18] at H
       have c18b0 : decide ((wrap64 (3 * (a1.size : Int))) < (t142.size : Int)) = false := decide_eq_false c18
       clear c18
       by_cases c19 : (Int.tmod (wrap64 ((t142.size : Int) - (a1.size : Int))) 2) = 0
       ·
        rw [if_pos c19] at H
        have c19b0 : ((Int.tmod (wrap64 ((t142.size : Int) - (a1.size : Int))) 2) == 0) = true := beq_iff_eq.mpr c19
        have c19b1 : ((Int.tmod (wrap64 ((t142.size : Int) - (a1.size : Int))) 2) != 0) = false := bne_eq_false_iff_eq.mpr c19
        clear c19
        replace H := Option.bind_eq_some_iff.mp H
        obtain ⟨⟨t144, t145⟩, A200, H⟩ := H
        replace H : ((mosaiclaw29_awake.f kj2).bind fun t146 => (if t146 = true then (if ((t145 == 0) == (t144.toList != ([] : List UInt8))) = true then (some (decide ((t144.size : Int) ≤ 402))) else (none)) else (none))) = some r := H
        have A20 := Aside0.mk A200
        clear A200
        replace H := Option.bind_eq_some_iff.mp H
        obtain ⟨t146, A210, H⟩ := H
        replace H : (if t146 = true then (if ((t145 == 0) == (t144.toList != ([] : List UInt8))) = true then (some (decide ((t144.size : Int) ≤ 402))) else (none)) else (none)) = some r := H
        have A21 := Aside0.mk A210
        clear A210
        by_cases c22 : t146 = true
        ·
         subst c22
         have H1 : (if ((t145 == 0) == (t144.toList != ([] : List UInt8))) = true then (some (decide ((t144.size : Int) ≤ 402))) else (none)) = some r := by rw [if_pos rfl] at H; exact H
         clear H
         have H := H1
         clear H1
         by_cases c23 : ((t145 == 0) == (t144.toList != ([] : List UInt8))) = true
         ·
          rw [if_pos c23] at H
          have c23b0 : ((t145 == 0) == (t144.toList != ([] : List UInt8))) = true := c23
          (try (have c23b1 : ((t145 == 0) = !t144.toList.isEmpty) = True := eq_true (by have h_ := c23; rw [show (t144.toList != ([] : List UInt8)) = !t144.toList.isEmpty from by cases t144.toList <;> rfl] at h_; exact eq_of_beq h_)))
          (try (have c23b2 : decide ((t145 == 0) = (t144.toList != ([] : List UInt8))) = true := by simpa using c23))
          (try (have c23b3 : ((t145 == 0) == (t144.toList != ([] : List UInt8))) = true := by simpa using c23))
          clear c23
          obtain rfl := Option.some.inj H
          go_wp2_with (first | ((with_reducible refine gate_callee (f := 9) rfl ?_); refine goesL_ (some 18) rfl rfl Tryd.func9 (by kernel_rfl) rfl #[.string a1] rfl (by (try simp only [List.map_toArray, List.map_cons, List.map_nil]); first | done | rfl | (simp only [List.length_drop, List.length_take]; rfl)) ?_; (with_reducible refine (link_Escape.calls a1 t142 _ A14.out).mono ?_); rintro e w24 ⟨rfl, hb⟩; refine ⟨_, rfl, ?_⟩; have n0_ := bB BK139 hb; have n1_ := Aside0.mk (below_step (by repeat (first | (with_reducible first | exact HB.out | apply below_alloc | apply pw_below_drewN | apply below_drew1 | refine below_set ?_ GE139.out) | exact HB.out)) hb); clear BK139; clear HB; have BK139 := n0_; have HB := n1_; clear n0_ n1_; (try clear hb); (try clear hb2); (try clear hk); (try clear hi)) | ((with_reducible refine gate_callee (f := 10) rfl ?_); refine goesL_ (some 21) rfl rfl Tryd.func10 (by kernel_rfl) rfl #[.string a1] rfl (by (try simp only [List.map_toArray, List.map_cons, List.map_nil]); first | done | rfl | (simp only [List.length_drop, List.length_take]; rfl)) ?_; (with_reducible refine (link_Base32.calls a1 t143 _ A15.out).mono ?_); rintro e w25 ⟨rfl, hb⟩; refine ⟨_, rfl, ?_⟩; have n0_ := bB BK139 hb; have n1_ := Aside0.mk (below_step (by repeat (first | (with_reducible first | exact HB.out | apply below_alloc | apply pw_below_drewN | apply below_drew1 | refine below_set ?_ GE139.out) | exact HB.out)) hb); clear BK139; clear HB; have BK139 := n0_; have HB := n1_; clear n0_ n1_; (try clear hb); (try clear hb2); (try clear hk); (try clear hi); have hcz26_0 : w25.cell? ⟨gb139, 0, none⟩ = some (.string a0_0) := (blk_cell BK139.out 0).trans rfl; have hcz26_1 : w25.cell? ⟨gb139, 1, none⟩ = some (.string a0_1) := (blk_cell BK139.out 1).trans rfl; have hcz26_2 : w25.cell? ⟨gb139, 2, none⟩ = some (.slice A0_2 l0_2.length c0_2) := (blk_cell BK139.out 2).trans rfl; have hcz26_3 : w25.cell? ⟨gb139, 3, none⟩ = some (.slice A0_3 l0_3.length c0_3) := (blk_cell BK139.out 3).trans rfl; have hfz26_0 := blk_frozen BK139.out 0; have hfz26_1 := blk_frozen BK139.out 1; have hfz26_2 := blk_frozen BK139.out 2; have hfz26_3 := blk_frozen BK139.out 3) | ((with_reducible refine gate_callee (f := 11) rfl ?_); refine goesL_ (some 52) rfl rfl Tryd.func11 (by kernel_rfl) rfl #[.agg #[.string a0_0, .string a0_1, .slice A0_2 l0_2.length c0_2, .slice A0_3 l0_3.length c0_3]] rfl (by (try simp only [List.map_toArray, List.map_cons, List.map_nil]); first | done | rfl | (simp only [List.length_drop, List.length_take]; rfl)) ?_; (with_reducible refine (link_Text.calls kj2 a0_0 a0_1 _ _ l0_2 _ _ l0_3 t144 t145 _ ?side1 ?side2 ?side3 ?side4 A20.out (TabW.below hTab (by repeat (first | (with_reducible first | exact HB.out | apply below_alloc | apply pw_below_drewN | apply below_drew1) | exact HB.out)))).mono ?_); (case side1 => repeat (first | exact (Kd.C_below HR0_2.out HB.out) | (with_reducible refine Kd.C_alloc ?_ _) | (with_reducible refine Kd.C_drewN ?_ _) | (with_reducible refine Kd.C_drew ?_))); (case side2 => exact HC0_2.out); (case side3 => repeat (first | exact (Kd.C_below HR0_3.out HB.out) | (with_reducible refine Kd.C_alloc ?_ _) | (with_reducible refine Kd.C_drewN ?_ _) | (with_reducible refine Kd.C_drew ?_))); (case side4 => exact HC0_3.out); rintro e w27 ⟨rfl, hb⟩; refine ⟨_, rfl, ?_⟩; have n0_ := bB BK139 hb; have n1_ := Aside0.mk (below_step (by repeat (first | (with_reducible first | exact HB.out | apply below_alloc | apply pw_below_drewN | apply below_drew1 | refine below_set ?_ GE139.out) | exact HB.out)) hb); clear BK139; clear HB; have BK139 := n0_; have HB := n1_; clear n0_ n1_; (try clear hb); (try clear hb2); (try clear hk); (try clear hi)) | ((with_reducible refine gate_callee (f := 8) rfl ?_); refine goesL_ (some 55) rfl rfl Tryd.func8 (by kernel_rfl) rfl #[] rfl (by (try simp only [List.map_toArray, List.map_cons, List.map_nil]); first | done | rfl | (simp only [List.length_drop, List.length_take]; rfl)) ?_; (with_reducible refine (mosaiclaw29_awake.calls kj2  true _ A21.out).mono ?_); rintro e w28 ⟨rfl, hb⟩; refine ⟨_, rfl, ?_⟩; have n0_ := bB BK139 hb; have n1_ := Aside0.mk (below_step (by repeat (first | (with_reducible first | exact HB.out | apply below_alloc | apply pw_below_drewN | apply below_drew1 | refine below_set ?_ GE139.out) | exact HB.out)) hb); clear BK139; clear HB; have BK139 := n0_; have HB := n1_; clear n0_ n1_; (try clear hb); (try clear hb2); (try clear hk); (try clear hi)))
          go_ret
          exact ⟨by first | rfl | (simp [errW_none, errW_some] <;> rfl) | (simp [*, errW_none, errW_some] <;> rfl), by repeat (first | (with_reducible first | exact HB.out | apply below_alloc | apply pw_below_drewN | apply below_drew1 | refine below_set ?_ GE139.out) | exact HB.out)⟩
         ·
          rw [if_neg c23] at H
          exact absurd H (by simp)
        ·
         replace c22 := Bool.eq_false_iff.mpr c22
         subst c22
         have H1 : (none) = some r := by rw [if_neg (show ¬ (false = true) by decide)] at H; exact H
         clear H
         have H := H1
         clear H1
         exact absurd H (by simp)
       ·
        rw [if_neg c19] at H
        exact absurd H (by simp)
    ·
     rw [if_neg c16] at H
     exact absurd H (by simp)

/-- THE ONE PURE STATEMENT of mosaiclaw29_LinkLong: yours. -/
def mosaiclaw29_LinkLong.Pure : Prop := ∀ (a0_0 : ByteArray) (a0_1 : ByteArray) (l0_2 : List Int) (l0_3 : List (S34)) (a1 : ByteArray), Q25 (⟨a0_0, a0_1, l0_2, l0_3⟩ : S25) → a1.size ≤ 140737488351232 → ∃ k, mosaiclaw29_LinkLong.f k a0_0 a0_1 l0_2 l0_3 a1 = some true

end Go.Proofs.YtdccglkmkahblaaDoor.P
