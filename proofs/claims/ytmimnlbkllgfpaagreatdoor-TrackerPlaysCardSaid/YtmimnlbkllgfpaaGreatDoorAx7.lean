-- Written for this claim by the session's own turn of the kit's print program (wip/tools/xprint.py).
import Derived.Test.YtmimnlbkllgfpaaGreatDoorSg
import Derived.Test.YtmimnlbkllgfpaaGreatDoorAx0
import Derived.Test.YtmimnlbkllgfpaaGreatDoorAx6
namespace Go.Proofs.YtmimnlbkllgfpaaGreatDoor.A
open Go.RowKit Go.Proofs.YtmimnlbkllgfpaaGreatDoor.Sg Go.Proofs.YtmimnlbkllgfpaaGreatDoor.Fl Go.Proofs.YtmimnlbkllgfpaaGreatDoor.Sq Go.Proofs.YtmimnlbkllgfpaaGreatDoor.Hand Go.Proofs.YtmimnlbkllgfpaaGreatDoorW.PrintWords Go.Proofs.YtmimnlbkllgfpaaGreatDoorW.PrintLast Go.Proofs.YtmimnlbkllgfpaaGreatDoorW.PrintMore
attribute [local go_sem] max2_int min2_int max_two min_two max_three min_three max_four min_four   -- for this text's walks alone
set_option linter.unusedVariables false
set_option linter.unusedSimpArgs false

/-! ### mosaicref17_Near: function 39 -/
mutual
def mosaicref17_Near.l0 : Nat → List (S40) → Int → Int → Int → Option (List Int × Int)
 | 0, _, _, _, _ => none
 | k + 1, x1, x6, x160000, x160001 => if x6 < (x1.length : Int) then (if 0 ≤ x6 then ((mosaicref17_Check.f ((rd_T40 x1 x6).f0) ((rd_T40 x1 x6).f1)).bind fun t162 => (if t162 = true then (mosaicref17_Near.l0 k x1 (wrap64 (x6 + 1)) x160000 x160001) else (some (([] : List Int), 1)))) else (none)) else (if (x1.length : Int) > 160 then (some (([] : List Int), 2)) else (mosaicref17_Near.l1 k x1 ([] : List Int) 0 x160000 x160001))
def mosaicref17_Near.l1 : Nat → List (S40) → List Int → Int → Int → Int → Option (List Int × Int)
 | 0, _, _, _, _, _ => none
 | k + 1, x1, x7, x8, x160000, x160001 => if x8 < (x1.length : Int) then (mosaicref17_Near.l2 k x1 x7 x8 ([] : List Int) false 0 x160000 x160001) else (some (x7, 0))
def mosaicref17_Near.l2 : Nat → List (S40) → List Int → Int → List Int → Bool → Int → Int → Int → Option (List Int × Int)
 | 0, _, _, _, _, _, _, _, _ => none
 | k + 1, x1, x7, x8, x9, x10, x11, x160000, x160001 => if x11 < (x7.length : Int) then (if x10 = true then (if 0 ≤ x11 then (if x9.length < 17592186044416 then (mosaicref17_Near.l2 k x1 x7 x8 (x9 ++ [rd x7 x11]) x10 (wrap64 (x11 + 1)) x160000 x160001) else (none)) else (none)) else (if 0 ≤ x8 then (if x8 < (x1.length : Int) then ((mosaicref17_Dist.f x160000 x160001 ((rd_T40 x1 x8).f0) ((rd_T40 x1 x8).f1)).bind fun t171 => (if 0 ≤ x11 then (if 0 ≤ (rd x7 x11) then (if (rd x7 x11) < (x1.length : Int) then ((mosaicref17_Dist.f x160000 x160001 ((rd_T40 x1 (rd x7 x11)).f0) ((rd_T40 x1 (rd x7 x11)).f1)).bind fun t174 => (if t171 < t174 then (if x9.length < 17592186044416 then ((some (x9 ++ [x8] : List Int)).bind fun y175 => (if y175.length < 17592186044416 then (mosaicref17_Near.l2 k x1 x7 x8 (y175 ++ [rd x7 x11]) true (wrap64 (x11 + 1)) x160000 x160001) else (none))) else (none)) else (if x9.length < 17592186044416 then (mosaicref17_Near.l2 k x1 x7 x8 (x9 ++ [rd x7 x11]) x10 (wrap64 (x11 + 1)) x160000 x160001) else (none)))) else (none)) else (none)) else (none))) else (none)) else (none))) else (if x10 = true then (mosaicref17_Near.l1 k x1 x9 (wrap64 (x8 + 1)) x160000 x160001) else (if x9.length < 17592186044416 then (mosaicref17_Near.l1 k x1 (x9 ++ [x8]) (wrap64 (x8 + 1)) x160000 x160001) else (none)))
end
def mosaicref17_Near.f (k : Nat) (a0_0 : Int) (a0_1 : Int) (l1 : List (S40)) : Option (List Int × Int) := (mosaicref17_Check.f a0_0 a0_1).bind fun t160 => (if t160 = true then (mosaicref17_Near.l0 k l1 0 a0_0 a0_1) else (some (([] : List Int), 1)))
def mosaicref17_Near.T19 : Bool × List (List Nat × List Nat) := (true, [([], []), ([0], [0]), ([1], [1]), ([2], [2]), ([2], [2]), ([2], [2]), ([4, 5, 2], [2, 4, 5]), ([6, 2], [2, 6]), ([3, 7, 2, 2], [2, 3, 7]), ([2], [2]), ([2], [2]), ([2], [2]), ([2], [2]), ([11, 12, 2], [2, 11, 12]), ([13, 2], [2, 13]), ([10, 14, 2], [2, 10, 14]), ([15, 2], [2, 15]), ([9, 16, 8, 2], [2, 9, 16]), ([8, 17, 2], [2, 8, 17]), ([2, 18], [2, 18])])
def mosaicref17_Near.B19 : List Nat := [0, 1, 3, 7, 7, 7, 55, 119, 255, 7, 7, 7, 7, 6151, 14343, 31751, 64519, 131071, 262143, 524287]
theorem mosaicref17_Near.tab19 : rtab .any (opsOf Tryz.f39 19) = mosaicref17_Near.T19 := by kernel_rfl
theorem mosaicref17_Near.bits19 : waitsOk mosaicref17_Near.T19.2 mosaicref17_Near.B19 = true := by kernel_rfl
namespace BAx7
theorem b0 {p : Prop} (h : p := by repeat (first | (with_reducible first | exact HB.out | apply below_alloc | apply pw_below_drewN | apply below_drew1 | refine below_set ?_ GE159.out) | exact HB.out)) : p := h
theorem b1 {p : Prop} (h : p := by (with_reducible repeat (first | apply Kd.R_alloc | apply Kd.R_drewN | apply Kd.R_drew)); exact HO_7.out) : p := h
theorem b2 {p : Prop} (h : p := by (try simp only [List.map_toArray, List.map_cons, List.map_nil]); first | done | rfl | (simp only [List.length_drop, List.length_take]; rfl)) : p := h
theorem b3 {p : Prop} (h : p := by first | (with_reducible assumption) | assumption) : p := h
theorem b4 {p : Prop} (h : p := by (with_reducible repeat (first | refine blk_drewN ?_ _ | refine blk_drew ?_ | refine blk_alloc ?_ _)); exact BK159.out) : p := h
theorem b5 {p : Prop} (h : p := by (with_reducible repeat (first | apply Kd.R_alloc | apply Kd.R_drewN | apply Kd.R_drew)); exact HO_9.out) : p := h
theorem b6 {p : Prop} (h : p := by repeat (first | (with_reducible first | exact HB.out | apply below_alloc | apply pw_below_drewN | apply below_drew1) | exact HB.out)) : p := h
theorem b7 {p : Prop} (h : p := by first | exact Kd.R_nil _ _ _ _ _ | exact Kd.N_nil _ _ _ _ _ | exact Kd.V_nil _ _ _ _ _ | exact Kd.Q_nil _ _ _ _ _ | exact Kd.S_nil _ _ _ _ _) : p := h
theorem b8 {p : Prop} (h : p := by first | rfl | (simp; done) | (simp [*]; done)) : p := h
theorem b9 {p : Prop} (h : p := by (with_reducible repeat (first | apply Kd.R_alloc | apply Kd.R_drewN | apply Kd.R_drew)); exact Kd.R_mono HO_7.out (fun _ hk => ⟨trivial, hk⟩)) : p := h
theorem b10 {p : Prop} (h : p := by (with_reducible repeat (first | apply Kd.R_alloc | apply Kd.R_drewN | apply Kd.R_drew)); exact Kd.R_mono HO_7.out (fun _ hk => hk.2)) : p := h
theorem b11 {p : Prop} (h : p := by first | rfl | (simp [errW_none, errW_some] <;> rfl) | (simp [*, errW_none, errW_some] <;> rfl)) : p := h
theorem b12 {p : Prop} (h : p := by have := HK1.out; have := HK2.out; have := HK3.out; omega) : p := h
end BAx7
open BAx7
set_option maxHeartbeats 8000000 in
set_option maxRecDepth 100000 in
theorem mosaicref17_Near.calls (k : Nat) (a0_0 : Int) (a0_1 : Int) (A1 : Option Addr) (c1 : Nat) (l1 : List (S40)) (r1 : List Int) (r2 : Int) (w : World) (hr1 : Kd.C k40 w A1 l1.length l1) (hc1 : l1.length ≤ c1) (h : mosaicref17_Near.f k a0_0 a0_1 l1 = some (r1, r2)) :
  Calls Tryz.prog 39 #[.agg #[.int .i64 a0_0, .int .i64 a0_1], .slice A1 l1.length c1] w fun e w' => ∃ v0_ : Value, e = .returned (.tuple #[v0_, .int .i64 r2]) ∧ Kd.R (Kd.int .i64) 3 w' w.heap.size (fun _ => True) v0_ r1 ∧ Below w.heap.size w w' := by
 have hu40 := Tryz.underlying40
 have HR1 := Aside0.mk hr1
 have HC1 := Aside0.mk hc1
 clear hr1 hc1
 have HB := Aside0.mk (Below.refl w.heap.size w)
 have H : ((mosaicref17_Check.f a0_0 a0_1).bind fun t160 => (if t160 = true then (mosaicref17_Near.l0 k l1 0 a0_0 a0_1) else (some (([] : List Int), 1)))) = some (r1, r2) := h
 clear h
 replace H := Option.bind_eq_some_iff.mp H
 obtain ⟨t160, A30, H⟩ := H
 have A3 := Aside0.mk A30
 clear A30
 by_cases c4 : t160 = true
 ·
  subst c4
  rw [if_pos rfl] at H
  have H' := Aside0.mk H
  clear H
  go_enter Tryz.func39, Tryz.ntmps39
  go_wp2_with (first | ((with_reducible refine gate_dst (N := 2) rfl ?_); refine box_event ?hg (N := 2) ?hd (cs := #[.int .i64 a0_0, .int .i64 a0_1]) (t := 40) ?hr ?_; (case hd => rfl); (case hg => rfl); (case hr => first | (go_simp; done) | (go_simp; rfl)); intro gb159 hg w5 hbox hb; have BK159 := Aside0.mk (hbox); have GW159 := Aside0.mk ((by rw [hg]; exact (below_size b6) : w.heap.size ≤ gb159)); have GE159 := Aside0.mk ((by rw [hg]; exact (below_size b6) : w.heap.size ≤ gb159)); replace HB := Aside0.mk (below_step b6 hb); clear hb hbox hg; have ⟨_, _, _, _⟩ := cc2 BK159) | ((with_reducible refine gate_callee (f := 31) rfl ?_); refine goesL_ (some 13) rfl rfl Tryz.func31 (by kernel_rfl) rfl #[.agg #[.int .i64 a0_0, .int .i64 a0_1]] rfl b2 ?_; (with_reducible refine (mosaicref17_Check.calls a0_0 a0_1 true _ A3.out).mono ?_); rintro e w7 ⟨rfl, hb⟩; refine ⟨_, rfl, ?_⟩; replace BK159 := bB BK159 hb; replace HB := Aside0.mk (below_step b0 hb); (try clear hb); (try clear hb2); (try clear hk); (try clear hi)))
  go_loopg [6] k (fun kq v6 w' => ∃ (x6_1 : Int), v6 = .int .i64 x6_1 ∧ Aside0 (mosaicref17_Near.l0 kq l1 x6_1 a0_0 a0_1 = some (r1, r2)) ∧ Aside0 (kq ≤ k) ∧ Aside0 (w'.heap[gb159]? = some (.cells #[.int .i64 a0_0, .int .i64 a0_1] 40 (0, 0))) ∧ Aside0 (Below w.heap.size w w'))
  case atStart => exact ⟨(0), b8, H', ⟨Nat.le_refl _⟩, ⟨b4⟩, ⟨b0⟩⟩
  case round =>
   clear H'
   try clear c1
   try clear c4
   try clear hcz6_0
   try clear hcz6_1
   try clear hfz6_0
   try clear hfz6_1
   obtain ⟨x6_1, rfl, HA, HK1, BK159, HB⟩ := hrel
   cases gk with
   | zero => exact absurd HA.out (by simp [mosaicref17_Near.l0])
   | succ k1 =>
    have H := HA.out
    clear HA
    simp only [mosaicref17_Near.l0] at H
    by_cases c8 : x6_1 < (l1.length : Int)
    ·
     rw [if_pos c8] at H
     have c8b0 := decide_eq_true c8
     clear c8
     by_cases c9 : 0 ≤ x6_1
     rotate_left; · rw [if_neg c9] at H; exact absurd H (by simp)
     rw [if_pos c9] at H
     have c9b0 := decide_eq_true c9
     clear c9
     replace H := Option.bind_eq_some_iff.mp H
     obtain ⟨t162, A100, H⟩ := H
     have A10 := Aside0.mk A100
     clear A100
     by_cases c11 : t162 = true
     ·
      subst c11
      rw [if_pos rfl] at H
      have H' := Aside0.mk H
      clear H
      have p161 : 0 ≤ (x6_1 : Int) := of_decide_eq_true b3
      have q161 : x6_1 < (l1.length : Int) := of_decide_eq_true b3
      obtain ⟨ad161, e161, hx161_0, hx161_1⟩ := at_T40 HR1.out x6_1 p161 q161
      cases e161
      replace hx161_0 := (HB.out.cell (World.block_lt_of_cell? w _ hx161_0)).trans hx161_0
      replace hx161_1 := (HB.out.cell (World.block_lt_of_cell? w _ hx161_1)).trans hx161_1
      replace p161 := eq_true p161
      replace q161 := eq_true q161
      go_wp2_with (first | ((with_reducible refine gate_callee (f := 31) rfl ?_); refine goesL_ (some 25) rfl rfl Tryz.func31 (by kernel_rfl) rfl #[.agg #[.int .i64 ((rd_T40 l1 x6_1).f0), .int .i64 ((rd_T40 l1 x6_1).f1)]] rfl b2 ?_; (with_reducible refine (mosaicref17_Check.calls ((rd_T40 l1 x6_1).f0) ((rd_T40 l1 x6_1).f1) true _ A10.out).mono ?_); rintro e w12 ⟨rfl, hb⟩; refine ⟨_, rfl, ?_⟩; replace BK159 := bB BK159 hb; replace HB := Aside0.mk (below_step b0 hb); (try clear hb); (try clear hb2); (try clear hk); (try clear hi)))
      go_roundg k1
      case measure => have := HK1.out; omega
      case rel => exact ⟨(wrap64 (x6_1 + 1)), b8, H', ⟨by have := HK1.out; omega⟩, ⟨b4⟩, ⟨b0⟩⟩
     ·
      replace c11 := Bool.eq_false_iff.mpr c11
      subst c11
      rw [if_neg (show ¬ (false = true) by decide)] at H
      simp only [Option.some.injEq, Prod.mk.injEq] at H
      obtain ⟨rfl, rfl⟩ := H
      have p161 : 0 ≤ (x6_1 : Int) := of_decide_eq_true b3
      have q161 : x6_1 < (l1.length : Int) := of_decide_eq_true b3
      obtain ⟨ad161, e161, hx161_0, hx161_1⟩ := at_T40 HR1.out x6_1 p161 q161
      cases e161
      replace hx161_0 := (HB.out.cell (World.block_lt_of_cell? w _ hx161_0)).trans hx161_0
      replace hx161_1 := (HB.out.cell (World.block_lt_of_cell? w _ hx161_1)).trans hx161_1
      replace p161 := eq_true p161
      replace q161 := eq_true q161
      go_wp2_with (first | ((with_reducible refine gate_callee (f := 31) rfl ?_); refine goesL_ (some 25) rfl rfl Tryz.func31 (by kernel_rfl) rfl #[.agg #[.int .i64 ((rd_T40 l1 x6_1).f0), .int .i64 ((rd_T40 l1 x6_1).f1)]] rfl b2 ?_; (with_reducible refine (mosaicref17_Check.calls ((rd_T40 l1 x6_1).f0) ((rd_T40 l1 x6_1).f1) false _ A10.out).mono ?_); rintro e w13 ⟨rfl, hb⟩; refine ⟨_, rfl, ?_⟩; replace BK159 := bB BK159 hb; replace HB := Aside0.mk (below_step b0 hb); (try clear hb); (try clear hb2); (try clear hk); (try clear hi)))
      go_ret2
      exact ⟨_, b11, b7, b0⟩
    ·
     rw [if_neg c8] at H
     have c8b0 := decide_eq_false c8
     clear c8
     by_cases c14 : (l1.length : Int) > 160
     ·
      rw [if_pos c14] at H
      have c14b0 := decide_eq_true c14
      have c14b1 : decide (160 < l1.length) = true := decide_eq_true (by omega)
      clear c14
      simp only [Option.some.injEq, Prod.mk.injEq] at H
      obtain ⟨rfl, rfl⟩ := H
      go_wp2
      go_ret2
      exact ⟨_, b11, b7, b0⟩
     ·
      rw [if_neg c14] at H
      have c14b0 := decide_eq_false c14
      have c14b1 : decide (160 < l1.length) = false := decide_eq_false (by omega)
      clear c14
      have H' := Aside0.mk H
      clear H
      go_wp2
      go_loopg [7, 8] k1 (fun kq v7 v8 w' => ∃ (x7_2 : List Int) (x8_2 : Int), v8 = .int .i64 x8_2 ∧ Aside0 (mosaicref17_Near.l1 kq l1 x7_2 x8_2 a0_0 a0_1 = some (r1, r2)) ∧ Aside0 (kq ≤ k1) ∧ Aside0 (Kd.R (Kd.int .i64) 3 w' w.heap.size (fun _ => True) v7 x7_2) ∧ Aside0 (w'.heap[gb159]? = some (.cells #[.int .i64 a0_0, .int .i64 a0_1] 40 (0, 0))) ∧ Aside0 (Below w.heap.size w w'))
      case atStart => exact ⟨(([] : List Int)), (0), b8, H', ⟨Nat.le_refl _⟩, ⟨b7⟩, ⟨b4⟩, ⟨b0⟩⟩
      case round =>
       clear H'
       try clear c1
       try clear c4
       try clear c8
       try clear c8b0
       try clear c14
       try clear c14b0
       try clear c14b1
       try clear hcz6_0
       try clear hcz6_1
       try clear hfz6_0
       try clear hfz6_1
       obtain ⟨x7_2, x8_2, rfl, HA, HK2, HO_7, BK159, HB⟩ := hrel
       cases gk with
       | zero => exact absurd HA.out (by simp [mosaicref17_Near.l1])
       | succ k2 =>
        have H := HA.out
        clear HA
        simp only [mosaicref17_Near.l1] at H
        by_cases c15 : x8_2 < (l1.length : Int)
        ·
         rw [if_pos c15] at H
         have c15b0 := decide_eq_true c15
         clear c15
         have H' := Aside0.mk H
         clear H
         go_wp2
         go_loopg [9, 10, 11] k2 (fun kq v9 v10 v11 w' => ∃ (x9_3 : List Int) (x10_3 : Bool) (x11_3 : Int), v10 = .bool x10_3 ∧ v11 = .int .i64 x11_3 ∧ Aside0 (mosaicref17_Near.l2 kq l1 x7_2 x8_2 x9_3 x10_3 x11_3 a0_0 a0_1 = some (r1, r2)) ∧ Aside0 (kq ≤ k2) ∧ Aside0 (Kd.R (Kd.int .i64) 3 w' w.heap.size (fun k_ => some k_ ≠ (v9 : Value).ownBlock) u7 x7_2) ∧ Aside0 (Kd.R (Kd.int .i64) 3 w' w.heap.size (fun k_ => some k_ ≠ (u7 : Value).ownBlock) v9 x9_3) ∧ Aside0 (w'.heap[gb159]? = some (.cells #[.int .i64 a0_0, .int .i64 a0_1] 40 (0, 0))) ∧ Aside0 (Below w.heap.size w w'))
         case atStart => exact ⟨(([] : List Int)), (false), (0), b8, b8, H', ⟨Nat.le_refl _⟩, ⟨by (with_reducible repeat (first | apply Kd.R_alloc | apply Kd.R_drewN | apply Kd.R_drew)); exact Kd.R_mono HO_7.out (fun _ hk => (by simp [Value.ownBlock]))⟩, ⟨b7⟩, ⟨b4⟩, ⟨b0⟩⟩
         case round =>
          clear H'
          try clear c1
          try clear c4
          try clear c8
          try clear c8b0
          try clear c14
          try clear c14b0
          try clear c14b1
          try clear c15
          try clear c15b0
          try clear hcz6_0
          try clear hcz6_1
          try clear hfz6_0
          try clear hfz6_1
          obtain ⟨x9_3, x10_3, x11_3, rfl, rfl, HA, HK3, HO_7, HO_9, BK159, HB⟩ := hrel
          cases gk with
          | zero => exact absurd HA.out (by simp [mosaicref17_Near.l2])
          | succ k3 =>
           have H := HA.out
           clear HA
           simp only [mosaicref17_Near.l2] at H
           by_cases c16 : x11_3 < (x7_2.length : Int)
           ·
            rw [if_pos c16] at H
            have c16b0 := decide_eq_true c16
            clear c16
            by_cases c17 : x10_3 = true
            ·
             subst c17
             rw [if_pos rfl] at H
             by_cases c18 : 0 ≤ x11_3
             rotate_left; · rw [if_neg c18] at H; exact absurd H (by simp)
             rw [if_pos c18] at H
             have c18b0 := decide_eq_true c18
             clear c18
             by_cases c19 : x9_3.length < 17592186044416
             rotate_left; · rw [if_neg c19] at H; exact absurd H (by simp)
             rw [if_pos c19] at H
             have LMc19 := Aside0.mk c19
             clear c19
             obtain ⟨y167, hy167⟩ : ∃ y_ : List Int, y_ = (x9_3 ++ [rd x7_2 x11_3]) := ⟨_, rfl⟩
             replace H : (mosaicref17_Near.l2 k3 l1 x7_2 x8_2 y167 true (wrap64 (x11_3 + 1)) a0_0 a0_1) = some (r1, r2) := by first | (rw [hy167]; with_reducible exact H) | (have H2_ := (Option.bind_some _ _).symm.trans H; rw [hy167]; with_reducible exact H2_) | (have H2_ := (Option.bind_some _ _).symm.trans H; with_reducible exact H2_) | with_reducible exact H | (rw [hy167]; exact H) | exact H
             have Ny167 := Aside0.mk hy167
             clear hy167
             have H' := Aside0.mk H
             clear H
             obtain ⟨Ao20, co20, eo20⟩ := Kd.R_slice HO_7.out
             subst eo20
             try go_wp2
             have n0_ := Aside0.mk (Kd.R_drew HO_7.out)
             have n1_ := Aside0.mk (Kd.R_drew HO_9.out)
             have n2_ := Aside0.mk (blk_drew BK159.out)
             have n3_ := Aside0.mk (below_drew1 HB.out)
             clear HO_7 HO_9 BK159 HB
             have HO_7 := n0_
             have HO_9 := n1_
             have BK159 := n2_
             have HB := n3_
             clear n0_ n1_ n2_ n3_
             refine start_ (n := 20) (S := fun w' => True) (ds := []) (fB 20 0) (by kernel_rfl) rfl rfl trivial (fun hHeld => ?_); refine with_tabW mosaicref17_Near.tab19 mosaicref17_Near.bits19 (fun HT_ HW_ => ?_)
             generalize wr.drew = w21 at HO_7 HO_9 BK159 HB hHeld ⊢
             refine pS 0 42 20 1 HT_ ?_
             refine pS 1 43 20 3 HT_ ?_
             refine pS 2 44 20 7 HT_ ?_
             refine oS 3 45 20 15 HT_ ?_
             refine oS 4 46 20 31 HT_ ?_
             refine oS 5 47 20 63 HT_ ?_
             refine oS 6 48 20 127 HT_ ?_
             refine oS 7 49 20 255 HT_ ?_
             refine oS 8 50 20 511 HT_ ?_
             refine oS 9 51 20 1023 HT_ ?_
             refine oS 10 52 20 2047 HT_ ?_
             refine oS 11 53 20 4095 HT_ ?_
             refine oS 12 54 20 8191 HT_ ?_
             refine oS 13 55 20 16383 HT_ ?_
             refine oS 14 56 20 32767 HT_ ?_
             refine oS 15 57 20 65535 HT_ ?_
             refine oS 16 58 20 131071 HT_ ?_
             refine oS 17 59 20 262143 HT_ ?_
             refine oS 18 60 20 524287 HT_ ?_
             refine pS 19 61 20 1048575 HT_ ?_
             refine done_ (done_of HT_.out (by kernel_rfl)) ?_
             have p166 : 0 ≤ (x11_3 : Int) := of_decide_eq_true b3
             have q166 : x11_3 < (x7_2.length : Int) := of_decide_eq_true b3
             obtain ⟨ad166, e166, hx166_0⟩ := Kd.at_int (Kd.R_reads' HO_7.out).2.2 x11_3 p166 q166
             cases e166
             replace p166 := eq_true p166
             replace q166 := eq_true q166
             try go_wp2_with (first | ((with_reducible refine gate_builtin (b := .append) (xs := #[.tmp 66, .tmp 71]) rfl ?_); at_builtin; refine Kd.R_append (Kd.int .i64) (w0 := w) w.heap.size rfl (.tmp 66) (.tmp 71) 48 3 (.int .i64 0) 8 rfl Tryz.underlying48 info3 rfl (by decide) (by omega) u9 x9_3 (rd x7_2 x11_3) [.int .i64 (rd x7_2 x11_3)] (fun k_ => some k_ ≠ (.slice (some ad166) x7_2.length co20 : Value).ownBlock) (fun _ => False) rfl rfl ?aP (fun _ hk => hk.elim) ?aF ?aO ?aB ?aS ?aL ?_; (case aP => exact rfl); (case aB => exact b0); (case aF => exact (fun k_ hk => Kd.fresh' (Kd.R_lt b1) k_ hk)); (case aO => exact b5); (case aS => exact (below_size b0)); (case aL => have := LMc19.out; omega); intro v168 w22 ho hb hg hat; rw [← Ny167.out] at ho; replace HO_7 := Aside0.mk (Kd.R_after (ok := (fun _ => True)) b9 hg hat); replace BK159 := Aside0.mk (blk_grown (g := gb159) (o := .cells #[.int .i64 a0_0, .int .i64 a0_1] 40 (0, 0)) (by exact bS BK159) hg (Kd.R_ne HO_9.out BK159.out (by decide))); replace HB := Aside0.mk (hb); have HO169 := Aside0.mk (ho); clear HO_9; clear ho hb hg hat))
             go_roundg k3
             case measure => have := HK1.out; have := HK2.out; have := HK3.out; omega
             case rel => exact ⟨(y167), (true), (wrap64 (x11_3 + 1)), b8, b8, H', ⟨b12⟩, ⟨b10⟩, ⟨by (with_reducible repeat (first | apply Kd.R_alloc | apply Kd.R_drewN | apply Kd.R_drew)); exact HO169.out⟩, ⟨b4⟩, ⟨b0⟩⟩
            ·
             replace c17 := Bool.eq_false_iff.mpr c17
             subst c17
             rw [if_neg (show ¬ (false = true) by decide)] at H
             by_cases c23 : 0 ≤ x8_2
             rotate_left; · rw [if_neg c23] at H; exact absurd H (by simp)
             rw [if_pos c23] at H
             have c23b0 := decide_eq_true c23
             clear c23
             by_cases c24 : x8_2 < (l1.length : Int)
             rotate_left; · rw [if_neg c24] at H; exact absurd H (by simp)
             rw [if_pos c24] at H
             have c24b0 := decide_eq_true c24
             clear c24
             replace H := Option.bind_eq_some_iff.mp H
             obtain ⟨t171, A250, H⟩ := H
             have A25 := Aside0.mk A250
             clear A250
             by_cases c26 : 0 ≤ x11_3
             rotate_left; · rw [if_neg c26] at H; exact absurd H (by simp)
             rw [if_pos c26] at H
             have c26b0 := decide_eq_true c26
             clear c26
             by_cases c27 : 0 ≤ (rd x7_2 x11_3)
             rotate_left; · rw [if_neg c27] at H; exact absurd H (by simp)
             rw [if_pos c27] at H
             have c27b0 := decide_eq_true c27
             clear c27
             by_cases c28 : (rd x7_2 x11_3) < (l1.length : Int)
             rotate_left; · rw [if_neg c28] at H; exact absurd H (by simp)
             rw [if_pos c28] at H
             have c28b0 := decide_eq_true c28
             clear c28
             replace H := Option.bind_eq_some_iff.mp H
             obtain ⟨t174, A290, H⟩ := H
             have A29 := Aside0.mk A290
             clear A290
             by_cases c30 : t171 < t174
             ·
              rw [if_pos c30] at H
              have c30b0 := decide_eq_true c30
              clear c30
              by_cases c31 : x9_3.length < 17592186044416
              rotate_left; · rw [if_neg c31] at H; exact absurd H (by simp)
              rw [if_pos c31] at H
              have LMc31 := Aside0.mk c31
              clear c31
              obtain ⟨y175, hy175⟩ : ∃ y_ : List Int, y_ = (x9_3 ++ [x8_2]) := ⟨_, rfl⟩
              replace H : (if y175.length < 17592186044416 then (mosaicref17_Near.l2 k3 l1 x7_2 x8_2 (y175 ++ [rd x7_2 x11_3]) true (wrap64 (x11_3 + 1)) a0_0 a0_1) else (none)) = some (r1, r2) := by first | (rw [hy175]; with_reducible exact H) | (have H2_ := (Option.bind_some _ _).symm.trans H; rw [hy175]; with_reducible exact H2_) | (have H2_ := (Option.bind_some _ _).symm.trans H; with_reducible exact H2_) | with_reducible exact H | (rw [hy175]; exact H) | exact H
              have Ny175 := Aside0.mk hy175
              clear hy175
              by_cases c32 : y175.length < 17592186044416
              rotate_left; · rw [if_neg c32] at H; exact absurd H (by simp)
              rw [if_pos c32] at H
              have LMc32 := Aside0.mk c32
              clear c32
              obtain ⟨y179, hy179⟩ : ∃ y_ : List Int, y_ = (y175 ++ [rd x7_2 x11_3]) := ⟨_, rfl⟩
              replace H : (mosaicref17_Near.l2 k3 l1 x7_2 x8_2 y179 true (wrap64 (x11_3 + 1)) a0_0 a0_1) = some (r1, r2) := by first | (rw [hy179]; with_reducible exact H) | (have H2_ := (Option.bind_some _ _).symm.trans H; rw [hy179]; with_reducible exact H2_) | (have H2_ := (Option.bind_some _ _).symm.trans H; with_reducible exact H2_) | with_reducible exact H | (rw [hy179]; exact H) | exact H
              have Ny179 := Aside0.mk hy179
              clear hy179
              have H' := Aside0.mk H
              clear H
              obtain ⟨Ao33, co33, eo33⟩ := Kd.R_slice HO_7.out
              subst eo33
              try go_wp2
              have n0_ := Aside0.mk (Kd.R_drew HO_7.out)
              have n1_ := Aside0.mk (Kd.R_drew HO_9.out)
              have n2_ := Aside0.mk (blk_drew BK159.out)
              have n3_ := Aside0.mk (below_drew1 HB.out)
              clear HO_7 HO_9 BK159 HB
              have HO_7 := n0_
              have HO_9 := n1_
              have BK159 := n2_
              have HB := n3_
              clear n0_ n1_ n2_ n3_
              have p170 : 0 ≤ (x8_2 : Int) := of_decide_eq_true b3
              have q170 : x8_2 < (l1.length : Int) := of_decide_eq_true b3
              obtain ⟨ad170, e170, hx170_0, hx170_1⟩ := at_T40 HR1.out x8_2 p170 q170
              have hw170_1 := hx170_1
              have hw170_0 := hx170_0
              cases e170
              replace hx170_0 := (HB.out.cell (World.block_lt_of_cell? w _ hx170_0)).trans hx170_0
              replace hx170_1 := (HB.out.cell (World.block_lt_of_cell? w _ hx170_1)).trans hx170_1
              replace p170 := eq_true p170
              replace q170 := eq_true q170
              have p172 : 0 ≤ (x11_3 : Int) := of_decide_eq_true b3
              have q172 : x11_3 < (x7_2.length : Int) := of_decide_eq_true b3
              obtain ⟨ad172, e172, hx172_0⟩ := Kd.at_int (Kd.R_reads' HO_7.out).2.2 x11_3 p172 q172
              cases e172
              replace p172 := eq_true p172
              replace q172 := eq_true q172
              have p173 : 0 ≤ ((rd x7_2 x11_3) : Int) := of_decide_eq_true b3
              have q173 : (rd x7_2 x11_3) < (l1.length : Int) := of_decide_eq_true b3
              obtain ⟨ad173, e173, hx173_0, hx173_1⟩ := at_T40 HR1.out (rd x7_2 x11_3) p173 q173
              have hw173_1 := hx173_1
              have hw173_0 := hx173_0
              obtain rfl : ad170 = ad173 := (by injection e173)
              replace hx173_0 := (HB.out.cell (World.block_lt_of_cell? w _ hx173_0)).trans hx173_0
              replace hx173_1 := (HB.out.cell (World.block_lt_of_cell? w _ hx173_1)).trans hx173_1
              replace p173 := eq_true p173
              replace q173 := eq_true q173
              refine start_ (n := 20) (S := fun w' => w'.cell? ⟨gb159, 0, none⟩ = some (.int .i64 a0_0) ∧ w'.cell? ⟨gb159, 1, none⟩ = some (.int .i64 a0_1) ∧ w'.cell? (ad170.add ((x8_2).toNat * 2)) = some (.int .i64 ((rd_T40 l1 x8_2).f0)) ∧ w'.cell? ⟨(ad170.add ((x8_2).toNat * 2)).block, (ad170.add ((x8_2).toNat * 2)).off + 1, none⟩ = some (.int .i64 ((rd_T40 l1 x8_2).f1)) ∧ w'.cell? (ad172.add (x11_3).toNat) = some (.int .i64 (rd x7_2 x11_3)) ∧ w'.cell? (ad170.add (((rd x7_2 x11_3)).toNat * 2)) = some (.int .i64 ((rd_T40 l1 (rd x7_2 x11_3)).f0)) ∧ w'.cell? ⟨(ad170.add (((rd x7_2 x11_3)).toNat * 2)).block, (ad170.add (((rd x7_2 x11_3)).toNat * 2)).off + 1, none⟩ = some (.int .i64 ((rd_T40 l1 (rd x7_2 x11_3)).f1))) (ds := []) (fB 20 0) (by kernel_rfl) rfl rfl ⟨(blk_cell BK159.out 0).trans rfl, (blk_cell BK159.out 1).trans rfl, ((HB.out.cell (World.block_lt_of_cell? w _ hw170_0)).trans hw170_0), ((HB.out.cell (World.block_lt_of_cell? w _ hw170_1)).trans hw170_1), hx172_0, ((HB.out.cell (World.block_lt_of_cell? w _ hw173_0)).trans hw173_0), ((HB.out.cell (World.block_lt_of_cell? w _ hw173_1)).trans hw173_1)⟩ (fun hHeld => ?_); refine with_tabW mosaicref17_Near.tab19 mosaicref17_Near.bits19 (fun HT_ HW_ => ?_)
              generalize wr.drew = w34 at HO_7 HO_9 BK159 HB hx170_0 hx170_1 hx172_0 hx173_0 hx173_1 hHeld ⊢
              refine pS 0 42 20 1 HT_ ?_
              refine pS 1 43 20 3 HT_ ?_
              refine pS 2 44 20 7 HT_ ?_
              refine pS 4 46 20 23 HT_ ?_
              refine pS 5 47 20 55 HT_ ?_
              refine pS 6 48 20 119 HT_ ?_
              refine pS 10 52 20 1143 HT_ ?_
              refine pS 11 53 20 3191 HT_ ?_
              refine pS 12 54 20 7287 HT_ ?_
              refine pS 13 55 20 15479 HT_ ?_
              refine tS 3 45 20 15487 HT_ HW_ hHeld ?_
              refine tS 7 49 20 15615 HT_ HW_ hHeld ?_
              refine tS 9 51 20 16127 HT_ HW_ hHeld ?_
              refine tS 14 56 20 32511 HT_ HW_ hHeld ?_
              refine pS 15 57 20 65279 HT_ ?_
              refine tS 16 58 20 130815 HT_ HW_ hHeld ?_
              refine one_ (i := 8) (N := some 50) (fB 20 131071) rfl rfl (one_of HT_.out (by kernel_rfl)) (by decide) (fun K hK => ?_)
              refine goes_ Tryz.func61 (by kernel_rfl) rfl #[.agg #[.int .i64 a0_0, .int .i64 a0_1], .agg #[.int .i64 ((rd_T40 l1 x8_2).f0), .int .i64 ((rd_T40 l1 x8_2).f1)]] (by rfl) rfl rfl b2 ?_
              with_reducible refine (mosaicref17_Dist.calls a0_0 a0_1 ((rd_T40 l1 x8_2).f0) ((rd_T40 l1 x8_2).f1) t171 _ A25.out).mono ?_
              rintro e w35 ⟨rfl, hb⟩
              have HS4_ := (hb.cell (World.block_lt_of_cell? _ _ (hHeld.2.2.2.2.1))).trans (hHeld.2.2.2.2.1)
              refine ⟨_, rfl, ?_⟩
              have n0_ := Aside0.mk (Kd.R_below b1 hb)
              have n1_ := Aside0.mk (Kd.R_below b5 hb)
              have n2_ := bB BK159 hb
              have n3_ := hS HB hb
              clear HO_7 HO_9 BK159 HB
              have HO_7 := n0_
              have HO_9 := n1_
              have BK159 := n2_
              have HB := n3_
              clear n0_ n1_ n2_ n3_
              (try clear hb); (try clear hb2); (try clear hk); (try clear hi)
              refine hK.out _ _ ⟨(blk_cell BK159.out 0).trans rfl, (blk_cell BK159.out 1).trans rfl, ((HB.out.cell (World.block_lt_of_cell? w _ hw170_0)).trans hw170_0), ((HB.out.cell (World.block_lt_of_cell? w _ hw170_1)).trans hw170_1), HS4_, ((HB.out.cell (World.block_lt_of_cell? w _ hw173_0)).trans hw173_0), ((HB.out.cell (World.block_lt_of_cell? w _ hw173_1)).trans hw173_1)⟩ (fun hHeld => ?_)
              clear hK K
              refine norm_ (a' := ?_) ?_ ?_
              rotate_left; · show Act.put _ (some 50) _ = _; simp only [Act.put, sA, sB, sC, i64_w, i32_w, sD]; rfl
              refine one_ (i := 17) (N := some 59) (fB 20 262143) rfl rfl (one_of HT_.out (by kernel_rfl)) (by decide) (fun K hK => ?_)
              refine goes_ Tryz.func61 (by kernel_rfl) rfl #[.agg #[.int .i64 a0_0, .int .i64 a0_1], .agg #[.int .i64 ((rd_T40 l1 (rd x7_2 x11_3)).f0), .int .i64 ((rd_T40 l1 (rd x7_2 x11_3)).f1)]] (by rfl) rfl rfl b2 ?_
              with_reducible refine (mosaicref17_Dist.calls a0_0 a0_1 ((rd_T40 l1 (rd x7_2 x11_3)).f0) ((rd_T40 l1 (rd x7_2 x11_3)).f1) t174 _ A29.out).mono ?_
              rintro e w36 ⟨rfl, hb⟩
              have HS4_ := (hb.cell (World.block_lt_of_cell? _ _ (hHeld.2.2.2.2.1))).trans (hHeld.2.2.2.2.1)
              refine ⟨_, rfl, ?_⟩
              have n0_ := Aside0.mk (Kd.R_below b1 hb)
              have n1_ := Aside0.mk (Kd.R_below b5 hb)
              have n2_ := bB BK159 hb
              have n3_ := hS HB hb
              clear HO_7 HO_9 BK159 HB
              have HO_7 := n0_
              have HO_9 := n1_
              have BK159 := n2_
              have HB := n3_
              clear n0_ n1_ n2_ n3_
              (try clear hb); (try clear hb2); (try clear hk); (try clear hi)
              refine hK.out _ _ ⟨(blk_cell BK159.out 0).trans rfl, (blk_cell BK159.out 1).trans rfl, ((HB.out.cell (World.block_lt_of_cell? w _ hw170_0)).trans hw170_0), ((HB.out.cell (World.block_lt_of_cell? w _ hw170_1)).trans hw170_1), HS4_, ((HB.out.cell (World.block_lt_of_cell? w _ hw173_0)).trans hw173_0), ((HB.out.cell (World.block_lt_of_cell? w _ hw173_1)).trans hw173_1)⟩ (fun hHeld => ?_)
              clear hK K
              refine norm_ (a' := ?_) ?_ ?_
              rotate_left; · show Act.put _ (some 59) _ = _; simp only [Act.put, sA, sB, sC, i64_w, i32_w, sD]; rfl
              refine pS 18 60 20 524287 HT_ ?_
              refine pS 19 61 20 1048575 HT_ ?_
              refine done_ (done_of HT_.out (by kernel_rfl)) ?_
              try go_wp2_with (first | ((with_reducible refine gate_builtin (b := .append) (xs := #[.tmp 62, .tmp 64]) rfl ?_); at_builtin; refine Kd.R_append (Kd.int .i64) (w0 := w) w.heap.size rfl (.tmp 62) (.tmp 64) 48 3 (.int .i64 0) 8 rfl Tryz.underlying48 info3 rfl (by decide) (by omega) u9 x9_3 x8_2 [.int .i64 x8_2] (fun k_ => some k_ ≠ (.slice (some ad172) x7_2.length co33 : Value).ownBlock) (fun _ => False) rfl rfl ?aP (fun _ hk => hk.elim) ?aF ?aO ?aB ?aS ?aL ?_; (case aP => exact rfl); (case aB => exact b0); (case aF => exact (fun k_ hk => Kd.fresh' (Kd.R_lt b1) k_ hk)); (case aO => exact b5); (case aS => exact (below_size b0)); (case aL => have := LMc31.out; omega); intro v176 w37 ho hb hg hat; rw [← Ny175.out] at ho; replace HO_7 := Aside0.mk (Kd.R_after (ok := (fun _ => True)) b9 hg hat); replace BK159 := Aside0.mk (blk_grown (g := gb159) (o := .cells #[.int .i64 a0_0, .int .i64 a0_1] 40 (0, 0)) (by exact bS BK159) hg (Kd.R_ne HO_9.out BK159.out (by decide))); replace HB := Aside0.mk (hb); have HO177 := Aside0.mk (ho); clear HO_9; clear ho hb hg hat; have p178 : 0 ≤ (x11_3 : Int) := of_decide_eq_true b3; have q178 : x11_3 < (x7_2.length : Int) := of_decide_eq_true b3; obtain ⟨ad178, e178, hx178_0⟩ := Kd.at_int (Kd.R_reads' HO_7.out).2.2 x11_3 p178 q178; obtain rfl : ad172 = ad178 := (by injection e178); replace p178 := eq_true p178; replace q178 := eq_true q178) | ((with_reducible refine gate_builtin (b := .append) (xs := #[.tmp 66, .tmp 71]) rfl ?_); at_builtin; refine Kd.R_append (Kd.int .i64) (w0 := w) w.heap.size rfl (.tmp 66) (.tmp 71) 48 3 (.int .i64 0) 8 rfl Tryz.underlying48 info3 rfl (by decide) (by omega) v176 y175 (rd x7_2 x11_3) [.int .i64 (rd x7_2 x11_3)] (fun k_ => some k_ ≠ (.slice (some ad172) x7_2.length co33 : Value).ownBlock) (fun _ => False) rfl rfl ?aP (fun _ hk => hk.elim) ?aF ?aO ?aB ?aS ?aL ?_; (case aP => exact rfl); (case aB => exact b0); (case aF => exact (fun k_ hk => Kd.fresh' (Kd.R_lt b1) k_ hk)); (case aO => exact (by (with_reducible repeat (first | apply Kd.R_alloc | apply Kd.R_drewN | apply Kd.R_drew)); exact HO177.out)); (case aS => exact (below_size b0)); (case aL => have := LMc32.out; omega); intro v180 w38 ho hb hg hat; rw [← Ny179.out] at ho; replace HO_7 := Aside0.mk (Kd.R_after (ok := (fun _ => True)) b1 hg hat); replace BK159 := Aside0.mk (blk_grown (g := gb159) (o := .cells #[.int .i64 a0_0, .int .i64 a0_1] 40 (0, 0)) (by exact bS BK159) hg (Kd.R_ne HO177.out BK159.out (by decide))); replace HB := Aside0.mk (hb); have HO181 := Aside0.mk (ho); clear HO177; clear ho hb hg hat))
              go_roundg k3
              case measure => have := HK1.out; have := HK2.out; have := HK3.out; omega
              case rel => exact ⟨(y179), (true), (wrap64 (x11_3 + 1)), b8, b8, H', ⟨b12⟩, ⟨b10⟩, ⟨by (with_reducible repeat (first | apply Kd.R_alloc | apply Kd.R_drewN | apply Kd.R_drew)); exact HO181.out⟩, ⟨b4⟩, ⟨b0⟩⟩
             ·
              rw [if_neg c30] at H
              have c30b0 := decide_eq_false c30
              clear c30
              by_cases c39 : x9_3.length < 17592186044416
              rotate_left; · rw [if_neg c39] at H; exact absurd H (by simp)
              rw [if_pos c39] at H
              have LMc39 := Aside0.mk c39
              clear c39
              obtain ⟨y183, hy183⟩ : ∃ y_ : List Int, y_ = (x9_3 ++ [rd x7_2 x11_3]) := ⟨_, rfl⟩
              replace H : (mosaicref17_Near.l2 k3 l1 x7_2 x8_2 y183 false (wrap64 (x11_3 + 1)) a0_0 a0_1) = some (r1, r2) := by first | (rw [hy183]; with_reducible exact H) | (have H2_ := (Option.bind_some _ _).symm.trans H; rw [hy183]; with_reducible exact H2_) | (have H2_ := (Option.bind_some _ _).symm.trans H; with_reducible exact H2_) | with_reducible exact H | (rw [hy183]; exact H) | exact H
              have Ny183 := Aside0.mk hy183
              clear hy183
              have H' := Aside0.mk H
              clear H
              obtain ⟨Ao40, co40, eo40⟩ := Kd.R_slice HO_7.out
              subst eo40
              try go_wp2
              have n0_ := Aside0.mk (Kd.R_drew HO_7.out)
              have n1_ := Aside0.mk (Kd.R_drew HO_9.out)
              have n2_ := Aside0.mk (blk_drew BK159.out)
              have n3_ := Aside0.mk (below_drew1 HB.out)
              clear HO_7 HO_9 BK159 HB
              have HO_7 := n0_
              have HO_9 := n1_
              have BK159 := n2_
              have HB := n3_
              clear n0_ n1_ n2_ n3_
              have p170 : 0 ≤ (x8_2 : Int) := of_decide_eq_true b3
              have q170 : x8_2 < (l1.length : Int) := of_decide_eq_true b3
              obtain ⟨ad170, e170, hx170_0, hx170_1⟩ := at_T40 HR1.out x8_2 p170 q170
              have hw170_1 := hx170_1
              have hw170_0 := hx170_0
              cases e170
              replace hx170_0 := (HB.out.cell (World.block_lt_of_cell? w _ hx170_0)).trans hx170_0
              replace hx170_1 := (HB.out.cell (World.block_lt_of_cell? w _ hx170_1)).trans hx170_1
              replace p170 := eq_true p170
              replace q170 := eq_true q170
              have p172 : 0 ≤ (x11_3 : Int) := of_decide_eq_true b3
              have q172 : x11_3 < (x7_2.length : Int) := of_decide_eq_true b3
              obtain ⟨ad172, e172, hx172_0⟩ := Kd.at_int (Kd.R_reads' HO_7.out).2.2 x11_3 p172 q172
              cases e172
              replace p172 := eq_true p172
              replace q172 := eq_true q172
              have p173 : 0 ≤ ((rd x7_2 x11_3) : Int) := of_decide_eq_true b3
              have q173 : (rd x7_2 x11_3) < (l1.length : Int) := of_decide_eq_true b3
              obtain ⟨ad173, e173, hx173_0, hx173_1⟩ := at_T40 HR1.out (rd x7_2 x11_3) p173 q173
              have hw173_1 := hx173_1
              have hw173_0 := hx173_0
              obtain rfl : ad170 = ad173 := (by injection e173)
              replace hx173_0 := (HB.out.cell (World.block_lt_of_cell? w _ hx173_0)).trans hx173_0
              replace hx173_1 := (HB.out.cell (World.block_lt_of_cell? w _ hx173_1)).trans hx173_1
              replace p173 := eq_true p173
              replace q173 := eq_true q173
              refine start_ (n := 20) (S := fun w' => w'.cell? ⟨gb159, 0, none⟩ = some (.int .i64 a0_0) ∧ w'.cell? ⟨gb159, 1, none⟩ = some (.int .i64 a0_1) ∧ w'.cell? (ad170.add ((x8_2).toNat * 2)) = some (.int .i64 ((rd_T40 l1 x8_2).f0)) ∧ w'.cell? ⟨(ad170.add ((x8_2).toNat * 2)).block, (ad170.add ((x8_2).toNat * 2)).off + 1, none⟩ = some (.int .i64 ((rd_T40 l1 x8_2).f1)) ∧ w'.cell? (ad172.add (x11_3).toNat) = some (.int .i64 (rd x7_2 x11_3)) ∧ w'.cell? (ad170.add (((rd x7_2 x11_3)).toNat * 2)) = some (.int .i64 ((rd_T40 l1 (rd x7_2 x11_3)).f0)) ∧ w'.cell? ⟨(ad170.add (((rd x7_2 x11_3)).toNat * 2)).block, (ad170.add (((rd x7_2 x11_3)).toNat * 2)).off + 1, none⟩ = some (.int .i64 ((rd_T40 l1 (rd x7_2 x11_3)).f1))) (ds := []) (fB 20 0) (by kernel_rfl) rfl rfl ⟨(blk_cell BK159.out 0).trans rfl, (blk_cell BK159.out 1).trans rfl, ((HB.out.cell (World.block_lt_of_cell? w _ hw170_0)).trans hw170_0), ((HB.out.cell (World.block_lt_of_cell? w _ hw170_1)).trans hw170_1), hx172_0, ((HB.out.cell (World.block_lt_of_cell? w _ hw173_0)).trans hw173_0), ((HB.out.cell (World.block_lt_of_cell? w _ hw173_1)).trans hw173_1)⟩ (fun hHeld => ?_); refine with_tabW mosaicref17_Near.tab19 mosaicref17_Near.bits19 (fun HT_ HW_ => ?_)
              generalize wr.drew = w41 at HO_7 HO_9 BK159 HB hx170_0 hx170_1 hx172_0 hx173_0 hx173_1 hHeld ⊢
              refine pS 0 42 20 1 HT_ ?_
              refine pS 1 43 20 3 HT_ ?_
              refine pS 2 44 20 7 HT_ ?_
              refine pS 4 46 20 23 HT_ ?_
              refine pS 5 47 20 55 HT_ ?_
              refine pS 6 48 20 119 HT_ ?_
              refine pS 10 52 20 1143 HT_ ?_
              refine pS 11 53 20 3191 HT_ ?_
              refine pS 12 54 20 7287 HT_ ?_
              refine pS 13 55 20 15479 HT_ ?_
              refine tS 3 45 20 15487 HT_ HW_ hHeld ?_
              refine tS 7 49 20 15615 HT_ HW_ hHeld ?_
              refine tS 9 51 20 16127 HT_ HW_ hHeld ?_
              refine tS 14 56 20 32511 HT_ HW_ hHeld ?_
              refine pS 15 57 20 65279 HT_ ?_
              refine tS 16 58 20 130815 HT_ HW_ hHeld ?_
              refine one_ (i := 8) (N := some 50) (fB 20 131071) rfl rfl (one_of HT_.out (by kernel_rfl)) (by decide) (fun K hK => ?_)
              refine goes_ Tryz.func61 (by kernel_rfl) rfl #[.agg #[.int .i64 a0_0, .int .i64 a0_1], .agg #[.int .i64 ((rd_T40 l1 x8_2).f0), .int .i64 ((rd_T40 l1 x8_2).f1)]] (by rfl) rfl rfl b2 ?_
              with_reducible refine (mosaicref17_Dist.calls a0_0 a0_1 ((rd_T40 l1 x8_2).f0) ((rd_T40 l1 x8_2).f1) t171 _ A25.out).mono ?_
              rintro e w42 ⟨rfl, hb⟩
              have HS4_ := (hb.cell (World.block_lt_of_cell? _ _ (hHeld.2.2.2.2.1))).trans (hHeld.2.2.2.2.1)
              refine ⟨_, rfl, ?_⟩
              have n0_ := Aside0.mk (Kd.R_below b1 hb)
              have n1_ := Aside0.mk (Kd.R_below b5 hb)
              have n2_ := bB BK159 hb
              have n3_ := hS HB hb
              clear HO_7 HO_9 BK159 HB
              have HO_7 := n0_
              have HO_9 := n1_
              have BK159 := n2_
              have HB := n3_
              clear n0_ n1_ n2_ n3_
              (try clear hb); (try clear hb2); (try clear hk); (try clear hi)
              refine hK.out _ _ ⟨(blk_cell BK159.out 0).trans rfl, (blk_cell BK159.out 1).trans rfl, ((HB.out.cell (World.block_lt_of_cell? w _ hw170_0)).trans hw170_0), ((HB.out.cell (World.block_lt_of_cell? w _ hw170_1)).trans hw170_1), HS4_, ((HB.out.cell (World.block_lt_of_cell? w _ hw173_0)).trans hw173_0), ((HB.out.cell (World.block_lt_of_cell? w _ hw173_1)).trans hw173_1)⟩ (fun hHeld => ?_)
              clear hK K
              refine norm_ (a' := ?_) ?_ ?_
              rotate_left; · show Act.put _ (some 50) _ = _; simp only [Act.put, sA, sB, sC, i64_w, i32_w, sD]; rfl
              refine one_ (i := 17) (N := some 59) (fB 20 262143) rfl rfl (one_of HT_.out (by kernel_rfl)) (by decide) (fun K hK => ?_)
              refine goes_ Tryz.func61 (by kernel_rfl) rfl #[.agg #[.int .i64 a0_0, .int .i64 a0_1], .agg #[.int .i64 ((rd_T40 l1 (rd x7_2 x11_3)).f0), .int .i64 ((rd_T40 l1 (rd x7_2 x11_3)).f1)]] (by rfl) rfl rfl b2 ?_
              with_reducible refine (mosaicref17_Dist.calls a0_0 a0_1 ((rd_T40 l1 (rd x7_2 x11_3)).f0) ((rd_T40 l1 (rd x7_2 x11_3)).f1) t174 _ A29.out).mono ?_
              rintro e w43 ⟨rfl, hb⟩
              have HS4_ := (hb.cell (World.block_lt_of_cell? _ _ (hHeld.2.2.2.2.1))).trans (hHeld.2.2.2.2.1)
              refine ⟨_, rfl, ?_⟩
              have n0_ := Aside0.mk (Kd.R_below b1 hb)
              have n1_ := Aside0.mk (Kd.R_below b5 hb)
              have n2_ := bB BK159 hb
              have n3_ := hS HB hb
              clear HO_7 HO_9 BK159 HB
              have HO_7 := n0_
              have HO_9 := n1_
              have BK159 := n2_
              have HB := n3_
              clear n0_ n1_ n2_ n3_
              (try clear hb); (try clear hb2); (try clear hk); (try clear hi)
              refine hK.out _ _ ⟨(blk_cell BK159.out 0).trans rfl, (blk_cell BK159.out 1).trans rfl, ((HB.out.cell (World.block_lt_of_cell? w _ hw170_0)).trans hw170_0), ((HB.out.cell (World.block_lt_of_cell? w _ hw170_1)).trans hw170_1), HS4_, ((HB.out.cell (World.block_lt_of_cell? w _ hw173_0)).trans hw173_0), ((HB.out.cell (World.block_lt_of_cell? w _ hw173_1)).trans hw173_1)⟩ (fun hHeld => ?_)
              clear hK K
              refine norm_ (a' := ?_) ?_ ?_
              rotate_left; · show Act.put _ (some 59) _ = _; simp only [Act.put, sA, sB, sC, i64_w, i32_w, sD]; rfl
              refine pS 18 60 20 524287 HT_ ?_
              refine pS 19 61 20 1048575 HT_ ?_
              refine done_ (done_of HT_.out (by kernel_rfl)) ?_
              have p182 : 0 ≤ (x11_3 : Int) := of_decide_eq_true b3
              have q182 : x11_3 < (x7_2.length : Int) := of_decide_eq_true b3
              obtain ⟨ad182, e182, hx182_0⟩ := Kd.at_int (Kd.R_reads' HO_7.out).2.2 x11_3 p182 q182
              obtain rfl : ad172 = ad182 := (by injection e182)
              replace p182 := eq_true p182
              replace q182 := eq_true q182
              try go_wp2_with (first | ((with_reducible refine gate_builtin (b := .append) (xs := #[.tmp 66, .tmp 71]) rfl ?_); at_builtin; refine Kd.R_append (Kd.int .i64) (w0 := w) w.heap.size rfl (.tmp 66) (.tmp 71) 48 3 (.int .i64 0) 8 rfl Tryz.underlying48 info3 rfl (by decide) (by omega) u9 x9_3 (rd x7_2 x11_3) [.int .i64 (rd x7_2 x11_3)] (fun k_ => some k_ ≠ (.slice (some ad172) x7_2.length co40 : Value).ownBlock) (fun _ => False) rfl rfl ?aP (fun _ hk => hk.elim) ?aF ?aO ?aB ?aS ?aL ?_; (case aP => exact rfl); (case aB => exact b0); (case aF => exact (fun k_ hk => Kd.fresh' (Kd.R_lt b1) k_ hk)); (case aO => exact b5); (case aS => exact (below_size b0)); (case aL => have := LMc39.out; omega); intro v184 w44 ho hb hg hat; rw [← Ny183.out] at ho; replace HO_7 := Aside0.mk (Kd.R_after (ok := (fun _ => True)) b9 hg hat); replace BK159 := Aside0.mk (blk_grown (g := gb159) (o := .cells #[.int .i64 a0_0, .int .i64 a0_1] 40 (0, 0)) (by exact bS BK159) hg (Kd.R_ne HO_9.out BK159.out (by decide))); replace HB := Aside0.mk (hb); have HO185 := Aside0.mk (ho); clear HO_9; clear ho hb hg hat))
              go_roundg k3
              case measure => have := HK1.out; have := HK2.out; have := HK3.out; omega
              case rel => exact ⟨(y183), (false), (wrap64 (x11_3 + 1)), b8, b8, H', ⟨b12⟩, ⟨b10⟩, ⟨by (with_reducible repeat (first | apply Kd.R_alloc | apply Kd.R_drewN | apply Kd.R_drew)); exact HO185.out⟩, ⟨b4⟩, ⟨b0⟩⟩
           ·
            rw [if_neg c16] at H
            have c16b0 := decide_eq_false c16
            clear c16
            by_cases c45 : x10_3 = true
            ·
             subst c45
             rw [if_pos rfl] at H
             have H' := Aside0.mk H
             clear H
             obtain ⟨Ao46, co46, eo46⟩ := Kd.R_slice HO_7.out
             subst eo46
             go_wp2
             go_roundg k3
             case measure => have := HK1.out; have := HK2.out; have := HK3.out; omega
             case rel => exact ⟨(x9_3), (wrap64 (x8_2 + 1)), b8, H', ⟨b12⟩, ⟨by (with_reducible repeat (first | apply Kd.R_alloc | apply Kd.R_drewN | apply Kd.R_drew)); exact Kd.R_mono HO_9.out (fun _ hk => trivial)⟩, ⟨b4⟩, ⟨b0⟩⟩
            ·
             replace c45 := Bool.eq_false_iff.mpr c45
             subst c45
             rw [if_neg (show ¬ (false = true) by decide)] at H
             by_cases c47 : x9_3.length < 17592186044416
             rotate_left; · rw [if_neg c47] at H; exact absurd H (by simp)
             rw [if_pos c47] at H
             have LMc47 := Aside0.mk c47
             clear c47
             obtain ⟨y163, hy163⟩ : ∃ y_ : List Int, y_ = (x9_3 ++ [x8_2]) := ⟨_, rfl⟩
             replace H : (mosaicref17_Near.l1 k3 l1 y163 (wrap64 (x8_2 + 1)) a0_0 a0_1) = some (r1, r2) := by first | (rw [hy163]; with_reducible exact H) | (have H2_ := (Option.bind_some _ _).symm.trans H; rw [hy163]; with_reducible exact H2_) | (have H2_ := (Option.bind_some _ _).symm.trans H; with_reducible exact H2_) | with_reducible exact H | (rw [hy163]; exact H) | exact H
             have Ny163 := Aside0.mk hy163
             clear hy163
             have H' := Aside0.mk H
             clear H
             obtain ⟨Ao48, co48, eo48⟩ := Kd.R_slice HO_7.out
             subst eo48
             go_wp2_with (first | ((with_reducible refine gate_builtin (b := .append) (xs := #[.tmp 75, .tmp 77]) rfl ?_); at_builtin; refine Kd.R_append (Kd.int .i64) (w0 := w) w.heap.size rfl (.tmp 75) (.tmp 77) 48 3 (.int .i64 0) 8 rfl Tryz.underlying48 info3 rfl (by decide) (by omega) u9 x9_3 x8_2 [.int .i64 x8_2] (fun k_ => some k_ ≠ (.slice Ao48 x7_2.length co48 : Value).ownBlock) (fun _ => False) rfl rfl ?aP (fun _ hk => hk.elim) ?aF ?aO ?aB ?aS ?aL ?_; (case aP => exact rfl); (case aB => exact b0); (case aF => exact (fun k_ hk => Kd.fresh' (Kd.R_lt b1) k_ hk)); (case aO => exact b5); (case aS => exact (below_size b0)); (case aL => have := LMc47.out; omega); intro v164 w49 ho hb hg hat; rw [← Ny163.out] at ho; replace HO_7 := Aside0.mk (Kd.R_after (ok := (fun _ => True)) b9 hg hat); replace BK159 := Aside0.mk (blk_grown (g := gb159) (o := .cells #[.int .i64 a0_0, .int .i64 a0_1] 40 (0, 0)) (by exact bS BK159) hg (Kd.R_ne HO_9.out BK159.out (by decide))); replace HB := Aside0.mk (hb); have HO165 := Aside0.mk (ho); clear HO_9; clear ho hb hg hat))
             go_roundg k3
             case measure => have := HK1.out; have := HK2.out; have := HK3.out; omega
             case rel => exact ⟨(y163), (wrap64 (x8_2 + 1)), b8, H', ⟨b12⟩, ⟨by (with_reducible repeat (first | apply Kd.R_alloc | apply Kd.R_drewN | apply Kd.R_drew)); exact Kd.R_mono HO165.out (fun _ hk => trivial)⟩, ⟨b4⟩, ⟨b0⟩⟩
        ·
         rw [if_neg c15] at H
         have c15b0 := decide_eq_false c15
         clear c15
         simp only [Option.some.injEq, Prod.mk.injEq] at H
         obtain ⟨rfl, rfl⟩ := H
         go_wp2
         go_ret2
         exact ⟨_, b11, b1, b0⟩
 ·
  replace c4 := Bool.eq_false_iff.mpr c4
  subst c4
  rw [if_neg (show ¬ (false = true) by decide)] at H
  simp only [Option.some.injEq, Prod.mk.injEq] at H
  obtain ⟨rfl, rfl⟩ := H
  go_enter Tryz.func39, Tryz.ntmps39
  go_wp2_with (first | ((with_reducible refine gate_dst (N := 2) rfl ?_); refine box_event ?hg (N := 2) ?hd (cs := #[.int .i64 a0_0, .int .i64 a0_1]) (t := 40) ?hr ?_; (case hd => rfl); (case hg => rfl); (case hr => first | (go_simp; done) | (go_simp; rfl)); intro gb159 hg w50 hbox hb; have BK159 := Aside0.mk (hbox); have GW159 := Aside0.mk ((by rw [hg]; exact (below_size b6) : w.heap.size ≤ gb159)); have GE159 := Aside0.mk ((by rw [hg]; exact (below_size b6) : w.heap.size ≤ gb159)); replace HB := Aside0.mk (below_step b6 hb); clear hb hbox hg; have ⟨_, _, _, _⟩ := cc2 BK159) | ((with_reducible refine gate_callee (f := 31) rfl ?_); refine goesL_ (some 13) rfl rfl Tryz.func31 (by kernel_rfl) rfl #[.agg #[.int .i64 a0_0, .int .i64 a0_1]] rfl b2 ?_; (with_reducible refine (mosaicref17_Check.calls a0_0 a0_1 false _ A3.out).mono ?_); rintro e w52 ⟨rfl, hb⟩; refine ⟨_, rfl, ?_⟩; replace BK159 := bB BK159 hb; replace HB := Aside0.mk (below_step b0 hb); (try clear hb); (try clear hb2); (try clear hk); (try clear hi)))
  go_ret2
  exact ⟨_, b11, b7, b0⟩

end Go.Proofs.YtmimnlbkllgfpaaGreatDoor.A
