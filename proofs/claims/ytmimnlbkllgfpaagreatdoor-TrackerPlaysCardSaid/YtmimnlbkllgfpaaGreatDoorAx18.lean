-- Written for this claim by the session's own turn of the kit's print program (wip/tools/xprint.py).
import Derived.Test.YtmimnlbkllgfpaaGreatDoorSg
import Derived.Test.YtmimnlbkllgfpaaGreatDoorAx0
import Derived.Test.YtmimnlbkllgfpaaGreatDoorAx1
import Derived.Test.YtmimnlbkllgfpaaGreatDoorAx5
import Derived.Test.YtmimnlbkllgfpaaGreatDoorAx16
namespace Go.Proofs.YtmimnlbkllgfpaaGreatDoor.A
open Go.RowKit Go.Proofs.YtmimnlbkllgfpaaGreatDoor.Sg Go.Proofs.YtmimnlbkllgfpaaGreatDoor.Fl Go.Proofs.YtmimnlbkllgfpaaGreatDoor.Sq Go.Proofs.YtmimnlbkllgfpaaGreatDoor.Hand Go.Proofs.YtmimnlbkllgfpaaGreatDoorW.PrintWords Go.Proofs.YtmimnlbkllgfpaaGreatDoorW.PrintLast Go.Proofs.YtmimnlbkllgfpaaGreatDoorW.PrintMore
attribute [local go_sem] max2_int min2_int max_two min_two max_three min_three max_four min_four   -- for this text's walks alone
set_option linter.unusedVariables false
set_option linter.unusedSimpArgs false

attribute [local go_sem high] eqA42
/-! ### mosaicref31_Table_Leave: function 11 -/
def mosaicref31_Table_Leave.l0 : Nat → ByteArray → Int → Int → List (S42) → Bool → Int → Int → List (S42) → Option (Int × (List (S42)) × Int)
 | 0, _, _, _, _, _, _, _, _ => none
 | k + 1, x1, x2, x3, x10, x11, x12, x331000, x331001 => if x12 < (x331001.length : Int) then (if 0 ≤ x12 then (if ((rd_T42 x331001 x12).f0).toList = x1.toList then (if ((rd_T42 x331001 x12).f1) = x2 then (if x3 ≤ ((rd_T42 x331001 x12).f3) then (mosaicref31_Table_Leave.l0 k x1 x2 x3 x10 true (wrap64 (x12 + 1)) x331000 x331001) else (if x10.length < 2932031007402 then (mosaicref31_Table_Leave.l0 k x1 x2 x3 (x10 ++ [(⟨(rd_T42 x331001 x12).f0, (rd_T42 x331001 x12).f1, (⟨(rd_T42 x331001 x12).f2.f0, (rd_T42 x331001 x12).f2.f1⟩ : S40), (rd_T42 x331001 x12).f3⟩ : S42)]) x11 (wrap64 (x12 + 1)) x331000 x331001) else (none))) else (if x10.length < 2932031007402 then (mosaicref31_Table_Leave.l0 k x1 x2 x3 (x10 ++ [(⟨(rd_T42 x331001 x12).f0, (rd_T42 x331001 x12).f1, (⟨(rd_T42 x331001 x12).f2.f0, (rd_T42 x331001 x12).f2.f1⟩ : S40), (rd_T42 x331001 x12).f3⟩ : S42)]) x11 (wrap64 (x12 + 1)) x331000 x331001) else (none))) else (if x10.length < 2932031007402 then (mosaicref31_Table_Leave.l0 k x1 x2 x3 (x10 ++ [(⟨(rd_T42 x331001 x12).f0, (rd_T42 x331001 x12).f1, (⟨(rd_T42 x331001 x12).f2.f0, (rd_T42 x331001 x12).f2.f1⟩ : S40), (rd_T42 x331001 x12).f3⟩ : S42)]) x11 (wrap64 (x12 + 1)) x331000 x331001) else (none))) else (none)) else (if x11 = true then (some (x331000, x10, 0)) else (some (x331000, x331001, 4)))
def mosaicref31_Table_Leave.f (k : Nat) (a0_0 : Int) (l0_1 : List (S42)) (a1 : ByteArray) (a2 : Int) (a3 : Int) : Option (Int × (List (S42)) × Int) := (mosaicref18_Tick.f a3).bind fun t332 => (if t332 = true then (mosaicref31_Table_Leave.l0 k a1 a2 a3 ([] : List (S42)) false 0 a0_0 l0_1) else (some (a0_0, l0_1, 1)))
namespace BAx18
theorem b0 {p : Prop} (h : p := by repeat (first | (with_reducible first | exact HB.out | apply below_alloc | apply pw_below_drewN | apply below_drew1 | refine below_set ?_ GE330.out | refine below_set ?_ GE331.out) | exact HB.out)) : p := h
theorem b1 {p : Prop} (h : p := by repeat (first | (with_reducible first | exact HK.out | apply Kept.alloc | apply Kept.drewN | apply Kept.drew | refine Kept.setCell ?_ (.inr GW330.out) _ | refine Kept.setCell ?_ (.inr GW331.out) _) | exact HK.out)) : p := h
theorem b2 {p : Prop} (h : p := by first | (with_reducible assumption) | assumption) : p := h
theorem b3 {p : Prop} (h : p := by (with_reducible repeat (first | refine blk_drewN ?_ _ | refine blk_drew ?_ | refine blk_alloc ?_ _)); refine blk_put (cs := #[.int .i64 a0_0, .slice none 0 0]) ?_ 1 _ rfl; (with_reducible repeat (first | refine blk_drewN ?_ _ | refine blk_drew ?_ | refine blk_alloc ?_ _)); refine blk_put (cs := #[.int .i64 0, .slice none 0 0]) ?_ 0 _ rfl; (with_reducible repeat (first | refine blk_drewN ?_ _ | refine blk_drew ?_ | refine blk_alloc ?_ _)); exact BK331.out) : p := h
theorem b4 {p : Prop} (h : p := by repeat (first | (with_reducible first | exact HB.out | apply below_alloc | apply pw_below_drewN | apply below_drew1) | exact HB.out)) : p := h
theorem b5 {p : Prop} (h : p := by (with_reducible repeat (first | apply Kd.R_alloc | apply Kd.R_drewN | apply Kd.R_drew)); exact HO_331001.out) : p := h
theorem b6 {p : Prop} (h : p := by first | exact HK.out.1 | exact (show Kept w _ (fun k_ => P0_1_ k_) from by repeat (first | (with_reducible first | exact HK.out | apply Kept.alloc | apply Kept.drewN | apply Kept.drew | refine Kept.setCell ?_ (.inr GW330.out) _ | refine Kept.setCell ?_ (.inr GW331.out) _) | exact HK.out)).1) : p := h
theorem b7 {p : Prop} (h : p := by repeat (first | (with_reducible first | exact HB.out | apply below_alloc | apply pw_below_drewN | apply below_drew1 | refine below_set ?_ GE330.out) | exact HB.out)) : p := h
theorem b8 {p : Prop} (h : p := by (with_reducible repeat (first | refine blk_drewN ?_ _ | refine blk_drew ?_ | refine blk_alloc ?_ _)); exact BK330.out) : p := h
theorem b9 {p : Prop} (h : p := by (with_reducible repeat (first | refine blk_drewN ?_ _ | refine blk_drew ?_ | refine blk_alloc ?_ _)); exact BK331.out) : p := h
theorem b10 {p : Prop} (h : p := by first | rfl | (simp [errW_none, errW_some] <;> rfl) | (simp [*, errW_none, errW_some] <;> rfl)) : p := h
theorem b11 {p : Prop} (h : p := by first | rfl | (simp; done) | (simp [*]; done)) : p := h
theorem b12 {p : Prop} (h : p := by (try simp only [List.map_toArray, List.map_cons, List.map_nil]); first | done | rfl | (simp only [List.length_drop, List.length_take]; rfl)) : p := h
theorem b13 {p : Prop} (h : p := by (with_reducible repeat (first | apply Kd.R_alloc | apply Kd.R_drewN | apply Kd.R_drew)); exact HO0_1.out) : p := h
theorem b14 {p : Prop} (h : p := by (with_reducible repeat (first | apply Kd.R_alloc | apply Kd.R_drewN | apply Kd.R_drew)); exact HO_10.out) : p := h
end BAx18
open BAx18
set_option maxHeartbeats 8000000 in
set_option maxRecDepth 100000 in
theorem mosaicref31_Table_Leave.calls (k : Nat) (a0_0 : Int) (P0_1_ : Nat → Prop) (u9000_ : Value) (l0_1 : List (S42)) (a1 : ByteArray) (a2 : Int) (a3 : Int) (r1 : Int) (r2 : List (S42)) (r3 : Int) (w0 w : World) (hB : Below w0.heap.size w0 w) (ho0_1 : Kd.R k42 42 w w0.heap.size P0_1_ u9000_ l0_1) (h : mosaicref31_Table_Leave.f k a0_0 l0_1 a1 a2 a3 = some (r1, r2, r3)) :
  Calls Tryz.prog 11 #[.agg #[.int .i64 a0_0, u9000_], .string a1, .int .i64 a2, .int .i64 a3] w fun e w' => ∃ v1_ : Value, e = .returned (.tuple #[.agg #[.int .i64 r1, v1_], .int .i64 r3]) ∧ Kd.R k42 42 w' w0.heap.size (fun k_ => (P0_1_ k_ ∨ w.heap.size ≤ k_)) v1_ r2 ∧ Below w0.heap.size w0 w' ∧ Kept w w' (fun k_ => P0_1_ k_) := by
 have hu33 := Tryz.underlying33
 have hu42 := Tryz.underlying42
 have HO0_1 := Aside0.mk (show Kd.R k42 42 w w0.heap.size (fun k_ => (P0_1_ k_ ∨ w.heap.size ≤ k_)) u9000_ l0_1 from Kd.R_mono ho0_1 (fun k_ hk => (.inl hk)))
 have HK := Aside0.mk (Kept.refl w (fun k_ => P0_1_ k_))
 have HW0 := Aside0.mk hB.size
 have HB := Aside0.mk hB
 clear hB
 have H : ((mosaicref18_Tick.f a3).bind fun t332 => (if t332 = true then (mosaicref31_Table_Leave.l0 k a1 a2 a3 ([] : List (S42)) false 0 a0_0 l0_1) else (some (a0_0, l0_1, 1)))) = some (r1, r2, r3) := h
 clear h
 replace H := Option.bind_eq_some_iff.mp H
 obtain ⟨t332, A50, H⟩ := H
 have A5 := Aside0.mk A50
 clear A50
 by_cases c6 : t332 = true
 ·
  subst c6
  rw [if_pos rfl] at H
  have H' := Aside0.mk H
  clear H
  obtain ⟨Ao7, co7, eo7⟩ := Kd.R_slice HO0_1.out
  subst eo7
  go_enter Tryz.func11, Tryz.ntmps11
  go_wp2_with (first | ((with_reducible refine gate_dst (N := 4) rfl ?_); refine box_event ?hg (N := 4) ?hd (cs := #[.int .i64 a0_0, .slice Ao7 l0_1.length co7]) (t := 33) ?hr ?_; (case hd => rfl); (case hg => rfl); (case hr => first | (go_simp; done) | (go_simp; rfl)); intro gb330 hg w8 hbox hb; replace HO0_1 := Aside0.mk (Kd.R_below b13 hb); have BK330 := Aside0.mk (hbox); have GW330 := Aside0.mk ((by rw [hg]; exact (by first | exact HK.out.1 | exact (show Kept w _ (fun k_ => P0_1_ k_) from by repeat (first | (with_reducible first | exact HK.out | apply Kept.alloc | apply Kept.drewN | apply Kept.drew) | exact HK.out)).1) : w.heap.size ≤ gb330)); replace HK := Aside0.mk (Kept.below (S := (fun k_ => P0_1_ k_)) (by repeat (first | (with_reducible first | exact HK.out | apply Kept.alloc | apply Kept.drewN | apply Kept.drew) | exact HK.out)) hb); have GE330 := Aside0.mk ((by rw [hg]; exact (below_size b4) : w0.heap.size ≤ gb330)); replace HB := Aside0.mk (below_step b4 hb); clear hb hbox hg) | ((with_reducible refine gate_dst (N := 8) rfl ?_); refine box_event ?hg (N := 8) ?hd (cs := #[.int .i64 0, .slice none 0 0]) (t := 33) ?hr ?_; (case hd => rfl); (case hg => rfl); (case hr => first | (go_simp; done) | (go_simp; rfl)); intro gb331 hg w9 hbox hb; replace HO0_1 := Aside0.mk (Kd.R_below b13 hb); have BK331 := Aside0.mk (hbox); have GW331 := Aside0.mk ((by rw [hg]; exact (by first | exact HK.out.1 | exact (show Kept w _ (fun k_ => P0_1_ k_) from by repeat (first | (with_reducible first | exact HK.out | apply Kept.alloc | apply Kept.drewN | apply Kept.drew | refine Kept.setCell ?_ (.inr GW330.out) _) | exact HK.out)).1) : w.heap.size ≤ gb331)); replace HK := Aside0.mk (Kept.below (S := (fun k_ => P0_1_ k_)) (by repeat (first | (with_reducible first | exact HK.out | apply Kept.alloc | apply Kept.drewN | apply Kept.drew | refine Kept.setCell ?_ (.inr GW330.out) _) | exact HK.out)) hb); have GE331 := Aside0.mk ((by rw [hg]; exact (below_size b7) : w0.heap.size ≤ gb331)); replace HB := Aside0.mk (below_step b7 hb); have NB330_331 := bNl BK330 hg; have NB331_330 := bNg BK330 hg; replace BK330 := bB BK330 hb; clear hb hbox hg) | ((with_reducible refine gate_callee (f := 29) rfl ?_); refine goesL_ (some 14) rfl rfl Tryz.func29 (by kernel_rfl) rfl #[.int .i64 a3] rfl b12 ?_; (with_reducible refine (mosaicref18_Tick.calls a3 true _ A5.out).mono ?_); rintro e w' ⟨rfl, ⟨nd, rfl⟩⟩; refine ⟨_, rfl, ?_⟩))
  go_loopg [10, 11, 12] k (fun kq v10 v11 v12 w' => ∃ (x10_1 : List (S42)) (x11_1 : Bool) (x12_1 : Int), v11 = .bool x11_1 ∧ v12 = .int .i64 x12_1 ∧ Aside0 (mosaicref31_Table_Leave.l0 kq a1 a2 a3 x10_1 x11_1 x12_1 a0_0 l0_1 = some (r1, r2, r3)) ∧ Aside0 (kq ≤ k) ∧ Aside0 (Kd.R k42 42 w' w0.heap.size (fun k_ => (P0_1_ k_ ∨ w.heap.size ≤ k_) ∧ some k_ ≠ ((.slice Ao7 l0_1.length co7) : Value).ownBlock) v10 x10_1) ∧ Aside0 (Kd.R k42 42 w' w0.heap.size (fun k_ => (P0_1_ k_ ∨ w.heap.size ≤ k_) ∧ some k_ ≠ (v10 : Value).ownBlock) (.slice Ao7 l0_1.length co7) l0_1) ∧ Aside0 (w'.heap[gb330]? = some (.cells #[.int .i64 a0_0, (.slice Ao7 l0_1.length co7)] 33 (0, 0))) ∧ Aside0 (w'.heap[gb331]? = some (.cells #[.int .i64 0, (.slice none 0 0)] 33 (0, 0))) ∧ Aside0 (Kept w w' (fun k_ => P0_1_ k_)) ∧ Aside0 (Below w0.heap.size w0 w'))
  case atStart => exact ⟨(([] : List (S42))), (false), (0), b11, b11, H', ⟨Nat.le_refl _⟩, ⟨by first | exact Kd.R_nil _ _ _ _ _ | exact Kd.N_nil _ _ _ _ _ | exact Kd.V_nil _ _ _ _ _ | exact Kd.Q_nil _ _ _ _ _ | exact Kd.S_nil _ _ _ _ _⟩, ⟨by (with_reducible repeat (first | apply Kd.R_alloc | apply Kd.R_drewN | apply Kd.R_drew)); exact Kd.R_mono HO0_1.out (fun _ hk => ⟨hk, (by simp [Value.ownBlock])⟩)⟩, ⟨b8⟩, ⟨b9⟩, ⟨b1⟩, ⟨b0⟩⟩
  case round =>
   clear H'
   try clear c6
   obtain ⟨x10_1, x11_1, x12_1, rfl, rfl, HA, HK1, HO_10, HO_331001, BK330, BK331, HK, HB⟩ := hrel
   cases gk with
   | zero => exact absurd HA.out (by simp [mosaicref31_Table_Leave.l0])
   | succ k1 =>
    have H := HA.out
    clear HA
    simp only [mosaicref31_Table_Leave.l0] at H
    by_cases c10 : x12_1 < (l0_1.length : Int)
    ·
     rw [if_pos c10] at H
     have c10b0 := decide_eq_true c10
     clear c10
     by_cases c11 : 0 ≤ x12_1
     rotate_left; · rw [if_neg c11] at H; exact absurd H (by simp)
     rw [if_pos c11] at H
     have c11b0 := decide_eq_true c11
     clear c11
     by_cases c12 : ((rd_T42 l0_1 x12_1).f0).toList = a1.toList
     ·
      rw [if_pos c12] at H
      have c12b0 := beq_iff_eq.mpr c12
      have c12b1 := bne_eq_false_iff_eq.mpr c12
      clear c12
      by_cases c13 : ((rd_T42 l0_1 x12_1).f1) = a2
      ·
       rw [if_pos c13] at H
       have c13b0 := beq_iff_eq.mpr c13
       have c13b1 := bne_eq_false_iff_eq.mpr c13
       clear c13
       by_cases c14 : a3 ≤ ((rd_T42 l0_1 x12_1).f3)
       ·
        rw [if_pos c14] at H
        have c14b0 := decide_eq_true c14
        clear c14
        have H' := Aside0.mk H
        clear H
        have hnb15 := NB330_331.out
        have hnc15 := NB331_330.out
        have ⟨_, _, _, _⟩ := cc2 BK330
        have p333 : 0 ≤ (x12_1 : Int) := of_decide_eq_true b2
        have q333 : x12_1 < (l0_1.length : Int) := of_decide_eq_true b2
        obtain ⟨ad333, e333, hx333_0, hx333_1, hx333_2, hx333_3, hx333_4⟩ := at_T42 (Kd.R_reads' HO_331001.out).2.2 x12_1 p333 q333
        cases e333
        replace p333 := eq_true p333
        replace q333 := eq_true q333
        have p334 : 0 ≤ (x12_1 : Int) := of_decide_eq_true b2
        have q334 : x12_1 < (l0_1.length : Int) := of_decide_eq_true b2
        obtain ⟨ad334, e334, hx334_0, hx334_1, hx334_2, hx334_3, hx334_4⟩ := at_T42 (Kd.R_reads' HO_331001.out).2.2 x12_1 p334 q334
        obtain rfl : ad333 = ad334 := (by injection e334)
        replace p334 := eq_true p334
        replace q334 := eq_true q334
        have p335 : 0 ≤ (x12_1 : Int) := of_decide_eq_true b2
        have q335 : x12_1 < (l0_1.length : Int) := of_decide_eq_true b2
        obtain ⟨ad335, e335, hx335_0, hx335_1, hx335_2, hx335_3, hx335_4⟩ := at_T42 (Kd.R_reads' HO_331001.out).2.2 x12_1 p335 q335
        obtain rfl : ad333 = ad335 := (by injection e335)
        replace p335 := eq_true p335
        replace q335 := eq_true q335
        go_wp2
        go_roundg k1
        case measure => have := HK1.out; omega
        case rel => exact ⟨(x10_1), (true), (wrap64 (x12_1 + 1)), b11, b11, H', ⟨by have := HK1.out; omega⟩, ⟨b14⟩, ⟨b5⟩, ⟨b8⟩, ⟨b9⟩, ⟨b1⟩, ⟨b0⟩⟩
       ·
        rw [if_neg c14] at H
        have c14b0 := decide_eq_false c14
        clear c14
        by_cases c17 : x10_1.length < 2932031007402
        rotate_left; · rw [if_neg c17] at H; exact absurd H (by simp)
        rw [if_pos c17] at H
        have LMc17 := Aside0.mk c17
        clear c17
        obtain ⟨y337, hy337⟩ : ∃ y_ : List (S42), y_ = (x10_1 ++ [(⟨(rd_T42 l0_1 x12_1).f0, (rd_T42 l0_1 x12_1).f1, (⟨(rd_T42 l0_1 x12_1).f2.f0, (rd_T42 l0_1 x12_1).f2.f1⟩ : S40), (rd_T42 l0_1 x12_1).f3⟩ : S42)]) := ⟨_, rfl⟩
        replace H : (mosaicref31_Table_Leave.l0 k1 a1 a2 a3 y337 x11_1 (wrap64 (x12_1 + 1)) a0_0 l0_1) = some (r1, r2, r3) := by first | (rw [hy337]; with_reducible exact H) | (have H2_ := (Option.bind_some _ _).symm.trans H; rw [hy337]; with_reducible exact H2_) | (have H2_ := (Option.bind_some _ _).symm.trans H; with_reducible exact H2_) | with_reducible exact H | (rw [hy337]; exact H) | exact H
        have Ny337 := Aside0.mk hy337
        clear hy337
        have H' := Aside0.mk H
        clear H
        have hnb18 := NB330_331.out
        have hnc18 := NB331_330.out
        have ⟨_, _, _, _⟩ := cc2 BK330
        have p333 : 0 ≤ (x12_1 : Int) := of_decide_eq_true b2
        have q333 : x12_1 < (l0_1.length : Int) := of_decide_eq_true b2
        obtain ⟨ad333, e333, hx333_0, hx333_1, hx333_2, hx333_3, hx333_4⟩ := at_T42 (Kd.R_reads' HO_331001.out).2.2 x12_1 p333 q333
        cases e333
        replace p333 := eq_true p333
        replace q333 := eq_true q333
        have p334 : 0 ≤ (x12_1 : Int) := of_decide_eq_true b2
        have q334 : x12_1 < (l0_1.length : Int) := of_decide_eq_true b2
        obtain ⟨ad334, e334, hx334_0, hx334_1, hx334_2, hx334_3, hx334_4⟩ := at_T42 (Kd.R_reads' HO_331001.out).2.2 x12_1 p334 q334
        obtain rfl : ad333 = ad334 := (by injection e334)
        replace p334 := eq_true p334
        replace q334 := eq_true q334
        have p335 : 0 ≤ (x12_1 : Int) := of_decide_eq_true b2
        have q335 : x12_1 < (l0_1.length : Int) := of_decide_eq_true b2
        obtain ⟨ad335, e335, hx335_0, hx335_1, hx335_2, hx335_3, hx335_4⟩ := at_T42 (Kd.R_reads' HO_331001.out).2.2 x12_1 p335 q335
        obtain rfl : ad333 = ad335 := (by injection e335)
        replace p335 := eq_true p335
        replace q335 := eq_true q335
        have p336 : 0 ≤ (x12_1 : Int) := of_decide_eq_true b2
        have q336 : x12_1 < (l0_1.length : Int) := of_decide_eq_true b2
        obtain ⟨ad336, e336, hx336_0, hx336_1, hx336_2, hx336_3, hx336_4⟩ := at_T42 (Kd.R_reads' HO_331001.out).2.2 x12_1 p336 q336
        obtain rfl : ad333 = ad336 := (by injection e336)
        replace p336 := eq_true p336
        replace q336 := eq_true q336
        go_wp2_with (first | ((with_reducible refine gate_builtin (b := .append) (xs := #[.tmp 52, .tmp 58]) rfl ?_); at_builtin; refine Kd.R_append k42 (w0 := w0) w0.heap.size rfl (.tmp 52) (.tmp 58) 31 42 (.agg #[(.string ⟨#[]⟩), (.int .i64 0), (.int .i64 0), (.int .i64 0), (.int .i64 0)]) 48 rfl Tryz.underlying31 info42 rfl (by decide) (by omega) u10 x10_1 (⟨(rd_T42 l0_1 x12_1).f0, (rd_T42 l0_1 x12_1).f1, (⟨(rd_T42 l0_1 x12_1).f2.f0, (rd_T42 l0_1 x12_1).f2.f1⟩ : S40), (rd_T42 l0_1 x12_1).f3⟩ : S42) [.string ((rd_T42 l0_1 x12_1).f0), .int .i64 ((rd_T42 l0_1 x12_1).f1), .int .i64 ((rd_T42 l0_1 x12_1).f2.f0), .int .i64 ((rd_T42 l0_1 x12_1).f2.f1), .int .i64 ((rd_T42 l0_1 x12_1).f3)] (fun k_ => (P0_1_ k_ ∨ w.heap.size ≤ k_) ∧ some k_ ≠ (.slice (some ad333) l0_1.length co7 : Value).ownBlock) (fun _ => False) rfl rfl ?aP (fun _ hk => hk.elim) ?aF ?aO ?aB ?aS ?aL ?_; (case aP => exact k42_mkM _ _ _ (⟨(rd_T42 l0_1 x12_1).f0, (rd_T42 l0_1 x12_1).f1, (⟨(rd_T42 l0_1 x12_1).f2.f0, (rd_T42 l0_1 x12_1).f2.f1⟩ : S40), (rd_T42 l0_1 x12_1).f3⟩ : S42)); (case aB => exact b0); (case aF => exact (fun k_ hk => ⟨(.inr (Nat.le_trans b6 hk)), Kd.fresh' (Kd.R_lt b5) k_ hk⟩)); (case aO => exact b14); (case aS => exact (below_size b0)); (case aL => have := LMc17.out; omega); intro v338 w20 ho hb hg hat; rw [← Ny337.out] at ho; replace HO_331001 := Aside0.mk (Kd.R_after (ok := (fun k_ => (P0_1_ k_ ∨ w.heap.size ≤ k_))) b5 hg hat); replace BK330 := Aside0.mk (blk_grown (g := gb330) (o := .cells #[.int .i64 a0_0, .slice (some ad333) l0_1.length co7] 33 (0, 0)) (by exact bS BK330) hg (Kd.R_ne HO_10.out BK330.out (by decide))); replace BK331 := Aside0.mk (blk_grown (g := gb331) (o := .cells #[.int .i64 0, .slice none 0 0] 33 (0, 0)) (by exact bS BK331) hg (Kd.R_ne HO_10.out BK331.out (by decide))); replace HB := Aside0.mk (hb); replace HK := Aside0.mk (Kept.of_grown (S := (fun k_ => P0_1_ k_)) hg b1 (fun k_ e_ => (HO_10.out.1 k_ e_).1)); have HO339 := Aside0.mk (ho); clear HO_10; clear ho hb hg hat))
        go_roundg k1
        case measure => have := HK1.out; omega
        case rel => exact ⟨(y337), (x11_1), (wrap64 (x12_1 + 1)), b11, b11, H', ⟨by have := HK1.out; omega⟩, ⟨by (with_reducible repeat (first | apply Kd.R_alloc | apply Kd.R_drewN | apply Kd.R_drew)); exact HO339.out⟩, ⟨b5⟩, ⟨b8⟩, ⟨b9⟩, ⟨b1⟩, ⟨b0⟩⟩
      ·
       rw [if_neg c13] at H
       have c13b0 := beq_eq_false_iff_ne.mpr c13
       have c13b1 := bne_iff_ne.mpr c13
       by_cases c21 : x10_1.length < 2932031007402
       rotate_left; · rw [if_neg c21] at H; exact absurd H (by simp)
       rw [if_pos c21] at H
       have LMc21 := Aside0.mk c21
       clear c21
       obtain ⟨y341, hy341⟩ : ∃ y_ : List (S42), y_ = (x10_1 ++ [(⟨(rd_T42 l0_1 x12_1).f0, (rd_T42 l0_1 x12_1).f1, (⟨(rd_T42 l0_1 x12_1).f2.f0, (rd_T42 l0_1 x12_1).f2.f1⟩ : S40), (rd_T42 l0_1 x12_1).f3⟩ : S42)]) := ⟨_, rfl⟩
       replace H : (mosaicref31_Table_Leave.l0 k1 a1 a2 a3 y341 x11_1 (wrap64 (x12_1 + 1)) a0_0 l0_1) = some (r1, r2, r3) := by first | (rw [hy341]; with_reducible exact H) | (have H2_ := (Option.bind_some _ _).symm.trans H; rw [hy341]; with_reducible exact H2_) | (have H2_ := (Option.bind_some _ _).symm.trans H; with_reducible exact H2_) | with_reducible exact H | (rw [hy341]; exact H) | exact H
       have Ny341 := Aside0.mk hy341
       clear hy341
       have H' := Aside0.mk H
       clear H
       have hnb22 := NB330_331.out
       have hnc22 := NB331_330.out
       have ⟨_, _, _, _⟩ := cc2 BK330
       have p333 : 0 ≤ (x12_1 : Int) := of_decide_eq_true b2
       have q333 : x12_1 < (l0_1.length : Int) := of_decide_eq_true b2
       obtain ⟨ad333, e333, hx333_0, hx333_1, hx333_2, hx333_3, hx333_4⟩ := at_T42 (Kd.R_reads' HO_331001.out).2.2 x12_1 p333 q333
       cases e333
       replace p333 := eq_true p333
       replace q333 := eq_true q333
       have p334 : 0 ≤ (x12_1 : Int) := of_decide_eq_true b2
       have q334 : x12_1 < (l0_1.length : Int) := of_decide_eq_true b2
       obtain ⟨ad334, e334, hx334_0, hx334_1, hx334_2, hx334_3, hx334_4⟩ := at_T42 (Kd.R_reads' HO_331001.out).2.2 x12_1 p334 q334
       obtain rfl : ad333 = ad334 := (by injection e334)
       replace p334 := eq_true p334
       replace q334 := eq_true q334
       have p340 : 0 ≤ (x12_1 : Int) := of_decide_eq_true b2
       have q340 : x12_1 < (l0_1.length : Int) := of_decide_eq_true b2
       obtain ⟨ad340, e340, hx340_0, hx340_1, hx340_2, hx340_3, hx340_4⟩ := at_T42 (Kd.R_reads' HO_331001.out).2.2 x12_1 p340 q340
       obtain rfl : ad333 = ad340 := (by injection e340)
       replace p340 := eq_true p340
       replace q340 := eq_true q340
       go_wp2_with (first | ((with_reducible refine gate_builtin (b := .append) (xs := #[.tmp 52, .tmp 58]) rfl ?_); at_builtin; refine Kd.R_append k42 (w0 := w0) w0.heap.size rfl (.tmp 52) (.tmp 58) 31 42 (.agg #[(.string ⟨#[]⟩), (.int .i64 0), (.int .i64 0), (.int .i64 0), (.int .i64 0)]) 48 rfl Tryz.underlying31 info42 rfl (by decide) (by omega) u10 x10_1 (⟨(rd_T42 l0_1 x12_1).f0, (rd_T42 l0_1 x12_1).f1, (⟨(rd_T42 l0_1 x12_1).f2.f0, (rd_T42 l0_1 x12_1).f2.f1⟩ : S40), (rd_T42 l0_1 x12_1).f3⟩ : S42) [.string ((rd_T42 l0_1 x12_1).f0), .int .i64 ((rd_T42 l0_1 x12_1).f1), .int .i64 ((rd_T42 l0_1 x12_1).f2.f0), .int .i64 ((rd_T42 l0_1 x12_1).f2.f1), .int .i64 ((rd_T42 l0_1 x12_1).f3)] (fun k_ => (P0_1_ k_ ∨ w.heap.size ≤ k_) ∧ some k_ ≠ (.slice (some ad333) l0_1.length co7 : Value).ownBlock) (fun _ => False) rfl rfl ?aP (fun _ hk => hk.elim) ?aF ?aO ?aB ?aS ?aL ?_; (case aP => exact k42_mkM _ _ _ (⟨(rd_T42 l0_1 x12_1).f0, (rd_T42 l0_1 x12_1).f1, (⟨(rd_T42 l0_1 x12_1).f2.f0, (rd_T42 l0_1 x12_1).f2.f1⟩ : S40), (rd_T42 l0_1 x12_1).f3⟩ : S42)); (case aB => exact b0); (case aF => exact (fun k_ hk => ⟨(.inr (Nat.le_trans b6 hk)), Kd.fresh' (Kd.R_lt b5) k_ hk⟩)); (case aO => exact b14); (case aS => exact (below_size b0)); (case aL => have := LMc21.out; omega); intro v342 w24 ho hb hg hat; rw [← Ny341.out] at ho; replace HO_331001 := Aside0.mk (Kd.R_after (ok := (fun k_ => (P0_1_ k_ ∨ w.heap.size ≤ k_))) b5 hg hat); replace BK330 := Aside0.mk (blk_grown (g := gb330) (o := .cells #[.int .i64 a0_0, .slice (some ad333) l0_1.length co7] 33 (0, 0)) (by exact bS BK330) hg (Kd.R_ne HO_10.out BK330.out (by decide))); replace BK331 := Aside0.mk (blk_grown (g := gb331) (o := .cells #[.int .i64 0, .slice none 0 0] 33 (0, 0)) (by exact bS BK331) hg (Kd.R_ne HO_10.out BK331.out (by decide))); replace HB := Aside0.mk (hb); replace HK := Aside0.mk (Kept.of_grown (S := (fun k_ => P0_1_ k_)) hg b1 (fun k_ e_ => (HO_10.out.1 k_ e_).1)); have HO343 := Aside0.mk (ho); clear HO_10; clear ho hb hg hat))
       go_roundg k1
       case measure => have := HK1.out; omega
       case rel => exact ⟨(y341), (x11_1), (wrap64 (x12_1 + 1)), b11, b11, H', ⟨by have := HK1.out; omega⟩, ⟨by (with_reducible repeat (first | apply Kd.R_alloc | apply Kd.R_drewN | apply Kd.R_drew)); exact HO343.out⟩, ⟨b5⟩, ⟨b8⟩, ⟨b9⟩, ⟨b1⟩, ⟨b0⟩⟩
     ·
      rw [if_neg c12] at H
      have c12b0 := beq_eq_false_iff_ne.mpr c12
      have c12b1 := bne_iff_ne.mpr c12
      by_cases c25 : x10_1.length < 2932031007402
      rotate_left; · rw [if_neg c25] at H; exact absurd H (by simp)
      rw [if_pos c25] at H
      have LMc25 := Aside0.mk c25
      clear c25
      obtain ⟨y345, hy345⟩ : ∃ y_ : List (S42), y_ = (x10_1 ++ [(⟨(rd_T42 l0_1 x12_1).f0, (rd_T42 l0_1 x12_1).f1, (⟨(rd_T42 l0_1 x12_1).f2.f0, (rd_T42 l0_1 x12_1).f2.f1⟩ : S40), (rd_T42 l0_1 x12_1).f3⟩ : S42)]) := ⟨_, rfl⟩
      replace H : (mosaicref31_Table_Leave.l0 k1 a1 a2 a3 y345 x11_1 (wrap64 (x12_1 + 1)) a0_0 l0_1) = some (r1, r2, r3) := by first | (rw [hy345]; with_reducible exact H) | (have H2_ := (Option.bind_some _ _).symm.trans H; rw [hy345]; with_reducible exact H2_) | (have H2_ := (Option.bind_some _ _).symm.trans H; with_reducible exact H2_) | with_reducible exact H | (rw [hy345]; exact H) | exact H
      have Ny345 := Aside0.mk hy345
      clear hy345
      have H' := Aside0.mk H
      clear H
      have hnb26 := NB330_331.out
      have hnc26 := NB331_330.out
      have ⟨_, _, _, _⟩ := cc2 BK330
      have p333 : 0 ≤ (x12_1 : Int) := of_decide_eq_true b2
      have q333 : x12_1 < (l0_1.length : Int) := of_decide_eq_true b2
      obtain ⟨ad333, e333, hx333_0, hx333_1, hx333_2, hx333_3, hx333_4⟩ := at_T42 (Kd.R_reads' HO_331001.out).2.2 x12_1 p333 q333
      cases e333
      replace p333 := eq_true p333
      replace q333 := eq_true q333
      have p344 : 0 ≤ (x12_1 : Int) := of_decide_eq_true b2
      have q344 : x12_1 < (l0_1.length : Int) := of_decide_eq_true b2
      obtain ⟨ad344, e344, hx344_0, hx344_1, hx344_2, hx344_3, hx344_4⟩ := at_T42 (Kd.R_reads' HO_331001.out).2.2 x12_1 p344 q344
      obtain rfl : ad333 = ad344 := (by injection e344)
      replace p344 := eq_true p344
      replace q344 := eq_true q344
      go_wp2_with (first | ((with_reducible refine gate_builtin (b := .append) (xs := #[.tmp 52, .tmp 58]) rfl ?_); at_builtin; refine Kd.R_append k42 (w0 := w0) w0.heap.size rfl (.tmp 52) (.tmp 58) 31 42 (.agg #[(.string ⟨#[]⟩), (.int .i64 0), (.int .i64 0), (.int .i64 0), (.int .i64 0)]) 48 rfl Tryz.underlying31 info42 rfl (by decide) (by omega) u10 x10_1 (⟨(rd_T42 l0_1 x12_1).f0, (rd_T42 l0_1 x12_1).f1, (⟨(rd_T42 l0_1 x12_1).f2.f0, (rd_T42 l0_1 x12_1).f2.f1⟩ : S40), (rd_T42 l0_1 x12_1).f3⟩ : S42) [.string ((rd_T42 l0_1 x12_1).f0), .int .i64 ((rd_T42 l0_1 x12_1).f1), .int .i64 ((rd_T42 l0_1 x12_1).f2.f0), .int .i64 ((rd_T42 l0_1 x12_1).f2.f1), .int .i64 ((rd_T42 l0_1 x12_1).f3)] (fun k_ => (P0_1_ k_ ∨ w.heap.size ≤ k_) ∧ some k_ ≠ (.slice (some ad333) l0_1.length co7 : Value).ownBlock) (fun _ => False) rfl rfl ?aP (fun _ hk => hk.elim) ?aF ?aO ?aB ?aS ?aL ?_; (case aP => exact k42_mkM _ _ _ (⟨(rd_T42 l0_1 x12_1).f0, (rd_T42 l0_1 x12_1).f1, (⟨(rd_T42 l0_1 x12_1).f2.f0, (rd_T42 l0_1 x12_1).f2.f1⟩ : S40), (rd_T42 l0_1 x12_1).f3⟩ : S42)); (case aB => exact b0); (case aF => exact (fun k_ hk => ⟨(.inr (Nat.le_trans b6 hk)), Kd.fresh' (Kd.R_lt b5) k_ hk⟩)); (case aO => exact b14); (case aS => exact (below_size b0)); (case aL => have := LMc25.out; omega); intro v346 w28 ho hb hg hat; rw [← Ny345.out] at ho; replace HO_331001 := Aside0.mk (Kd.R_after (ok := (fun k_ => (P0_1_ k_ ∨ w.heap.size ≤ k_))) b5 hg hat); replace BK330 := Aside0.mk (blk_grown (g := gb330) (o := .cells #[.int .i64 a0_0, .slice (some ad333) l0_1.length co7] 33 (0, 0)) (by exact bS BK330) hg (Kd.R_ne HO_10.out BK330.out (by decide))); replace BK331 := Aside0.mk (blk_grown (g := gb331) (o := .cells #[.int .i64 0, .slice none 0 0] 33 (0, 0)) (by exact bS BK331) hg (Kd.R_ne HO_10.out BK331.out (by decide))); replace HB := Aside0.mk (hb); replace HK := Aside0.mk (Kept.of_grown (S := (fun k_ => P0_1_ k_)) hg b1 (fun k_ e_ => (HO_10.out.1 k_ e_).1)); have HO347 := Aside0.mk (ho); clear HO_10; clear ho hb hg hat))
      go_roundg k1
      case measure => have := HK1.out; omega
      case rel => exact ⟨(y345), (x11_1), (wrap64 (x12_1 + 1)), b11, b11, H', ⟨by have := HK1.out; omega⟩, ⟨by (with_reducible repeat (first | apply Kd.R_alloc | apply Kd.R_drewN | apply Kd.R_drew)); exact HO347.out⟩, ⟨b5⟩, ⟨b8⟩, ⟨b9⟩, ⟨b1⟩, ⟨b0⟩⟩
    ·
     rw [if_neg c10] at H
     have c10b0 := decide_eq_false c10
     clear c10
     by_cases c29 : x11_1 = true
     ·
      subst c29
      rw [if_pos rfl] at H
      simp only [Option.some.injEq, Prod.mk.injEq] at H
      obtain ⟨rfl, rfl, rfl⟩ := H
      have hnb30 := NB330_331.out
      have hnc30 := NB331_330.out
      have ⟨_, _, _, _⟩ := cc2 BK330
      obtain ⟨Ao32, co32, eo32⟩ := Kd.R_slice HO_10.out
      subst eo32
      have ⟨_, _, _, _⟩ := cc2 BK331
      go_wp2
      refine bodyPost_ret (results_ct rfl _ _ gb331 33 #[.int .i64 a0_0, .slice Ao32 x10_1.length co32] (0, 0) _ rfl b3 Tryz.underlying33 rfl (by kernel_rfl)) rfl ?_
      exact ⟨_, b10, by (with_reducible repeat (first | apply Kd.R_alloc | apply Kd.R_drewN | apply Kd.R_drew)); exact Kd.R_mono (Kd.R_far (p := ⟨gb331, 1, none⟩) (Kd.R_far (p := ⟨gb331, 0, none⟩) (Kd.R_types HO_10.out BK331.out (by decide)) (fun _ hk => hk.2) (.int .i64 a0_0)) (fun _ hk => hk.2) (.slice Ao32 x10_1.length co32)) (fun _ hk => hk.1.1), b0, b1⟩
     ·
      replace c29 := Bool.eq_false_iff.mpr c29
      subst c29
      rw [if_neg (show ¬ (false = true) by decide)] at H
      simp only [Option.some.injEq, Prod.mk.injEq] at H
      obtain ⟨rfl, rfl, rfl⟩ := H
      have hnb34 := NB330_331.out
      have hnc34 := NB331_330.out
      have ⟨_, _, _, _⟩ := cc2 BK330
      have ⟨_, _, _, _⟩ := cc2 BK331
      go_wp2
      refine bodyPost_ret (results_ct rfl _ _ gb331 33 #[.int .i64 a0_0, .slice Ao7 l0_1.length co7] (0, 0) _ rfl b3 Tryz.underlying33 rfl (by kernel_rfl)) rfl ?_
      exact ⟨_, b10, by (with_reducible repeat (first | apply Kd.R_alloc | apply Kd.R_drewN | apply Kd.R_drew)); exact Kd.R_mono (Kd.R_far (p := ⟨gb331, 1, none⟩) (Kd.R_far (p := ⟨gb331, 0, none⟩) (Kd.R_types HO_331001.out BK331.out (by decide)) (fun _ hk => hk.2) (.int .i64 a0_0)) (fun _ hk => hk.2) (.slice Ao7 l0_1.length co7)) (fun _ hk => hk.1.1), b0, b1⟩
 ·
  replace c6 := Bool.eq_false_iff.mpr c6
  subst c6
  rw [if_neg (show ¬ (false = true) by decide)] at H
  simp only [Option.some.injEq, Prod.mk.injEq] at H
  obtain ⟨rfl, rfl, rfl⟩ := H
  obtain ⟨Ao37, co37, eo37⟩ := Kd.R_slice HO0_1.out
  subst eo37
  go_enter Tryz.func11, Tryz.ntmps11
  go_wp2_with (first | ((with_reducible refine gate_dst (N := 4) rfl ?_); refine box_event ?hg (N := 4) ?hd (cs := #[.int .i64 a0_0, .slice Ao37 l0_1.length co37]) (t := 33) ?hr ?_; (case hd => rfl); (case hg => rfl); (case hr => first | (go_simp; done) | (go_simp; rfl)); intro gb330 hg w38 hbox hb; replace HO0_1 := Aside0.mk (Kd.R_below b13 hb); have BK330 := Aside0.mk (hbox); have GW330 := Aside0.mk ((by rw [hg]; exact (by first | exact HK.out.1 | exact (show Kept w _ (fun k_ => P0_1_ k_) from by repeat (first | (with_reducible first | exact HK.out | apply Kept.alloc | apply Kept.drewN | apply Kept.drew) | exact HK.out)).1) : w.heap.size ≤ gb330)); replace HK := Aside0.mk (Kept.below (S := (fun k_ => P0_1_ k_)) (by repeat (first | (with_reducible first | exact HK.out | apply Kept.alloc | apply Kept.drewN | apply Kept.drew) | exact HK.out)) hb); have GE330 := Aside0.mk ((by rw [hg]; exact (below_size b4) : w0.heap.size ≤ gb330)); replace HB := Aside0.mk (below_step b4 hb); clear hb hbox hg) | ((with_reducible refine gate_dst (N := 8) rfl ?_); refine box_event ?hg (N := 8) ?hd (cs := #[.int .i64 0, .slice none 0 0]) (t := 33) ?hr ?_; (case hd => rfl); (case hg => rfl); (case hr => first | (go_simp; done) | (go_simp; rfl)); intro gb331 hg w39 hbox hb; replace HO0_1 := Aside0.mk (Kd.R_below b13 hb); have BK331 := Aside0.mk (hbox); have GW331 := Aside0.mk ((by rw [hg]; exact (by first | exact HK.out.1 | exact (show Kept w _ (fun k_ => P0_1_ k_) from by repeat (first | (with_reducible first | exact HK.out | apply Kept.alloc | apply Kept.drewN | apply Kept.drew | refine Kept.setCell ?_ (.inr GW330.out) _) | exact HK.out)).1) : w.heap.size ≤ gb331)); replace HK := Aside0.mk (Kept.below (S := (fun k_ => P0_1_ k_)) (by repeat (first | (with_reducible first | exact HK.out | apply Kept.alloc | apply Kept.drewN | apply Kept.drew | refine Kept.setCell ?_ (.inr GW330.out) _) | exact HK.out)) hb); have GE331 := Aside0.mk ((by rw [hg]; exact (below_size b7) : w0.heap.size ≤ gb331)); replace HB := Aside0.mk (below_step b7 hb); have NB330_331 := bNl BK330 hg; have NB331_330 := bNg BK330 hg; replace BK330 := bB BK330 hb; clear hb hbox hg) | ((with_reducible refine gate_callee (f := 29) rfl ?_); refine goesL_ (some 14) rfl rfl Tryz.func29 (by kernel_rfl) rfl #[.int .i64 a3] rfl b12 ?_; (with_reducible refine (mosaicref18_Tick.calls a3 false _ A5.out).mono ?_); rintro e w' ⟨rfl, ⟨nd, rfl⟩⟩; refine ⟨_, rfl, ?_⟩; (try (rw [drewN_self w39]; generalize hq_ : World.drewN w39 _ = w39; have n0_ : Aside0 (Kd.R k42 42 w39 w0.heap.size (fun k_ => (P0_1_ k_ ∨ w.heap.size ≤ k_)) (.slice Ao37 l0_1.length co37) l0_1) := ⟨by rw [← hq_]; exact b13⟩; have n1_ : Aside0 (w39.heap[gb330]? = some (.cells #[.int .i64 a0_0, .slice Ao37 l0_1.length co37] 33 (0, 0))) := ⟨by rw [← hq_]; exact (by exact bS BK330)⟩; have n2_ : Aside0 (w39.heap[gb331]? = some (.cells #[.int .i64 0, .slice none 0 0] 33 (0, 0))) := ⟨by rw [← hq_]; exact (by exact bS BK331)⟩; have n3_ : Aside0 (Kept w w39 (fun k_ => P0_1_ k_)) := ⟨by rw [← hq_]; exact b1⟩; have n4_ : Aside0 (Below w0.heap.size w0 w39) := ⟨by rw [← hq_]; exact b0⟩; clear HO0_1 BK330 BK331 HK HB hq_; have HO0_1 := n0_; have BK330 := n1_; have BK331 := n2_; have HK := n3_; have HB := n4_; clear n0_ n1_ n2_ n3_ n4_)); have hnb40 := NB330_331.out; have hnc40 := NB331_330.out; have ⟨_, _, _, _⟩ := cc2 BK330; have ⟨_, _, _, _⟩ := cc2 BK331))
  refine bodyPost_ret (results_ct rfl _ _ gb331 33 #[.int .i64 a0_0, .slice Ao37 l0_1.length co37] (0, 0) _ rfl b3 Tryz.underlying33 rfl (by kernel_rfl)) rfl ?_
  exact ⟨_, b10, by (with_reducible repeat (first | apply Kd.R_alloc | apply Kd.R_drewN | apply Kd.R_drew)); exact Kd.R_mono (Kd.R_far (p := ⟨gb331, 1, none⟩) (Kd.R_far (p := ⟨gb331, 0, none⟩) (Kd.R_types HO0_1.out BK331.out (by decide)) (fun _ hk => hk.2) (.int .i64 a0_0)) (fun _ hk => hk.2) (.slice Ao37 l0_1.length co37)) (fun _ hk => hk.1), b0, b1⟩

/-! ### mosaiclaw31_same: function 19 -/
def mosaiclaw31_same.l0 : Nat → List (S35) → List (S42) → Int → Option (Bool)
 | 0, _, _, _ => none
 | k + 1, x0, x1, x5 => if x5 < (x0.length : Int) then (if 0 ≤ x5 then ((mosaiclaw31_ref.f ((rd_T35 x0 x5).f0) ((rd_T35 x0 x5).f1) ((rd_T35 x0 x5).f2.f0) ((rd_T35 x0 x5).f2.f1) ((rd_T35 x0 x5).f3)).bind fun bt349 => (if x5 < (x1.length : Int) then (if (!(bt349.1.toList == (((rd_T42 x1 x5).f0).toList)) || (!(bt349.2.1 == ((rd_T42 x1 x5).f1)) || ((!(bt349.2.2.1 == ((rd_T42 x1 x5).f2.f0)) || (!(bt349.2.2.2.1 == ((rd_T42 x1 x5).f2.f1)))) || (!(bt349.2.2.2.2 == ((rd_T42 x1 x5).f3)))))) = true then (some false) else (mosaiclaw31_same.l0 k x0 x1 (wrap64 (x5 + 1)))) else (none))) else (none)) else (some true)
def mosaiclaw31_same.f (k : Nat) (l0 : List (S35)) (l1 : List (S42)) : Option (Bool) := if (l0.length : Int) = (l1.length : Int) then (mosaiclaw31_same.l0 k l0 l1 0) else (some false)
def mosaiclaw31_same.T6 : Bool × List (List Nat × List Nat) := (true, [([], []), ([], []), ([0, 1], [0, 1]), ([2], [2]), ([3], [3]), ([], []), ([], []), ([5, 6], [5, 6]), ([7], [7]), ([4, 8], [4, 8])])
def mosaiclaw31_same.B6 : List Nat := [0, 0, 3, 7, 15, 0, 0, 96, 224, 511]
theorem mosaiclaw31_same.tab6 : rtab .any (opsOf Tryz.f19 6) = mosaiclaw31_same.T6 := by kernel_rfl
theorem mosaiclaw31_same.bits6 : waitsOk mosaiclaw31_same.T6.2 mosaiclaw31_same.B6 = true := by kernel_rfl
set_option maxHeartbeats 8000000 in
set_option maxRecDepth 100000 in
theorem mosaiclaw31_same.calls (k : Nat) (A0 : Option Addr) (c0 : Nat) (l0 : List (S35)) (A1 : Option Addr) (c1 : Nat) (l1 : List (S42)) (r : Bool) (w : World) (hr0 : Kd.C k35 w A0 l0.length l0) (hc0 : l0.length ≤ c0) (hr1 : Kd.C k42 w A1 l1.length l1) (hc1 : l1.length ≤ c1) (h : mosaiclaw31_same.f k l0 l1 = some r) :
  Calls Tryz.prog 19 #[.slice A0 l0.length c0, .slice A1 l1.length c1] w fun e w' => e = .returned (.bool r) ∧ Below w.heap.size w w' := by
 have hu35 := Tryz.underlying35
 have hu42 := Tryz.underlying42
 have HR0 := Aside0.mk hr0
 have HC0 := Aside0.mk hc0
 clear hr0 hc0
 have HR1 := Aside0.mk hr1
 have HC1 := Aside0.mk hc1
 clear hr1 hc1
 have HB := Aside0.mk (Below.refl w.heap.size w)
 have H : (if (l0.length : Int) = (l1.length : Int) then (mosaiclaw31_same.l0 k l0 l1 0) else (some false)) = some r := h
 clear h
 by_cases c3 : (l0.length : Int) = (l1.length : Int)
 ·
  rw [if_pos c3] at H
  have c3b0 := beq_iff_eq.mpr c3
  have c3b1 := bne_eq_false_iff_eq.mpr c3
  have c3b2 : (l0.length == l1.length) = true := by first | simpa using c3 | (simp at c3 ⊢; omega)
  clear c3
  have H' := Aside0.mk H
  clear H
  go_enter Tryz.func19, Tryz.ntmps19
  go_wp2
  go_loopg [5] k (fun kq v5 w' => ∃ (x5_1 : Int), v5 = .int .i64 x5_1 ∧ Aside0 (mosaiclaw31_same.l0 kq l0 l1 x5_1 = some r) ∧ Aside0 (kq ≤ k) ∧ Aside0 (Below w.heap.size w w'))
  case atStart => exact ⟨(0), b11, H', ⟨Nat.le_refl _⟩, ⟨b4⟩⟩
  case round =>
   clear H'
   try clear c1
   try clear c3
   try clear c3b0
   try clear c3b1
   try clear c3b2
   obtain ⟨x5_1, rfl, HA, HK1, HB⟩ := hrel
   cases gk with
   | zero => exact absurd HA.out (by simp [mosaiclaw31_same.l0])
   | succ k1 =>
    have H := HA.out
    clear HA
    simp only [mosaiclaw31_same.l0] at H
    by_cases c4 : x5_1 < (l0.length : Int)
    ·
     rw [if_pos c4] at H
     have c4b0 := decide_eq_true c4
     clear c4
     by_cases c5 : 0 ≤ x5_1
     rotate_left; · rw [if_neg c5] at H; exact absurd H (by simp)
     rw [if_pos c5] at H
     have c5b0 := decide_eq_true c5
     clear c5
     replace H := Option.bind_eq_some_iff.mp H
     obtain ⟨⟨t349, t350, t351, t352, t353⟩, A60, H⟩ := H
     have A6 := Aside0.mk A60
     clear A60
     by_cases c7 : x5_1 < (l1.length : Int)
     rotate_left; · rw [if_neg c7] at H; exact absurd H (by simp)
     rw [if_pos c7] at H
     have c7b0 := decide_eq_true c7
     clear c7
     by_cases c8 : (!(t349.toList == (((rd_T42 l1 x5_1).f0).toList)) || (!(t350 == ((rd_T42 l1 x5_1).f1)) || ((!(t351 == ((rd_T42 l1 x5_1).f2.f0)) || (!(t352 == ((rd_T42 l1 x5_1).f2.f1)))) || (!(t353 == ((rd_T42 l1 x5_1).f3)))))) = true
     ·
      rw [if_pos c8] at H
      have c8b0 : (!(t349.toList == (((rd_T42 l1 x5_1).f0).toList)) || (!(t350 == ((rd_T42 l1 x5_1).f1)) || ((!(t351 == ((rd_T42 l1 x5_1).f2.f0)) || (!(t352 == ((rd_T42 l1 x5_1).f2.f1)))) || (!(t353 == ((rd_T42 l1 x5_1).f3)))))) = true := c8
      clear c8
      obtain rfl := Option.some.inj H
      try go_wp2
      have n0_ := Aside0.mk (below_drew1 HB.out)
      clear HB
      have HB := n0_
      clear n0_
      have p348 : 0 ≤ (x5_1 : Int) := of_decide_eq_true b2
      have q348 : x5_1 < (l0.length : Int) := of_decide_eq_true b2
      obtain ⟨ad348, e348, hx348_0, hx348_1, hx348_2, hx348_3, hx348_4⟩ := at_T35 HR0.out x5_1 p348 q348
      have hw348_4 := hx348_4
      have hw348_3 := hx348_3
      have hw348_2 := hx348_2
      have hw348_1 := hx348_1
      have hw348_0 := hx348_0
      cases e348
      replace hx348_0 := (HB.out.cell (World.block_lt_of_cell? w _ hx348_0)).trans hx348_0
      replace hx348_1 := (HB.out.cell (World.block_lt_of_cell? w _ hx348_1)).trans hx348_1
      replace hx348_2 := (HB.out.cell (World.block_lt_of_cell? w _ hx348_2)).trans hx348_2
      replace hx348_3 := (HB.out.cell (World.block_lt_of_cell? w _ hx348_3)).trans hx348_3
      replace hx348_4 := (HB.out.cell (World.block_lt_of_cell? w _ hx348_4)).trans hx348_4
      replace p348 := eq_true p348
      replace q348 := eq_true q348
      have p354 : 0 ≤ (x5_1 : Int) := of_decide_eq_true b2
      have q354 : x5_1 < (l1.length : Int) := of_decide_eq_true b2
      obtain ⟨ad354, e354, hx354_0, hx354_1, hx354_2, hx354_3, hx354_4⟩ := at_T42 HR1.out x5_1 p354 q354
      have hw354_4 := hx354_4
      have hw354_3 := hx354_3
      have hw354_2 := hx354_2
      have hw354_1 := hx354_1
      have hw354_0 := hx354_0
      cases e354
      replace hx354_0 := (HB.out.cell (World.block_lt_of_cell? w _ hx354_0)).trans hx354_0
      replace hx354_1 := (HB.out.cell (World.block_lt_of_cell? w _ hx354_1)).trans hx354_1
      replace hx354_2 := (HB.out.cell (World.block_lt_of_cell? w _ hx354_2)).trans hx354_2
      replace hx354_3 := (HB.out.cell (World.block_lt_of_cell? w _ hx354_3)).trans hx354_3
      replace hx354_4 := (HB.out.cell (World.block_lt_of_cell? w _ hx354_4)).trans hx354_4
      replace p354 := eq_true p354
      replace q354 := eq_true q354
      refine start_ (n := 10) (S := fun w' => w'.cell? (ad348.add ((x5_1).toNat * 5)) = some (.string ((rd_T35 l0 x5_1).f0)) ∧ w'.cell? ⟨(ad348.add ((x5_1).toNat * 5)).block, (ad348.add ((x5_1).toNat * 5)).off + 1, none⟩ = some (.int .i64 ((rd_T35 l0 x5_1).f1)) ∧ w'.cell? ⟨(ad348.add ((x5_1).toNat * 5)).block, (ad348.add ((x5_1).toNat * 5)).off + 2, none⟩ = some (.int .i64 ((rd_T35 l0 x5_1).f2.f0)) ∧ w'.cell? ⟨(ad348.add ((x5_1).toNat * 5)).block, (ad348.add ((x5_1).toNat * 5)).off + 3, none⟩ = some (.int .i64 ((rd_T35 l0 x5_1).f2.f1)) ∧ w'.cell? ⟨(ad348.add ((x5_1).toNat * 5)).block, (ad348.add ((x5_1).toNat * 5)).off + 4, none⟩ = some (.int .i64 ((rd_T35 l0 x5_1).f3)) ∧ w'.cell? (ad354.add ((x5_1).toNat * 5)) = some (.string ((rd_T42 l1 x5_1).f0)) ∧ w'.cell? ⟨(ad354.add ((x5_1).toNat * 5)).block, (ad354.add ((x5_1).toNat * 5)).off + 1, none⟩ = some (.int .i64 ((rd_T42 l1 x5_1).f1)) ∧ w'.cell? ⟨(ad354.add ((x5_1).toNat * 5)).block, (ad354.add ((x5_1).toNat * 5)).off + 2, none⟩ = some (.int .i64 ((rd_T42 l1 x5_1).f2.f0)) ∧ w'.cell? ⟨(ad354.add ((x5_1).toNat * 5)).block, (ad354.add ((x5_1).toNat * 5)).off + 3, none⟩ = some (.int .i64 ((rd_T42 l1 x5_1).f2.f1)) ∧ w'.cell? ⟨(ad354.add ((x5_1).toNat * 5)).block, (ad354.add ((x5_1).toNat * 5)).off + 4, none⟩ = some (.int .i64 ((rd_T42 l1 x5_1).f3))) (ds := []) (fB 10 0) (by kernel_rfl) rfl rfl ⟨((HB.out.cell (World.block_lt_of_cell? w _ hw348_0)).trans hw348_0), ((HB.out.cell (World.block_lt_of_cell? w _ hw348_1)).trans hw348_1), ((HB.out.cell (World.block_lt_of_cell? w _ hw348_2)).trans hw348_2), ((HB.out.cell (World.block_lt_of_cell? w _ hw348_3)).trans hw348_3), ((HB.out.cell (World.block_lt_of_cell? w _ hw348_4)).trans hw348_4), ((HB.out.cell (World.block_lt_of_cell? w _ hw354_0)).trans hw354_0), ((HB.out.cell (World.block_lt_of_cell? w _ hw354_1)).trans hw354_1), ((HB.out.cell (World.block_lt_of_cell? w _ hw354_2)).trans hw354_2), ((HB.out.cell (World.block_lt_of_cell? w _ hw354_3)).trans hw354_3), ((HB.out.cell (World.block_lt_of_cell? w _ hw354_4)).trans hw354_4)⟩ (fun hHeld => ?_); refine with_tabW mosaiclaw31_same.tab6 mosaiclaw31_same.bits6 (fun HT_ HW_ => ?_)
      generalize wr.drew = w9 at HB hx348_0 hx348_1 hx348_2 hx348_3 hx348_4 hx354_0 hx354_1 hx354_2 hx354_3 hx354_4 hHeld ⊢
      refine pS 0 17 10 1 HT_ ?_
      refine pS 1 18 10 3 HT_ ?_
      refine pS 2 19 10 7 HT_ ?_
      refine pS 5 22 10 39 HT_ ?_
      refine pS 6 23 10 103 HT_ ?_
      refine pS 7 24 10 231 HT_ ?_
      refine tS 3 20 10 239 HT_ HW_ hHeld ?_
      refine tS 8 25 10 495 HT_ HW_ hHeld ?_
      refine one_ (i := 4) (N := some 21) (fB 10 511) rfl rfl (one_of HT_.out (by kernel_rfl)) (by decide) (fun K hK => ?_)
      refine goes_ Tryz.func9 (by kernel_rfl) rfl #[.agg #[.string ((rd_T35 l0 x5_1).f0), .int .i64 ((rd_T35 l0 x5_1).f1), .int .i64 ((rd_T35 l0 x5_1).f2.f0), .int .i64 ((rd_T35 l0 x5_1).f2.f1), .int .i64 ((rd_T35 l0 x5_1).f3)]] (by rfl) rfl rfl b12 ?_
      with_reducible refine (mosaiclaw31_ref.calls ((rd_T35 l0 x5_1).f0) ((rd_T35 l0 x5_1).f1) ((rd_T35 l0 x5_1).f2.f0) ((rd_T35 l0 x5_1).f2.f1) ((rd_T35 l0 x5_1).f3) t349 t350 t351 t352 t353 _ A6.out).mono ?_
      rintro e w10 ⟨rfl, hb⟩
      refine ⟨_, rfl, ?_⟩
      have n0_ := hS HB hb
      clear HB
      have HB := n0_
      clear n0_
      (try clear hb); (try clear hb2); (try clear hk); (try clear hi)
      refine hK.out _ _ ⟨((HB.out.cell (World.block_lt_of_cell? w _ hw348_0)).trans hw348_0), ((HB.out.cell (World.block_lt_of_cell? w _ hw348_1)).trans hw348_1), ((HB.out.cell (World.block_lt_of_cell? w _ hw348_2)).trans hw348_2), ((HB.out.cell (World.block_lt_of_cell? w _ hw348_3)).trans hw348_3), ((HB.out.cell (World.block_lt_of_cell? w _ hw348_4)).trans hw348_4), ((HB.out.cell (World.block_lt_of_cell? w _ hw354_0)).trans hw354_0), ((HB.out.cell (World.block_lt_of_cell? w _ hw354_1)).trans hw354_1), ((HB.out.cell (World.block_lt_of_cell? w _ hw354_2)).trans hw354_2), ((HB.out.cell (World.block_lt_of_cell? w _ hw354_3)).trans hw354_3), ((HB.out.cell (World.block_lt_of_cell? w _ hw354_4)).trans hw354_4)⟩ (fun hHeld => ?_)
      clear hK K
      refine norm_ (a' := ?_) ?_ ?_
      rotate_left; · show Act.put _ (some 21) _ = _; simp only [Act.put, sA, sB, sC, i64_w, i32_w, sD]; rfl
      refine pS 9 26 10 1023 HT_ ?_
      refine done_ (done_of HT_.out (by kernel_rfl)) ?_
      try go_wp2
      go_ret
      exact ⟨b10, b4⟩
     ·
      rw [if_neg c8] at H
      have c8b0 : (!(t349.toList == (((rd_T42 l1 x5_1).f0).toList)) || (!(t350 == ((rd_T42 l1 x5_1).f1)) || ((!(t351 == ((rd_T42 l1 x5_1).f2.f0)) || (!(t352 == ((rd_T42 l1 x5_1).f2.f1)))) || (!(t353 == ((rd_T42 l1 x5_1).f3)))))) = false := by simpa using c8
      clear c8
      have H' := Aside0.mk H
      clear H
      try go_wp2
      have n0_ := Aside0.mk (below_drew1 HB.out)
      clear HB
      have HB := n0_
      clear n0_
      have p348 : 0 ≤ (x5_1 : Int) := of_decide_eq_true b2
      have q348 : x5_1 < (l0.length : Int) := of_decide_eq_true b2
      obtain ⟨ad348, e348, hx348_0, hx348_1, hx348_2, hx348_3, hx348_4⟩ := at_T35 HR0.out x5_1 p348 q348
      have hw348_4 := hx348_4
      have hw348_3 := hx348_3
      have hw348_2 := hx348_2
      have hw348_1 := hx348_1
      have hw348_0 := hx348_0
      cases e348
      replace hx348_0 := (HB.out.cell (World.block_lt_of_cell? w _ hx348_0)).trans hx348_0
      replace hx348_1 := (HB.out.cell (World.block_lt_of_cell? w _ hx348_1)).trans hx348_1
      replace hx348_2 := (HB.out.cell (World.block_lt_of_cell? w _ hx348_2)).trans hx348_2
      replace hx348_3 := (HB.out.cell (World.block_lt_of_cell? w _ hx348_3)).trans hx348_3
      replace hx348_4 := (HB.out.cell (World.block_lt_of_cell? w _ hx348_4)).trans hx348_4
      replace p348 := eq_true p348
      replace q348 := eq_true q348
      have p354 : 0 ≤ (x5_1 : Int) := of_decide_eq_true b2
      have q354 : x5_1 < (l1.length : Int) := of_decide_eq_true b2
      obtain ⟨ad354, e354, hx354_0, hx354_1, hx354_2, hx354_3, hx354_4⟩ := at_T42 HR1.out x5_1 p354 q354
      have hw354_4 := hx354_4
      have hw354_3 := hx354_3
      have hw354_2 := hx354_2
      have hw354_1 := hx354_1
      have hw354_0 := hx354_0
      cases e354
      replace hx354_0 := (HB.out.cell (World.block_lt_of_cell? w _ hx354_0)).trans hx354_0
      replace hx354_1 := (HB.out.cell (World.block_lt_of_cell? w _ hx354_1)).trans hx354_1
      replace hx354_2 := (HB.out.cell (World.block_lt_of_cell? w _ hx354_2)).trans hx354_2
      replace hx354_3 := (HB.out.cell (World.block_lt_of_cell? w _ hx354_3)).trans hx354_3
      replace hx354_4 := (HB.out.cell (World.block_lt_of_cell? w _ hx354_4)).trans hx354_4
      replace p354 := eq_true p354
      replace q354 := eq_true q354
      refine start_ (n := 10) (S := fun w' => w'.cell? (ad348.add ((x5_1).toNat * 5)) = some (.string ((rd_T35 l0 x5_1).f0)) ∧ w'.cell? ⟨(ad348.add ((x5_1).toNat * 5)).block, (ad348.add ((x5_1).toNat * 5)).off + 1, none⟩ = some (.int .i64 ((rd_T35 l0 x5_1).f1)) ∧ w'.cell? ⟨(ad348.add ((x5_1).toNat * 5)).block, (ad348.add ((x5_1).toNat * 5)).off + 2, none⟩ = some (.int .i64 ((rd_T35 l0 x5_1).f2.f0)) ∧ w'.cell? ⟨(ad348.add ((x5_1).toNat * 5)).block, (ad348.add ((x5_1).toNat * 5)).off + 3, none⟩ = some (.int .i64 ((rd_T35 l0 x5_1).f2.f1)) ∧ w'.cell? ⟨(ad348.add ((x5_1).toNat * 5)).block, (ad348.add ((x5_1).toNat * 5)).off + 4, none⟩ = some (.int .i64 ((rd_T35 l0 x5_1).f3)) ∧ w'.cell? (ad354.add ((x5_1).toNat * 5)) = some (.string ((rd_T42 l1 x5_1).f0)) ∧ w'.cell? ⟨(ad354.add ((x5_1).toNat * 5)).block, (ad354.add ((x5_1).toNat * 5)).off + 1, none⟩ = some (.int .i64 ((rd_T42 l1 x5_1).f1)) ∧ w'.cell? ⟨(ad354.add ((x5_1).toNat * 5)).block, (ad354.add ((x5_1).toNat * 5)).off + 2, none⟩ = some (.int .i64 ((rd_T42 l1 x5_1).f2.f0)) ∧ w'.cell? ⟨(ad354.add ((x5_1).toNat * 5)).block, (ad354.add ((x5_1).toNat * 5)).off + 3, none⟩ = some (.int .i64 ((rd_T42 l1 x5_1).f2.f1)) ∧ w'.cell? ⟨(ad354.add ((x5_1).toNat * 5)).block, (ad354.add ((x5_1).toNat * 5)).off + 4, none⟩ = some (.int .i64 ((rd_T42 l1 x5_1).f3))) (ds := []) (fB 10 0) (by kernel_rfl) rfl rfl ⟨((HB.out.cell (World.block_lt_of_cell? w _ hw348_0)).trans hw348_0), ((HB.out.cell (World.block_lt_of_cell? w _ hw348_1)).trans hw348_1), ((HB.out.cell (World.block_lt_of_cell? w _ hw348_2)).trans hw348_2), ((HB.out.cell (World.block_lt_of_cell? w _ hw348_3)).trans hw348_3), ((HB.out.cell (World.block_lt_of_cell? w _ hw348_4)).trans hw348_4), ((HB.out.cell (World.block_lt_of_cell? w _ hw354_0)).trans hw354_0), ((HB.out.cell (World.block_lt_of_cell? w _ hw354_1)).trans hw354_1), ((HB.out.cell (World.block_lt_of_cell? w _ hw354_2)).trans hw354_2), ((HB.out.cell (World.block_lt_of_cell? w _ hw354_3)).trans hw354_3), ((HB.out.cell (World.block_lt_of_cell? w _ hw354_4)).trans hw354_4)⟩ (fun hHeld => ?_); refine with_tabW mosaiclaw31_same.tab6 mosaiclaw31_same.bits6 (fun HT_ HW_ => ?_)
      generalize wr.drew = w11 at HB hx348_0 hx348_1 hx348_2 hx348_3 hx348_4 hx354_0 hx354_1 hx354_2 hx354_3 hx354_4 hHeld ⊢
      refine pS 0 17 10 1 HT_ ?_
      refine pS 1 18 10 3 HT_ ?_
      refine pS 2 19 10 7 HT_ ?_
      refine pS 5 22 10 39 HT_ ?_
      refine pS 6 23 10 103 HT_ ?_
      refine pS 7 24 10 231 HT_ ?_
      refine tS 3 20 10 239 HT_ HW_ hHeld ?_
      refine tS 8 25 10 495 HT_ HW_ hHeld ?_
      refine one_ (i := 4) (N := some 21) (fB 10 511) rfl rfl (one_of HT_.out (by kernel_rfl)) (by decide) (fun K hK => ?_)
      refine goes_ Tryz.func9 (by kernel_rfl) rfl #[.agg #[.string ((rd_T35 l0 x5_1).f0), .int .i64 ((rd_T35 l0 x5_1).f1), .int .i64 ((rd_T35 l0 x5_1).f2.f0), .int .i64 ((rd_T35 l0 x5_1).f2.f1), .int .i64 ((rd_T35 l0 x5_1).f3)]] (by rfl) rfl rfl b12 ?_
      with_reducible refine (mosaiclaw31_ref.calls ((rd_T35 l0 x5_1).f0) ((rd_T35 l0 x5_1).f1) ((rd_T35 l0 x5_1).f2.f0) ((rd_T35 l0 x5_1).f2.f1) ((rd_T35 l0 x5_1).f3) t349 t350 t351 t352 t353 _ A6.out).mono ?_
      rintro e w12 ⟨rfl, hb⟩
      refine ⟨_, rfl, ?_⟩
      have n0_ := hS HB hb
      clear HB
      have HB := n0_
      clear n0_
      (try clear hb); (try clear hb2); (try clear hk); (try clear hi)
      refine hK.out _ _ ⟨((HB.out.cell (World.block_lt_of_cell? w _ hw348_0)).trans hw348_0), ((HB.out.cell (World.block_lt_of_cell? w _ hw348_1)).trans hw348_1), ((HB.out.cell (World.block_lt_of_cell? w _ hw348_2)).trans hw348_2), ((HB.out.cell (World.block_lt_of_cell? w _ hw348_3)).trans hw348_3), ((HB.out.cell (World.block_lt_of_cell? w _ hw348_4)).trans hw348_4), ((HB.out.cell (World.block_lt_of_cell? w _ hw354_0)).trans hw354_0), ((HB.out.cell (World.block_lt_of_cell? w _ hw354_1)).trans hw354_1), ((HB.out.cell (World.block_lt_of_cell? w _ hw354_2)).trans hw354_2), ((HB.out.cell (World.block_lt_of_cell? w _ hw354_3)).trans hw354_3), ((HB.out.cell (World.block_lt_of_cell? w _ hw354_4)).trans hw354_4)⟩ (fun hHeld => ?_)
      clear hK K
      refine norm_ (a' := ?_) ?_ ?_
      rotate_left; · show Act.put _ (some 21) _ = _; simp only [Act.put, sA, sB, sC, i64_w, i32_w, sD]; rfl
      refine pS 9 26 10 1023 HT_ ?_
      refine done_ (done_of HT_.out (by kernel_rfl)) ?_
      try go_wp2
      go_roundg k1
      case measure => have := HK1.out; omega
      case rel => exact ⟨(wrap64 (x5_1 + 1)), b11, H', ⟨by have := HK1.out; omega⟩, ⟨b4⟩⟩
    ·
     rw [if_neg c4] at H
     have c4b0 := decide_eq_false c4
     clear c4
     obtain rfl := Option.some.inj H
     go_wp2
     go_ret
     exact ⟨b10, b4⟩
 ·
  rw [if_neg c3] at H
  have c3b0 := beq_eq_false_iff_ne.mpr c3
  have c3b1 := bne_iff_ne.mpr c3
  have c3b2 : (l0.length == l1.length) = false := by first | simpa using c3 | (simp at c3 ⊢; omega)
  obtain rfl := Option.some.inj H
  go_enter Tryz.func19, Tryz.ntmps19
  go_wp2
  go_ret
  exact ⟨b10, b4⟩

end Go.Proofs.YtmimnlbkllgfpaaGreatDoor.A
