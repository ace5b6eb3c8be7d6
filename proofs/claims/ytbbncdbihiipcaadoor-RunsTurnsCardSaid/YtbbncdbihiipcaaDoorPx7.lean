-- Written for this claim by the session's own turn of the kit's print program (wip/tools/xprint.py).
import Derived.Test.YtbbncdbihiipcaaDoorPx0
import Derived.Test.YtbbncdbihiipcaaDoorPx2
import Derived.Test.YtbbncdbihiipcaaDoorPx3
import Derived.Test.YtbbncdbihiipcaaDoorPx4
import Derived.Test.YtbbncdbihiipcaaDoorHz
namespace Go.Proofs.YtbbncdbihiipcaaDoor.P
open Go.RowKit Go.Proofs.YtbbncdbihiipcaaDoor.Sq Go.Proofs.YtbbncdbihiipcaaDoor.Hand Go.Proofs.YtbbncdbihiipcaaDoorW.PrintWords Go.Proofs.YtbbncdbihiipcaaDoorW.PrintLast Go.Proofs.YtbbncdbihiipcaaDoorW.PrintMore
attribute [local go_sem] max2_int min2_int max_two min_two max_three min_three max_four min_four   -- for this text's walks alone
set_option linter.unusedVariables false
set_option linter.unusedSimpArgs false

/-! ### mosaiclaw25_RunsTile: function 4 -/
mutual
def mosaiclaw25_RunsTile.j0 : Nat → Int → ByteArray → List (S39) → Int → List (S39) → Int → Bool → Option (Bool)
 | 0, _, _, _, _, _, _, _ => none
 | k + 1, x0, x1, x5, x6, x7, x8, x35 => if x35 = true then ((mosaiclaw25_awake.f k).bind fun t223 => (if t223 = true then ((bits_Check.f k x0 x1).bind fun t224 => (if t224 = true then (none) else (some (x6 == x8)))) else (none))) else (mosaiclaw25_RunsTile.l0 k x0 x1 x5 x7 0 0 0)
def mosaiclaw25_RunsTile.l0 : Nat → Int → ByteArray → List (S39) → List (S39) → Int → Int → Int → Option (Bool)
 | 0, _, _, _, _, _, _, _ => none
 | k + 1, x0, x1, x5, x7, x9, x10, x11 => if x10 < (x5.length : Int) then (mosaiclaw25_RunsTile.j2 k x0 x1 x5 x7 x9 x10 x11 true) else (mosaiclaw25_RunsTile.j2 k x0 x1 x5 x7 x9 x10 x11 (decide (x11 < (x7.length : Int))))
def mosaiclaw25_RunsTile.j2 : Nat → Int → ByteArray → List (S39) → List (S39) → Int → Int → Int → Bool → Option (Bool)
 | 0, _, _, _, _, _, _, _, _ => none
 | k + 1, x0, x1, x5, x7, x9, x10, x11, x57 => if x57 = true then (if x10 < (x5.length : Int) then (if 0 ≤ x10 then (if ((rd_T39 x5 x10).f0) = x9 then (mosaiclaw25_RunsTile.j3 k x0 x1 x5 x7 x9 x10 x11 (decide (((rd_T39 x5 x10).f1) > x9))) else (mosaiclaw25_RunsTile.j3 k x0 x1 x5 x7 x9 x10 x11 false)) else (none)) else (mosaiclaw25_RunsTile.j3 k x0 x1 x5 x7 x9 x10 x11 false)) else ((runs_Set.f k x0 x5).bind fun bt231 => ((runs_Set.f k x0 x7).bind fun bt233 => ((bits_Or.f bt231.1 bt233.1).bind fun bt235 => ((mosaiclaw25_awake.f k).bind fun t237 => (if t237 = true then (if x9 = x0 then (if (wrap64 (x10 - x11)) ≤ 1 then (if (wrap64 (x11 - x10)) ≤ 1 then (if (wrap64 ((wrap64 (bt231.2 + bt233.2)) + bt235.2)) = 0 then (if bt231.1.toList = x1.toList then ((bits_Full.f x0).bind fun t238 => (some (bt235.1.toList == t238.toList))) else (none)) else (none)) else (none)) else (none)) else (none)) else (none))))))
def mosaiclaw25_RunsTile.j3 : Nat → Int → ByteArray → List (S39) → List (S39) → Int → Int → Int → Bool → Option (Bool)
 | 0, _, _, _, _, _, _, _, _ => none
 | k + 1, x0, x1, x5, x7, x9, x10, x11, x79 => if x79 = true then (if 0 ≤ x10 then (if x10 < (x5.length : Int) then (mosaiclaw25_RunsTile.l0 k x0 x1 x5 x7 ((rd_T39 x5 x10).f1) (wrap64 (x10 + 1)) x11) else (none)) else (none)) else (if x11 < (x7.length : Int) then (if 0 ≤ x11 then (if ((rd_T39 x7 x11).f0) = x9 then (if ((rd_T39 x7 x11).f1) > x9 then (mosaiclaw25_RunsTile.l0 k x0 x1 x5 x7 ((rd_T39 x7 x11).f1) x10 (wrap64 (x11 + 1))) else (none)) else (none)) else (none)) else (none))
end
def mosaiclaw25_RunsTile.f (k : Nat) (a0 : Int) (a1 : ByteArray) : Option (Bool) := (runs_Of.f a0 a1).bind fun bt215 => ((runs_Gaps.f a0 a1).bind fun bt219 => (if bt215.2 = 0 then (mosaiclaw25_RunsTile.j0 k a0 a1 bt215.1 bt215.2 bt219.1 bt219.2 (bt219.2 != 0)) else (mosaiclaw25_RunsTile.j0 k a0 a1 bt215.1 bt215.2 bt219.1 bt219.2 true)))
theorem mosaiclaw25_RunsTile.mono_l : ∀ k, (∀ y0 y1 y2 y3 y4 y5 y6, LeO (mosaiclaw25_RunsTile.j0 k y0 y1 y2 y3 y4 y5 y6) (mosaiclaw25_RunsTile.j0 (k + 1) y0 y1 y2 y3 y4 y5 y6)) ∧ (∀ y0 y1 y2 y3 y4 y5 y6, LeO (mosaiclaw25_RunsTile.l0 k y0 y1 y2 y3 y4 y5 y6) (mosaiclaw25_RunsTile.l0 (k + 1) y0 y1 y2 y3 y4 y5 y6)) ∧ (∀ y0 y1 y2 y3 y4 y5 y6 y7, LeO (mosaiclaw25_RunsTile.j2 k y0 y1 y2 y3 y4 y5 y6 y7) (mosaiclaw25_RunsTile.j2 (k + 1) y0 y1 y2 y3 y4 y5 y6 y7)) ∧ (∀ y0 y1 y2 y3 y4 y5 y6 y7, LeO (mosaiclaw25_RunsTile.j3 k y0 y1 y2 y3 y4 y5 y6 y7) (mosaiclaw25_RunsTile.j3 (k + 1) y0 y1 y2 y3 y4 y5 y6 y7))
 | 0 => ⟨fun _ _ _ _ _ _ _ r h => by simp [mosaiclaw25_RunsTile.j0] at h, fun _ _ _ _ _ _ _ r h => by simp [mosaiclaw25_RunsTile.l0] at h, fun _ _ _ _ _ _ _ _ r h => by simp [mosaiclaw25_RunsTile.j2] at h, fun _ _ _ _ _ _ _ _ r h => by simp [mosaiclaw25_RunsTile.j3] at h⟩
 | k + 1 => by
  obtain ⟨ih0, ih1, ih2, ih3⟩ := mosaiclaw25_RunsTile.mono_l k
  refine ⟨?_, ?_, ?_, ?_⟩
  ·
   intro y0 y1 y2 y3 y4 y5 y6
   unfold mosaiclaw25_RunsTile.j0
   repeat' first
   | (with_reducible exact ih0 _ _ _ _ _ _ _)
   | (with_reducible exact ih1 _ _ _ _ _ _ _)
   | (with_reducible exact ih2 _ _ _ _ _ _ _ _)
   | (with_reducible exact ih3 _ _ _ _ _ _ _ _)
   | (with_reducible exact bits_Check.mono _ _ _)
   | (with_reducible exact mosaiclaw25_awake.mono _)
   | (with_reducible exact runs_Set.mono _ _ _)
   | (with_reducible exact LeO.refl _)
   | (with_reducible exact LeO.none _)
   | (with_reducible refine LeO.ite ?_ ?_)
   | (with_reducible refine LeO.bind ?_ (fun _ => ?_))
   | exact ih0 _ _ _ _ _ _ _
   | exact ih1 _ _ _ _ _ _ _
   | exact ih2 _ _ _ _ _ _ _ _
   | exact ih3 _ _ _ _ _ _ _ _
   | exact bits_Check.mono _ _ _
   | exact mosaiclaw25_awake.mono _
   | exact runs_Set.mono _ _ _
   | exact LeO.none _
   | refine LeO.ite ?_ ?_
   | refine LeO.bind ?_ (fun _ => ?_)
  ·
   intro y0 y1 y2 y3 y4 y5 y6
   unfold mosaiclaw25_RunsTile.l0
   repeat' first
   | (with_reducible exact ih0 _ _ _ _ _ _ _)
   | (with_reducible exact ih1 _ _ _ _ _ _ _)
   | (with_reducible exact ih2 _ _ _ _ _ _ _ _)
   | (with_reducible exact ih3 _ _ _ _ _ _ _ _)
   | (with_reducible exact bits_Check.mono _ _ _)
   | (with_reducible exact mosaiclaw25_awake.mono _)
   | (with_reducible exact runs_Set.mono _ _ _)
   | (with_reducible exact LeO.refl _)
   | (with_reducible exact LeO.none _)
   | (with_reducible refine LeO.ite ?_ ?_)
   | (with_reducible refine LeO.bind ?_ (fun _ => ?_))
   | exact ih0 _ _ _ _ _ _ _
   | exact ih1 _ _ _ _ _ _ _
   | exact ih2 _ _ _ _ _ _ _ _
   | exact ih3 _ _ _ _ _ _ _ _
   | exact bits_Check.mono _ _ _
   | exact mosaiclaw25_awake.mono _
   | exact runs_Set.mono _ _ _
   | exact LeO.none _
   | refine LeO.ite ?_ ?_
   | refine LeO.bind ?_ (fun _ => ?_)
  ·
   intro y0 y1 y2 y3 y4 y5 y6 y7
   unfold mosaiclaw25_RunsTile.j2
   repeat' first
   | (with_reducible exact ih0 _ _ _ _ _ _ _)
   | (with_reducible exact ih1 _ _ _ _ _ _ _)
   | (with_reducible exact ih2 _ _ _ _ _ _ _ _)
   | (with_reducible exact ih3 _ _ _ _ _ _ _ _)
   | (with_reducible exact bits_Check.mono _ _ _)
   | (with_reducible exact mosaiclaw25_awake.mono _)
   | (with_reducible exact runs_Set.mono _ _ _)
   | (with_reducible exact LeO.refl _)
   | (with_reducible exact LeO.none _)
   | (with_reducible refine LeO.ite ?_ ?_)
   | (with_reducible refine LeO.bind ?_ (fun _ => ?_))
   | exact ih0 _ _ _ _ _ _ _
   | exact ih1 _ _ _ _ _ _ _
   | exact ih2 _ _ _ _ _ _ _ _
   | exact ih3 _ _ _ _ _ _ _ _
   | exact bits_Check.mono _ _ _
   | exact mosaiclaw25_awake.mono _
   | exact runs_Set.mono _ _ _
   | exact LeO.none _
   | refine LeO.ite ?_ ?_
   | refine LeO.bind ?_ (fun _ => ?_)
  ·
   intro y0 y1 y2 y3 y4 y5 y6 y7
   unfold mosaiclaw25_RunsTile.j3
   repeat' first
   | (with_reducible exact ih0 _ _ _ _ _ _ _)
   | (with_reducible exact ih1 _ _ _ _ _ _ _)
   | (with_reducible exact ih2 _ _ _ _ _ _ _ _)
   | (with_reducible exact ih3 _ _ _ _ _ _ _ _)
   | (with_reducible exact bits_Check.mono _ _ _)
   | (with_reducible exact mosaiclaw25_awake.mono _)
   | (with_reducible exact runs_Set.mono _ _ _)
   | (with_reducible exact LeO.refl _)
   | (with_reducible exact LeO.none _)
   | (with_reducible refine LeO.ite ?_ ?_)
   | (with_reducible refine LeO.bind ?_ (fun _ => ?_))
   | exact ih0 _ _ _ _ _ _ _
   | exact ih1 _ _ _ _ _ _ _
   | exact ih2 _ _ _ _ _ _ _ _
   | exact ih3 _ _ _ _ _ _ _ _
   | exact bits_Check.mono _ _ _
   | exact mosaiclaw25_awake.mono _
   | exact runs_Set.mono _ _ _
   | exact LeO.none _
   | refine LeO.ite ?_ ?_
   | refine LeO.bind ?_ (fun _ => ?_)
theorem mosaiclaw25_RunsTile.mono : ∀ a0 a1 k, LeO (mosaiclaw25_RunsTile.f k a0 a1) (mosaiclaw25_RunsTile.f (k + 1) a0 a1) := by
 intro a0 a1 k
 obtain ⟨ih0, ih1, ih2, ih3⟩ := mosaiclaw25_RunsTile.mono_l k
 unfold mosaiclaw25_RunsTile.f
 repeat' first
   | (with_reducible exact ih0 _ _ _ _ _ _ _)
   | (with_reducible exact ih1 _ _ _ _ _ _ _)
   | (with_reducible exact ih2 _ _ _ _ _ _ _ _)
   | (with_reducible exact ih3 _ _ _ _ _ _ _ _)
   | (with_reducible exact bits_Check.mono _ _ _)
   | (with_reducible exact mosaiclaw25_awake.mono _)
   | (with_reducible exact runs_Set.mono _ _ _)
   | (with_reducible exact LeO.refl _)
   | (with_reducible exact LeO.none _)
   | (with_reducible refine LeO.ite ?_ ?_)
   | (with_reducible refine LeO.bind ?_ (fun _ => ?_))
   | exact ih0 _ _ _ _ _ _ _
   | exact ih1 _ _ _ _ _ _ _
   | exact ih2 _ _ _ _ _ _ _ _
   | exact ih3 _ _ _ _ _ _ _ _
   | exact bits_Check.mono _ _ _
   | exact mosaiclaw25_awake.mono _
   | exact runs_Set.mono _ _ _
   | exact LeO.none _
   | refine LeO.ite ?_ ?_
   | refine LeO.bind ?_ (fun _ => ?_)
set_option maxHeartbeats 8000000 in
set_option maxRecDepth 100000 in
theorem mosaiclaw25_RunsTile.calls (k : Nat) (a0 : Int) (a1 : ByteArray) (r : Bool) (w : World) (h : mosaiclaw25_RunsTile.f k a0 a1 = some r) (hTab : TabW w) :
  Calls Tryd.prog 4 #[.int .i64 a0, .string a1] w fun e w' => e = .returned (.bool r) ∧ Below w.heap.size w w' := by
 have HB := Aside0.mk (Below.refl w.heap.size w)
 have H : ((runs_Of.f a0 a1).bind fun bt215 => ((runs_Gaps.f a0 a1).bind fun bt219 => (if bt215.2 = 0 then (mosaiclaw25_RunsTile.j0 k a0 a1 bt215.1 bt215.2 bt219.1 bt219.2 (bt219.2 != 0)) else (mosaiclaw25_RunsTile.j0 k a0 a1 bt215.1 bt215.2 bt219.1 bt219.2 true)))) = some r := h
 clear h
 replace H := Option.bind_eq_some_iff.mp H
 obtain ⟨⟨t215, t216⟩, A30, H⟩ := H
 replace H : ((runs_Gaps.f a0 a1).bind fun bt219 => (if t216 = 0 then (mosaiclaw25_RunsTile.j0 k a0 a1 t215 t216 bt219.1 bt219.2 (bt219.2 != 0)) else (mosaiclaw25_RunsTile.j0 k a0 a1 t215 t216 bt219.1 bt219.2 true))) = some r := H
 have A3 := Aside0.mk A30
 clear A30
 replace H := Option.bind_eq_some_iff.mp H
 obtain ⟨⟨t219, t220⟩, A40, H⟩ := H
 replace H : (if t216 = 0 then (mosaiclaw25_RunsTile.j0 k a0 a1 t215 t216 t219 t220 (t220 != 0)) else (mosaiclaw25_RunsTile.j0 k a0 a1 t215 t216 t219 t220 true)) = some r := H
 have A4 := Aside0.mk A40
 clear A40
 have HC5 := Aside0.mk H
 clear H
 go_enter Tryd.func4, Tryd.ntmps4
 go_upto_region 3 with (first | ((with_reducible refine gate_callee (f := 11) rfl ?_); refine goesL_ (some 21) rfl rfl Tryd.func11 (by kernel_rfl) rfl #[.int .i64 a0, .string a1] rfl (by (try simp only [List.map_toArray, List.map_cons, List.map_nil]); first | done | rfl | (simp only [List.length_drop, List.length_take]; rfl)) ?_; (with_reducible refine (runs_Of.calls a0 a1 t215 t216 _ A3.out).mono ?_); rintro e w6 ⟨v217, rfl, ho0, hb⟩; refine ⟨_, rfl, ?_⟩; have n0_ := Aside0.mk (Kd.R_lower ho0 (below_size (by repeat (first | (with_reducible first | exact HB.out | apply below_alloc | apply pw_below_drewN | apply below_drew1) | exact HB.out)))); have n1_ := hS HB hb; clear HB; have HO218 := n0_; have HB := n1_; clear n0_ n1_; (try clear hb); (try clear hb2); (try clear hk); (try clear hi); (try clear ho0)) | ((with_reducible refine gate_callee (f := 13) rfl ?_); refine goesL_ (some 27) rfl rfl Tryd.func13 (by kernel_rfl) rfl #[.int .i64 a0, .string a1] rfl (by (try simp only [List.map_toArray, List.map_cons, List.map_nil]); first | done | rfl | (simp only [List.length_drop, List.length_take]; rfl)) ?_; (with_reducible refine (runs_Gaps.calls a0 a1 t219 t220 _ A4.out).mono ?_); rintro e w7 ⟨v221, rfl, ho0, hb⟩; refine ⟨_, rfl, ?_⟩; have n0_ := Aside0.mk (Kd.R_elder' (by (with_reducible repeat (first | apply Kd.R_alloc | apply Kd.R_drewN | apply Kd.R_drew)); exact HO218.out) (Kd.R_base ho0) hb); have n1_ := Aside0.mk (Kd.R_lower (Kd.R_new' ho0 (Kd.R_lt (by (with_reducible repeat (first | apply Kd.R_alloc | apply Kd.R_drewN | apply Kd.R_drew)); exact HO218.out))) (below_size (by repeat (first | (with_reducible first | exact HB.out | apply below_alloc | apply pw_below_drewN | apply below_drew1) | exact HB.out)))); have n2_ := hS HB hb; clear HO218; clear HB; have HO218 := n0_; have HO222 := n1_; have HB := n2_; clear n0_ n1_ n2_; (try clear hb); (try clear hb2); (try clear hk); (try clear hi); (try clear ho0)))
 (try simp only [Act.put, List.setIfInBounds_toArray, List.set_cons_zero, List.set_cons_succ])
 go_cut [35] (fun v35 wc => ∃ (kq : Nat) (x35_4 : Bool), v35 = .bool x35_4 ∧ Aside0 (mosaiclaw25_RunsTile.j0 kq a0 a1 t215 t216 t219 t220 x35_4 = some r) ∧ Aside0 (kq ≤ k) ∧ Aside0 (Kd.R k39 39 wc w.heap.size (fun k_ => some k_ ≠ (v221 : Value).ownBlock) v217 t215) ∧ Aside0 (Kd.R k39 39 wc w.heap.size (fun k_ => some k_ ≠ (v217 : Value).ownBlock) v221 t219) ∧ Aside0 (Below w.heap.size w wc))
 case first =>
  have H := HC5.out
  clear HC5
  by_cases c8 : t216 = 0
  ·
   rw [if_pos c8] at H
   have c8b0 : (t216 == 0) = true := beq_iff_eq.mpr c8
   have c8b1 : (t216 != 0) = false := bne_eq_false_iff_eq.mpr c8
   clear c8
   (first | rw [c8b0] | (simp only [i64_w, i32_w, IntKind.wrap_u8]; rw [c8b0]) | skip)
   have H' := Aside0.mk H
   clear H
   go_wp2
   go_meet
   case rel => exact ⟨_, ((t220 != 0)), (by first | rfl | (simp; done) | (simp [*]; done)), H', ⟨by first | omega | exact Nat.le_refl _⟩, ⟨by (with_reducible repeat (first | apply Kd.R_alloc | apply Kd.R_drewN | apply Kd.R_drew)); exact Kd.R_mono HO218.out (fun _ hk => hk.2)⟩, ⟨by (with_reducible repeat (first | apply Kd.R_alloc | apply Kd.R_drewN | apply Kd.R_drew)); exact Kd.R_mono HO222.out (fun _ hk => hk.2)⟩, ⟨by repeat (first | (with_reducible first | exact HB.out | apply below_alloc | apply pw_below_drewN | apply below_drew1) | exact HB.out)⟩⟩
  ·
   rw [if_neg c8] at H
   have c8b0 : (t216 == 0) = false := beq_eq_false_iff_ne.mpr c8
   have c8b1 : (t216 != 0) = true := bne_iff_ne.mpr c8
   (first | rw [c8b0] | (simp only [i64_w, i32_w, IntKind.wrap_u8]; rw [c8b0]) | skip)
   have H' := Aside0.mk H
   clear H
   go_wp2
   go_meet
   case rel => exact ⟨_, (true), (by first | rfl | (simp; done) | (simp [*]; done)), H', ⟨by first | omega | exact Nat.le_refl _⟩, ⟨by (with_reducible repeat (first | apply Kd.R_alloc | apply Kd.R_drewN | apply Kd.R_drew)); exact Kd.R_mono HO218.out (fun _ hk => hk.2)⟩, ⟨by (with_reducible repeat (first | apply Kd.R_alloc | apply Kd.R_drewN | apply Kd.R_drew)); exact Kd.R_mono HO222.out (fun _ hk => hk.2)⟩, ⟨by repeat (first | (with_reducible first | exact HB.out | apply below_alloc | apply pw_below_drewN | apply below_drew1) | exact HB.out)⟩⟩
 case rest =>
  clear HC5
  try clear c1
  try clear p2
  try clear c4
  try clear c8
  try clear c8b0
  try clear c8b1
  obtain ⟨kq, x35_4, rfl, HA, HJ4, HO_5, HO_7, HB⟩ := hcut
  cases kq with
  | zero => exact absurd HA.out (by simp [mosaiclaw25_RunsTile.j0])
  | succ kj4 =>
   have H := HA.out
   clear HA
   simp only [mosaiclaw25_RunsTile.j0] at H
   by_cases c9 : x35_4 = true
   ·
    subst c9
    have H1 : ((mosaiclaw25_awake.f kj4).bind fun t223 => (if t223 = true then ((bits_Check.f kj4 a0 a1).bind fun t224 => (if t224 = true then (none) else (some (t216 == t220)))) else (none))) = some r := by rw [if_pos rfl] at H; exact H
    clear H
    have H := H1
    clear H1
    replace H := Option.bind_eq_some_iff.mp H
    obtain ⟨t223, A100, H⟩ := H
    replace H : (if t223 = true then ((bits_Check.f kj4 a0 a1).bind fun t224 => (if t224 = true then (none) else (some (t216 == t220)))) else (none)) = some r := H
    have A10 := Aside0.mk A100
    clear A100
    by_cases c11 : t223 = true
    ·
     subst c11
     have H1 : ((bits_Check.f kj4 a0 a1).bind fun t224 => (if t224 = true then (none) else (some (t216 == t220)))) = some r := by rw [if_pos rfl] at H; exact H
     clear H
     have H := H1
     clear H1
     replace H := Option.bind_eq_some_iff.mp H
     obtain ⟨t224, A120, H⟩ := H
     replace H : (if t224 = true then (none) else (some (t216 == t220))) = some r := H
     have A12 := Aside0.mk A120
     clear A120
     by_cases c13 : t224 = true
     ·
      subst c13
      have H1 : (none) = some r := by rw [if_pos rfl] at H; exact H
      clear H
      have H := H1
      clear H1
      exact absurd H (by simp)
     ·
      replace c13 := Bool.eq_false_iff.mpr c13
      subst c13
      have H1 : (some (t216 == t220)) = some r := by rw [if_neg (show ¬ (false = true) by decide)] at H; exact H
      clear H
      have H := H1
      clear H1
      obtain rfl := Option.some.inj H
      go_wp2_with (first | ((with_reducible refine gate_callee (f := 10) rfl ?_); refine goesL_ (some 36) rfl rfl Tryd.func10 (by kernel_rfl) rfl #[] rfl (by (try simp only [List.map_toArray, List.map_cons, List.map_nil]); first | done | rfl | (simp only [List.length_drop, List.length_take]; rfl)) ?_; (with_reducible refine (mosaiclaw25_awake.calls kj4  true _ A10.out (TabW.below hTab (by repeat (first | (with_reducible first | exact HB.out | apply below_alloc | apply pw_below_drewN | apply below_drew1) | exact HB.out)))).mono ?_); rintro e w14 ⟨rfl, hb⟩; refine ⟨_, rfl, ?_⟩; have n0_ := Aside0.mk (Kd.R_below (by (with_reducible repeat (first | apply Kd.R_alloc | apply Kd.R_drewN | apply Kd.R_drew)); exact HO_5.out) hb); have n1_ := Aside0.mk (Kd.R_below (by (with_reducible repeat (first | apply Kd.R_alloc | apply Kd.R_drewN | apply Kd.R_drew)); exact HO_7.out) hb); have n2_ := Aside0.mk (below_step (by repeat (first | (with_reducible first | exact HB.out | apply below_alloc | apply pw_below_drewN | apply below_drew1) | exact HB.out)) hb); clear HO_5; clear HO_7; clear HB; have HO_5 := n0_; have HO_7 := n1_; have HB := n2_; clear n0_ n1_ n2_; (try clear hb); (try clear hb2); (try clear hk); (try clear hi)) | (go_at_call 18; (with_reducible refine (bits_Check.calls kj4 a0 a1 false _ A12.out).mono ?_); rintro e w' ⟨rfl, ⟨nd, rfl⟩⟩))
      go_ret
      exact ⟨by first | rfl | (simp [errW_none, errW_some] <;> rfl) | (simp [*, errW_none, errW_some] <;> rfl), by repeat (first | (with_reducible first | exact HB.out | apply below_alloc | apply pw_below_drewN | apply below_drew1) | exact HB.out)⟩
    ·
     replace c11 := Bool.eq_false_iff.mpr c11
     subst c11
     have H1 : (none) = some r := by rw [if_neg (show ¬ (false = true) by decide)] at H; exact H
     clear H
     have H := H1
     clear H1
     exact absurd H (by simp)
   ·
    replace c9 := Bool.eq_false_iff.mpr c9
    subst c9
    have H1 : (mosaiclaw25_RunsTile.l0 kj4 a0 a1 t215 t219 0 0 0) = some r := by rw [if_neg (show ¬ (false = true) by decide)] at H; exact H
    clear H
    have H := H1
    clear H1
    have H' := Aside0.mk H
    clear H
    go_wp2
    go_loopg [9, 10, 11] kj4 (fun kq v9 v10 v11 w' => ∃ (x9_2 : Int) (x10_2 : Int) (x11_2 : Int), v9 = .int .i64 x9_2 ∧ v10 = .int .i64 x10_2 ∧ v11 = .int .i64 x11_2 ∧ Aside0 (mosaiclaw25_RunsTile.l0 kq a0 a1 t215 t219 x9_2 x10_2 x11_2 = some r) ∧ Aside0 (kq ≤ kj4) ∧ Aside0 (Kd.R k39 39 w' w.heap.size (fun k_ => some k_ ≠ (v221 : Value).ownBlock) v217 t215) ∧ Aside0 (Kd.R k39 39 w' w.heap.size (fun k_ => some k_ ≠ (v217 : Value).ownBlock) v221 t219) ∧ Aside0 (Below w.heap.size w w'))
    case atStart => exact ⟨(0), (0), (0), (by first | rfl | (simp; done) | (simp [*]; done)), (by first | rfl | (simp; done) | (simp [*]; done)), (by first | rfl | (simp; done) | (simp [*]; done)), H', ⟨Nat.le_refl _⟩, ⟨by (with_reducible repeat (first | apply Kd.R_alloc | apply Kd.R_drewN | apply Kd.R_drew)); exact HO_5.out⟩, ⟨by (with_reducible repeat (first | apply Kd.R_alloc | apply Kd.R_drewN | apply Kd.R_drew)); exact HO_7.out⟩, ⟨by repeat (first | (with_reducible first | exact HB.out | apply below_alloc | apply pw_below_drewN | apply below_drew1) | exact HB.out)⟩⟩
    case round =>
     clear H'
     try clear c1
     try clear p2
     try clear c4
     try clear c8
     try clear c8b0
     try clear c8b1
     try clear c9
     try clear c10
     try clear c11
     try clear c13
     try clear p2
     obtain ⟨x9_2, x10_2, x11_2, rfl, rfl, rfl, HA, HK2, HO_5, HO_7, HB⟩ := hrel
     cases gk with
     | zero => exact absurd HA.out (by simp [mosaiclaw25_RunsTile.l0])
     | succ k2 =>
      have H := HA.out
      clear HA
      simp only [mosaiclaw25_RunsTile.l0] at H
      have HC15 := Aside0.mk H
      clear H
      go_upto_region 6 with (fail)
      go_cut [57] (fun v57 wc => ∃ (kq : Nat) (x57_14 : Bool), v57 = .bool x57_14 ∧ Aside0 (mosaiclaw25_RunsTile.j2 kq a0 a1 t215 t219 x9_2 x10_2 x11_2 x57_14 = some r) ∧ Aside0 (kq ≤ k2) ∧ Aside0 (Kd.R k39 39 wc w.heap.size (fun k_ => some k_ ≠ (v221 : Value).ownBlock) v217 t215) ∧ Aside0 (Kd.R k39 39 wc w.heap.size (fun k_ => some k_ ≠ (v217 : Value).ownBlock) v221 t219) ∧ Aside0 (Below w.heap.size w wc))
      case first =>
       have H := HC15.out
       clear HC15
       by_cases c16 : x10_2 < (t215.length : Int)
       ·
        rw [if_pos c16] at H
        have c16b0 : decide (x10_2 < (t215.length : Int)) = true := decide_eq_true c16
        clear c16
        (first | rw [c16b0] | (simp only [i64_w, i32_w, IntKind.wrap_u8]; rw [c16b0]) | skip)
        have H' := Aside0.mk H
        clear H
        obtain ⟨Ao17, co17, eo17⟩ := Kd.R_slice HO_5.out
        subst eo17
        go_wp2
        go_meet
        case rel => exact ⟨_, (true), (by first | rfl | (simp; done) | (simp [*]; done)), H', ⟨by have := HJ4.out; have := HK2.out; first | omega | exact Nat.le_refl _⟩, ⟨by (with_reducible repeat (first | apply Kd.R_alloc | apply Kd.R_drewN | apply Kd.R_drew)); exact HO_5.out⟩, ⟨by (with_reducible repeat (first | apply Kd.R_alloc | apply Kd.R_drewN | apply Kd.R_drew)); exact HO_7.out⟩, ⟨by repeat (first | (with_reducible first | exact HB.out | apply below_alloc | apply pw_below_drewN | apply below_drew1) | exact HB.out)⟩⟩
       ·
        rw [if_neg c16] at H
        have c16b0 : decide (x10_2 < (t215.length : Int)) = false := decide_eq_false c16
        clear c16
        (first | rw [c16b0] | (simp only [i64_w, i32_w, IntKind.wrap_u8]; rw [c16b0]) | skip)
        have H' := Aside0.mk H
        clear H
        obtain ⟨Ao18, co18, eo18⟩ := Kd.R_slice HO_5.out
        subst eo18
        obtain ⟨Ao19, co19, eo19⟩ := Kd.R_slice HO_7.out
        subst eo19
        go_wp2
        go_meet
        case rel => exact ⟨_, (decide (x11_2 < (t219.length : Int))), (by first | rfl | (simp; done) | (simp [*]; done)), H', ⟨by have := HJ4.out; have := HK2.out; first | omega | exact Nat.le_refl _⟩, ⟨by (with_reducible repeat (first | apply Kd.R_alloc | apply Kd.R_drewN | apply Kd.R_drew)); exact HO_5.out⟩, ⟨by (with_reducible repeat (first | apply Kd.R_alloc | apply Kd.R_drewN | apply Kd.R_drew)); exact HO_7.out⟩, ⟨by repeat (first | (with_reducible first | exact HB.out | apply below_alloc | apply pw_below_drewN | apply below_drew1) | exact HB.out)⟩⟩
      case rest =>
       clear HC15
       try clear c1
       try clear p2
       try clear c4
       try clear c8
       try clear c8b0
       try clear c8b1
       try clear c9
       try clear c10
       try clear c11
       try clear c13
       try clear c16
       try clear c16b0
       try clear p2
       obtain ⟨kq, x57_14, rfl, HA, HJ14, HO_5, HO_7, HB⟩ := hcut
       cases kq with
       | zero => exact absurd HA.out (by simp [mosaiclaw25_RunsTile.j2])
       | succ kj14 =>
        have H := HA.out
        clear HA
        simp only [mosaiclaw25_RunsTile.j2] at H
        by_cases c20 : x57_14 = true
        ·
         subst c20
         have H1 : (if x10_2 < (t215.length : Int) then (if 0 ≤ x10_2 then (if ((rd_T39 t215 x10_2).f0) = x9_2 then (mosaiclaw25_RunsTile.j3 kj14 a0 a1 t215 t219 x9_2 x10_2 x11_2 (decide (((rd_T39 t215 x10_2).f1) > x9_2))) else (mosaiclaw25_RunsTile.j3 kj14 a0 a1 t215 t219 x9_2 x10_2 x11_2 false)) else (none)) else (mosaiclaw25_RunsTile.j3 kj14 a0 a1 t215 t219 x9_2 x10_2 x11_2 false)) = some r := by rw [if_pos rfl] at H; exact H
         clear H
         have H := H1
         clear H1
         have HC21 := Aside0.mk H
         clear H
         go_upto_region 7 with (fail)
         go_cut [79] (fun v79 wc => ∃ (kq : Nat) (x79_20 : Bool), v79 = .bool x79_20 ∧ Aside0 (mosaiclaw25_RunsTile.j3 kq a0 a1 t215 t219 x9_2 x10_2 x11_2 x79_20 = some r) ∧ Aside0 (kq ≤ kj14) ∧ Aside0 (Kd.R k39 39 wc w.heap.size (fun k_ => some k_ ≠ (v221 : Value).ownBlock) v217 t215) ∧ Aside0 (Kd.R k39 39 wc w.heap.size (fun k_ => some k_ ≠ (v217 : Value).ownBlock) v221 t219) ∧ Aside0 (Below w.heap.size w wc))
         case first =>
          have H := HC21.out
          clear HC21
          by_cases c22 : x10_2 < (t215.length : Int)
          ·
           rw [if_pos c22] at H
           have c22b0 : decide (x10_2 < (t215.length : Int)) = true := decide_eq_true c22
           clear c22
           (first | rw [c22b0] | (simp only [i64_w, i32_w, IntKind.wrap_u8]; rw [c22b0]) | skip)
           by_cases c23 : 0 ≤ x10_2
           ·
            rw [if_pos c23] at H
            have c23b0 : decide (0 ≤ x10_2) = true := decide_eq_true c23
            clear c23
            by_cases c24 : ((rd_T39 t215 x10_2).f0) = x9_2
            ·
             rw [if_pos c24] at H
             have c24b0 : (((rd_T39 t215 x10_2).f0) == x9_2) = true := beq_iff_eq.mpr c24
             have c24b1 : (((rd_T39 t215 x10_2).f0) != x9_2) = false := bne_eq_false_iff_eq.mpr c24
             clear c24
             have H' := Aside0.mk H
             clear H
             obtain ⟨Ao25, co25, eo25⟩ := Kd.R_slice HO_5.out
             subst eo25
             have p225 : 0 ≤ (x10_2 : Int) := of_decide_eq_true (by first | (with_reducible assumption) | assumption)
             have q225 : x10_2 < (t215.length : Int) := of_decide_eq_true (by first | (with_reducible assumption) | assumption)
             obtain ⟨ad225, e225, hx225_0, hx225_1⟩ := at_T39 (Kd.R_reads' HO_5.out).2.2 x10_2 p225 q225
             cases e225
             replace p225 := eq_true p225
             replace q225 := eq_true q225
             have p226 : 0 ≤ (x10_2 : Int) := of_decide_eq_true (by first | (with_reducible assumption) | assumption)
             have q226 : x10_2 < (t215.length : Int) := of_decide_eq_true (by first | (with_reducible assumption) | assumption)
             obtain ⟨ad226, e226, hx226_0, hx226_1⟩ := at_T39 (Kd.R_reads' HO_5.out).2.2 x10_2 p226 q226
             obtain rfl : ad225 = ad226 := (by injection e226)
             replace p226 := eq_true p226
             replace q226 := eq_true q226
             go_wp2
             go_meet
             case rel => exact ⟨_, (decide (((rd_T39 t215 x10_2).f1) > x9_2)), (by first | rfl | (simp; done) | (simp [*]; done)), H', ⟨by have := HJ4.out; have := HK2.out; have := HJ14.out; first | omega | exact Nat.le_refl _⟩, ⟨by (with_reducible repeat (first | apply Kd.R_alloc | apply Kd.R_drewN | apply Kd.R_drew)); exact HO_5.out⟩, ⟨by (with_reducible repeat (first | apply Kd.R_alloc | apply Kd.R_drewN | apply Kd.R_drew)); exact HO_7.out⟩, ⟨by repeat (first | (with_reducible first | exact HB.out | apply below_alloc | apply pw_below_drewN | apply below_drew1) | exact HB.out)⟩⟩
            ·
             rw [if_neg c24] at H
             have c24b0 : (((rd_T39 t215 x10_2).f0) == x9_2) = false := beq_eq_false_iff_ne.mpr c24
             have c24b1 : (((rd_T39 t215 x10_2).f0) != x9_2) = true := bne_iff_ne.mpr c24
             have H' := Aside0.mk H
             clear H
             obtain ⟨Ao26, co26, eo26⟩ := Kd.R_slice HO_5.out
             subst eo26
             have p225 : 0 ≤ (x10_2 : Int) := of_decide_eq_true (by first | (with_reducible assumption) | assumption)
             have q225 : x10_2 < (t215.length : Int) := of_decide_eq_true (by first | (with_reducible assumption) | assumption)
             obtain ⟨ad225, e225, hx225_0, hx225_1⟩ := at_T39 (Kd.R_reads' HO_5.out).2.2 x10_2 p225 q225
             cases e225
             replace p225 := eq_true p225
             replace q225 := eq_true q225
             go_wp2
             go_meet
             case rel => exact ⟨_, (false), (by first | rfl | (simp; done) | (simp [*]; done)), H', ⟨by have := HJ4.out; have := HK2.out; have := HJ14.out; first | omega | exact Nat.le_refl _⟩, ⟨by (with_reducible repeat (first | apply Kd.R_alloc | apply Kd.R_drewN | apply Kd.R_drew)); exact HO_5.out⟩, ⟨by (with_reducible repeat (first | apply Kd.R_alloc | apply Kd.R_drewN | apply Kd.R_drew)); exact HO_7.out⟩, ⟨by repeat (first | (with_reducible first | exact HB.out | apply below_alloc | apply pw_below_drewN | apply below_drew1) | exact HB.out)⟩⟩
           ·
            rw [if_neg c23] at H
            exact absurd H (by simp)
          ·
           rw [if_neg c22] at H
           have c22b0 : decide (x10_2 < (t215.length : Int)) = false := decide_eq_false c22
           clear c22
           (first | rw [c22b0] | (simp only [i64_w, i32_w, IntKind.wrap_u8]; rw [c22b0]) | skip)
           have H' := Aside0.mk H
           clear H
           obtain ⟨Ao27, co27, eo27⟩ := Kd.R_slice HO_5.out
           subst eo27
           go_wp2
           go_meet
           case rel => exact ⟨_, (false), (by first | rfl | (simp; done) | (simp [*]; done)), H', ⟨by have := HJ4.out; have := HK2.out; have := HJ14.out; first | omega | exact Nat.le_refl _⟩, ⟨by (with_reducible repeat (first | apply Kd.R_alloc | apply Kd.R_drewN | apply Kd.R_drew)); exact HO_5.out⟩, ⟨by (with_reducible repeat (first | apply Kd.R_alloc | apply Kd.R_drewN | apply Kd.R_drew)); exact HO_7.out⟩, ⟨by repeat (first | (with_reducible first | exact HB.out | apply below_alloc | apply pw_below_drewN | apply below_drew1) | exact HB.out)⟩⟩
         case rest =>
          clear HC21
          try clear c1
          try clear c2
          try clear p2
          try clear q2
          try clear hx2
          try clear c4
          try clear c8
          try clear c8b0
          try clear c8b1
          try clear c9
          try clear c10
          try clear c11
          try clear c13
          try clear c16
          try clear c16b0
          try clear c20
          try clear c22
          try clear c22b0
          try clear p22
          try clear q22
          try clear hx22
          try clear c23
          try clear c23b0
          try clear c24
          try clear c24b0
          try clear c24b1
          try clear hx225_0
          try clear hx225_1
          try clear hx226_0
          try clear hx226_1
          try clear p2
          try clear p225
          try clear p226
          try clear q225
          try clear q226
          obtain ⟨kq, x79_20, rfl, HA, HJ20, HO_5, HO_7, HB⟩ := hcut
          cases kq with
          | zero => exact absurd HA.out (by simp [mosaiclaw25_RunsTile.j3])
          | succ kj20 =>
           have H := HA.out
           clear HA
           simp only [mosaiclaw25_RunsTile.j3] at H
           by_cases c28 : x79_20 = true
           ·
            subst c28
            have H1 : (if 0 ≤ x10_2 then (if x10_2 < (t215.length : Int) then (mosaiclaw25_RunsTile.l0 kj20 a0 a1 t215 t219 ((rd_T39 t215 x10_2).f1) (wrap64 (x10_2 + 1)) x11_2) else (none)) else (none)) = some r := by rw [if_pos rfl] at H; exact H
            clear H
            have H := H1
            clear H1
            by_cases c29 : 0 ≤ x10_2
            ·
             rw [if_pos c29] at H
             have c29b0 : decide (0 ≤ x10_2) = true := decide_eq_true c29
             clear c29
             by_cases c30 : x10_2 < (t215.length : Int)
             ·
              rw [if_pos c30] at H
              have c30b0 : decide (x10_2 < (t215.length : Int)) = true := decide_eq_true c30
              clear c30
              have H' := Aside0.mk H
              clear H
              obtain ⟨Ao31, co31, eo31⟩ := Kd.R_slice HO_5.out
              subst eo31
              have p227 : 0 ≤ (x10_2 : Int) := of_decide_eq_true (by first | (with_reducible assumption) | assumption)
              have q227 : x10_2 < (t215.length : Int) := of_decide_eq_true (by first | (with_reducible assumption) | assumption)
              obtain ⟨ad227, e227, hx227_0, hx227_1⟩ := at_T39 (Kd.R_reads' HO_5.out).2.2 x10_2 p227 q227
              cases e227
              replace p227 := eq_true p227
              replace q227 := eq_true q227
              go_wp2
              go_roundg kj20
              case measure => have := HJ4.out; have := HK2.out; have := HJ14.out; have := HJ20.out; omega
              case rel => exact ⟨((rd_T39 t215 x10_2).f1), (wrap64 (x10_2 + 1)), (x11_2), (by first | rfl | (simp; done) | (simp [*]; done)), (by first | rfl | (simp; done) | (simp [*]; done)), (by first | rfl | (simp; done) | (simp [*]; done)), H', ⟨by have := HJ4.out; have := HK2.out; have := HJ14.out; have := HJ20.out; omega⟩, ⟨by (with_reducible repeat (first | apply Kd.R_alloc | apply Kd.R_drewN | apply Kd.R_drew)); exact HO_5.out⟩, ⟨by (with_reducible repeat (first | apply Kd.R_alloc | apply Kd.R_drewN | apply Kd.R_drew)); exact HO_7.out⟩, ⟨by repeat (first | (with_reducible first | exact HB.out | apply below_alloc | apply pw_below_drewN | apply below_drew1) | exact HB.out)⟩⟩
             ·
              rw [if_neg c30] at H
              exact absurd H (by simp)
            ·
             rw [if_neg c29] at H
             exact absurd H (by simp)
           ·
            replace c28 := Bool.eq_false_iff.mpr c28
            subst c28
            have H1 : (if x11_2 < (t219.length : Int) then (if 0 ≤ x11_2 then (if ((rd_T39 t219 x11_2).f0) = x9_2 then (if ((rd_T39 t219 x11_2).f1) > x9_2 then (mosaiclaw25_RunsTile.l0 kj20 a0 a1 t215 t219 ((rd_T39 t219 x11_2).f1) x10_2 (wrap64 (x11_2 + 1))) else (none)) else (none)) else (none)) else (none)) = some r := by rw [if_neg (show ¬ (false = true) by decide)] at H; exact H
            clear H
            have H := H1
            clear H1
            by_cases c32 : x11_2 < (t219.length : Int)
            ·
             rw [if_pos c32] at H
             have c32b0 : decide (x11_2 < (t219.length : Int)) = true := decide_eq_true c32
             clear c32
             by_cases c33 : 0 ≤ x11_2
             ·
              rw [if_pos c33] at H
              have c33b0 : decide (0 ≤ x11_2) = true := decide_eq_true c33
              clear c33
              by_cases c34 : ((rd_T39 t219 x11_2).f0) = x9_2
              ·
               rw [if_pos c34] at H
               have c34b0 : (((rd_T39 t219 x11_2).f0) == x9_2) = true := beq_iff_eq.mpr c34
               have c34b1 : (((rd_T39 t219 x11_2).f0) != x9_2) = false := bne_eq_false_iff_eq.mpr c34
               clear c34
               by_cases c35 : ((rd_T39 t219 x11_2).f1) > x9_2
               ·
                rw [if_pos c35] at H
                have c35b0 : decide (x9_2 < ((rd_T39 t219 x11_2).f1)) = true := decide_eq_true c35
                clear c35
                have H' := Aside0.mk H
                clear H
                obtain ⟨Ao36, co36, eo36⟩ := Kd.R_slice HO_7.out
                subst eo36
                have p228 : 0 ≤ (x11_2 : Int) := of_decide_eq_true (by first | (with_reducible assumption) | assumption)
                have q228 : x11_2 < (t219.length : Int) := of_decide_eq_true (by first | (with_reducible assumption) | assumption)
                obtain ⟨ad228, e228, hx228_0, hx228_1⟩ := at_T39 (Kd.R_reads' HO_7.out).2.2 x11_2 p228 q228
                cases e228
                replace p228 := eq_true p228
                replace q228 := eq_true q228
                have p229 : 0 ≤ (x11_2 : Int) := of_decide_eq_true (by first | (with_reducible assumption) | assumption)
                have q229 : x11_2 < (t219.length : Int) := of_decide_eq_true (by first | (with_reducible assumption) | assumption)
                obtain ⟨ad229, e229, hx229_0, hx229_1⟩ := at_T39 (Kd.R_reads' HO_7.out).2.2 x11_2 p229 q229
                obtain rfl : ad228 = ad229 := (by injection e229)
                replace p229 := eq_true p229
                replace q229 := eq_true q229
                have p230 : 0 ≤ (x11_2 : Int) := of_decide_eq_true (by first | (with_reducible assumption) | assumption)
                have q230 : x11_2 < (t219.length : Int) := of_decide_eq_true (by first | (with_reducible assumption) | assumption)
                obtain ⟨ad230, e230, hx230_0, hx230_1⟩ := at_T39 (Kd.R_reads' HO_7.out).2.2 x11_2 p230 q230
                obtain rfl : ad228 = ad230 := (by injection e230)
                replace p230 := eq_true p230
                replace q230 := eq_true q230
                go_wp2
                go_roundg kj20
                case measure => have := HJ4.out; have := HK2.out; have := HJ14.out; have := HJ20.out; omega
                case rel => exact ⟨((rd_T39 t219 x11_2).f1), (x10_2), (wrap64 (x11_2 + 1)), (by first | rfl | (simp; done) | (simp [*]; done)), (by first | rfl | (simp; done) | (simp [*]; done)), (by first | rfl | (simp; done) | (simp [*]; done)), H', ⟨by have := HJ4.out; have := HK2.out; have := HJ14.out; have := HJ20.out; omega⟩, ⟨by (with_reducible repeat (first | apply Kd.R_alloc | apply Kd.R_drewN | apply Kd.R_drew)); exact HO_5.out⟩, ⟨by (with_reducible repeat (first | apply Kd.R_alloc | apply Kd.R_drewN | apply Kd.R_drew)); exact HO_7.out⟩, ⟨by repeat (first | (with_reducible first | exact HB.out | apply below_alloc | apply pw_below_drewN | apply below_drew1) | exact HB.out)⟩⟩
               ·
                rw [if_neg c35] at H
                exact absurd H (by simp)
              ·
               rw [if_neg c34] at H
               exact absurd H (by simp)
             ·
              rw [if_neg c33] at H
              exact absurd H (by simp)
            ·
             rw [if_neg c32] at H
             exact absurd H (by simp)
        ·
         replace c20 := Bool.eq_false_iff.mpr c20
         subst c20
         have H1 : ((runs_Set.f kj14 a0 t215).bind fun bt231 => ((runs_Set.f kj14 a0 t219).bind fun bt233 => ((bits_Or.f bt231.1 bt233.1).bind fun bt235 => ((mosaiclaw25_awake.f kj14).bind fun t237 => (if t237 = true then (if x9_2 = a0 then (if (wrap64 (x10_2 - x11_2)) ≤ 1 then (if (wrap64 (x11_2 - x10_2)) ≤ 1 then (if (wrap64 ((wrap64 (bt231.2 + bt233.2)) + bt235.2)) = 0 then (if bt231.1.toList = a1.toList then ((bits_Full.f a0).bind fun t238 => (some (bt235.1.toList == t238.toList))) else (none)) else (none)) else (none)) else (none)) else (none)) else (none)))))) = some r := by rw [if_neg (show ¬ (false = true) by decide)] at H; exact H
         clear H
         have H := H1
         clear H1
         replace H := Option.bind_eq_some_iff.mp H
         obtain ⟨⟨t231, t232⟩, A370, H⟩ := H
         replace H : ((runs_Set.f kj14 a0 t219).bind fun bt233 => ((bits_Or.f t231 bt233.1).bind fun bt235 => ((mosaiclaw25_awake.f kj14).bind fun t237 => (if t237 = true then (if x9_2 = a0 then (if (wrap64 (x10_2 - x11_2)) ≤ 1 then (if (wrap64 (x11_2 - x10_2)) ≤ 1 then (if (wrap64 ((wrap64 (t232 + bt233.2)) + bt235.2)) = 0 then (if t231.toList = a1.toList then ((bits_Full.f a0).bind fun t238 => (some (bt235.1.toList == t238.toList))) else (none)) else (none)) else (none)) else (none)) else (none)) else (none))))) = some r := H
         have A37 := Aside0.mk A370
         clear A370
         replace H := Option.bind_eq_some_iff.mp H
         obtain ⟨⟨t233, t234⟩, A380, H⟩ := H
         replace H : ((bits_Or.f t231 t233).bind fun bt235 => ((mosaiclaw25_awake.f kj14).bind fun t237 => (if t237 = true then (if x9_2 = a0 then (if (wrap64 (x10_2 - x11_2)) ≤ 1 then (if (wrap64 (x11_2 - x10_2)) ≤ 1 then (if (wrap64 ((wrap64 (t232 + t234)) + bt235.2)) = 0 then (if t231.toList = a1.toList then ((bits_Full.f a0).bind fun t238 => (some (bt235.1.toList == t238.toList))) else (none)) else (none)) else (none)) else (none)) else (none)) else (none)))) = some r := H
         have A38 := Aside0.mk A380
         clear A380
         replace H := Option.bind_eq_some_iff.mp H
         obtain ⟨⟨t235, t236⟩, A390, H⟩ := H
         replace H : ((mosaiclaw25_awake.f kj14).bind fun t237 => (if t237 = true then (if x9_2 = a0 then (if (wrap64 (x10_2 - x11_2)) ≤ 1 then (if (wrap64 (x11_2 - x10_2)) ≤ 1 then (if (wrap64 ((wrap64 (t232 + t234)) + t236)) = 0 then (if t231.toList = a1.toList then ((bits_Full.f a0).bind fun t238 => (some (t235.toList == t238.toList))) else (none)) else (none)) else (none)) else (none)) else (none)) else (none))) = some r := H
         have A39 := Aside0.mk A390
         clear A390
         replace H := Option.bind_eq_some_iff.mp H
         obtain ⟨t237, A400, H⟩ := H
         replace H : (if t237 = true then (if x9_2 = a0 then (if (wrap64 (x10_2 - x11_2)) ≤ 1 then (if (wrap64 (x11_2 - x10_2)) ≤ 1 then (if (wrap64 ((wrap64 (t232 + t234)) + t236)) = 0 then (if t231.toList = a1.toList then ((bits_Full.f a0).bind fun t238 => (some (t235.toList == t238.toList))) else (none)) else (none)) else (none)) else (none)) else (none)) else (none)) = some r := H
         have A40 := Aside0.mk A400
         clear A400
         by_cases c41 : t237 = true
         ·
          subst c41
          have H1 : (if x9_2 = a0 then (if (wrap64 (x10_2 - x11_2)) ≤ 1 then (if (wrap64 (x11_2 - x10_2)) ≤ 1 then (if (wrap64 ((wrap64 (t232 + t234)) + t236)) = 0 then (if t231.toList = a1.toList then ((bits_Full.f a0).bind fun t238 => (some (t235.toList == t238.toList))) else (none)) else (none)) else (none)) else (none)) else (none)) = some r := by rw [if_pos rfl] at H; exact H
          clear H
          have H := H1
          clear H1
          by_cases c42 : x9_2 = a0
          ·
           rw [if_pos c42] at H
           have c42b0 : (x9_2 == a0) = true := beq_iff_eq.mpr c42
           have c42b1 : (x9_2 != a0) = false := bne_eq_false_iff_eq.mpr c42
           clear c42
           by_cases c43 : (wrap64 (x10_2 - x11_2)) ≤ 1
           ·
            rw [if_pos c43] at H
            have c43b0 : decide ((wrap64 (x10_2 - x11_2)) ≤ 1) = true := decide_eq_true c43
            clear c43
            by_cases c44 : (wrap64 (x11_2 - x10_2)) ≤ 1
            ·
             rw [if_pos c44] at H
             have c44b0 : decide ((wrap64 (x11_2 - x10_2)) ≤ 1) = true := decide_eq_true c44
             clear c44
             by_cases c45 : (wrap64 ((wrap64 (t232 + t234)) + t236)) = 0
             ·
              rw [if_pos c45] at H
              have c45b0 : ((wrap64 ((wrap64 (t232 + t234)) + t236)) == 0) = true := beq_iff_eq.mpr c45
              have c45b1 : ((wrap64 ((wrap64 (t232 + t234)) + t236)) != 0) = false := bne_eq_false_iff_eq.mpr c45
              clear c45
              by_cases c46 : t231.toList = a1.toList
              ·
               rw [if_pos c46] at H
               have c46b0 : (t231.toList == a1.toList) = true := beq_iff_eq.mpr c46
               have c46b1 : (t231.toList != a1.toList) = false := bne_eq_false_iff_eq.mpr c46
               clear c46
               replace H := Option.bind_eq_some_iff.mp H
               obtain ⟨t238, A470, H⟩ := H
               replace H : (some (t235.toList == t238.toList)) = some r := H
               have A47 := Aside0.mk A470
               clear A470
               obtain rfl := Option.some.inj H
               obtain ⟨Ao48, co48, eo48⟩ := Kd.R_slice HO_5.out
               subst eo48
               go_wp2_with (first | ((with_reducible refine gate_callee (f := 14) rfl ?_); refine goesL_ (some 119) rfl rfl Tryd.func14 (by kernel_rfl) rfl #[.int .i64 a0, .slice Ao48 t215.length co48] rfl (by (try simp only [List.map_toArray, List.map_cons, List.map_nil]); first | done | rfl | (simp only [List.length_drop, List.length_take]; rfl)) ?_; (with_reducible refine (runs_Set.calls kj14 a0 _ _ t215 t231 t232 _ ?side1 ?side2 A37.out).mono ?_); (case side1 => repeat (first | exact (Kd.R_reads' HO_5.out).2.2 | (with_reducible refine Kd.C_alloc ?_ _) | (with_reducible refine Kd.C_drewN ?_ _) | (with_reducible refine Kd.C_drew ?_))); (case side2 => exact (Kd.R_reads' HO_5.out).2.1); rintro e w49 ⟨rfl, hb⟩; refine ⟨_, rfl, ?_⟩; have n0_ := Aside0.mk (Kd.R_below (by (with_reducible repeat (first | apply Kd.R_alloc | apply Kd.R_drewN | apply Kd.R_drew)); exact HO_5.out) hb); have n1_ := Aside0.mk (Kd.R_below (by (with_reducible repeat (first | apply Kd.R_alloc | apply Kd.R_drewN | apply Kd.R_drew)); exact HO_7.out) hb); have n2_ := Aside0.mk (below_step (by repeat (first | (with_reducible first | exact HB.out | apply below_alloc | apply pw_below_drewN | apply below_drew1) | exact HB.out)) hb); clear HO_5; clear HO_7; clear HB; have HO_5 := n0_; have HO_7 := n1_; have HB := n2_; clear n0_ n1_ n2_; (try clear hb); (try clear hb2); (try clear hk); (try clear hi); obtain ⟨Ao50, co50, eo50⟩ := Kd.R_slice HO_7.out; subst eo50) | ((with_reducible refine gate_callee (f := 14) rfl ?_); refine goesL_ (some 125) rfl rfl Tryd.func14 (by kernel_rfl) rfl #[.int .i64 a0, .slice Ao50 t219.length co50] rfl (by (try simp only [List.map_toArray, List.map_cons, List.map_nil]); first | done | rfl | (simp only [List.length_drop, List.length_take]; rfl)) ?_; (with_reducible refine (runs_Set.calls kj14 a0 _ _ t219 t233 t234 _ ?side1 ?side2 A38.out).mono ?_); (case side1 => repeat (first | exact (Kd.R_reads' HO_7.out).2.2 | (with_reducible refine Kd.C_alloc ?_ _) | (with_reducible refine Kd.C_drewN ?_ _) | (with_reducible refine Kd.C_drew ?_))); (case side2 => exact (Kd.R_reads' HO_7.out).2.1); rintro e w51 ⟨rfl, hb⟩; refine ⟨_, rfl, ?_⟩; have n0_ := Aside0.mk (Kd.R_below (by (with_reducible repeat (first | apply Kd.R_alloc | apply Kd.R_drewN | apply Kd.R_drew)); exact HO_5.out) hb); have n1_ := Aside0.mk (Kd.R_below (by (with_reducible repeat (first | apply Kd.R_alloc | apply Kd.R_drewN | apply Kd.R_drew)); exact HO_7.out) hb); have n2_ := Aside0.mk (below_step (by repeat (first | (with_reducible first | exact HB.out | apply below_alloc | apply pw_below_drewN | apply below_drew1) | exact HB.out)) hb); clear HO_5; clear HO_7; clear HB; have HO_5 := n0_; have HO_7 := n1_; have HB := n2_; clear n0_ n1_ n2_; (try clear hb); (try clear hb2); (try clear hk); (try clear hi)) | ((with_reducible refine gate_callee (f := 19) rfl ?_); refine goesL_ (some 131) rfl rfl Tryd.func19 (by kernel_rfl) rfl #[.string t231, .string t233] rfl (by (try simp only [List.map_toArray, List.map_cons, List.map_nil]); first | done | rfl | (simp only [List.length_drop, List.length_take]; rfl)) ?_; (with_reducible refine (bits_Or.calls t231 t233 t235 t236 _ A39.out).mono ?_); rintro e w52 ⟨rfl, hb⟩; refine ⟨_, rfl, ?_⟩; have n0_ := Aside0.mk (Kd.R_below (by (with_reducible repeat (first | apply Kd.R_alloc | apply Kd.R_drewN | apply Kd.R_drew)); exact HO_5.out) hb); have n1_ := Aside0.mk (Kd.R_below (by (with_reducible repeat (first | apply Kd.R_alloc | apply Kd.R_drewN | apply Kd.R_drew)); exact HO_7.out) hb); have n2_ := Aside0.mk (below_step (by repeat (first | (with_reducible first | exact HB.out | apply below_alloc | apply pw_below_drewN | apply below_drew1) | exact HB.out)) hb); clear HO_5; clear HO_7; clear HB; have HO_5 := n0_; have HO_7 := n1_; have HB := n2_; clear n0_ n1_ n2_; (try clear hb); (try clear hb2); (try clear hk); (try clear hi)) | ((with_reducible refine gate_callee (f := 10) rfl ?_); refine goesL_ (some 134) rfl rfl Tryd.func10 (by kernel_rfl) rfl #[] rfl (by (try simp only [List.map_toArray, List.map_cons, List.map_nil]); first | done | rfl | (simp only [List.length_drop, List.length_take]; rfl)) ?_; (with_reducible refine (mosaiclaw25_awake.calls kj14  true _ A40.out (TabW.below hTab (by repeat (first | (with_reducible first | exact HB.out | apply below_alloc | apply pw_below_drewN | apply below_drew1) | exact HB.out)))).mono ?_); rintro e w53 ⟨rfl, hb⟩; refine ⟨_, rfl, ?_⟩; have n0_ := Aside0.mk (Kd.R_below (by (with_reducible repeat (first | apply Kd.R_alloc | apply Kd.R_drewN | apply Kd.R_drew)); exact HO_5.out) hb); have n1_ := Aside0.mk (Kd.R_below (by (with_reducible repeat (first | apply Kd.R_alloc | apply Kd.R_drewN | apply Kd.R_drew)); exact HO_7.out) hb); have n2_ := Aside0.mk (below_step (by repeat (first | (with_reducible first | exact HB.out | apply below_alloc | apply pw_below_drewN | apply below_drew1) | exact HB.out)) hb); clear HO_5; clear HO_7; clear HB; have HO_5 := n0_; have HO_7 := n1_; have HB := n2_; clear n0_ n1_ n2_; (try clear hb); (try clear hb2); (try clear hk); (try clear hi)) | (go_at_call 20; (with_reducible refine (bits_Full.calls a0 t238 _ A47.out).mono ?_); rintro e w54 ⟨rfl, hb⟩; have n0_ := Aside0.mk (Kd.R_below (by (with_reducible repeat (first | apply Kd.R_alloc | apply Kd.R_drewN | apply Kd.R_drew)); exact HO_5.out) hb); have n1_ := Aside0.mk (Kd.R_below (by (with_reducible repeat (first | apply Kd.R_alloc | apply Kd.R_drewN | apply Kd.R_drew)); exact HO_7.out) hb); have n2_ := Aside0.mk (below_step (by repeat (first | (with_reducible first | exact HB.out | apply below_alloc | apply pw_below_drewN | apply below_drew1) | exact HB.out)) hb); clear HO_5; clear HO_7; clear HB; have HO_5 := n0_; have HO_7 := n1_; have HB := n2_; clear n0_ n1_ n2_; (try clear hb); (try clear hb2); (try clear hk); (try clear hi)))
               go_ret
               exact ⟨by first | rfl | (simp [errW_none, errW_some] <;> rfl) | (simp [*, errW_none, errW_some] <;> rfl), by repeat (first | (with_reducible first | exact HB.out | apply below_alloc | apply pw_below_drewN | apply below_drew1) | exact HB.out)⟩
              ·
               rw [if_neg c46] at H
               exact absurd H (by simp)
             ·
              rw [if_neg c45] at H
              exact absurd H (by simp)
            ·
             rw [if_neg c44] at H
             exact absurd H (by simp)
           ·
            rw [if_neg c43] at H
            exact absurd H (by simp)
          ·
           rw [if_neg c42] at H
           exact absurd H (by simp)
         ·
          replace c41 := Bool.eq_false_iff.mpr c41
          subst c41
          have H1 : (none) = some r := by rw [if_neg (show ¬ (false = true) by decide)] at H; exact H
          clear H
          have H := H1
          clear H1
          exact absurd H (by simp)

/-- THE ONE PURE STATEMENT of mosaiclaw25_RunsTile: yours. -/
def mosaiclaw25_RunsTile.Pure : Prop := ∀ (a0 : Int) (a1 : ByteArray), (Lit.int .i64 a0).wf = true → a1.size ≤ 140737488351232 → ∃ k, mosaiclaw25_RunsTile.f k a0 a1 = some true
theorem mosaiclaw25_RunsTile.walk (P : mosaiclaw25_RunsTile.Pure) (a0 : Int) (a1 : ByteArray) (w : World) (hTab : TabW w) (w0 : (Lit.int .i64 a0).wf = true) (w1 : a1.size ≤ 140737488351232) :
  Calls Tryd.prog 4 #[.int .i64 a0, .string a1] w fun e w' => e = .returned (.bool true) ∧ Below w.heap.size w w' := by
 obtain ⟨k, h⟩ := P a0 a1 w0 w1
 refine (mosaiclaw25_RunsTile.calls k a0 a1 true w h hTab).mono ?_
 rintro e w' ⟨rfl, hd⟩
 exact ⟨rfl, hd⟩

-- BY HAND: function 73 (bits_Minus)

/-! ### runs_either: function 52 -/
def runs_either.f (a0 : ByteArray) (a1 : ByteArray) : Option (ByteArray) := (bits_Minus.f a0 a1).bind fun bt239 => ((bits_Minus.f a1 a0).bind fun bt241 => ((bits_Or.f bt239.1 bt241.1).bind fun bt243 => (some bt243.1)))
set_option maxHeartbeats 8000000 in
set_option maxRecDepth 100000 in
theorem runs_either.calls (a0 : ByteArray) (a1 : ByteArray) (r : ByteArray) (w : World) (h : runs_either.f a0 a1 = some r) :
  Calls Tryd.prog 52 #[.string a0, .string a1] w fun e w' => e = .returned (.string r) ∧ Below w.heap.size w w' := by
 have HB := Aside0.mk (Below.refl w.heap.size w)
 have H : ((bits_Minus.f a0 a1).bind fun bt239 => ((bits_Minus.f a1 a0).bind fun bt241 => ((bits_Or.f bt239.1 bt241.1).bind fun bt243 => (some bt243.1)))) = some r := h
 clear h
 replace H := Option.bind_eq_some_iff.mp H
 obtain ⟨⟨t239, t240⟩, A30, H⟩ := H
 replace H : ((bits_Minus.f a1 a0).bind fun bt241 => ((bits_Or.f t239 bt241.1).bind fun bt243 => (some bt243.1))) = some r := H
 have A3 := Aside0.mk A30
 clear A30
 replace H := Option.bind_eq_some_iff.mp H
 obtain ⟨⟨t241, t242⟩, A40, H⟩ := H
 replace H : ((bits_Or.f t239 t241).bind fun bt243 => (some bt243.1)) = some r := H
 have A4 := Aside0.mk A40
 clear A40
 replace H := Option.bind_eq_some_iff.mp H
 obtain ⟨⟨t243, t244⟩, A50, H⟩ := H
 replace H : (some t243) = some r := H
 have A5 := Aside0.mk A50
 clear A50
 obtain rfl := Option.some.inj H
 go_enter Tryd.func52, Tryd.ntmps52
 go_wp2_with (first | ((with_reducible refine gate_callee (f := 73) rfl ?_); refine goesL_ (some 14) rfl rfl Tryd.func73 (by kernel_rfl) rfl #[.string a0, .string a1] rfl (by (try simp only [List.map_toArray, List.map_cons, List.map_nil]); first | done | rfl | (simp only [List.length_drop, List.length_take]; rfl)) ?_; (with_reducible refine (bits_Minus.calls a0 a1 t239 t240 _ A3.out).mono ?_); rintro e w6 ⟨rfl, hb⟩; refine ⟨_, rfl, ?_⟩; have n0_ := Aside0.mk (below_step (by repeat (first | (with_reducible first | exact HB.out | apply below_alloc | apply pw_below_drewN | apply below_drew1) | exact HB.out)) hb); clear HB; have HB := n0_; clear n0_; (try clear hb); (try clear hb2); (try clear hk); (try clear hi)) | ((with_reducible refine gate_callee (f := 73) rfl ?_); refine goesL_ (some 20) rfl rfl Tryd.func73 (by kernel_rfl) rfl #[.string a1, .string a0] rfl (by (try simp only [List.map_toArray, List.map_cons, List.map_nil]); first | done | rfl | (simp only [List.length_drop, List.length_take]; rfl)) ?_; (with_reducible refine (bits_Minus.calls a1 a0 t241 t242 _ A4.out).mono ?_); rintro e w7 ⟨rfl, hb⟩; refine ⟨_, rfl, ?_⟩; have n0_ := Aside0.mk (below_step (by repeat (first | (with_reducible first | exact HB.out | apply below_alloc | apply pw_below_drewN | apply below_drew1) | exact HB.out)) hb); clear HB; have HB := n0_; clear n0_; (try clear hb); (try clear hb2); (try clear hk); (try clear hi)) | ((with_reducible refine gate_callee (f := 19) rfl ?_); refine goesL_ (some 26) rfl rfl Tryd.func19 (by kernel_rfl) rfl #[.string t239, .string t241] rfl (by (try simp only [List.map_toArray, List.map_cons, List.map_nil]); first | done | rfl | (simp only [List.length_drop, List.length_take]; rfl)) ?_; (with_reducible refine (bits_Or.calls t239 t241 t243 t244 _ A5.out).mono ?_); rintro e w8 ⟨rfl, hb⟩; refine ⟨_, rfl, ?_⟩; have n0_ := Aside0.mk (below_step (by repeat (first | (with_reducible first | exact HB.out | apply below_alloc | apply pw_below_drewN | apply below_drew1) | exact HB.out)) hb); clear HB; have HB := n0_; clear n0_; (try clear hb); (try clear hb2); (try clear hk); (try clear hi)))
 go_ret
 exact ⟨by first | rfl | (simp [errW_none, errW_some] <;> rfl) | (simp [*, errW_none, errW_some] <;> rfl), by repeat (first | (with_reducible first | exact HB.out | apply below_alloc | apply pw_below_drewN | apply below_drew1) | exact HB.out)⟩

/-! ### runs_Patch: function 25 -/
def runs_Patch.j0 : Nat → Int → ByteArray → ByteArray → Bool → Option (ByteArray × Int)
 | 0, _, _, _, _ => none
 | k + 1, x0, x1, x2, x17 => if x17 = true then (some ((⟨#[]⟩ : ByteArray), 3)) else ((runs_either.f x1 x2).bind fun t247 => ((runs_Pack.f x0 t247).bind fun bt248 => (some (bt248.1, bt248.2))))
def runs_Patch.f (k : Nat) (a0 : Int) (a1 : ByteArray) (a2 : ByteArray) : Option (ByteArray × Int) := (bits_Check.f k a0 a1).bind fun t245 => (if t245 = true then ((bits_Check.f k a0 a2).bind fun t246 => (runs_Patch.j0 k a0 a1 a2 (!t246))) else (runs_Patch.j0 k a0 a1 a2 true))
theorem runs_Patch.mono_l : ∀ k, (∀ y0 y1 y2 y3, LeO (runs_Patch.j0 k y0 y1 y2 y3) (runs_Patch.j0 (k + 1) y0 y1 y2 y3))
 | 0 => fun _ _ _ _ r h => by simp [runs_Patch.j0] at h
 | k + 1 => by
  have ih0 := runs_Patch.mono_l k
  ·
   intro y0 y1 y2 y3
   unfold runs_Patch.j0
   repeat' first
   | (with_reducible exact ih0 _ _ _ _)
   | (with_reducible exact bits_Check.mono _ _ _)
   | (with_reducible exact LeO.refl _)
   | (with_reducible exact LeO.none _)
   | (with_reducible refine LeO.ite ?_ ?_)
   | (with_reducible refine LeO.bind ?_ (fun _ => ?_))
   | exact ih0 _ _ _ _
   | exact bits_Check.mono _ _ _
   | exact LeO.none _
   | refine LeO.ite ?_ ?_
   | refine LeO.bind ?_ (fun _ => ?_)
theorem runs_Patch.mono : ∀ a0 a1 a2 k, LeO (runs_Patch.f k a0 a1 a2) (runs_Patch.f (k + 1) a0 a1 a2) := by
 intro a0 a1 a2 k
 have ih0 := runs_Patch.mono_l k
 unfold runs_Patch.f
 repeat' first
   | (with_reducible exact ih0 _ _ _ _)
   | (with_reducible exact bits_Check.mono _ _ _)
   | (with_reducible exact LeO.refl _)
   | (with_reducible exact LeO.none _)
   | (with_reducible refine LeO.ite ?_ ?_)
   | (with_reducible refine LeO.bind ?_ (fun _ => ?_))
   | exact ih0 _ _ _ _
   | exact bits_Check.mono _ _ _
   | exact LeO.none _
   | refine LeO.ite ?_ ?_
   | refine LeO.bind ?_ (fun _ => ?_)
set_option maxHeartbeats 8000000 in
set_option maxRecDepth 100000 in
theorem runs_Patch.calls (k : Nat) (a0 : Int) (a1 : ByteArray) (a2 : ByteArray) (r1 : ByteArray) (r2 : Int) (w : World) (h : runs_Patch.f k a0 a1 a2 = some (r1, r2)) :
  Calls Tryd.prog 25 #[.int .i64 a0, .string a1, .string a2] w fun e w' => e = .returned (.tuple #[.string r1, .int .i64 r2]) ∧ Below w.heap.size w w' := by
 have HB := Aside0.mk (Below.refl w.heap.size w)
 have H : ((bits_Check.f k a0 a1).bind fun t245 => (if t245 = true then ((bits_Check.f k a0 a2).bind fun t246 => (runs_Patch.j0 k a0 a1 a2 (!t246))) else (runs_Patch.j0 k a0 a1 a2 true))) = some (r1, r2) := h
 clear h
 have HC4 := Aside0.mk H
 clear H
 go_enter Tryd.func25, Tryd.ntmps25
 go_upto_region 1 with (fail)
 go_cut [17] (fun v17 wc => ∃ (kq : Nat) (x17_3 : Bool), v17 = .bool x17_3 ∧ Aside0 (runs_Patch.j0 kq a0 a1 a2 x17_3 = some (r1, r2)) ∧ Aside0 (kq ≤ k) ∧ Aside0 (Below w.heap.size w wc))
 case first =>
  have H := HC4.out
  clear HC4
  replace H := Option.bind_eq_some_iff.mp H
  obtain ⟨t245, A50, H⟩ := H
  replace H : (if t245 = true then ((bits_Check.f k a0 a2).bind fun t246 => (runs_Patch.j0 k a0 a1 a2 (!t246))) else (runs_Patch.j0 k a0 a1 a2 true)) = some (r1, r2) := H
  have A5 := Aside0.mk A50
  clear A50
  by_cases c6 : t245 = true
  ·
   subst c6
   have H1 : ((bits_Check.f k a0 a2).bind fun t246 => (runs_Patch.j0 k a0 a1 a2 (!t246))) = some (r1, r2) := by rw [if_pos rfl] at H; exact H
   clear H
   have H := H1
   clear H1
   replace H := Option.bind_eq_some_iff.mp H
   obtain ⟨t246, A70, H⟩ := H
   replace H : (runs_Patch.j0 k a0 a1 a2 (!t246)) = some (r1, r2) := H
   have A7 := Aside0.mk A70
   clear A70
   have H' := Aside0.mk H
   clear H
   go_wp2_with (first | ((with_reducible refine gate_callee (f := 18) rfl ?_); refine goesL_ (some 10) rfl rfl Tryd.func18 (by kernel_rfl) rfl #[.int .i64 a0, .string a1] rfl (by (try simp only [List.map_toArray, List.map_cons, List.map_nil]); first | done | rfl | (simp only [List.length_drop, List.length_take]; rfl)) ?_; (with_reducible refine (bits_Check.calls k a0 a1 true _ A5.out).mono ?_); rintro e w' ⟨rfl, ⟨nd, rfl⟩⟩; refine ⟨_, rfl, ?_⟩) | (go_at_call 18; (with_reducible refine (bits_Check.calls k a0 a2 t246 _ A7.out).mono ?_); rintro e w' ⟨rfl, ⟨nd, rfl⟩⟩))
   go_meet
   case rel => exact ⟨_, (!t246), (by first | rfl | (simp; done) | (simp [*]; done)), H', ⟨by first | omega | exact Nat.le_refl _⟩, ⟨by repeat (first | (with_reducible first | exact HB.out | apply below_alloc | apply pw_below_drewN | apply below_drew1) | exact HB.out)⟩⟩
  ·
   replace c6 := Bool.eq_false_iff.mpr c6
   subst c6
   have H1 : (runs_Patch.j0 k a0 a1 a2 true) = some (r1, r2) := by rw [if_neg (show ¬ (false = true) by decide)] at H; exact H
   clear H
   have H := H1
   clear H1
   have H' := Aside0.mk H
   clear H
   go_wp2_with (first | ((with_reducible refine gate_callee (f := 18) rfl ?_); refine goesL_ (some 10) rfl rfl Tryd.func18 (by kernel_rfl) rfl #[.int .i64 a0, .string a1] rfl (by (try simp only [List.map_toArray, List.map_cons, List.map_nil]); first | done | rfl | (simp only [List.length_drop, List.length_take]; rfl)) ?_; (with_reducible refine (bits_Check.calls k a0 a1 false _ A5.out).mono ?_); rintro e w' ⟨rfl, ⟨nd, rfl⟩⟩; refine ⟨_, rfl, ?_⟩))
   go_meet
   case rel => exact ⟨_, (true), (by first | rfl | (simp; done) | (simp [*]; done)), H', ⟨by first | omega | exact Nat.le_refl _⟩, ⟨by repeat (first | (with_reducible first | exact HB.out | apply below_alloc | apply pw_below_drewN | apply below_drew1) | exact HB.out)⟩⟩
 case rest =>
  clear HC4
  try clear c1
  try clear c2
  try clear p2
  try clear c6
  obtain ⟨kq, x17_3, rfl, HA, HJ3, HB⟩ := hcut
  cases kq with
  | zero => exact absurd HA.out (by simp [runs_Patch.j0])
  | succ kj3 =>
   have H := HA.out
   clear HA
   simp only [runs_Patch.j0] at H
   by_cases c8 : x17_3 = true
   ·
    subst c8
    have H1 : (some ((⟨#[]⟩ : ByteArray), 3)) = some (r1, r2) := by rw [if_pos rfl] at H; exact H
    clear H
    have H := H1
    clear H1
    simp only [Option.some.injEq, Prod.mk.injEq] at H
    obtain ⟨rfl, rfl⟩ := H
    go_wp2
    go_ret2
    exact ⟨by first | rfl | (simp [errW_none, errW_some] <;> rfl) | (simp [*, errW_none, errW_some] <;> rfl), by repeat (first | (with_reducible first | exact HB.out | apply below_alloc | apply pw_below_drewN | apply below_drew1) | exact HB.out)⟩
   ·
    replace c8 := Bool.eq_false_iff.mpr c8
    subst c8
    have H1 : ((runs_either.f a1 a2).bind fun t247 => ((runs_Pack.f a0 t247).bind fun bt248 => (some (bt248.1, bt248.2)))) = some (r1, r2) := by rw [if_neg (show ¬ (false = true) by decide)] at H; exact H
    clear H
    have H := H1
    clear H1
    replace H := Option.bind_eq_some_iff.mp H
    obtain ⟨t247, A90, H⟩ := H
    replace H : ((runs_Pack.f a0 t247).bind fun bt248 => (some (bt248.1, bt248.2))) = some (r1, r2) := H
    have A9 := Aside0.mk A90
    clear A90
    replace H := Option.bind_eq_some_iff.mp H
    obtain ⟨⟨t248, t249⟩, A100, H⟩ := H
    replace H : (some (t248, t249)) = some (r1, r2) := H
    have A10 := Aside0.mk A100
    clear A100
    simp only [Option.some.injEq, Prod.mk.injEq] at H
    obtain ⟨rfl, rfl⟩ := H
    go_wp2_with (first | ((with_reducible refine gate_callee (f := 52) rfl ?_); refine goesL_ (some 21) rfl rfl Tryd.func52 (by kernel_rfl) rfl #[.string a1, .string a2] rfl (by (try simp only [List.map_toArray, List.map_cons, List.map_nil]); first | done | rfl | (simp only [List.length_drop, List.length_take]; rfl)) ?_; (with_reducible refine (runs_either.calls a1 a2 t247 _ A9.out).mono ?_); rintro e w11 ⟨rfl, hb⟩; refine ⟨_, rfl, ?_⟩; have n0_ := Aside0.mk (below_step (by repeat (first | (with_reducible first | exact HB.out | apply below_alloc | apply pw_below_drewN | apply below_drew1) | exact HB.out)) hb); clear HB; have HB := n0_; clear n0_; (try clear hb); (try clear hb2); (try clear hk); (try clear hi)) | ((with_reducible refine gate_callee (f := 21) rfl ?_); refine goesL_ (some 22) rfl rfl Tryd.func21 (by kernel_rfl) rfl #[.int .i64 a0, .string t247] rfl (by (try simp only [List.map_toArray, List.map_cons, List.map_nil]); first | done | rfl | (simp only [List.length_drop, List.length_take]; rfl)) ?_; (with_reducible refine (runs_Pack.calls a0 t247 t248 t249 _ A10.out).mono ?_); rintro e w12 ⟨rfl, hb⟩; refine ⟨_, rfl, ?_⟩; have n0_ := Aside0.mk (below_step (by repeat (first | (with_reducible first | exact HB.out | apply below_alloc | apply pw_below_drewN | apply below_drew1) | exact HB.out)) hb); clear HB; have HB := n0_; clear n0_; (try clear hb); (try clear hb2); (try clear hk); (try clear hi)))
    go_ret2
    exact ⟨by first | rfl | (simp [errW_none, errW_some] <;> rfl) | (simp [*, errW_none, errW_some] <;> rfl), by repeat (first | (with_reducible first | exact HB.out | apply below_alloc | apply pw_below_drewN | apply below_drew1) | exact HB.out)⟩

end Go.Proofs.YtbbncdbihiipcaaDoor.P
