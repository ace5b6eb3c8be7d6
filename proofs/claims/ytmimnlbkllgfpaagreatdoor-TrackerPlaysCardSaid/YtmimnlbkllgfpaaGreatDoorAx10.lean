-- Written for this claim by the session's own turn of the kit's print program (wip/tools/xprint.py).
import Derived.Test.YtmimnlbkllgfpaaGreatDoorSg
import Derived.Test.YtmimnlbkllgfpaaGreatDoorAx0
import Derived.Test.YtmimnlbkllgfpaaGreatDoorAx5
import Derived.Test.YtmimnlbkllgfpaaGreatDoorAx6
import Derived.Test.YtmimnlbkllgfpaaGreatDoorAx7
import Derived.Test.YtmimnlbkllgfpaaGreatDoorAx8
namespace Go.Proofs.YtmimnlbkllgfpaaGreatDoor.A
open Go.RowKit Go.Proofs.YtmimnlbkllgfpaaGreatDoor.Sg Go.Proofs.YtmimnlbkllgfpaaGreatDoor.Fl Go.Proofs.YtmimnlbkllgfpaaGreatDoor.Sq Go.Proofs.YtmimnlbkllgfpaaGreatDoor.Hand Go.Proofs.YtmimnlbkllgfpaaGreatDoorW.PrintWords Go.Proofs.YtmimnlbkllgfpaaGreatDoorW.PrintLast Go.Proofs.YtmimnlbkllgfpaaGreatDoorW.PrintMore
attribute [local go_sem] max2_int min2_int max_two min_two max_three min_three max_four min_four   -- for this text's walks alone
set_option linter.unusedVariables false
set_option linter.unusedSimpArgs false

/-! ### mosaicref31_Table_Find: function 14 -/
mutual
def mosaicref31_Table_Find.j0 : Nat → ByteArray → Int → Int → Bool → Int → List (S42) → Int → Int → Option (List Int × Int)
 | 0, _, _, _, _, _, _, _, _ => none
 | k + 1, x1, x3, x4, x30, x210000, x210001, x211000, x211001 => if x30 = true then (some (([] : List Int), 1)) else ((mosaicref31_Table_Nodes.f k x210000 x210001 x1 x4).bind fun t213 => (if (t213.length : Int) = 0 then (some (([] : List Int), 4)) else (mosaicref31_Table_Find.l0 k x3 t213 ([] : List (S40)) 0 x211000 x211001)))
def mosaicref31_Table_Find.l0 : Nat → Int → List (S42) → List (S40) → Int → Int → Int → Option (List Int × Int)
 | 0, _, _, _, _, _, _ => none
 | k + 1, x3, x12, x13, x14, x211000, x211001 => if x14 < (x12.length : Int) then (if 0 ≤ x14 then (if x13.length < 8796093022208 then (mosaicref31_Table_Find.l0 k x3 x12 (x13 ++ [(⟨(rd_T42 x12 x14).f2.f0, (rd_T42 x12 x14).f2.f1⟩ : S40)]) (wrap64 (x14 + 1)) x211000 x211001) else (none)) else (none)) else ((mosaicref17_Near.f k x211000 x211001 x13).bind fun bt220 => (mosaicref31_Table_Find.l1 k x3 x12 bt220.1 ([] : List Int) 0))
def mosaicref31_Table_Find.l1 : Nat → Int → List (S42) → List Int → List Int → Int → Option (List Int × Int)
 | 0, _, _, _, _, _ => none
 | k + 1, x3, x12, x15, x17, x18 => if x18 < (x15.length : Int) then (if x18 < x3 then (if 0 ≤ x18 then (if 0 ≤ (rd x15 x18) then (if (rd x15 x18) < (x12.length : Int) then (if x17.length < 17592186044416 then (mosaicref31_Table_Find.l1 k x3 x12 x15 (x17 ++ [(rd_T42 x12 (rd x15 x18)).f1]) (wrap64 (x18 + 1))) else (none)) else (none)) else (none)) else (none)) else (some (x17, 0))) else (some (x17, 0))
end
def mosaicref31_Table_Find.f (k : Nat) (a0_0 : Int) (l0_1 : List (S42)) (a1 : ByteArray) (a2_0 : Int) (a2_1 : Int) (a3 : Int) (a4 : Int) : Option (List Int × Int) := (mosaicref18_Tick.f a4).bind fun t211 => (if t211 = true then ((mosaicref17_Check.f a2_0 a2_1).bind fun t212 => (if t212 = true then (mosaicref31_Table_Find.j0 k a1 a3 a4 (decide (a3 < 0)) a0_0 l0_1 a2_0 a2_1) else (mosaicref31_Table_Find.j0 k a1 a3 a4 true a0_0 l0_1 a2_0 a2_1))) else (mosaicref31_Table_Find.j0 k a1 a3 a4 true a0_0 l0_1 a2_0 a2_1))
namespace BAx10
theorem b0 {p : Prop} (h : p := by repeat (first | (with_reducible first | exact HB.out | apply below_alloc | apply pw_below_drewN | apply below_drew1 | refine below_set ?_ GE209.out | refine below_set ?_ GE210.out) | exact HB.out)) : p := h
theorem b1 {p : Prop} (h : p := by (try simp only [List.map_toArray, List.map_cons, List.map_nil]); first | done | rfl | (simp only [List.length_drop, List.length_take]; rfl)) : p := h
theorem b2 {p : Prop} (h : p := by (with_reducible repeat (first | refine blk_drewN ?_ _ | refine blk_drew ?_ | refine blk_alloc ?_ _)); exact BK209.out) : p := h
theorem b3 {p : Prop} (h : p := by (with_reducible repeat (first | refine blk_drewN ?_ _ | refine blk_drew ?_ | refine blk_alloc ?_ _)); exact BK210.out) : p := h
theorem b4 {p : Prop} (h : p := by (with_reducible repeat (first | apply Kd.R_alloc | apply Kd.R_drewN | apply Kd.R_drew)); exact HO_12.out) : p := h
theorem b5 {p : Prop} (h : p := by first | exact Kd.R_nil _ _ _ _ _ | exact Kd.N_nil _ _ _ _ _ | exact Kd.V_nil _ _ _ _ _ | exact Kd.Q_nil _ _ _ _ _ | exact Kd.S_nil _ _ _ _ _) : p := h
theorem b6 {p : Prop} (h : p := by first | rfl | (simp; done) | (simp [*]; done)) : p := h
theorem b7 {p : Prop} (h : p := by first | (with_reducible assumption) | assumption) : p := h
theorem b8 {p : Prop} (h : p := by first | rfl | (simp [errW_none, errW_some] <;> rfl) | (simp [*, errW_none, errW_some] <;> rfl)) : p := h
theorem b9 {p : Prop} (h : p := by (with_reducible repeat (first | apply Kd.R_alloc | apply Kd.R_drewN | apply Kd.R_drew)); exact HO_13.out) : p := h
theorem b10 {p : Prop} (h : p := by repeat (first | exact Drawn0.refl _ | apply Drawn0.step)) : p := h
end BAx10
open BAx10
set_option maxHeartbeats 8000000 in
set_option maxRecDepth 100000 in
theorem mosaicref31_Table_Find.calls (k : Nat) (a0_0 : Int) (A0_1 : Option Addr) (c0_1 : Nat) (l0_1 : List (S42)) (a1 : ByteArray) (a2_0 : Int) (a2_1 : Int) (a3 : Int) (a4 : Int) (r1 : List Int) (r2 : Int) (w : World) (hr0_1 : Kd.C k42 w A0_1 l0_1.length l0_1) (hc0_1 : l0_1.length ≤ c0_1) (h : mosaicref31_Table_Find.f k a0_0 l0_1 a1 a2_0 a2_1 a3 a4 = some (r1, r2)) :
  Calls Tryz.prog 14 #[.agg #[.int .i64 a0_0, .slice A0_1 l0_1.length c0_1], .string a1, .agg #[.int .i64 a2_0, .int .i64 a2_1], .int .i64 a3, .int .i64 a4] w fun e w' => ∃ v0_ : Value, e = .returned (.tuple #[v0_, .int .i64 r2]) ∧ Kd.R (Kd.int .i64) 3 w' w.heap.size (fun _ => True) v0_ r1 ∧ Below w.heap.size w w' := by
 have hu33 := Tryz.underlying33
 have hu40 := Tryz.underlying40
 have HR0_1 := Aside0.mk hr0_1
 have HC0_1 := Aside0.mk hc0_1
 clear hr0_1 hc0_1
 have HB := Aside0.mk (Below.refl w.heap.size w)
 have H : ((mosaicref18_Tick.f a4).bind fun t211 => (if t211 = true then ((mosaicref17_Check.f a2_0 a2_1).bind fun t212 => (if t212 = true then (mosaicref31_Table_Find.j0 k a1 a3 a4 (decide (a3 < 0)) a0_0 l0_1 a2_0 a2_1) else (mosaicref31_Table_Find.j0 k a1 a3 a4 true a0_0 l0_1 a2_0 a2_1))) else (mosaicref31_Table_Find.j0 k a1 a3 a4 true a0_0 l0_1 a2_0 a2_1))) = some (r1, r2) := h
 clear h
 have HC6 := Aside0.mk H
 clear H
 go_enter Tryz.func14, Tryz.ntmps14
 go_upto_region 1 with (first | ((with_reducible refine gate_dst (N := 5) rfl ?_); refine box_event ?hg (N := 5) ?hd (cs := #[.int .i64 a0_0, .slice A0_1 l0_1.length c0_1]) (t := 33) ?hr ?_; (case hd => rfl); (case hg => rfl); (case hr => first | (go_simp; done) | (go_simp; rfl)); intro gb209 hg w7 hbox hb; have BK209 := Aside0.mk (hbox); have GW209 := hG HB hg; have GE209 := hG HB hg; replace HB := hS HB hb; clear hb hbox hg) | ((with_reducible refine gate_dst (N := 7) rfl ?_); refine box_event ?hg (N := 7) ?hd (cs := #[.int .i64 a2_0, .int .i64 a2_1]) (t := 40) ?hr ?_; (case hd => rfl); (case hg => rfl); (case hr => first | (go_simp; done) | (go_simp; rfl)); intro gb210 hg w8 hbox hb; have BK210 := Aside0.mk (hbox); have GW210 := hG HB hg; have GE210 := hG HB hg; replace HB := hS HB hb; have NB209_210 := bNl BK209 hg; have NB210_209 := bNg BK209 hg; replace BK209 := bB BK209 hb; clear hb hbox hg))
 (try simp only [Act.put, List.setIfInBounds_toArray, List.set_cons_zero, List.set_cons_succ])
 go_cut [30] (fun v30 wc => ∃ (kq : Nat) (x30_5 : Bool), v30 = .bool x30_5 ∧ Aside0 (mosaicref31_Table_Find.j0 kq a1 a3 a4 x30_5 a0_0 l0_1 a2_0 a2_1 = some (r1, r2)) ∧ Aside0 (kq ≤ k) ∧ Aside0 (wc.heap[gb209]? = some (.cells #[.int .i64 a0_0, (.slice A0_1 l0_1.length c0_1)] 33 (0, 0))) ∧ Aside0 (wc.heap[gb210]? = some (.cells #[.int .i64 a2_0, .int .i64 a2_1] 40 (0, 0))) ∧ Aside0 (Below w.heap.size w wc))
 case first =>
  have H := HC6.out
  clear HC6
  replace H := Option.bind_eq_some_iff.mp H
  obtain ⟨t211, A90, H⟩ := H
  have A9 := Aside0.mk A90
  clear A90
  by_cases c10 : t211 = true
  ·
   subst c10
   rw [if_pos rfl] at H
   replace H := Option.bind_eq_some_iff.mp H
   obtain ⟨t212, A110, H⟩ := H
   have A11 := Aside0.mk A110
   clear A110
   by_cases c12 : t212 = true
   ·
    subst c12
    rw [if_pos rfl] at H
    have H' := Aside0.mk H
    clear H
    go_wp2_with (first | ((with_reducible refine gate_callee (f := 29) rfl ?_); refine goesL_ (some 20) rfl rfl Tryz.func29 (by kernel_rfl) rfl #[.int .i64 a4] rfl b1 ?_; (with_reducible refine (mosaicref18_Tick.calls a4 true _ A9.out).mono ?_); rintro e w' ⟨rfl, ⟨nd, rfl⟩⟩; refine ⟨_, rfl, ?_⟩; have hnb13 := NB210_209.out; have hnc13 := NB209_210.out; have ⟨_, _, _, _⟩ := cc2 BK210) | (go_at_call 31; (with_reducible refine (mosaicref17_Check.calls a2_0 a2_1 true _ A11.out).mono ?_); rintro e w15 ⟨rfl, hb⟩; replace BK209 := bB BK209 hb; replace BK210 := bB BK210 hb; replace HB := Aside0.mk (below_step b0 hb); (try clear hb); (try clear hb2); (try clear hk); (try clear hi)))
    go_meet
    case rel => exact ⟨_, (decide (a3 < 0)), b6, H', ⟨by first | omega | exact Nat.le_refl _⟩, ⟨b2⟩, ⟨b3⟩, ⟨b0⟩⟩
   ·
    replace c12 := Bool.eq_false_iff.mpr c12
    subst c12
    rw [if_neg (show ¬ (false = true) by decide)] at H
    have H' := Aside0.mk H
    clear H
    go_wp2_with (first | ((with_reducible refine gate_callee (f := 29) rfl ?_); refine goesL_ (some 20) rfl rfl Tryz.func29 (by kernel_rfl) rfl #[.int .i64 a4] rfl b1 ?_; (with_reducible refine (mosaicref18_Tick.calls a4 true _ A9.out).mono ?_); rintro e w' ⟨rfl, ⟨nd, rfl⟩⟩; refine ⟨_, rfl, ?_⟩; have hnb16 := NB210_209.out; have hnc16 := NB209_210.out; have ⟨_, _, _, _⟩ := cc2 BK210) | (go_at_call 31; (with_reducible refine (mosaicref17_Check.calls a2_0 a2_1 false _ A11.out).mono ?_); rintro e w18 ⟨rfl, hb⟩; replace BK209 := bB BK209 hb; replace BK210 := bB BK210 hb; replace HB := Aside0.mk (below_step b0 hb); (try clear hb); (try clear hb2); (try clear hk); (try clear hi)))
    go_meet
    case rel => exact ⟨_, (true), b6, H', ⟨by first | omega | exact Nat.le_refl _⟩, ⟨b2⟩, ⟨b3⟩, ⟨b0⟩⟩
  ·
   replace c10 := Bool.eq_false_iff.mpr c10
   subst c10
   rw [if_neg (show ¬ (false = true) by decide)] at H
   have H' := Aside0.mk H
   clear H
   go_wp2_with (first | ((with_reducible refine gate_callee (f := 29) rfl ?_); refine goesL_ (some 20) rfl rfl Tryz.func29 (by kernel_rfl) rfl #[.int .i64 a4] rfl b1 ?_; (with_reducible refine (mosaicref18_Tick.calls a4 false _ A9.out).mono ?_); rintro e w' ⟨rfl, ⟨nd, rfl⟩⟩; refine ⟨_, rfl, ?_⟩))
   go_meet
   case rel => exact ⟨_, (true), b6, H', ⟨by first | omega | exact Nat.le_refl _⟩, ⟨b2⟩, ⟨b3⟩, ⟨b0⟩⟩
 case rest =>
  clear HC6
  obtain ⟨kq, x30_5, rfl, HA, HJ5, BK209, BK210, HB⟩ := hcut
  cases kq with
  | zero => exact absurd HA.out (by simp [mosaicref31_Table_Find.j0])
  | succ kj5 =>
   have H := HA.out
   clear HA
   simp only [mosaicref31_Table_Find.j0] at H
   by_cases c19 : x30_5 = true
   ·
    subst c19
    rw [if_pos rfl] at H
    simp only [Option.some.injEq, Prod.mk.injEq] at H
    obtain ⟨rfl, rfl⟩ := H
    go_wp2
    go_ret2
    exact ⟨_, b8, b5, b0⟩
   ·
    replace c19 := Bool.eq_false_iff.mpr c19
    subst c19
    rw [if_neg (show ¬ (false = true) by decide)] at H
    replace H := Option.bind_eq_some_iff.mp H
    obtain ⟨t213, A200, H⟩ := H
    have A20 := Aside0.mk A200
    clear A200
    by_cases c21 : (t213.length : Int) = 0
    ·
     rw [if_pos c21] at H
     have c21b0 := beq_iff_eq.mpr c21
     have c21b1 := bne_eq_false_iff_eq.mpr c21
     clear c21
     simp only [Option.some.injEq, Prod.mk.injEq] at H
     obtain ⟨rfl, rfl⟩ := H
     have hnb22 := NB209_210.out
     have hnc22 := NB210_209.out
     have ⟨_, _, _, _⟩ := cc2 BK209
     go_wp2_with (first | ((with_reducible refine gate_callee (f := 21) rfl ?_); refine goesL_ (some 34) rfl rfl Tryz.func21 (by kernel_rfl) rfl #[.agg #[.int .i64 a0_0, .slice A0_1 l0_1.length c0_1], .string a1, .int .i64 a4] rfl b1 ?_; (with_reducible refine (mosaicref31_Table_Nodes.calls kj5 a0_0 _ _ l0_1 a1 a4 t213 _ ?side1 ?side2 A20.out).mono ?_); (case side1 => repeat (first | exact (Kd.C_below HR0_1.out HB.out) | (with_reducible refine Kd.C_alloc ?_ _) | (with_reducible refine Kd.C_drewN ?_ _) | (with_reducible refine Kd.C_drew ?_))); (case side2 => exact HC0_1.out); rintro e w24 ⟨v214, rfl, ho0, hb⟩; refine ⟨_, rfl, ?_⟩; have HO215 := Aside0.mk (Kd.R_lower ho0 (below_size b0)); replace BK209 := bB BK209 hb; replace BK210 := bB BK210 hb; replace HB := Aside0.mk (below_step b0 hb); (try clear hb); (try clear hb2); (try clear hk); (try clear hi); (try clear ho0); obtain ⟨Ao25, co25, eo25⟩ := Kd.R_slice HO215.out; subst eo25))
     go_ret2
     exact ⟨_, b8, b5, b0⟩
    ·
     rw [if_neg c21] at H
     have c21b0 := beq_eq_false_iff_ne.mpr c21
     have c21b1 := bne_iff_ne.mpr c21
     have c21b2 : ¬ (t213 = []) := fun h_ => c21 (by rw [h_]; rfl)
     have H' := Aside0.mk H
     clear H
     have hnb26 := NB209_210.out
     have hnc26 := NB210_209.out
     have ⟨_, _, _, _⟩ := cc2 BK209
     go_wp2_with (first | ((with_reducible refine gate_callee (f := 21) rfl ?_); refine goesL_ (some 34) rfl rfl Tryz.func21 (by kernel_rfl) rfl #[.agg #[.int .i64 a0_0, .slice A0_1 l0_1.length c0_1], .string a1, .int .i64 a4] rfl b1 ?_; (with_reducible refine (mosaicref31_Table_Nodes.calls kj5 a0_0 _ _ l0_1 a1 a4 t213 _ ?side1 ?side2 A20.out).mono ?_); (case side1 => repeat (first | exact (Kd.C_below HR0_1.out HB.out) | (with_reducible refine Kd.C_alloc ?_ _) | (with_reducible refine Kd.C_drewN ?_ _) | (with_reducible refine Kd.C_drew ?_))); (case side2 => exact HC0_1.out); rintro e w28 ⟨v214, rfl, ho0, hb⟩; refine ⟨_, rfl, ?_⟩; have HO215 := Aside0.mk (Kd.R_lower ho0 (below_size b0)); replace BK209 := bB BK209 hb; replace BK210 := bB BK210 hb; replace HB := Aside0.mk (below_step b0 hb); (try clear hb); (try clear hb2); (try clear hk); (try clear hi); (try clear ho0); obtain ⟨Ao29, co29, eo29⟩ := Kd.R_slice HO215.out; subst eo29))
     go_loopg [13, 14] kj5 (fun kq v13 v14 w' => ∃ (x13_2 : List (S40)) (x14_2 : Int), v14 = .int .i64 x14_2 ∧ Aside0 (mosaicref31_Table_Find.l0 kq a3 t213 x13_2 x14_2 a2_0 a2_1 = some (r1, r2)) ∧ Aside0 (kq ≤ kj5) ∧ Aside0 (Kd.R k42 42 w' w.heap.size (fun _ => True) (.slice Ao29 t213.length co29) t213) ∧ Aside0 (Kd.R k40 40 w' w.heap.size (fun k_ => k_ ≠ gb210) v13 x13_2) ∧ Aside0 (w'.heap[gb209]? = some (.cells #[.int .i64 a0_0, (.slice A0_1 l0_1.length c0_1)] 33 (0, 0))) ∧ Aside0 (w'.heap[gb210]? = some (.cells #[.int .i64 a2_0, .int .i64 a2_1] 40 (0, 0))) ∧ Aside0 (Below w.heap.size w w'))
     case atStart => exact ⟨(([] : List (S40))), (0), b6, H', ⟨Nat.le_refl _⟩, ⟨by (with_reducible repeat (first | apply Kd.R_alloc | apply Kd.R_drewN | apply Kd.R_drew)); exact HO215.out⟩, ⟨b5⟩, ⟨b2⟩, ⟨b3⟩, ⟨b0⟩⟩
     case round =>
      clear H'
      try clear c19
      try clear c21
      try clear c21b0
      try clear c21b1
      try clear c21b2
      try clear hcz27_0
      try clear hcz27_1
      try clear hfz27_0
      try clear hfz27_1
      obtain ⟨x13_2, x14_2, rfl, HA, HK2, HO_12, HO_13, BK209, BK210, HB⟩ := hrel
      cases gk with
      | zero => exact absurd HA.out (by simp [mosaicref31_Table_Find.l0])
      | succ k2 =>
       have H := HA.out
       clear HA
       simp only [mosaicref31_Table_Find.l0] at H
       by_cases c30 : x14_2 < (t213.length : Int)
       ·
        rw [if_pos c30] at H
        have c30b0 := decide_eq_true c30
        clear c30
        by_cases c31 : 0 ≤ x14_2
        rotate_left; · rw [if_neg c31] at H; exact absurd H (by simp)
        rw [if_pos c31] at H
        have c31b0 := decide_eq_true c31
        clear c31
        by_cases c32 : x13_2.length < 8796093022208
        rotate_left; · rw [if_neg c32] at H; exact absurd H (by simp)
        rw [if_pos c32] at H
        have LMc32 := Aside0.mk c32
        clear c32
        obtain ⟨y217, hy217⟩ : ∃ y_ : List (S40), y_ = (x13_2 ++ [(⟨(rd_T42 t213 x14_2).f2.f0, (rd_T42 t213 x14_2).f2.f1⟩ : S40)]) := ⟨_, rfl⟩
        replace H : (mosaicref31_Table_Find.l0 k2 a3 t213 y217 (wrap64 (x14_2 + 1)) a2_0 a2_1) = some (r1, r2) := by first | (rw [hy217]; with_reducible exact H) | (have H2_ := (Option.bind_some _ _).symm.trans H; rw [hy217]; with_reducible exact H2_) | (have H2_ := (Option.bind_some _ _).symm.trans H; with_reducible exact H2_) | with_reducible exact H | (rw [hy217]; exact H) | exact H
        have Ny217 := Aside0.mk hy217
        clear hy217
        have H' := Aside0.mk H
        clear H
        have p216 : 0 ≤ (x14_2 : Int) := of_decide_eq_true b7
        have q216 : x14_2 < (t213.length : Int) := of_decide_eq_true b7
        obtain ⟨ad216, e216, hx216_0, hx216_1, hx216_2, hx216_3, hx216_4⟩ := at_T42 (Kd.R_reads' HO_12.out).2.2 x14_2 p216 q216
        cases e216
        replace p216 := eq_true p216
        replace q216 := eq_true q216
        go_wp2_with (first | ((with_reducible refine gate_builtin (b := .append) (xs := #[.tmp 44, .tmp 50]) rfl ?_); at_builtin; refine Kd.R_append k40 (w0 := w) w.heap.size rfl (.tmp 44) (.tmp 50) 90 40 (.agg #[(.int .i64 0), (.int .i64 0)]) 16 rfl Tryz.underlying90 info40 rfl (by decide) (by omega) u13 x13_2 (⟨(rd_T42 t213 x14_2).f2.f0, (rd_T42 t213 x14_2).f2.f1⟩ : S40) [.int .i64 ((rd_T42 t213 x14_2).f2.f0), .int .i64 ((rd_T42 t213 x14_2).f2.f1)] (fun k_ => k_ ≠ gb210) (fun _ => False) rfl rfl ?aP (fun _ hk => hk.elim) ?aF ?aO ?aB ?aS ?aL ?_; (case aP => exact k40_mkM _ _ _ (⟨(rd_T42 t213 x14_2).f2.f0, (rd_T42 t213 x14_2).f2.f1⟩ : S40)); (case aB => exact b0); (case aF => exact (fun k_ hk => Kd.freshB (g := gb210) (o := .cells #[.int .i64 a2_0, .int .i64 a2_1] 40 (0, 0)) (by exact bS BK210) k_ hk)); (case aO => exact b9); (case aS => exact (below_size b0)); (case aL => have := LMc32.out; omega); intro v218 w33 ho hb hg hat; rw [← Ny217.out] at ho; replace HO_12 := Aside0.mk (Kd.R_over' b4 (Kd.R_typed b9) (by decide) hg); replace BK209 := Aside0.mk (blk_grown (g := gb209) (o := .cells #[.int .i64 a0_0, .slice A0_1 l0_1.length c0_1] 33 (0, 0)) (by exact bS BK209) hg (Kd.R_ne HO_13.out BK209.out (by decide))); replace BK210 := Aside0.mk (blk_grown (g := gb210) (o := .cells #[.int .i64 a2_0, .int .i64 a2_1] 40 (0, 0)) (by exact bS BK210) hg (Kd.R_away HO_13.out (fun _ hk => hk))); replace HB := Aside0.mk (hb); have HO219 := Aside0.mk (ho); clear HO_13; clear ho hb hg hat))
        go_roundg k2
        case measure => have := HJ5.out; have := HK2.out; omega
        case rel => exact ⟨(y217), (wrap64 (x14_2 + 1)), b6, H', ⟨by have := HJ5.out; have := HK2.out; omega⟩, ⟨b4⟩, ⟨by (with_reducible repeat (first | apply Kd.R_alloc | apply Kd.R_drewN | apply Kd.R_drew)); exact HO219.out⟩, ⟨b2⟩, ⟨b3⟩, ⟨b0⟩⟩
       ·
        rw [if_neg c30] at H
        have c30b0 := decide_eq_false c30
        clear c30
        replace H := Option.bind_eq_some_iff.mp H
        obtain ⟨⟨t220, t223⟩, A340, H⟩ := H
        have A34 := Aside0.mk A340
        clear A340
        have H' := Aside0.mk H
        clear H
        have hnb35 := NB210_209.out
        have hnc35 := NB209_210.out
        have ⟨_, _, _, _⟩ := cc2 BK210
        obtain ⟨Ao37, co37, eo37⟩ := Kd.R_slice HO_13.out
        subst eo37
        go_wp2_with (first | ((with_reducible refine gate_callee (f := 39) rfl ?_); refine goesL_ (some 55) rfl rfl Tryz.func39 (by kernel_rfl) rfl #[.agg #[.int .i64 a2_0, .int .i64 a2_1], .slice Ao37 x13_2.length co37] rfl b1 ?_; (with_reducible refine (mosaicref17_Near.calls k2 a2_0 a2_1 _ _ x13_2 t220 t223 _ ?side1 ?side2 A34.out).mono ?_); (case side1 => repeat (first | exact (Kd.R_reads' HO_13.out).2.2 | (with_reducible refine Kd.C_alloc ?_ _) | (with_reducible refine Kd.C_drewN ?_ _) | (with_reducible refine Kd.C_drew ?_))); (case side2 => exact (Kd.R_reads' HO_13.out).2.1); rintro e w38 ⟨v221, rfl, ho0, hb⟩; refine ⟨_, rfl, ?_⟩; replace HO_12 := Aside0.mk (Kd.R_below b4 hb); replace HO_13 := Aside0.mk (Kd.R_below b9 hb); have HO222 := Aside0.mk (Kd.R_lower ho0 (below_size b0)); replace BK209 := bB BK209 hb; replace BK210 := bB BK210 hb; replace HB := Aside0.mk (below_step b0 hb); (try clear hb); (try clear hb2); (try clear hk); (try clear hi); (try clear ho0)))
        go_loopg [17, 18] k2 (fun kq v17 v18 w' => ∃ (x17_3 : List Int) (x18_3 : Int), v18 = .int .i64 x18_3 ∧ Aside0 (mosaicref31_Table_Find.l1 kq a3 t213 t220 x17_3 x18_3 = some (r1, r2)) ∧ Aside0 (kq ≤ k2) ∧ Aside0 (Kd.R k42 42 w' w.heap.size (fun _ => True) (.slice Ao29 t213.length co29) t213) ∧ Aside0 (Kd.R (Kd.int .i64) 3 w' w.heap.size (fun k_ => some k_ ≠ (v17 : Value).ownBlock) v221 t220) ∧ Aside0 (Kd.R (Kd.int .i64) 3 w' w.heap.size (fun k_ => some k_ ≠ (v221 : Value).ownBlock) v17 x17_3) ∧ Aside0 (w'.heap[gb209]? = some (.cells #[.int .i64 a0_0, (.slice A0_1 l0_1.length c0_1)] 33 (0, 0))) ∧ Aside0 (w'.heap[gb210]? = some (.cells #[.int .i64 a2_0, .int .i64 a2_1] 40 (0, 0))) ∧ Aside0 (Below w.heap.size w w'))
        case atStart => exact ⟨(([] : List Int)), (0), b6, H', ⟨Nat.le_refl _⟩, ⟨b4⟩, ⟨by (with_reducible repeat (first | apply Kd.R_alloc | apply Kd.R_drewN | apply Kd.R_drew)); exact Kd.R_mono HO222.out (fun _ hk => (by simp [Value.ownBlock]))⟩, ⟨b5⟩, ⟨b2⟩, ⟨b3⟩, ⟨b0⟩⟩
        case round =>
         clear H'
         try clear c19
         try clear c21
         try clear c21b0
         try clear c21b1
         try clear c21b2
         try clear c30
         try clear c30b0
         try clear hcz27_0
         try clear hcz27_1
         try clear hcz36_0
         try clear hcz36_1
         try clear hfz27_0
         try clear hfz27_1
         try clear hfz36_0
         try clear hfz36_1
         obtain ⟨x17_3, x18_3, rfl, HA, HK3, HO_12, HO_15, HO_17, BK209, BK210, HB⟩ := hrel
         cases gk with
         | zero => exact absurd HA.out (by simp [mosaicref31_Table_Find.l1])
         | succ k3 =>
          have H := HA.out
          clear HA
          simp only [mosaicref31_Table_Find.l1] at H
          by_cases c39 : x18_3 < (t220.length : Int)
          ·
           rw [if_pos c39] at H
           have c39b0 := decide_eq_true c39
           clear c39
           by_cases c40 : x18_3 < a3
           ·
            rw [if_pos c40] at H
            have c40b0 := decide_eq_true c40
            clear c40
            by_cases c41 : 0 ≤ x18_3
            rotate_left; · rw [if_neg c41] at H; exact absurd H (by simp)
            rw [if_pos c41] at H
            have c41b0 := decide_eq_true c41
            clear c41
            by_cases c42 : 0 ≤ (rd t220 x18_3)
            rotate_left; · rw [if_neg c42] at H; exact absurd H (by simp)
            rw [if_pos c42] at H
            have c42b0 := decide_eq_true c42
            clear c42
            by_cases c43 : (rd t220 x18_3) < (t213.length : Int)
            rotate_left; · rw [if_neg c43] at H; exact absurd H (by simp)
            rw [if_pos c43] at H
            have c43b0 := decide_eq_true c43
            clear c43
            by_cases c44 : x17_3.length < 17592186044416
            rotate_left; · rw [if_neg c44] at H; exact absurd H (by simp)
            rw [if_pos c44] at H
            have LMc44 := Aside0.mk c44
            clear c44
            obtain ⟨y226, hy226⟩ : ∃ y_ : List Int, y_ = (x17_3 ++ [(rd_T42 t213 (rd t220 x18_3)).f1]) := ⟨_, rfl⟩
            replace H : (mosaicref31_Table_Find.l1 k3 a3 t213 t220 y226 (wrap64 (x18_3 + 1))) = some (r1, r2) := by first | (rw [hy226]; with_reducible exact H) | (have H2_ := (Option.bind_some _ _).symm.trans H; rw [hy226]; with_reducible exact H2_) | (have H2_ := (Option.bind_some _ _).symm.trans H; with_reducible exact H2_) | with_reducible exact H | (rw [hy226]; exact H) | exact H
            have Ny226 := Aside0.mk hy226
            clear hy226
            have H' := Aside0.mk H
            clear H
            obtain ⟨Ao45, co45, eo45⟩ := Kd.R_slice HO_15.out
            subst eo45
            have p224 : 0 ≤ (x18_3 : Int) := of_decide_eq_true b7
            have q224 : x18_3 < (t220.length : Int) := of_decide_eq_true b7
            obtain ⟨ad224, e224, hx224_0⟩ := Kd.at_int (Kd.R_reads' HO_15.out).2.2 x18_3 p224 q224
            cases e224
            replace p224 := eq_true p224
            replace q224 := eq_true q224
            have p225 : 0 ≤ ((rd t220 x18_3) : Int) := of_decide_eq_true b7
            have q225 : (rd t220 x18_3) < (t213.length : Int) := of_decide_eq_true b7
            obtain ⟨ad225, e225, hx225_0, hx225_1, hx225_2, hx225_3, hx225_4⟩ := at_T42 (Kd.R_reads' HO_12.out).2.2 (rd t220 x18_3) p225 q225
            cases e225
            replace p225 := eq_true p225
            replace q225 := eq_true q225
            go_wp2_with (first | ((with_reducible refine gate_builtin (b := .append) (xs := #[.tmp 69, .tmp 78]) rfl ?_); at_builtin; refine Kd.R_append (Kd.int .i64) (w0 := w) w.heap.size rfl (.tmp 69) (.tmp 78) 48 3 (.int .i64 0) 8 rfl Tryz.underlying48 info3 rfl (by decide) (by omega) u17 x17_3 ((rd_T42 t213 (rd t220 x18_3)).f1) [.int .i64 ((rd_T42 t213 (rd t220 x18_3)).f1)] (fun k_ => some k_ ≠ (.slice (some ad224) t220.length co45 : Value).ownBlock) (fun _ => False) rfl rfl ?aP (fun _ hk => hk.elim) ?aF ?aO ?aB ?aS ?aL ?_; (case aP => exact rfl); (case aB => exact b0); (case aF => exact (fun k_ hk => Kd.fresh' (Kd.R_lt (by (with_reducible repeat (first | apply Kd.R_alloc | apply Kd.R_drewN | apply Kd.R_drew)); exact HO_15.out)) k_ hk)); (case aO => exact (by (with_reducible repeat (first | apply Kd.R_alloc | apply Kd.R_drewN | apply Kd.R_drew)); exact HO_17.out)); (case aS => exact (below_size b0)); (case aL => have := LMc44.out; omega); intro v227 w46 ho hb hg hat; rw [← Ny226.out] at ho; replace HO_12 := Aside0.mk (Kd.R_over' b4 (Kd.R_typed (by (with_reducible repeat (first | apply Kd.R_alloc | apply Kd.R_drewN | apply Kd.R_drew)); exact HO_17.out)) (by decide) hg); replace HO_15 := Aside0.mk (Kd.R_after (ok := (fun _ => True)) (by (with_reducible repeat (first | apply Kd.R_alloc | apply Kd.R_drewN | apply Kd.R_drew)); exact Kd.R_mono HO_15.out (fun _ hk => ⟨trivial, hk⟩)) hg hat); replace BK209 := Aside0.mk (blk_grown (g := gb209) (o := .cells #[.int .i64 a0_0, .slice A0_1 l0_1.length c0_1] 33 (0, 0)) (by exact bS BK209) hg (Kd.R_ne HO_17.out BK209.out (by decide))); replace BK210 := Aside0.mk (blk_grown (g := gb210) (o := .cells #[.int .i64 a2_0, .int .i64 a2_1] 40 (0, 0)) (by exact bS BK210) hg (Kd.R_ne HO_17.out BK210.out (by decide))); replace HB := Aside0.mk (hb); have HO228 := Aside0.mk (ho); clear HO_17; clear ho hb hg hat))
            go_roundg k3
            case measure => have := HJ5.out; have := HK2.out; have := HK3.out; omega
            case rel => exact ⟨(y226), (wrap64 (x18_3 + 1)), b6, H', ⟨by have := HJ5.out; have := HK2.out; have := HK3.out; omega⟩, ⟨b4⟩, ⟨by (with_reducible repeat (first | apply Kd.R_alloc | apply Kd.R_drewN | apply Kd.R_drew)); exact Kd.R_mono HO_15.out (fun _ hk => hk.2)⟩, ⟨by (with_reducible repeat (first | apply Kd.R_alloc | apply Kd.R_drewN | apply Kd.R_drew)); exact HO228.out⟩, ⟨b2⟩, ⟨b3⟩, ⟨b0⟩⟩
           ·
            rw [if_neg c40] at H
            have c40b0 := decide_eq_false c40
            clear c40
            simp only [Option.some.injEq, Prod.mk.injEq] at H
            obtain ⟨rfl, rfl⟩ := H
            obtain ⟨Ao47, co47, eo47⟩ := Kd.R_slice HO_15.out
            subst eo47
            go_wp2
            go_ret2
            exact ⟨_, b8, by (with_reducible repeat (first | apply Kd.R_alloc | apply Kd.R_drewN | apply Kd.R_drew)); exact Kd.R_mono HO_17.out (fun _ hk => trivial), b0⟩
          ·
           rw [if_neg c39] at H
           have c39b0 := decide_eq_false c39
           clear c39
           simp only [Option.some.injEq, Prod.mk.injEq] at H
           obtain ⟨rfl, rfl⟩ := H
           obtain ⟨Ao48, co48, eo48⟩ := Kd.R_slice HO_15.out
           subst eo48
           go_wp2
           go_ret2
           exact ⟨_, b8, by (with_reducible repeat (first | apply Kd.R_alloc | apply Kd.R_drewN | apply Kd.R_drew)); exact Kd.R_mono HO_17.out (fun _ hk => trivial), b0⟩

/-! ### mosaicref09_Has: function 42 -/
def mosaicref09_Has.l0 : Nat → List Int → Int → Int → Option (Bool)
 | 0, _, _, _ => none
 | k + 1, x0, x1, x5 => if x5 < (x0.length : Int) then (if 0 ≤ x5 then (if (rd x0 x5) = x1 then (some true) else (mosaicref09_Has.l0 k x0 x1 (wrap64 (x5 + 1)))) else (none)) else (some false)
def mosaicref09_Has.f (k : Nat) (l0 : List Int) (a1 : Int) : Option (Bool) := mosaicref09_Has.l0 k l0 a1 0
set_option maxHeartbeats 8000000 in
set_option maxRecDepth 100000 in
theorem mosaicref09_Has.calls (k : Nat) (A0 : Option Addr) (c0 : Nat) (l0 : List Int) (a1 : Int) (r : Bool) (w : World) (hr0 : Kd.C (Kd.int .i64) w A0 l0.length l0) (hc0 : l0.length ≤ c0) (h : mosaicref09_Has.f k l0 a1 = some r) :
  Calls Tryz.prog 42 #[.slice A0 l0.length c0, .int .i64 a1] w fun e w' => e = .returned (.bool r) ∧ Drawn0 w w' := by
 have HR0 := Aside0.mk hr0
 have HC0 := Aside0.mk hc0
 clear hr0 hc0
 have H : (mosaicref09_Has.l0 k l0 a1 0) = some r := h
 clear h
 have H' := Aside0.mk H
 clear H
 go_enter Tryz.func42, Tryz.ntmps42
 go_wp2
 go_loopg [5] k (fun kq v5 w' => ∃ (x5_1 : Int), v5 = .int .i64 x5_1 ∧ Aside0 (mosaicref09_Has.l0 kq l0 a1 x5_1 = some r) ∧ Aside0 (kq ≤ k) ∧ Drawn0 w w')
 case atStart => exact ⟨(0), b6, H', ⟨Nat.le_refl _⟩, b10⟩
 case round =>
  clear H'
  obtain ⟨x5_1, rfl, HA, HK1, ⟨m1, rfl⟩⟩ := hrel
  cases gk with
  | zero => exact absurd HA.out (by simp [mosaicref09_Has.l0])
  | succ k1 =>
   have H := HA.out
   clear HA
   simp only [mosaicref09_Has.l0] at H
   by_cases c3 : x5_1 < (l0.length : Int)
   ·
    rw [if_pos c3] at H
    have c3b0 := decide_eq_true c3
    clear c3
    by_cases c4 : 0 ≤ x5_1
    rotate_left; · rw [if_neg c4] at H; exact absurd H (by simp)
    rw [if_pos c4] at H
    have c4b0 := decide_eq_true c4
    clear c4
    by_cases c5 : (rd l0 x5_1) = a1
    ·
     rw [if_pos c5] at H
     have c5b0 := beq_iff_eq.mpr c5
     have c5b1 := bne_eq_false_iff_eq.mpr c5
     clear c5
     obtain rfl := Option.some.inj H
     have p229 : 0 ≤ (x5_1 : Int) := of_decide_eq_true b7
     have q229 : x5_1 < (l0.length : Int) := of_decide_eq_true b7
     obtain ⟨ad229, e229, hx229_0⟩ := Kd.at_int HR0.out x5_1 p229 q229
     cases e229
     replace p229 := eq_true p229
     replace q229 := eq_true q229
     go_wp2
     go_ret
     exact ⟨b6, b10⟩
    ·
     rw [if_neg c5] at H
     have c5b0 := beq_eq_false_iff_ne.mpr c5
     have c5b1 := bne_iff_ne.mpr c5
     have H' := Aside0.mk H
     clear H
     have p229 : 0 ≤ (x5_1 : Int) := of_decide_eq_true b7
     have q229 : x5_1 < (l0.length : Int) := of_decide_eq_true b7
     obtain ⟨ad229, e229, hx229_0⟩ := Kd.at_int HR0.out x5_1 p229 q229
     cases e229
     replace p229 := eq_true p229
     replace q229 := eq_true q229
     go_wp2
     go_roundg k1
     case measure => have := HK1.out; omega
     case rel => exact ⟨(wrap64 (x5_1 + 1)), b6, H', ⟨by have := HK1.out; omega⟩, b10⟩
   ·
    rw [if_neg c3] at H
    have c3b0 := decide_eq_false c3
    clear c3
    obtain rfl := Option.some.inj H
    go_wp2
    go_ret
    exact ⟨b6, b10⟩

end Go.Proofs.YtmimnlbkllgfpaaGreatDoor.A
