-- Written for this claim by the session's own turn of the kit's print program (wip/tools/xprint.py).
import Derived.Test.YtlpidjenifbjeaaPx0
import Derived.Test.YtlpidjenifbjeaaPx1
import Derived.Test.YtlpidjenifbjeaaPx2
namespace Go.Proofs.Ytlpidjenifbjeaa.P
open Go.RowKit Go.Proofs.Ytlpidjenifbjeaa.Fl Go.Proofs.Ytlpidjenifbjeaa.Sq Go.Proofs.Ytlpidjenifbjeaa.Hand Go.Proofs.YtlpidjenifbjeaaW.PrintWords Go.Proofs.YtlpidjenifbjeaaW.PrintLast Go.Proofs.YtlpidjenifbjeaaW.PrintMore
attribute [local go_sem] max2_int min2_int max_two min_two max_three min_three max_four min_four   -- for this text's walks alone
set_option linter.unusedVariables false
set_option linter.unusedSimpArgs false

attribute [local go_sem high] eqA23
/-! ### plane_Mul: function 15 -/
def plane_Mul.f (a0_0 : Int) (a0_1 : Int) (a1_0 : Int) (a1_1 : Int) : Option (Int × Int × Int) := (plane_both.f a0_0 a0_1 a1_0 a1_1).bind fun t132 => (if t132 = true then ((plane_of.f a0_0 a0_1).bind fun t133 => ((plane_of.f a1_0 a1_1).bind fun t134 => (if cmulOk t133.1 t133.2 t134.1 t134.2 = true then ((plane_place.f (cmulR t133.1 t133.2 t134.1 t134.2, cmulI t133.1 t133.2 t134.1 t134.2)).bind fun bt135 => (some (bt135.1, bt135.2.1, bt135.2.2))) else (none)))) else (some (0, 0, 1)))
def plane_Mul.T3 : Bool × List (List Nat × List Nat) := (true, [([], []), ([0], [0]), ([], []), ([2, 1], [2]), ([1, 3], [1, 3]), ([4, 3], [4]), ([5], [5]), ([5], [5]), ([6, 5, 0, 1, 2, 3, 4, 5, 6, 7], [6]), ([7, 8, 0, 1, 2, 3, 4, 5, 6, 7, 8], [7])])
def plane_Mul.B3 : List Nat := [0, 1, 0, 7, 15, 31, 63, 63, 255, 511]
theorem plane_Mul.tab3 : rtab .any (opsOf Try.f15 3) = plane_Mul.T3 := by kernel_rfl
theorem plane_Mul.bits3 : waitsOk plane_Mul.T3.2 plane_Mul.B3 = true := by kernel_rfl
set_option maxHeartbeats 8000000 in
set_option maxRecDepth 100000 in
theorem plane_Mul.calls (a0_0 : Int) (a0_1 : Int) (a1_0 : Int) (a1_1 : Int) (r1 : Int) (r2 : Int) (r3 : Int) (w : World) (h : plane_Mul.f a0_0 a0_1 a1_0 a1_1 = some (r1, r2, r3)) :
  Calls Try.prog 15 #[.agg #[.int .i64 a0_0, .int .i64 a0_1], .agg #[.int .i64 a1_0, .int .i64 a1_1]] w fun e w' => e = .returned (.tuple #[.agg #[.int .i64 r1, .int .i64 r2], .int .i64 r3]) ∧ Below w.heap.size w w' := by
 have hu23 := Try.underlying23
 have HB := Aside0.mk (Below.refl w.heap.size w)
 have H : ((plane_both.f a0_0 a0_1 a1_0 a1_1).bind fun t132 => (if t132 = true then ((plane_of.f a0_0 a0_1).bind fun t133 => ((plane_of.f a1_0 a1_1).bind fun t134 => (if cmulOk t133.1 t133.2 t134.1 t134.2 = true then ((plane_place.f (cmulR t133.1 t133.2 t134.1 t134.2, cmulI t133.1 t133.2 t134.1 t134.2)).bind fun bt135 => (some (bt135.1, bt135.2.1, bt135.2.2))) else (none)))) else (some (0, 0, 1)))) = some (r1, r2, r3) := h
 clear h
 replace H := Option.bind_eq_some_iff.mp H
 obtain ⟨t132, A30, H⟩ := H
 replace H : (if t132 = true then ((plane_of.f a0_0 a0_1).bind fun t133 => ((plane_of.f a1_0 a1_1).bind fun t134 => (if cmulOk t133.1 t133.2 t134.1 t134.2 = true then ((plane_place.f (cmulR t133.1 t133.2 t134.1 t134.2, cmulI t133.1 t133.2 t134.1 t134.2)).bind fun bt135 => (some (bt135.1, bt135.2.1, bt135.2.2))) else (none)))) else (some (0, 0, 1))) = some (r1, r2, r3) := H
 have A3 := Aside0.mk A30
 clear A30
 by_cases c4 : t132 = true
 ·
  subst c4
  have H1 : ((plane_of.f a0_0 a0_1).bind fun t133 => ((plane_of.f a1_0 a1_1).bind fun t134 => (if cmulOk t133.1 t133.2 t134.1 t134.2 = true then ((plane_place.f (cmulR t133.1 t133.2 t134.1 t134.2, cmulI t133.1 t133.2 t134.1 t134.2)).bind fun bt135 => (some (bt135.1, bt135.2.1, bt135.2.2))) else (none)))) = some (r1, r2, r3) := by rw [if_pos rfl] at H; exact H
  clear H
  have H := H1
  clear H1
  replace H := Option.bind_eq_some_iff.mp H
  obtain ⟨t133, A50, H⟩ := H
  replace H : ((plane_of.f a1_0 a1_1).bind fun t134 => (if cmulOk t133.1 t133.2 t134.1 t134.2 = true then ((plane_place.f (cmulR t133.1 t133.2 t134.1 t134.2, cmulI t133.1 t133.2 t134.1 t134.2)).bind fun bt135 => (some (bt135.1, bt135.2.1, bt135.2.2))) else (none))) = some (r1, r2, r3) := H
  have A5 := Aside0.mk A50
  clear A50
  replace H := Option.bind_eq_some_iff.mp H
  obtain ⟨t134, A60, H⟩ := H
  replace H : (if cmulOk t133.1 t133.2 t134.1 t134.2 = true then ((plane_place.f (cmulR t133.1 t133.2 t134.1 t134.2, cmulI t133.1 t133.2 t134.1 t134.2)).bind fun bt135 => (some (bt135.1, bt135.2.1, bt135.2.2))) else (none)) = some (r1, r2, r3) := H
  have A6 := Aside0.mk A60
  clear A60
  by_cases c7 : cmulOk t133.1 t133.2 t134.1 t134.2 = true
  ·
   rw [if_pos c7] at H
   have c7b0 := eq_true c7
   have c7b1 : decide (cmulOk t133.1 t133.2 t134.1 t134.2 = true) = true := decide_eq_true c7
   clear c7
   replace H := Option.bind_eq_some_iff.mp H
   obtain ⟨⟨t135, t136, t137⟩, A80, H⟩ := H
   replace H : (some (t135, t136, t137)) = some (r1, r2, r3) := H
   have A8 := Aside0.mk A80
   clear A80
   simp only [Option.some.injEq, Prod.mk.injEq] at H
   obtain ⟨rfl, rfl, rfl⟩ := H
   go_enter Try.func15, Try.ntmps15
   try go_wp2_with (first | ((with_reducible refine gate_dst (N := 2) rfl ?_); refine box_event ?hg (N := 2) ?hd (cs := #[.int .i64 a0_0, .int .i64 a0_1]) (t := 23) ?hr ?_; (case hd => rfl); (case hg => rfl); (case hr => first | (go_simp; done) | (go_simp; rfl)); intro gb129 hg w9 hbox hb; have n0_ := Aside0.mk (below_step (by repeat (first | (with_reducible first | exact HB.out | apply below_alloc | apply pw_below_drewN | apply below_drew1) | exact HB.out)) hb); have n1_ := Aside0.mk (hbox); have n2_ := Aside0.mk ((by rw [hg]; exact (below_size (by repeat (first | (with_reducible first | exact HB.out | apply below_alloc | apply pw_below_drewN | apply below_drew1) | exact HB.out))) : w.heap.size ≤ gb129)); have n3_ := Aside0.mk ((by rw [hg]; exact (below_size (by repeat (first | (with_reducible first | exact HB.out | apply below_alloc | apply pw_below_drewN | apply below_drew1) | exact HB.out))) : w.heap.size ≤ gb129)); clear HB; have HB := n0_; have BK129 := n1_; have GW129 := n2_; have GE129 := n3_; clear n0_ n1_ n2_ n3_; clear hb hbox hg) | ((with_reducible refine gate_dst (N := 3) rfl ?_); refine box_event ?hg (N := 3) ?hd (cs := #[.int .i64 a1_0, .int .i64 a1_1]) (t := 23) ?hr ?_; (case hd => rfl); (case hg => rfl); (case hr => first | (go_simp; done) | (go_simp; rfl)); intro gb130 hg w10 hbox hb; have n0_ := bB BK129 hb; have n1_ := Aside0.mk (below_step (by repeat (first | (with_reducible first | exact HB.out | apply below_alloc | apply pw_below_drewN | apply below_drew1 | refine below_set ?_ GE129.out) | exact HB.out)) hb); have n2_ := Aside0.mk (hbox); have n3_ := Aside0.mk ((by rw [hg]; exact (below_size (by repeat (first | (with_reducible first | exact HB.out | apply below_alloc | apply pw_below_drewN | apply below_drew1 | refine below_set ?_ GE129.out) | exact HB.out))) : w.heap.size ≤ gb130)); have n4_ := Aside0.mk ((by rw [hg]; exact (below_size (by repeat (first | (with_reducible first | exact HB.out | apply below_alloc | apply pw_below_drewN | apply below_drew1 | refine below_set ?_ GE129.out) | exact HB.out))) : w.heap.size ≤ gb130)); have n5_ := bNl BK129 hg; have n6_ := bNg BK129 hg; clear BK129; clear HB; have BK129 := n0_; have HB := n1_; have BK130 := n2_; have GW130 := n3_; have GE130 := n4_; have NB129_130 := n5_; have NB130_129 := n6_; clear n0_ n1_ n2_ n3_ n4_ n5_ n6_; clear hb hbox hg) | ((with_reducible refine gate_dst (N := 4) rfl ?_); refine box_event ?hg (N := 4) ?hd (cs := #[.int .i64 0, .int .i64 0]) (t := 23) ?hr ?_; (case hd => rfl); (case hg => rfl); (case hr => first | (go_simp; done) | (go_simp; rfl)); intro gb131 hg w11 hbox hb; have n0_ := bB BK129 hb; have n1_ := bB BK130 hb; have n2_ := Aside0.mk (below_step (by repeat (first | (with_reducible first | exact HB.out | apply below_alloc | apply pw_below_drewN | apply below_drew1 | refine below_set ?_ GE129.out | refine below_set ?_ GE130.out) | exact HB.out)) hb); have n3_ := Aside0.mk (hbox); have n4_ := Aside0.mk ((by rw [hg]; exact (below_size (by repeat (first | (with_reducible first | exact HB.out | apply below_alloc | apply pw_below_drewN | apply below_drew1 | refine below_set ?_ GE129.out | refine below_set ?_ GE130.out) | exact HB.out))) : w.heap.size ≤ gb131)); have n5_ := Aside0.mk ((by rw [hg]; exact (below_size (by repeat (first | (with_reducible first | exact HB.out | apply below_alloc | apply pw_below_drewN | apply below_drew1 | refine below_set ?_ GE129.out | refine below_set ?_ GE130.out) | exact HB.out))) : w.heap.size ≤ gb131)); have n6_ := bNl BK129 hg; have n7_ := bNg BK129 hg; have n8_ := bNl BK130 hg; have n9_ := bNg BK130 hg; clear BK129; clear BK130; clear HB; have BK129 := n0_; have BK130 := n1_; have HB := n2_; have BK131 := n3_; have GW131 := n4_; have GE131 := n5_; have NB129_131 := n6_; have NB131_129 := n7_; have NB130_131 := n8_; have NB131_130 := n9_; clear n0_ n1_ n2_ n3_ n4_ n5_ n6_ n7_ n8_ n9_; clear hb hbox hg; have hnb12 := NB129_130.out; have hnc12 := NB130_129.out; have hnb13 := NB129_131.out; have hnc13 := NB131_129.out; have hcz14_0 : w11.cell? ⟨gb129, 0, none⟩ = some (.int .i64 a0_0) := (blk_cell BK129.out 0).trans rfl; have hcz14_1 : w11.cell? ⟨gb129, 1, none⟩ = some (.int .i64 a0_1) := (blk_cell BK129.out 1).trans rfl; have hfz14_0 := blk_frozen BK129.out 0; have hfz14_1 := blk_frozen BK129.out 1; have hnb15 := NB130_131.out; have hnc15 := NB131_130.out; have hcz16_0 : w11.cell? ⟨gb130, 0, none⟩ = some (.int .i64 a1_0) := (blk_cell BK130.out 0).trans rfl; have hcz16_1 : w11.cell? ⟨gb130, 1, none⟩ = some (.int .i64 a1_1) := (blk_cell BK130.out 1).trans rfl; have hfz16_0 := blk_frozen BK130.out 0; have hfz16_1 := blk_frozen BK130.out 1) | ((with_reducible refine gate_callee (f := 38) rfl ?_); refine goesL_ (some 8) rfl rfl Try.func38 (by kernel_rfl) rfl #[.agg #[.int .i64 a0_0, .int .i64 a0_1], .agg #[.int .i64 a1_0, .int .i64 a1_1]] rfl (by (try simp only [List.map_toArray, List.map_cons, List.map_nil]); first | done | rfl | (simp only [List.length_drop, List.length_take]; rfl)) ?_; (with_reducible refine (plane_both.calls a0_0 a0_1 a1_0 a1_1 true _ A3.out).mono ?_); rintro e w17 ⟨rfl, hb⟩; refine ⟨_, rfl, ?_⟩; have n0_ := bB BK129 hb; have n1_ := bB BK130 hb; have n2_ := bB BK131 hb; have n3_ := Aside0.mk (below_step (by repeat (first | (with_reducible first | exact HB.out | apply below_alloc | apply pw_below_drewN | apply below_drew1 | refine below_set ?_ GE129.out | refine below_set ?_ GE130.out | refine below_set ?_ GE131.out) | exact HB.out)) hb); clear BK129; clear BK130; clear BK131; clear HB; have BK129 := n0_; have BK130 := n1_; have BK131 := n2_; have HB := n3_; clear n0_ n1_ n2_ n3_; (try clear hb); (try clear hb2); (try clear hk); (try clear hi)))
   have n0_ := Aside0.mk (blk_drew BK129.out)
   have n1_ := Aside0.mk (blk_drew BK130.out)
   have n2_ := Aside0.mk (blk_drew BK131.out)
   have n3_ := Aside0.mk (below_drew1 HB.out)
   clear BK129
   clear BK130
   clear BK131
   clear HB
   have BK129 := n0_
   have BK130 := n1_
   have BK131 := n2_
   have HB := n3_
   clear n0_ n1_ n2_ n3_
   refine start_ (n := 10) (S := fun w' => w'.cell? ⟨gb129, 0, none⟩ = some (.int .i64 a0_0) ∧ w'.cell? ⟨gb129, 1, none⟩ = some (.int .i64 a0_1) ∧ w'.cell? ⟨gb130, 0, none⟩ = some (.int .i64 a1_0) ∧ w'.cell? ⟨gb130, 1, none⟩ = some (.int .i64 a1_1)) (ds := []) #[false, false, false, false, false, false, false, false, false, false] (by kernel_rfl) rfl rfl ⟨(blk_cell BK129.out 0).trans rfl, (blk_cell BK129.out 1).trans rfl, (blk_cell BK130.out 0).trans rfl, (blk_cell BK130.out 1).trans rfl⟩ (fun hHeld => ?_); refine with_tabW plane_Mul.tab3 plane_Mul.bits3 (fun HT_ HW_ => ?_)
   generalize w17.drew = w18 at BK129 BK130 BK131 HB hHeld ⊢
   refine take_ (i := 0) (N := some 11) (v := ?_) (a' := ?_) #[true, false, false, false, false, false, false, false, false, false] rfl rfl (take_ofW HT_.out HW_.out (by kernel_rfl)) (fun _ _ _ h => h) (Or.inl ⟨by rfl, ?_⟩) hHeld ?_ ?_
   rotate_left
   ·
    rintro w' ⟨s0, s1, s2, s3⟩
    go_simp
    with_reducible rfl
   rotate_left
   ·
    simp only [Act.put, List.setIfInBounds_toArray, List.set_cons_zero, List.set_cons_succ, i64_w, i32_w, IntKind.wrap_u8]
    rfl
   refine take_ (i := 2) (N := some 13) (v := ?_) (a' := ?_) #[true, false, true, false, false, false, false, false, false, false] rfl rfl (take_ofW HT_.out HW_.out (by kernel_rfl)) (fun _ _ _ h => h) (Or.inl ⟨by rfl, ?_⟩) hHeld ?_ ?_
   rotate_left
   ·
    rintro w' ⟨s0, s1, s2, s3⟩
    go_simp
    with_reducible rfl
   rotate_left
   ·
    simp only [Act.put, List.setIfInBounds_toArray, List.set_cons_zero, List.set_cons_succ, i64_w, i32_w, IntKind.wrap_u8]
    rfl
   refine one_ (i := 1) (N := some 12) #[true, true, true, false, false, false, false, false, false, false] rfl rfl (one_of HT_.out (by kernel_rfl)) (by decide) (fun K hK => ?_)
   refine goes_ Try.func35 (by kernel_rfl) rfl #[.agg #[.int .i64 a0_0, .int .i64 a0_1]] (by rfl) rfl rfl (by (try simp only [List.map_toArray, List.map_cons, List.map_nil]); first | done | rfl | (simp only [List.length_drop, List.length_take]; rfl)) ?_
   with_reducible refine (plane_of.calls a0_0 a0_1 t133 _ A5.out).mono ?_
   rintro e w19 ⟨rfl, hb⟩
   refine ⟨_, rfl, ?_⟩
   have n0_ := bB BK129 hb
   have n1_ := bB BK130 hb
   have n2_ := bB BK131 hb
   have n3_ := hS HB hb
   clear BK129
   clear BK130
   clear BK131
   clear HB
   have BK129 := n0_
   have BK130 := n1_
   have BK131 := n2_
   have HB := n3_
   clear n0_ n1_ n2_ n3_
   (try clear hb)
   (try clear hb2)
   (try clear hk)
   (try clear hi)
   refine hK.out _ _ ⟨(blk_cell BK129.out 0).trans rfl, (blk_cell BK129.out 1).trans rfl, (blk_cell BK130.out 0).trans rfl, (blk_cell BK130.out 1).trans rfl⟩ (fun hHeld => ?_)
   clear hK K
   refine norm_ (a' := ?_) ?_ ?_
   rotate_left
   ·
    show Act.put _ (some 12) _ = _
    simp only [Act.put, List.setIfInBounds_toArray, List.set_cons_zero, List.set_cons_succ, i64_w, i32_w, IntKind.wrap_u8]
    rfl
   refine one_ (i := 3) (N := some 14) #[true, true, true, true, false, false, false, false, false, false] rfl rfl (one_of HT_.out (by kernel_rfl)) (by decide) (fun K hK => ?_)
   refine goes_ Try.func35 (by kernel_rfl) rfl #[.agg #[.int .i64 a1_0, .int .i64 a1_1]] (by rfl) rfl rfl (by (try simp only [List.map_toArray, List.map_cons, List.map_nil]); first | done | rfl | (simp only [List.length_drop, List.length_take]; rfl)) ?_
   with_reducible refine (plane_of.calls a1_0 a1_1 t134 _ A6.out).mono ?_
   rintro e w20 ⟨rfl, hb⟩
   refine ⟨_, rfl, ?_⟩
   have n0_ := bB BK129 hb
   have n1_ := bB BK130 hb
   have n2_ := bB BK131 hb
   have n3_ := hS HB hb
   clear BK129
   clear BK130
   clear BK131
   clear HB
   have BK129 := n0_
   have BK130 := n1_
   have BK131 := n2_
   have HB := n3_
   clear n0_ n1_ n2_ n3_
   (try clear hb)
   (try clear hb2)
   (try clear hk)
   (try clear hi)
   refine hK.out _ _ ⟨(blk_cell BK129.out 0).trans rfl, (blk_cell BK129.out 1).trans rfl, (blk_cell BK130.out 0).trans rfl, (blk_cell BK130.out 1).trans rfl⟩ (fun hHeld => ?_)
   clear hK K
   refine norm_ (a' := ?_) ?_ ?_
   rotate_left
   ·
    show Act.put _ (some 14) _ = _
    simp only [Act.put, List.setIfInBounds_toArray, List.set_cons_zero, List.set_cons_succ, i64_w, i32_w, IntKind.wrap_u8]
    rfl
   refine pure_ (i := 4) (N := some 15) (v := ?_) (a' := ?_) #[true, true, true, true, true, false, false, false, false, false] rfl rfl (any_of HT_.out (by kernel_rfl)) (fun _ _ _ h => h) (Or.inl ⟨by rfl, ?_⟩) ?_ ?_
   rotate_left
   ·
    intro w'
    go_simp
    with_reducible rfl
   rotate_left
   ·
    simp only [Act.put, List.setIfInBounds_toArray, List.set_cons_zero, List.set_cons_succ, i64_w, i32_w, IntKind.wrap_u8]
    rfl
   refine one_ (i := 5) (N := some 16) #[true, true, true, true, true, true, false, false, false, false] rfl rfl (one_of HT_.out (by kernel_rfl)) (by decide) (fun K hK => ?_)
   refine goes_ Try.func36 (by kernel_rfl) rfl #[.complex .f64 (cmulR t133.1 t133.2 t134.1 t134.2) (cmulI t133.1 t133.2 t134.1 t134.2)] (by rfl) rfl rfl (by (try simp only [List.map_toArray, List.map_cons, List.map_nil]); first | done | rfl | (simp only [List.length_drop, List.length_take]; rfl)) ?_
   with_reducible refine (plane_place.calls (cmulR t133.1 t133.2 t134.1 t134.2, cmulI t133.1 t133.2 t134.1 t134.2) t135 t136 t137 _ A8.out).mono ?_
   rintro e w21 ⟨rfl, hb⟩
   refine ⟨_, rfl, ?_⟩
   have n0_ := bB BK129 hb
   have n1_ := bB BK130 hb
   have n2_ := bB BK131 hb
   have n3_ := hS HB hb
   clear BK129
   clear BK130
   clear BK131
   clear HB
   have BK129 := n0_
   have BK130 := n1_
   have BK131 := n2_
   have HB := n3_
   clear n0_ n1_ n2_ n3_
   (try clear hb)
   (try clear hb2)
   (try clear hk)
   (try clear hi)
   refine hK.out _ _ ⟨(blk_cell BK129.out 0).trans rfl, (blk_cell BK129.out 1).trans rfl, (blk_cell BK130.out 0).trans rfl, (blk_cell BK130.out 1).trans rfl⟩ (fun hHeld => ?_)
   clear hK K
   refine norm_ (a' := ?_) ?_ ?_
   rotate_left
   ·
    show Act.put _ (some 16) _ = _
    simp only [Act.put, List.setIfInBounds_toArray, List.set_cons_zero, List.set_cons_succ, i64_w, i32_w, IntKind.wrap_u8]
    rfl
   refine pure_ (i := 6) (N := some 17) (v := ?_) (a' := ?_) #[true, true, true, true, true, true, true, false, false, false] rfl rfl (any_of HT_.out (by kernel_rfl)) (fun _ _ _ h => h) (Or.inl ⟨by rfl, ?_⟩) ?_ ?_
   rotate_left
   ·
    intro w'
    go_simp
    with_reducible rfl
   rotate_left
   ·
    simp only [Act.put, List.setIfInBounds_toArray, List.set_cons_zero, List.set_cons_succ, i64_w, i32_w, IntKind.wrap_u8]
    rfl
   refine pure_ (i := 7) (N := some 18) (v := ?_) (a' := ?_) #[true, true, true, true, true, true, true, true, false, false] rfl rfl (any_of HT_.out (by kernel_rfl)) (fun _ _ _ h => h) (Or.inl ⟨by rfl, ?_⟩) ?_ ?_
   rotate_left
   ·
    intro w'
    go_simp
    with_reducible rfl
   rotate_left
   ·
    simp only [Act.put, List.setIfInBounds_toArray, List.set_cons_zero, List.set_cons_succ, i64_w, i32_w, IntKind.wrap_u8]
    rfl
   refine one_ (i := 8) (N := none) #[true, true, true, true, true, true, true, true, true, false] rfl rfl (one_of HT_.out (by kernel_rfl)) (by decide) (fun K hK => ?_)
   have hs22 : w21.cell? ⟨gb131, 0, none⟩ = some (.int .i64 0) := (blk_cell BK131.out 0).trans rfl
   have hfs22 := blk_frozen BK131.out 0
   have hns22_0 := NB129_131.out
   have hns22_1 := NB130_131.out
   have hms22_0 := NB131_129.out
   have hms22_1 := NB131_130.out
   have hs23 : w21.cell? ⟨gb131, 1, none⟩ = some (.int .i64 0) := (blk_cell BK131.out 1).trans rfl
   have hfs23 := blk_frozen BK131.out 1
   have hns23_0 := NB129_131.out
   have hns23_1 := NB130_131.out
   have hms23_0 := NB131_129.out
   have hms23_1 := NB131_130.out
   refine skip_ (w1 := ?_) (by rfl) rfl ?_ ?_
   rotate_left
   ·
    go_simp
    rfl
   refine hK.out _ _ ⟨((cell_far (p := ⟨gb131, _, none⟩) NB129_131.out _).trans (((cell_far (p := ⟨gb131, _, none⟩) NB129_131.out _).trans (hHeld.1)))), ((cell_far (p := ⟨gb131, _, none⟩) NB129_131.out _).trans (((cell_far (p := ⟨gb131, _, none⟩) NB129_131.out _).trans (hHeld.2.1)))), ((cell_far (p := ⟨gb131, _, none⟩) NB130_131.out _).trans (((cell_far (p := ⟨gb131, _, none⟩) NB130_131.out _).trans (hHeld.2.2.1)))), ((cell_far (p := ⟨gb131, _, none⟩) NB130_131.out _).trans (((cell_far (p := ⟨gb131, _, none⟩) NB130_131.out _).trans (hHeld.2.2.2))))⟩ (fun hHeld => ?_)
   clear hK K
   refine pure_ (i := 9) (N := some 5) (v := ?_) (a' := ?_) #[true, true, true, true, true, true, true, true, true, true] rfl rfl (any_of HT_.out (by kernel_rfl)) (fun _ _ _ h => h) (Or.inl ⟨by rfl, ?_⟩) ?_ ?_
   rotate_left
   ·
    intro w'
    go_simp
    with_reducible rfl
   rotate_left
   ·
    simp only [Act.put, List.setIfInBounds_toArray, List.set_cons_zero, List.set_cons_succ, i64_w, i32_w, IntKind.wrap_u8]
    rfl
   refine done_ (done_of HT_.out (by kernel_rfl)) ?_
   try go_wp2
   refine bodyPost_ret (results_ct rfl _ _ gb131 23 #[.int .i64 t135, .int .i64 t136] (0, 0) _ rfl (by (with_reducible repeat (first | refine blk_drewN ?_ _ | refine blk_drew ?_ | refine blk_alloc ?_ _)); refine blk_put (cs := #[.int .i64 t135, .int .i64 0]) ?_ 1 _ rfl; (with_reducible repeat (first | refine blk_drewN ?_ _ | refine blk_drew ?_ | refine blk_alloc ?_ _)); refine blk_put (cs := #[.int .i64 0, .int .i64 0]) ?_ 0 _ rfl; (with_reducible repeat (first | refine blk_drewN ?_ _ | refine blk_drew ?_ | refine blk_alloc ?_ _)); exact BK131.out) Try.underlying23 rfl (by kernel_rfl)) rfl ?_
   exact ⟨by first | rfl | (simp [errW_none, errW_some] <;> rfl) | (simp [*, errW_none, errW_some] <;> rfl), by repeat (first | (with_reducible first | exact HB.out | apply below_alloc | apply pw_below_drewN | apply below_drew1 | refine below_set ?_ GE129.out | refine below_set ?_ GE130.out | refine below_set ?_ GE131.out) | exact HB.out)⟩
  ·
   rw [if_neg c7] at H
   exact absurd H (by simp)
 ·
  replace c4 := Bool.eq_false_iff.mpr c4
  subst c4
  have H1 : (some (0, 0, 1)) = some (r1, r2, r3) := by rw [if_neg (show ¬ (false = true) by decide)] at H; exact H
  clear H
  have H := H1
  clear H1
  simp only [Option.some.injEq, Prod.mk.injEq] at H
  obtain ⟨rfl, rfl, rfl⟩ := H
  go_enter Try.func15, Try.ntmps15
  go_wp2_with (first | ((with_reducible refine gate_dst (N := 2) rfl ?_); refine box_event ?hg (N := 2) ?hd (cs := #[.int .i64 a0_0, .int .i64 a0_1]) (t := 23) ?hr ?_; (case hd => rfl); (case hg => rfl); (case hr => first | (go_simp; done) | (go_simp; rfl)); intro gb129 hg w24 hbox hb; have n0_ := Aside0.mk (below_step (by repeat (first | (with_reducible first | exact HB.out | apply below_alloc | apply pw_below_drewN | apply below_drew1) | exact HB.out)) hb); have n1_ := Aside0.mk (hbox); have n2_ := Aside0.mk ((by rw [hg]; exact (below_size (by repeat (first | (with_reducible first | exact HB.out | apply below_alloc | apply pw_below_drewN | apply below_drew1) | exact HB.out))) : w.heap.size ≤ gb129)); have n3_ := Aside0.mk ((by rw [hg]; exact (below_size (by repeat (first | (with_reducible first | exact HB.out | apply below_alloc | apply pw_below_drewN | apply below_drew1) | exact HB.out))) : w.heap.size ≤ gb129)); clear HB; have HB := n0_; have BK129 := n1_; have GW129 := n2_; have GE129 := n3_; clear n0_ n1_ n2_ n3_; clear hb hbox hg) | ((with_reducible refine gate_dst (N := 3) rfl ?_); refine box_event ?hg (N := 3) ?hd (cs := #[.int .i64 a1_0, .int .i64 a1_1]) (t := 23) ?hr ?_; (case hd => rfl); (case hg => rfl); (case hr => first | (go_simp; done) | (go_simp; rfl)); intro gb130 hg w25 hbox hb; have n0_ := bB BK129 hb; have n1_ := Aside0.mk (below_step (by repeat (first | (with_reducible first | exact HB.out | apply below_alloc | apply pw_below_drewN | apply below_drew1 | refine below_set ?_ GE129.out) | exact HB.out)) hb); have n2_ := Aside0.mk (hbox); have n3_ := Aside0.mk ((by rw [hg]; exact (below_size (by repeat (first | (with_reducible first | exact HB.out | apply below_alloc | apply pw_below_drewN | apply below_drew1 | refine below_set ?_ GE129.out) | exact HB.out))) : w.heap.size ≤ gb130)); have n4_ := Aside0.mk ((by rw [hg]; exact (below_size (by repeat (first | (with_reducible first | exact HB.out | apply below_alloc | apply pw_below_drewN | apply below_drew1 | refine below_set ?_ GE129.out) | exact HB.out))) : w.heap.size ≤ gb130)); have n5_ := bNl BK129 hg; have n6_ := bNg BK129 hg; clear BK129; clear HB; have BK129 := n0_; have HB := n1_; have BK130 := n2_; have GW130 := n3_; have GE130 := n4_; have NB129_130 := n5_; have NB130_129 := n6_; clear n0_ n1_ n2_ n3_ n4_ n5_ n6_; clear hb hbox hg) | ((with_reducible refine gate_dst (N := 4) rfl ?_); refine box_event ?hg (N := 4) ?hd (cs := #[.int .i64 0, .int .i64 0]) (t := 23) ?hr ?_; (case hd => rfl); (case hg => rfl); (case hr => first | (go_simp; done) | (go_simp; rfl)); intro gb131 hg w26 hbox hb; have n0_ := bB BK129 hb; have n1_ := bB BK130 hb; have n2_ := Aside0.mk (below_step (by repeat (first | (with_reducible first | exact HB.out | apply below_alloc | apply pw_below_drewN | apply below_drew1 | refine below_set ?_ GE129.out | refine below_set ?_ GE130.out) | exact HB.out)) hb); have n3_ := Aside0.mk (hbox); have n4_ := Aside0.mk ((by rw [hg]; exact (below_size (by repeat (first | (with_reducible first | exact HB.out | apply below_alloc | apply pw_below_drewN | apply below_drew1 | refine below_set ?_ GE129.out | refine below_set ?_ GE130.out) | exact HB.out))) : w.heap.size ≤ gb131)); have n5_ := Aside0.mk ((by rw [hg]; exact (below_size (by repeat (first | (with_reducible first | exact HB.out | apply below_alloc | apply pw_below_drewN | apply below_drew1 | refine below_set ?_ GE129.out | refine below_set ?_ GE130.out) | exact HB.out))) : w.heap.size ≤ gb131)); have n6_ := bNl BK129 hg; have n7_ := bNg BK129 hg; have n8_ := bNl BK130 hg; have n9_ := bNg BK130 hg; clear BK129; clear BK130; clear HB; have BK129 := n0_; have BK130 := n1_; have HB := n2_; have BK131 := n3_; have GW131 := n4_; have GE131 := n5_; have NB129_131 := n6_; have NB131_129 := n7_; have NB130_131 := n8_; have NB131_130 := n9_; clear n0_ n1_ n2_ n3_ n4_ n5_ n6_ n7_ n8_ n9_; clear hb hbox hg; have hnb27 := NB129_130.out; have hnc27 := NB130_129.out; have hnb28 := NB129_131.out; have hnc28 := NB131_129.out; have hcz29_0 : w26.cell? ⟨gb129, 0, none⟩ = some (.int .i64 a0_0) := (blk_cell BK129.out 0).trans rfl; have hcz29_1 : w26.cell? ⟨gb129, 1, none⟩ = some (.int .i64 a0_1) := (blk_cell BK129.out 1).trans rfl; have hfz29_0 := blk_frozen BK129.out 0; have hfz29_1 := blk_frozen BK129.out 1; have hnb30 := NB130_131.out; have hnc30 := NB131_130.out; have hcz31_0 : w26.cell? ⟨gb130, 0, none⟩ = some (.int .i64 a1_0) := (blk_cell BK130.out 0).trans rfl; have hcz31_1 : w26.cell? ⟨gb130, 1, none⟩ = some (.int .i64 a1_1) := (blk_cell BK130.out 1).trans rfl; have hfz31_0 := blk_frozen BK130.out 0; have hfz31_1 := blk_frozen BK130.out 1) | ((with_reducible refine gate_callee (f := 38) rfl ?_); refine goesL_ (some 8) rfl rfl Try.func38 (by kernel_rfl) rfl #[.agg #[.int .i64 a0_0, .int .i64 a0_1], .agg #[.int .i64 a1_0, .int .i64 a1_1]] rfl (by (try simp only [List.map_toArray, List.map_cons, List.map_nil]); first | done | rfl | (simp only [List.length_drop, List.length_take]; rfl)) ?_; (with_reducible refine (plane_both.calls a0_0 a0_1 a1_0 a1_1 false _ A3.out).mono ?_); rintro e w32 ⟨rfl, hb⟩; refine ⟨_, rfl, ?_⟩; have n0_ := bB BK129 hb; have n1_ := bB BK130 hb; have n2_ := bB BK131 hb; have n3_ := Aside0.mk (below_step (by repeat (first | (with_reducible first | exact HB.out | apply below_alloc | apply pw_below_drewN | apply below_drew1 | refine below_set ?_ GE129.out | refine below_set ?_ GE130.out | refine below_set ?_ GE131.out) | exact HB.out)) hb); clear BK129; clear BK130; clear BK131; clear HB; have BK129 := n0_; have BK130 := n1_; have BK131 := n2_; have HB := n3_; clear n0_ n1_ n2_ n3_; (try clear hb); (try clear hb2); (try clear hk); (try clear hi); have hcz33_0 : w32.cell? ⟨gb131, 0, none⟩ = some (.int .i64 0) := (blk_cell BK131.out 0).trans rfl; have hcz33_1 : w32.cell? ⟨gb131, 1, none⟩ = some (.int .i64 0) := (blk_cell BK131.out 1).trans rfl; have hfz33_0 := blk_frozen BK131.out 0; have hfz33_1 := blk_frozen BK131.out 1))
  refine bodyPost_ret (results_ct rfl _ _ gb131 23 #[.int .i64 0, .int .i64 0] (0, 0) _ rfl (by (with_reducible repeat (first | refine blk_drewN ?_ _ | refine blk_drew ?_ | refine blk_alloc ?_ _)); refine blk_put (cs := #[.int .i64 0, .int .i64 0]) ?_ 1 _ rfl; (with_reducible repeat (first | refine blk_drewN ?_ _ | refine blk_drew ?_ | refine blk_alloc ?_ _)); refine blk_put (cs := #[.int .i64 0, .int .i64 0]) ?_ 0 _ rfl; (with_reducible repeat (first | refine blk_drewN ?_ _ | refine blk_drew ?_ | refine blk_alloc ?_ _)); exact BK131.out) Try.underlying23 rfl (by kernel_rfl)) rfl ?_
  exact ⟨by first | rfl | (simp [errW_none, errW_some] <;> rfl) | (simp [*, errW_none, errW_some] <;> rfl), by repeat (first | (with_reducible first | exact HB.out | apply below_alloc | apply pw_below_drewN | apply below_drew1 | refine below_set ?_ GE129.out | refine below_set ?_ GE130.out | refine below_set ?_ GE131.out) | exact HB.out)⟩

/-! ### plane_corner: function 40 -/
def plane_corner.f (a0 : Int) : Option ((Nat × Nat)) := if (Int.tmod a0 2) = 1 then (some (floatOfInt .f64 (wrap64 (Int.tdiv (wrap64 (a0 + 1)) 2)), floatOfInt .f64 (wrap64 (Int.tdiv (wrap64 (a0 + 1)) 2)))) else (some (floatOfInt .f64 (wrap64 (Int.tdiv (wrap64 (-a0)) 2)), floatOfInt .f64 (wrap64 (Int.tdiv (wrap64 (-a0)) 2))))
set_option maxHeartbeats 8000000 in
set_option maxRecDepth 100000 in
theorem plane_corner.calls (a0 : Int) (r : (Nat × Nat)) (w : World) (h : plane_corner.f a0 = some r) :
  Calls Try.prog 40 #[.int .i64 a0] w fun e w' => e = .returned (.complex .f64 r.1 r.2) ∧ Below w.heap.size w w' := by
 have hu3 := Try.underlying3
 have hu63 := Try.underlying63
 have HB := Aside0.mk (Below.refl w.heap.size w)
 have H : (if (Int.tmod a0 2) = 1 then (some (floatOfInt .f64 (wrap64 (Int.tdiv (wrap64 (a0 + 1)) 2)), floatOfInt .f64 (wrap64 (Int.tdiv (wrap64 (a0 + 1)) 2)))) else (some (floatOfInt .f64 (wrap64 (Int.tdiv (wrap64 (-a0)) 2)), floatOfInt .f64 (wrap64 (Int.tdiv (wrap64 (-a0)) 2))))) = some r := h
 clear h
 by_cases c2 : (Int.tmod a0 2) = 1
 ·
  rw [if_pos c2] at H
  have c2b0 : ((Int.tmod a0 2) == 1) = true := beq_iff_eq.mpr c2
  have c2b1 : ((Int.tmod a0 2) != 1) = false := bne_eq_false_iff_eq.mpr c2
  clear c2
  obtain rfl := Option.some.inj H
  go_enter Try.func40, Try.ntmps40
  go_wp2
  go_ret
  exact ⟨by first | rfl | (simp [errW_none, errW_some] <;> rfl) | (simp [*, errW_none, errW_some] <;> rfl), by repeat (first | (with_reducible first | exact HB.out | apply below_alloc | apply pw_below_drewN | apply below_drew1) | exact HB.out)⟩
 ·
  rw [if_neg c2] at H
  have c2b0 : ((Int.tmod a0 2) == 1) = false := beq_eq_false_iff_ne.mpr c2
  have c2b1 : ((Int.tmod a0 2) != 1) = true := bne_iff_ne.mpr c2
  obtain rfl := Option.some.inj H
  go_enter Try.func40, Try.ntmps40
  go_wp2
  go_ret
  exact ⟨by first | rfl | (simp [errW_none, errW_some] <;> rfl) | (simp [*, errW_none, errW_some] <;> rfl), by repeat (first | (with_reducible first | exact HB.out | apply below_alloc | apply pw_below_drewN | apply below_drew1) | exact HB.out)⟩

/-! ### plane_Spiral: function 18 -/
mutual
def plane_Spiral.j0 : Nat → Int → Bool → Option (Int × Int × Int)
 | 0, _, _ => none
 | k + 1, x0, x15 => if x15 = true then (some (0, 0, 1)) else (plane_Spiral.l0 k x0 0 1048576)
def plane_Spiral.l0 : Nat → Int → Int → Int → Option (Int × Int × Int)
 | 0, _, _, _ => none
 | k + 1, x0, x4, x5 => if x5 > 0 then (if (wrap64 ((wrap64 (x4 + x5)) * (wrap64 ((wrap64 (x4 + x5)) + 1)))) ≤ x0 then (plane_Spiral.l0 k x0 (wrap64 (x4 + x5)) (wrap64 (Int.tdiv x5 2))) else (plane_Spiral.l0 k x0 x4 (wrap64 (Int.tdiv x5 2)))) else ((plane_corner.f x4).bind fun t139 => (if (Int.tmod x4 2) = 1 then (if cmulOk (floatOfInt .f64 (mn (wrap64 (x0 - (wrap64 (x4 * (wrap64 (x4 + 1)))))) (wrap64 (x4 + 1)))) 0 13830554455654793216 0 = true then (if caddOk t139.1 t139.2 (cmulR (floatOfInt .f64 (mn (wrap64 (x0 - (wrap64 (x4 * (wrap64 (x4 + 1)))))) (wrap64 (x4 + 1)))) 0 13830554455654793216 0) (cmulI (floatOfInt .f64 (mn (wrap64 (x0 - (wrap64 (x4 * (wrap64 (x4 + 1)))))) (wrap64 (x4 + 1)))) 0 13830554455654793216 0) = true then (if cmulOk (floatOfInt .f64 (wrap64 ((wrap64 (x0 - (wrap64 (x4 * (wrap64 (x4 + 1)))))) - (mn (wrap64 (x0 - (wrap64 (x4 * (wrap64 (x4 + 1)))))) (wrap64 (x4 + 1)))))) 0 13830554455654793216 0 = true then (if cmulOk (cmulR (floatOfInt .f64 (wrap64 ((wrap64 (x0 - (wrap64 (x4 * (wrap64 (x4 + 1)))))) - (mn (wrap64 (x0 - (wrap64 (x4 * (wrap64 (x4 + 1)))))) (wrap64 (x4 + 1)))))) 0 13830554455654793216 0) (cmulI (floatOfInt .f64 (wrap64 ((wrap64 (x0 - (wrap64 (x4 * (wrap64 (x4 + 1)))))) - (mn (wrap64 (x0 - (wrap64 (x4 * (wrap64 (x4 + 1)))))) (wrap64 (x4 + 1)))))) 0 13830554455654793216 0) 0 4607182418800017408 = true then (if caddOk (caddR t139.1 t139.2 (cmulR (floatOfInt .f64 (mn (wrap64 (x0 - (wrap64 (x4 * (wrap64 (x4 + 1)))))) (wrap64 (x4 + 1)))) 0 13830554455654793216 0) (cmulI (floatOfInt .f64 (mn (wrap64 (x0 - (wrap64 (x4 * (wrap64 (x4 + 1)))))) (wrap64 (x4 + 1)))) 0 13830554455654793216 0)) (caddI t139.1 t139.2 (cmulR (floatOfInt .f64 (mn (wrap64 (x0 - (wrap64 (x4 * (wrap64 (x4 + 1)))))) (wrap64 (x4 + 1)))) 0 13830554455654793216 0) (cmulI (floatOfInt .f64 (mn (wrap64 (x0 - (wrap64 (x4 * (wrap64 (x4 + 1)))))) (wrap64 (x4 + 1)))) 0 13830554455654793216 0)) (cmulR (cmulR (floatOfInt .f64 (wrap64 ((wrap64 (x0 - (wrap64 (x4 * (wrap64 (x4 + 1)))))) - (mn (wrap64 (x0 - (wrap64 (x4 * (wrap64 (x4 + 1)))))) (wrap64 (x4 + 1)))))) 0 13830554455654793216 0) (cmulI (floatOfInt .f64 (wrap64 ((wrap64 (x0 - (wrap64 (x4 * (wrap64 (x4 + 1)))))) - (mn (wrap64 (x0 - (wrap64 (x4 * (wrap64 (x4 + 1)))))) (wrap64 (x4 + 1)))))) 0 13830554455654793216 0) 0 4607182418800017408) (cmulI (cmulR (floatOfInt .f64 (wrap64 ((wrap64 (x0 - (wrap64 (x4 * (wrap64 (x4 + 1)))))) - (mn (wrap64 (x0 - (wrap64 (x4 * (wrap64 (x4 + 1)))))) (wrap64 (x4 + 1)))))) 0 13830554455654793216 0) (cmulI (floatOfInt .f64 (wrap64 ((wrap64 (x0 - (wrap64 (x4 * (wrap64 (x4 + 1)))))) - (mn (wrap64 (x0 - (wrap64 (x4 * (wrap64 (x4 + 1)))))) (wrap64 (x4 + 1)))))) 0 13830554455654793216 0) 0 4607182418800017408) = true then ((plane_place.f (caddR (caddR t139.1 t139.2 (cmulR (floatOfInt .f64 (mn (wrap64 (x0 - (wrap64 (x4 * (wrap64 (x4 + 1)))))) (wrap64 (x4 + 1)))) 0 13830554455654793216 0) (cmulI (floatOfInt .f64 (mn (wrap64 (x0 - (wrap64 (x4 * (wrap64 (x4 + 1)))))) (wrap64 (x4 + 1)))) 0 13830554455654793216 0)) (caddI t139.1 t139.2 (cmulR (floatOfInt .f64 (mn (wrap64 (x0 - (wrap64 (x4 * (wrap64 (x4 + 1)))))) (wrap64 (x4 + 1)))) 0 13830554455654793216 0) (cmulI (floatOfInt .f64 (mn (wrap64 (x0 - (wrap64 (x4 * (wrap64 (x4 + 1)))))) (wrap64 (x4 + 1)))) 0 13830554455654793216 0)) (cmulR (cmulR (floatOfInt .f64 (wrap64 ((wrap64 (x0 - (wrap64 (x4 * (wrap64 (x4 + 1)))))) - (mn (wrap64 (x0 - (wrap64 (x4 * (wrap64 (x4 + 1)))))) (wrap64 (x4 + 1)))))) 0 13830554455654793216 0) (cmulI (floatOfInt .f64 (wrap64 ((wrap64 (x0 - (wrap64 (x4 * (wrap64 (x4 + 1)))))) - (mn (wrap64 (x0 - (wrap64 (x4 * (wrap64 (x4 + 1)))))) (wrap64 (x4 + 1)))))) 0 13830554455654793216 0) 0 4607182418800017408) (cmulI (cmulR (floatOfInt .f64 (wrap64 ((wrap64 (x0 - (wrap64 (x4 * (wrap64 (x4 + 1)))))) - (mn (wrap64 (x0 - (wrap64 (x4 * (wrap64 (x4 + 1)))))) (wrap64 (x4 + 1)))))) 0 13830554455654793216 0) (cmulI (floatOfInt .f64 (wrap64 ((wrap64 (x0 - (wrap64 (x4 * (wrap64 (x4 + 1)))))) - (mn (wrap64 (x0 - (wrap64 (x4 * (wrap64 (x4 + 1)))))) (wrap64 (x4 + 1)))))) 0 13830554455654793216 0) 0 4607182418800017408), caddI (caddR t139.1 t139.2 (cmulR (floatOfInt .f64 (mn (wrap64 (x0 - (wrap64 (x4 * (wrap64 (x4 + 1)))))) (wrap64 (x4 + 1)))) 0 13830554455654793216 0) (cmulI (floatOfInt .f64 (mn (wrap64 (x0 - (wrap64 (x4 * (wrap64 (x4 + 1)))))) (wrap64 (x4 + 1)))) 0 13830554455654793216 0)) (caddI t139.1 t139.2 (cmulR (floatOfInt .f64 (mn (wrap64 (x0 - (wrap64 (x4 * (wrap64 (x4 + 1)))))) (wrap64 (x4 + 1)))) 0 13830554455654793216 0) (cmulI (floatOfInt .f64 (mn (wrap64 (x0 - (wrap64 (x4 * (wrap64 (x4 + 1)))))) (wrap64 (x4 + 1)))) 0 13830554455654793216 0)) (cmulR (cmulR (floatOfInt .f64 (wrap64 ((wrap64 (x0 - (wrap64 (x4 * (wrap64 (x4 + 1)))))) - (mn (wrap64 (x0 - (wrap64 (x4 * (wrap64 (x4 + 1)))))) (wrap64 (x4 + 1)))))) 0 13830554455654793216 0) (cmulI (floatOfInt .f64 (wrap64 ((wrap64 (x0 - (wrap64 (x4 * (wrap64 (x4 + 1)))))) - (mn (wrap64 (x0 - (wrap64 (x4 * (wrap64 (x4 + 1)))))) (wrap64 (x4 + 1)))))) 0 13830554455654793216 0) 0 4607182418800017408) (cmulI (cmulR (floatOfInt .f64 (wrap64 ((wrap64 (x0 - (wrap64 (x4 * (wrap64 (x4 + 1)))))) - (mn (wrap64 (x0 - (wrap64 (x4 * (wrap64 (x4 + 1)))))) (wrap64 (x4 + 1)))))) 0 13830554455654793216 0) (cmulI (floatOfInt .f64 (wrap64 ((wrap64 (x0 - (wrap64 (x4 * (wrap64 (x4 + 1)))))) - (mn (wrap64 (x0 - (wrap64 (x4 * (wrap64 (x4 + 1)))))) (wrap64 (x4 + 1)))))) 0 13830554455654793216 0) 0 4607182418800017408))).bind fun bt140 => (some (bt140.1, bt140.2.1, bt140.2.2))) else (none)) else (none)) else (none)) else (none)) else (none)) else (if cmulOk (floatOfInt .f64 (mn (wrap64 (x0 - (wrap64 (x4 * (wrap64 (x4 + 1)))))) (wrap64 (x4 + 1)))) 0 4607182418800017408 0 = true then (if caddOk t139.1 t139.2 (cmulR (floatOfInt .f64 (mn (wrap64 (x0 - (wrap64 (x4 * (wrap64 (x4 + 1)))))) (wrap64 (x4 + 1)))) 0 4607182418800017408 0) (cmulI (floatOfInt .f64 (mn (wrap64 (x0 - (wrap64 (x4 * (wrap64 (x4 + 1)))))) (wrap64 (x4 + 1)))) 0 4607182418800017408 0) = true then (if cmulOk (floatOfInt .f64 (wrap64 ((wrap64 (x0 - (wrap64 (x4 * (wrap64 (x4 + 1)))))) - (mn (wrap64 (x0 - (wrap64 (x4 * (wrap64 (x4 + 1)))))) (wrap64 (x4 + 1)))))) 0 4607182418800017408 0 = true then (if cmulOk (cmulR (floatOfInt .f64 (wrap64 ((wrap64 (x0 - (wrap64 (x4 * (wrap64 (x4 + 1)))))) - (mn (wrap64 (x0 - (wrap64 (x4 * (wrap64 (x4 + 1)))))) (wrap64 (x4 + 1)))))) 0 4607182418800017408 0) (cmulI (floatOfInt .f64 (wrap64 ((wrap64 (x0 - (wrap64 (x4 * (wrap64 (x4 + 1)))))) - (mn (wrap64 (x0 - (wrap64 (x4 * (wrap64 (x4 + 1)))))) (wrap64 (x4 + 1)))))) 0 4607182418800017408 0) 0 4607182418800017408 = true then (if caddOk (caddR t139.1 t139.2 (cmulR (floatOfInt .f64 (mn (wrap64 (x0 - (wrap64 (x4 * (wrap64 (x4 + 1)))))) (wrap64 (x4 + 1)))) 0 4607182418800017408 0) (cmulI (floatOfInt .f64 (mn (wrap64 (x0 - (wrap64 (x4 * (wrap64 (x4 + 1)))))) (wrap64 (x4 + 1)))) 0 4607182418800017408 0)) (caddI t139.1 t139.2 (cmulR (floatOfInt .f64 (mn (wrap64 (x0 - (wrap64 (x4 * (wrap64 (x4 + 1)))))) (wrap64 (x4 + 1)))) 0 4607182418800017408 0) (cmulI (floatOfInt .f64 (mn (wrap64 (x0 - (wrap64 (x4 * (wrap64 (x4 + 1)))))) (wrap64 (x4 + 1)))) 0 4607182418800017408 0)) (cmulR (cmulR (floatOfInt .f64 (wrap64 ((wrap64 (x0 - (wrap64 (x4 * (wrap64 (x4 + 1)))))) - (mn (wrap64 (x0 - (wrap64 (x4 * (wrap64 (x4 + 1)))))) (wrap64 (x4 + 1)))))) 0 4607182418800017408 0) (cmulI (floatOfInt .f64 (wrap64 ((wrap64 (x0 - (wrap64 (x4 * (wrap64 (x4 + 1)))))) - (mn (wrap64 (x0 - (wrap64 (x4 * (wrap64 (x4 + 1)))))) (wrap64 (x4 + 1)))))) 0 4607182418800017408 0) 0 4607182418800017408) (cmulI (cmulR (floatOfInt .f64 (wrap64 ((wrap64 (x0 - (wrap64 (x4 * (wrap64 (x4 + 1)))))) - (mn (wrap64 (x0 - (wrap64 (x4 * (wrap64 (x4 + 1)))))) (wrap64 (x4 + 1)))))) 0 4607182418800017408 0) (cmulI (floatOfInt .f64 (wrap64 ((wrap64 (x0 - (wrap64 (x4 * (wrap64 (x4 + 1)))))) - (mn (wrap64 (x0 - (wrap64 (x4 * (wrap64 (x4 + 1)))))) (wrap64 (x4 + 1)))))) 0 4607182418800017408 0) 0 4607182418800017408) = true then ((plane_place.f (caddR (caddR t139.1 t139.2 (cmulR (floatOfInt .f64 (mn (wrap64 (x0 - (wrap64 (x4 * (wrap64 (x4 + 1)))))) (wrap64 (x4 + 1)))) 0 4607182418800017408 0) (cmulI (floatOfInt .f64 (mn (wrap64 (x0 - (wrap64 (x4 * (wrap64 (x4 + 1)))))) (wrap64 (x4 + 1)))) 0 4607182418800017408 0)) (caddI t139.1 t139.2 (cmulR (floatOfInt .f64 (mn (wrap64 (x0 - (wrap64 (x4 * (wrap64 (x4 + 1)))))) (wrap64 (x4 + 1)))) 0 4607182418800017408 0) (cmulI (floatOfInt .f64 (mn (wrap64 (x0 - (wrap64 (x4 * (wrap64 (x4 + 1)))))) (wrap64 (x4 + 1)))) 0 4607182418800017408 0)) (cmulR (cmulR (floatOfInt .f64 (wrap64 ((wrap64 (x0 - (wrap64 (x4 * (wrap64 (x4 + 1)))))) - (mn (wrap64 (x0 - (wrap64 (x4 * (wrap64 (x4 + 1)))))) (wrap64 (x4 + 1)))))) 0 4607182418800017408 0) (cmulI (floatOfInt .f64 (wrap64 ((wrap64 (x0 - (wrap64 (x4 * (wrap64 (x4 + 1)))))) - (mn (wrap64 (x0 - (wrap64 (x4 * (wrap64 (x4 + 1)))))) (wrap64 (x4 + 1)))))) 0 4607182418800017408 0) 0 4607182418800017408) (cmulI (cmulR (floatOfInt .f64 (wrap64 ((wrap64 (x0 - (wrap64 (x4 * (wrap64 (x4 + 1)))))) - (mn (wrap64 (x0 - (wrap64 (x4 * (wrap64 (x4 + 1)))))) (wrap64 (x4 + 1)))))) 0 4607182418800017408 0) (cmulI (floatOfInt .f64 (wrap64 ((wrap64 (x0 - (wrap64 (x4 * (wrap64 (x4 + 1)))))) - (mn (wrap64 (x0 - (wrap64 (x4 * (wrap64 (x4 + 1)))))) (wrap64 (x4 + 1)))))) 0 4607182418800017408 0) 0 4607182418800017408), caddI (caddR t139.1 t139.2 (cmulR (floatOfInt .f64 (mn (wrap64 (x0 - (wrap64 (x4 * (wrap64 (x4 + 1)))))) (wrap64 (x4 + 1)))) 0 4607182418800017408 0) (cmulI (floatOfInt .f64 (mn (wrap64 (x0 - (wrap64 (x4 * (wrap64 (x4 + 1)))))) (wrap64 (x4 + 1)))) 0 4607182418800017408 0)) (caddI t139.1 t139.2 (cmulR (floatOfInt .f64 (mn (wrap64 (x0 - (wrap64 (x4 * (wrap64 (x4 + 1)))))) (wrap64 (x4 + 1)))) 0 4607182418800017408 0) (cmulI (floatOfInt .f64 (mn (wrap64 (x0 - (wrap64 (x4 * (wrap64 (x4 + 1)))))) (wrap64 (x4 + 1)))) 0 4607182418800017408 0)) (cmulR (cmulR (floatOfInt .f64 (wrap64 ((wrap64 (x0 - (wrap64 (x4 * (wrap64 (x4 + 1)))))) - (mn (wrap64 (x0 - (wrap64 (x4 * (wrap64 (x4 + 1)))))) (wrap64 (x4 + 1)))))) 0 4607182418800017408 0) (cmulI (floatOfInt .f64 (wrap64 ((wrap64 (x0 - (wrap64 (x4 * (wrap64 (x4 + 1)))))) - (mn (wrap64 (x0 - (wrap64 (x4 * (wrap64 (x4 + 1)))))) (wrap64 (x4 + 1)))))) 0 4607182418800017408 0) 0 4607182418800017408) (cmulI (cmulR (floatOfInt .f64 (wrap64 ((wrap64 (x0 - (wrap64 (x4 * (wrap64 (x4 + 1)))))) - (mn (wrap64 (x0 - (wrap64 (x4 * (wrap64 (x4 + 1)))))) (wrap64 (x4 + 1)))))) 0 4607182418800017408 0) (cmulI (floatOfInt .f64 (wrap64 ((wrap64 (x0 - (wrap64 (x4 * (wrap64 (x4 + 1)))))) - (mn (wrap64 (x0 - (wrap64 (x4 * (wrap64 (x4 + 1)))))) (wrap64 (x4 + 1)))))) 0 4607182418800017408 0) 0 4607182418800017408))).bind fun bt143 => (some (bt143.1, bt143.2.1, bt143.2.2))) else (none)) else (none)) else (none)) else (none)) else (none))))
end
def plane_Spiral.f (k : Nat) (a0 : Int) : Option (Int × Int × Int) := if a0 < 0 then (plane_Spiral.j0 k a0 true) else (plane_Spiral.j0 k a0 (decide (a0 > 1099511627776)))
theorem plane_Spiral.mono_l : ∀ k, (∀ y0 y1, LeO (plane_Spiral.j0 k y0 y1) (plane_Spiral.j0 (k + 1) y0 y1)) ∧ (∀ y0 y1 y2, LeO (plane_Spiral.l0 k y0 y1 y2) (plane_Spiral.l0 (k + 1) y0 y1 y2))
 | 0 => ⟨fun _ _ r h => by simp [plane_Spiral.j0] at h, fun _ _ _ r h => by simp [plane_Spiral.l0] at h⟩
 | k + 1 => by
  obtain ⟨ih0, ih1⟩ := plane_Spiral.mono_l k
  refine ⟨?_, ?_⟩
  ·
   intro y0 y1
   unfold plane_Spiral.j0
   repeat' first
   | (with_reducible exact ih0 _ _)
   | (with_reducible exact ih1 _ _ _)
   | (with_reducible exact LeO.refl _)
   | (with_reducible exact LeO.none _)
   | (with_reducible refine LeO.ite ?_ ?_)
   | (with_reducible refine LeO.bind ?_ (fun _ => ?_))
   | exact ih0 _ _
   | exact ih1 _ _ _
   | exact LeO.none _
   | refine LeO.ite ?_ ?_
   | refine LeO.bind ?_ (fun _ => ?_)
  ·
   intro y0 y1 y2
   unfold plane_Spiral.l0
   repeat' first
   | (with_reducible exact ih0 _ _)
   | (with_reducible exact ih1 _ _ _)
   | (with_reducible exact LeO.refl _)
   | (with_reducible exact LeO.none _)
   | (with_reducible refine LeO.ite ?_ ?_)
   | (with_reducible refine LeO.bind ?_ (fun _ => ?_))
   | exact ih0 _ _
   | exact ih1 _ _ _
   | exact LeO.none _
   | refine LeO.ite ?_ ?_
   | refine LeO.bind ?_ (fun _ => ?_)
theorem plane_Spiral.mono : ∀ a0 k, LeO (plane_Spiral.f k a0) (plane_Spiral.f (k + 1) a0) := by
 intro a0 k
 obtain ⟨ih0, ih1⟩ := plane_Spiral.mono_l k
 unfold plane_Spiral.f
 repeat' first
   | (with_reducible exact ih0 _ _)
   | (with_reducible exact ih1 _ _ _)
   | (with_reducible exact LeO.refl _)
   | (with_reducible exact LeO.none _)
   | (with_reducible refine LeO.ite ?_ ?_)
   | (with_reducible refine LeO.bind ?_ (fun _ => ?_))
   | exact ih0 _ _
   | exact ih1 _ _ _
   | exact LeO.none _
   | refine LeO.ite ?_ ?_
   | refine LeO.bind ?_ (fun _ => ?_)
set_option maxHeartbeats 8000000 in
set_option maxRecDepth 100000 in
theorem plane_Spiral.calls (k : Nat) (a0 : Int) (r1 : Int) (r2 : Int) (r3 : Int) (w : World) (h : plane_Spiral.f k a0 = some (r1, r2, r3)) :
  Calls Try.prog 18 #[.int .i64 a0] w fun e w' => e = .returned (.tuple #[.agg #[.int .i64 r1, .int .i64 r2], .int .i64 r3]) ∧ Below w.heap.size w w' := by
 have hu23 := Try.underlying23
 have hu3 := Try.underlying3
 have hu63 := Try.underlying63
 have HB := Aside0.mk (Below.refl w.heap.size w)
 have H : (if a0 < 0 then (plane_Spiral.j0 k a0 true) else (plane_Spiral.j0 k a0 (decide (a0 > 1099511627776)))) = some (r1, r2, r3) := h
 clear h
 have HC2 := Aside0.mk H
 clear H
 go_enter Try.func18, Try.ntmps18
 go_upto_region 1 with (first | ((with_reducible refine gate_dst (N := 2) rfl ?_); refine box_event ?hg (N := 2) ?hd (cs := #[.int .i64 0, .int .i64 0]) (t := 23) ?hr ?_; (case hd => rfl); (case hg => rfl); (case hr => first | (go_simp; done) | (go_simp; rfl)); intro gb138 hg w3 hbox hb; have n0_ := hS HB hb; have n1_ := Aside0.mk (hbox); have n2_ := hG HB hg; have n3_ := hG HB hg; clear HB; have HB := n0_; have BK138 := n1_; have GW138 := n2_; have GE138 := n3_; clear n0_ n1_ n2_ n3_; clear hb hbox hg))
 (try simp only [Act.put, List.setIfInBounds_toArray, List.set_cons_zero, List.set_cons_succ])
 go_cut [15] (fun v15 wc => ∃ (kq : Nat) (x15_1 : Bool), v15 = .bool x15_1 ∧ Aside0 (plane_Spiral.j0 kq a0 x15_1 = some (r1, r2, r3)) ∧ Aside0 (kq ≤ k) ∧ Aside0 (wc.heap[gb138]? = some (.cells #[.int .i64 0, .int .i64 0] 23 (0, 0))) ∧ Aside0 (Below w.heap.size w wc))
 case first =>
  have H := HC2.out
  clear HC2
  by_cases c4 : a0 < 0
  ·
   rw [if_pos c4] at H
   have c4b0 : decide (a0 < 0) = true := decide_eq_true c4
   clear c4
   (first | rw [c4b0] | (simp only [i64_w, i32_w, IntKind.wrap_u8]; rw [c4b0]) | skip)
   have H' := Aside0.mk H
   clear H
   go_wp2
   go_meet
   case rel => exact ⟨_, (true), (by first | rfl | (simp; done) | (simp [*]; done)), H', ⟨by first | omega | exact Nat.le_refl _⟩, ⟨by (with_reducible repeat (first | refine blk_drewN ?_ _ | refine blk_drew ?_ | refine blk_alloc ?_ _)); exact BK138.out⟩, ⟨by repeat (first | (with_reducible first | exact HB.out | apply below_alloc | apply pw_below_drewN | apply below_drew1 | refine below_set ?_ GE138.out) | exact HB.out)⟩⟩
  ·
   rw [if_neg c4] at H
   have c4b0 : decide (a0 < 0) = false := decide_eq_false c4
   clear c4
   (first | rw [c4b0] | (simp only [i64_w, i32_w, IntKind.wrap_u8]; rw [c4b0]) | skip)
   have H' := Aside0.mk H
   clear H
   go_wp2
   go_meet
   case rel => exact ⟨_, (decide (a0 > 1099511627776)), (by first | rfl | (simp; done) | (simp [*]; done)), H', ⟨by first | omega | exact Nat.le_refl _⟩, ⟨by (with_reducible repeat (first | refine blk_drewN ?_ _ | refine blk_drew ?_ | refine blk_alloc ?_ _)); exact BK138.out⟩, ⟨by repeat (first | (with_reducible first | exact HB.out | apply below_alloc | apply pw_below_drewN | apply below_drew1 | refine below_set ?_ GE138.out) | exact HB.out)⟩⟩
 case rest =>
  clear HC2
  try clear c1
  try clear p2
  try clear c4
  try clear c4b0
  obtain ⟨kq, x15_1, rfl, HA, HJ1, BK138, HB⟩ := hcut
  cases kq with
  | zero => exact absurd HA.out (by simp [plane_Spiral.j0])
  | succ kj1 =>
   have H := HA.out
   clear HA
   simp only [plane_Spiral.j0] at H
   by_cases c5 : x15_1 = true
   ·
    subst c5
    have H1 : (some (0, 0, 1)) = some (r1, r2, r3) := by rw [if_pos rfl] at H; exact H
    clear H
    have H := H1
    clear H1
    simp only [Option.some.injEq, Prod.mk.injEq] at H
    obtain ⟨rfl, rfl, rfl⟩ := H
    have hcz6_0 : wc.cell? ⟨gb138, 0, none⟩ = some (.int .i64 0) := (blk_cell BK138.out 0).trans rfl
    have hcz6_1 : wc.cell? ⟨gb138, 1, none⟩ = some (.int .i64 0) := (blk_cell BK138.out 1).trans rfl
    have hfz6_0 := blk_frozen BK138.out 0
    have hfz6_1 := blk_frozen BK138.out 1
    go_wp2
    refine bodyPost_ret (results_ct rfl _ _ gb138 23 #[.int .i64 0, .int .i64 0] (0, 0) _ rfl (by (with_reducible repeat (first | refine blk_drewN ?_ _ | refine blk_drew ?_ | refine blk_alloc ?_ _)); refine blk_put (cs := #[.int .i64 0, .int .i64 0]) ?_ 1 _ rfl; (with_reducible repeat (first | refine blk_drewN ?_ _ | refine blk_drew ?_ | refine blk_alloc ?_ _)); refine blk_put (cs := #[.int .i64 0, .int .i64 0]) ?_ 0 _ rfl; (with_reducible repeat (first | refine blk_drewN ?_ _ | refine blk_drew ?_ | refine blk_alloc ?_ _)); exact BK138.out) Try.underlying23 rfl (by kernel_rfl)) rfl ?_
    exact ⟨by first | rfl | (simp [errW_none, errW_some] <;> rfl) | (simp [*, errW_none, errW_some] <;> rfl), by repeat (first | (with_reducible first | exact HB.out | apply below_alloc | apply pw_below_drewN | apply below_drew1 | refine below_set ?_ GE138.out) | exact HB.out)⟩
   ·
    replace c5 := Bool.eq_false_iff.mpr c5
    subst c5
    have H1 : (plane_Spiral.l0 kj1 a0 0 1048576) = some (r1, r2, r3) := by rw [if_neg (show ¬ (false = true) by decide)] at H; exact H
    clear H
    have H := H1
    clear H1
    have H' := Aside0.mk H
    clear H
    go_wp2
    go_loopg [4, 5] kj1 (fun kq v4 v5 w' => ∃ (x4_2 : Int) (x5_2 : Int), v4 = .int .i64 x4_2 ∧ v5 = .int .i64 x5_2 ∧ Aside0 (plane_Spiral.l0 kq a0 x4_2 x5_2 = some (r1, r2, r3)) ∧ Aside0 (kq ≤ kj1) ∧ Aside0 (w'.heap[gb138]? = some (.cells #[.int .i64 0, .int .i64 0] 23 (0, 0))) ∧ Aside0 (Below w.heap.size w w'))
    case atStart => exact ⟨(0), (1048576), (by first | rfl | (simp; done) | (simp [*]; done)), (by first | rfl | (simp; done) | (simp [*]; done)), H', ⟨Nat.le_refl _⟩, ⟨by (with_reducible repeat (first | refine blk_drewN ?_ _ | refine blk_drew ?_ | refine blk_alloc ?_ _)); exact BK138.out⟩, ⟨by repeat (first | (with_reducible first | exact HB.out | apply below_alloc | apply pw_below_drewN | apply below_drew1 | refine below_set ?_ GE138.out) | exact HB.out)⟩⟩
    case round =>
     clear H'
     try clear c1
     try clear p2
     try clear c4
     try clear c4b0
     try clear c5
     try clear hcz6_0
     try clear hcz6_1
     try clear hfz6_0
     try clear hfz6_1
     try clear p2
     obtain ⟨x4_2, x5_2, rfl, rfl, HA, HK2, BK138, HB⟩ := hrel
     cases gk with
     | zero => exact absurd HA.out (by simp [plane_Spiral.l0])
     | succ k2 =>
      have H := HA.out
      clear HA
      simp only [plane_Spiral.l0] at H
      by_cases c7 : x5_2 > 0
      ·
       rw [if_pos c7] at H
       have c7b0 : decide (0 < x5_2) = true := decide_eq_true c7
       clear c7
       by_cases c8 : (wrap64 ((wrap64 (x4_2 + x5_2)) * (wrap64 ((wrap64 (x4_2 + x5_2)) + 1)))) ≤ a0
       ·
        rw [if_pos c8] at H
        have c8b0 : decide ((wrap64 ((wrap64 (x4_2 + x5_2)) * (wrap64 ((wrap64 (x4_2 + x5_2)) + 1)))) ≤ a0) = true := decide_eq_true c8
        clear c8
        have H' := Aside0.mk H
        clear H
        go_wp2
        go_roundg k2
        case measure => have := HJ1.out; have := HK2.out; omega
        case rel => exact ⟨(wrap64 (x4_2 + x5_2)), (wrap64 (Int.tdiv x5_2 2)), (by first | rfl | (simp; done) | (simp [*]; done)), (by first | rfl | (simp; done) | (simp [*]; done)), H', ⟨by have := HJ1.out; have := HK2.out; omega⟩, ⟨by (with_reducible repeat (first | refine blk_drewN ?_ _ | refine blk_drew ?_ | refine blk_alloc ?_ _)); exact BK138.out⟩, ⟨by repeat (first | (with_reducible first | exact HB.out | apply below_alloc | apply pw_below_drewN | apply below_drew1 | refine below_set ?_ GE138.out) | exact HB.out)⟩⟩
       ·
        rw [if_neg c8] at H
        have c8b0 : decide ((wrap64 ((wrap64 (x4_2 + x5_2)) * (wrap64 ((wrap64 (x4_2 + x5_2)) + 1)))) ≤ a0) = false := decide_eq_false c8
        clear c8
        have H' := Aside0.mk H
        clear H
        go_wp2
        go_roundg k2
        case measure => have := HJ1.out; have := HK2.out; omega
        case rel => exact ⟨(x4_2), (wrap64 (Int.tdiv x5_2 2)), (by first | rfl | (simp; done) | (simp [*]; done)), (by first | rfl | (simp; done) | (simp [*]; done)), H', ⟨by have := HJ1.out; have := HK2.out; omega⟩, ⟨by (with_reducible repeat (first | refine blk_drewN ?_ _ | refine blk_drew ?_ | refine blk_alloc ?_ _)); exact BK138.out⟩, ⟨by repeat (first | (with_reducible first | exact HB.out | apply below_alloc | apply pw_below_drewN | apply below_drew1 | refine below_set ?_ GE138.out) | exact HB.out)⟩⟩
      ·
       rw [if_neg c7] at H
       have c7b0 : decide (0 < x5_2) = false := decide_eq_false c7
       clear c7
       replace H := Option.bind_eq_some_iff.mp H
       obtain ⟨t139, A90, H⟩ := H
       replace H : (if (Int.tmod x4_2 2) = 1 then (if cmulOk (floatOfInt .f64 (mn (wrap64 (a0 - (wrap64 (x4_2 * (wrap64 (x4_2 + 1)))))) (wrap64 (x4_2 + 1)))) 0 13830554455654793216 0 = true then (if caddOk t139.1 t139.2 (cmulR (floatOfInt .f64 (mn (wrap64 (a0 - (wrap64 (x4_2 * (wrap64 (x4_2 + 1)))))) (wrap64 (x4_2 + 1)))) 0 13830554455654793216 0) (cmulI (floatOfInt .f64 (mn (wrap64 (a0 - (wrap64 (x4_2 * (wrap64 (x4_2 + 1)))))) (wrap64 (x4_2 + 1)))) 0 13830554455654793216 0) = true then (if cmulOk (floatOfInt .f64 (wrap64 ((wrap64 (a0 - (wrap64 (x4_2 * (wrap64 (x4_2 + 1)))))) - (mn (wrap64 (a0 - (wrap64 (x4_2 * (wrap64 (x4_2 + 1)))))) (wrap64 (x4_2 + 1)))))) 0 13830554455654793216 0 = true then (if cmulOk (cmulR (floatOfInt .f64 (wrap64 ((wrap64 (a0 - (wrap64 (x4_2 * (wrap64 (x4_2 + 1)))))) - (mn (wrap64 (a0 - (wrap64 (x4_2 * (wrap64 (x4_2 + 1)))))) (wrap64 (x4_2 + 1)))))) 0 13830554455654793216 0) (cmulI (floatOfInt .f64 (wrap64 ((wrap64 (a0 - (wrap64 (x4_2 * (wrap64 (x4_2 + 1)))))) - (mn (wrap64 (a0 - (wrap64 (x4_2 * (wrap64 (x4_2 + 1)))))) (wrap64 (x4_2 + 1)))))) 0 13830554455654793216 0) 0 4607182418800017408 = true then (if caddOk (caddR t139.1 t139.2 (cmulR (floatOfInt .f64 (mn (wrap64 (a0 - (wrap64 (x4_2 * (wrap64 (x4_2 + 1)))))) (wrap64 (x4_2 + 1)))) 0 13830554455654793216 0) (cmulI (floatOfInt .f64 (mn (wrap64 (a0 - (wrap64 (x4_2 * (wrap64 (x4_2 + 1)))))) (wrap64 (x4_2 + 1)))) 0 13830554455654793216 0)) (caddI t139.1 t139.2 (cmulR (floatOfInt .f64 (mn (wrap64 (a0 - (wrap64 (x4_2 * (wrap64 (x4_2 + 1)))))) (wrap64 (x4_2 + 1)))) 0 13830554455654793216 0) (cmulI (floatOfInt .f64 (mn (wrap64 (a0 - (wrap64 (x4_2 * (wrap64 (x4_2 + 1)))))) (wrap64 (x4_2 + 1)))) 0 13830554455654793216 0)) (cmulR (cmulR (floatOfInt .f64 (wrap64 ((wrap64 (a0 - (wrap64 (x4_2 * (wrap64 (x4_2 + 1)))))) - (mn (wrap64 (a0 - (wrap64 (x4_2 * (wrap64 (x4_2 + 1)))))) (wrap64 (x4_2 + 1)))))) 0 13830554455654793216 0) (cmulI (floatOfInt .f64 (wrap64 ((wrap64 (a0 - (wrap64 (x4_2 * (wrap64 (x4_2 + 1)))))) - (mn (wrap64 (a0 - (wrap64 (x4_2 * (wrap64 (x4_2 + 1)))))) (wrap64 (x4_2 + 1)))))) 0 13830554455654793216 0) 0 4607182418800017408) (cmulI (cmulR (floatOfInt .f64 (wrap64 ((wrap64 (a0 - (wrap64 (x4_2 * (wrap64 (x4_2 + 1)))))) - (mn (wrap64 (a0 - (wrap64 (x4_2 * (wrap64 (x4_2 + 1)))))) (wrap64 (x4_2 + 1)))))) 0 13830554455654793216 0) (cmulI (floatOfInt .f64 (wrap64 ((wrap64 (a0 - (wrap64 (x4_2 * (wrap64 (x4_2 + 1)))))) - (mn (wrap64 (a0 - (wrap64 (x4_2 * (wrap64 (x4_2 + 1)))))) (wrap64 (x4_2 + 1)))))) 0 13830554455654793216 0) 0 4607182418800017408) = true then ((plane_place.f (caddR (caddR t139.1 t139.2 (cmulR (floatOfInt .f64 (mn (wrap64 (a0 - (wrap64 (x4_2 * (wrap64 (x4_2 + 1)))))) (wrap64 (x4_2 + 1)))) 0 13830554455654793216 0) (cmulI (floatOfInt .f64 (mn (wrap64 (a0 - (wrap64 (x4_2 * (wrap64 (x4_2 + 1)))))) (wrap64 (x4_2 + 1)))) 0 13830554455654793216 0)) (caddI t139.1 t139.2 (cmulR (floatOfInt .f64 (mn (wrap64 (a0 - (wrap64 (x4_2 * (wrap64 (x4_2 + 1)))))) (wrap64 (x4_2 + 1)))) 0 13830554455654793216 0) (cmulI (floatOfInt .f64 (mn (wrap64 (a0 - (wrap64 (x4_2 * (wrap64 (x4_2 + 1)))))) (wrap64 (x4_2 + 1)))) 0 13830554455654793216 0)) (cmulR (cmulR (floatOfInt .f64 (wrap64 ((wrap64 (a0 - (wrap64 (x4_2 * (wrap64 (x4_2 + 1)))))) - (mn (wrap64 (a0 - (wrap64 (x4_2 * (wrap64 (x4_2 + 1)))))) (wrap64 (x4_2 + 1)))))) 0 13830554455654793216 0) (cmulI (floatOfInt .f64 (wrap64 ((wrap64 (a0 - (wrap64 (x4_2 * (wrap64 (x4_2 + 1)))))) - (mn (wrap64 (a0 - (wrap64 (x4_2 * (wrap64 (x4_2 + 1)))))) (wrap64 (x4_2 + 1)))))) 0 13830554455654793216 0) 0 4607182418800017408) (cmulI (cmulR (floatOfInt .f64 (wrap64 ((wrap64 (a0 - (wrap64 (x4_2 * (wrap64 (x4_2 + 1)))))) - (mn (wrap64 (a0 - (wrap64 (x4_2 * (wrap64 (x4_2 + 1)))))) (wrap64 (x4_2 + 1)))))) 0 13830554455654793216 0) (cmulI (floatOfInt .f64 (wrap64 ((wrap64 (a0 - (wrap64 (x4_2 * (wrap64 (x4_2 + 1)))))) - (mn (wrap64 (a0 - (wrap64 (x4_2 * (wrap64 (x4_2 + 1)))))) (wrap64 (x4_2 + 1)))))) 0 13830554455654793216 0) 0 4607182418800017408), caddI (caddR t139.1 t139.2 (cmulR (floatOfInt .f64 (mn (wrap64 (a0 - (wrap64 (x4_2 * (wrap64 (x4_2 + 1)))))) (wrap64 (x4_2 + 1)))) 0 13830554455654793216 0) (cmulI (floatOfInt .f64 (mn (wrap64 (a0 - (wrap64 (x4_2 * (wrap64 (x4_2 + 1)))))) (wrap64 (x4_2 + 1)))) 0 13830554455654793216 0)) (caddI t139.1 t139.2 (cmulR (floatOfInt .f64 (mn (wrap64 (a0 - (wrap64 (x4_2 * (wrap64 (x4_2 + 1)))))) (wrap64 (x4_2 + 1)))) 0 13830554455654793216 0) (cmulI (floatOfInt .f64 (mn (wrap64 (a0 - (wrap64 (x4_2 * (wrap64 (x4_2 + 1)))))) (wrap64 (x4_2 + 1)))) 0 13830554455654793216 0)) (cmulR (cmulR (floatOfInt .f64 (wrap64 ((wrap64 (a0 - (wrap64 (x4_2 * (wrap64 (x4_2 + 1)))))) - (mn (wrap64 (a0 - (wrap64 (x4_2 * (wrap64 (x4_2 + 1)))))) (wrap64 (x4_2 + 1)))))) 0 13830554455654793216 0) (cmulI (floatOfInt .f64 (wrap64 ((wrap64 (a0 - (wrap64 (x4_2 * (wrap64 (x4_2 + 1)))))) - (mn (wrap64 (a0 - (wrap64 (x4_2 * (wrap64 (x4_2 + 1)))))) (wrap64 (x4_2 + 1)))))) 0 13830554455654793216 0) 0 4607182418800017408) (cmulI (cmulR (floatOfInt .f64 (wrap64 ((wrap64 (a0 - (wrap64 (x4_2 * (wrap64 (x4_2 + 1)))))) - (mn (wrap64 (a0 - (wrap64 (x4_2 * (wrap64 (x4_2 + 1)))))) (wrap64 (x4_2 + 1)))))) 0 13830554455654793216 0) (cmulI (floatOfInt .f64 (wrap64 ((wrap64 (a0 - (wrap64 (x4_2 * (wrap64 (x4_2 + 1)))))) - (mn (wrap64 (a0 - (wrap64 (x4_2 * (wrap64 (x4_2 + 1)))))) (wrap64 (x4_2 + 1)))))) 0 13830554455654793216 0) 0 4607182418800017408))).bind fun bt140 => (some (bt140.1, bt140.2.1, bt140.2.2))) else (none)) else (none)) else (none)) else (none)) else (none)) else (if cmulOk (floatOfInt .f64 (mn (wrap64 (a0 - (wrap64 (x4_2 * (wrap64 (x4_2 + 1)))))) (wrap64 (x4_2 + 1)))) 0 4607182418800017408 0 = true then (if caddOk t139.1 t139.2 (cmulR (floatOfInt .f64 (mn (wrap64 (a0 - (wrap64 (x4_2 * (wrap64 (x4_2 + 1)))))) (wrap64 (x4_2 + 1)))) 0 4607182418800017408 0) (cmulI (floatOfInt .f64 (mn (wrap64 (a0 - (wrap64 (x4_2 * (wrap64 (x4_2 + 1)))))) (wrap64 (x4_2 + 1)))) 0 4607182418800017408 0) = true then (if cmulOk (floatOfInt .f64 (wrap64 ((wrap64 (a0 - (wrap64 (x4_2 * (wrap64 (x4_2 + 1)))))) - (mn (wrap64 (a0 - (wrap64 (x4_2 * (wrap64 (x4_2 + 1)))))) (wrap64 (x4_2 + 1)))))) 0 4607182418800017408 0 = true then (if cmulOk (cmulR (floatOfInt .f64 (wrap64 ((wrap64 (a0 - (wrap64 (x4_2 * (wrap64 (x4_2 + 1)))))) - (mn (wrap64 (a0 - (wrap64 (x4_2 * (wrap64 (x4_2 + 1)))))) (wrap64 (x4_2 + 1)))))) 0 4607182418800017408 0) (cmulI (floatOfInt .f64 (wrap64 ((wrap64 (a0 - (wrap64 (x4_2 * (wrap64 (x4_2 + 1)))))) - (mn (wrap64 (a0 - (wrap64 (x4_2 * (wrap64 (x4_2 + 1)))))) (wrap64 (x4_2 + 1)))))) 0 4607182418800017408 0) 0 4607182418800017408 = true then (if caddOk (caddR t139.1 t139.2 (cmulR (floatOfInt .f64 (mn (wrap64 (a0 - (wrap64 (x4_2 * (wrap64 (x4_2 + 1)))))) (wrap64 (x4_2 + 1)))) 0 4607182418800017408 0) (cmulI (floatOfInt .f64 (mn (wrap64 (a0 - (wrap64 (x4_2 * (wrap64 (x4_2 + 1)))))) (wrap64 (x4_2 + 1)))) 0 4607182418800017408 0)) (caddI t139.1 t139.2 (cmulR (floatOfInt .f64 (mn (wrap64 (a0 - (wrap64 (x4_2 * (wrap64 (x4_2 + 1)))))) (wrap64 (x4_2 + 1)))) 0 4607182418800017408 0) (cmulI (floatOfInt .f64 (mn (wrap64 (a0 - (wrap64 (x4_2 * (wrap64 (x4_2 + 1)))))) (wrap64 (x4_2 + 1)))) 0 4607182418800017408 0)) (cmulR (cmulR (floatOfInt .f64 (wrap64 ((wrap64 (a0 - (wrap64 (x4_2 * (wrap64 (x4_2 + 1)))))) - (mn (wrap64 (a0 - (wrap64 (x4_2 * (wrap64 (x4_2 + 1)))))) (wrap64 (x4_2 + 1)))))) 0 4607182418800017408 0) (cmulI (floatOfInt .f64 (wrap64 ((wrap64 (a0 - (wrap64 (x4_2 * (wrap64 (x4_2 + 1)))))) - (mn (wrap64 (a0 - (wrap64 (x4_2 * (wrap64 (x4_2 + 1)))))) (wrap64 (x4_2 + 1)))))) 0 4607182418800017408 0) 0 4607182418800017408) (cmulI (cmulR (floatOfInt .f64 (wrap64 ((wrap64 (a0 - (wrap64 (x4_2 * (wrap64 (x4_2 + 1)))))) - (mn (wrap64 (a0 - (wrap64 (x4_2 * (wrap64 (x4_2 + 1)))))) (wrap64 (x4_2 + 1)))))) 0 4607182418800017408 0) (cmulI (floatOfInt .f64 (wrap64 ((wrap64 (a0 - (wrap64 (x4_2 * (wrap64 (x4_2 + 1)))))) - (mn (wrap64 (a0 - (wrap64 (x4_2 * (wrap64 (x4_2 + 1)))))) (wrap64 (x4_2 + 1)))))) 0 4607182418800017408 0) 0 4607182418800017408) = true then ((plane_place.f (caddR (caddR t139.1 t139.2 (cmulR (floatOfInt .f64 (mn (wrap64 (a0 - (wrap64 (x4_2 * (wrap64 (x4_2 + 1)))))) (wrap64 (x4_2 + 1)))) 0 4607182418800017408 0) (cmulI (floatOfInt .f64 (mn (wrap64 (a0 - (wrap64 (x4_2 * (wrap64 (x4_2 + 1)))))) (wrap64 (x4_2 + 1)))) 0 4607182418800017408 0)) (caddI t139.1 t139.2 (cmulR (floatOfInt .f64 (mn (wrap64 (a0 - (wrap64 (x4_2 * (wrap64 (x4_2 + 1)))))) (wrap64 (x4_2 + 1)))) 0 4607182418800017408 0) (cmulI (floatOfInt .f64 (mn (wrap64 (a0 - (wrap64 (x4_2 * (wrap64 (x4_2 + 1)))))) (wrap64 (x4_2 + 1)))) 0 4607182418800017408 0)) (cmulR (cmulR (floatOfInt .f64 (wrap64 ((wrap64 (a0 - (wrap64 (x4_2 * (wrap64 (x4_2 + 1)))))) - (mn (wrap64 (a0 - (wrap64 (x4_2 * (wrap64 (x4_2 + 1)))))) (wrap64 (x4_2 + 1)))))) 0 4607182418800017408 0) (cmulI (floatOfInt .f64 (wrap64 ((wrap64 (a0 - (wrap64 (x4_2 * (wrap64 (x4_2 + 1)))))) - (mn (wrap64 (a0 - (wrap64 (x4_2 * (wrap64 (x4_2 + 1)))))) (wrap64 (x4_2 + 1)))))) 0 4607182418800017408 0) 0 4607182418800017408) (cmulI (cmulR (floatOfInt .f64 (wrap64 ((wrap64 (a0 - (wrap64 (x4_2 * (wrap64 (x4_2 + 1)))))) - (mn (wrap64 (a0 - (wrap64 (x4_2 * (wrap64 (x4_2 + 1)))))) (wrap64 (x4_2 + 1)))))) 0 4607182418800017408 0) (cmulI (floatOfInt .f64 (wrap64 ((wrap64 (a0 - (wrap64 (x4_2 * (wrap64 (x4_2 + 1)))))) - (mn (wrap64 (a0 - (wrap64 (x4_2 * (wrap64 (x4_2 + 1)))))) (wrap64 (x4_2 + 1)))))) 0 4607182418800017408 0) 0 4607182418800017408), caddI (caddR t139.1 t139.2 (cmulR (floatOfInt .f64 (mn (wrap64 (a0 - (wrap64 (x4_2 * (wrap64 (x4_2 + 1)))))) (wrap64 (x4_2 + 1)))) 0 4607182418800017408 0) (cmulI (floatOfInt .f64 (mn (wrap64 (a0 - (wrap64 (x4_2 * (wrap64 (x4_2 + 1)))))) (wrap64 (x4_2 + 1)))) 0 4607182418800017408 0)) (caddI t139.1 t139.2 (cmulR (floatOfInt .f64 (mn (wrap64 (a0 - (wrap64 (x4_2 * (wrap64 (x4_2 + 1)))))) (wrap64 (x4_2 + 1)))) 0 4607182418800017408 0) (cmulI (floatOfInt .f64 (mn (wrap64 (a0 - (wrap64 (x4_2 * (wrap64 (x4_2 + 1)))))) (wrap64 (x4_2 + 1)))) 0 4607182418800017408 0)) (cmulR (cmulR (floatOfInt .f64 (wrap64 ((wrap64 (a0 - (wrap64 (x4_2 * (wrap64 (x4_2 + 1)))))) - (mn (wrap64 (a0 - (wrap64 (x4_2 * (wrap64 (x4_2 + 1)))))) (wrap64 (x4_2 + 1)))))) 0 4607182418800017408 0) (cmulI (floatOfInt .f64 (wrap64 ((wrap64 (a0 - (wrap64 (x4_2 * (wrap64 (x4_2 + 1)))))) - (mn (wrap64 (a0 - (wrap64 (x4_2 * (wrap64 (x4_2 + 1)))))) (wrap64 (x4_2 + 1)))))) 0 4607182418800017408 0) 0 4607182418800017408) (cmulI (cmulR (floatOfInt .f64 (wrap64 ((wrap64 (a0 - (wrap64 (x4_2 * (wrap64 (x4_2 + 1)))))) - (mn (wrap64 (a0 - (wrap64 (x4_2 * (wrap64 (x4_2 + 1)))))) (wrap64 (x4_2 + 1)))))) 0 4607182418800017408 0) (cmulI (floatOfInt .f64 (wrap64 ((wrap64 (a0 - (wrap64 (x4_2 * (wrap64 (x4_2 + 1)))))) - (mn (wrap64 (a0 - (wrap64 (x4_2 * (wrap64 (x4_2 + 1)))))) (wrap64 (x4_2 + 1)))))) 0 4607182418800017408 0) 0 4607182418800017408))).bind fun bt143 => (some (bt143.1, bt143.2.1, bt143.2.2))) else (none)) else (none)) else (none)) else (none)) else (none))) = some (r1, r2, r3) := H
       have A9 := Aside0.mk A90
       clear A90
       by_cases c10 : (Int.tmod x4_2 2) = 1
       ·
        rw [if_pos c10] at H
        have c10b0 : ((Int.tmod x4_2 2) == 1) = true := beq_iff_eq.mpr c10
        have c10b1 : ((Int.tmod x4_2 2) != 1) = false := bne_eq_false_iff_eq.mpr c10
        clear c10
        obtain ⟨ji11, hji11⟩ : ∃ j_ : Int, (mn (wrap64 (a0 - (wrap64 (x4_2 * (wrap64 (x4_2 + 1)))))) (wrap64 (x4_2 + 1))) = j_ := ⟨_, rfl⟩
        replace H : (if cmulOk (floatOfInt .f64 (ji11)) 0 13830554455654793216 0 = true then (if caddOk t139.1 t139.2 (cmulR (floatOfInt .f64 (ji11)) 0 13830554455654793216 0) (cmulI (floatOfInt .f64 (ji11)) 0 13830554455654793216 0) = true then (if cmulOk (floatOfInt .f64 (wrap64 ((wrap64 (a0 - (wrap64 (x4_2 * (wrap64 (x4_2 + 1)))))) - (ji11)))) 0 13830554455654793216 0 = true then (if cmulOk (cmulR (floatOfInt .f64 (wrap64 ((wrap64 (a0 - (wrap64 (x4_2 * (wrap64 (x4_2 + 1)))))) - (ji11)))) 0 13830554455654793216 0) (cmulI (floatOfInt .f64 (wrap64 ((wrap64 (a0 - (wrap64 (x4_2 * (wrap64 (x4_2 + 1)))))) - (ji11)))) 0 13830554455654793216 0) 0 4607182418800017408 = true then (if caddOk (caddR t139.1 t139.2 (cmulR (floatOfInt .f64 (ji11)) 0 13830554455654793216 0) (cmulI (floatOfInt .f64 (ji11)) 0 13830554455654793216 0)) (caddI t139.1 t139.2 (cmulR (floatOfInt .f64 (ji11)) 0 13830554455654793216 0) (cmulI (floatOfInt .f64 (ji11)) 0 13830554455654793216 0)) (cmulR (cmulR (floatOfInt .f64 (wrap64 ((wrap64 (a0 - (wrap64 (x4_2 * (wrap64 (x4_2 + 1)))))) - (ji11)))) 0 13830554455654793216 0) (cmulI (floatOfInt .f64 (wrap64 ((wrap64 (a0 - (wrap64 (x4_2 * (wrap64 (x4_2 + 1)))))) - (ji11)))) 0 13830554455654793216 0) 0 4607182418800017408) (cmulI (cmulR (floatOfInt .f64 (wrap64 ((wrap64 (a0 - (wrap64 (x4_2 * (wrap64 (x4_2 + 1)))))) - (ji11)))) 0 13830554455654793216 0) (cmulI (floatOfInt .f64 (wrap64 ((wrap64 (a0 - (wrap64 (x4_2 * (wrap64 (x4_2 + 1)))))) - (ji11)))) 0 13830554455654793216 0) 0 4607182418800017408) = true then ((plane_place.f (caddR (caddR t139.1 t139.2 (cmulR (floatOfInt .f64 (ji11)) 0 13830554455654793216 0) (cmulI (floatOfInt .f64 (ji11)) 0 13830554455654793216 0)) (caddI t139.1 t139.2 (cmulR (floatOfInt .f64 (ji11)) 0 13830554455654793216 0) (cmulI (floatOfInt .f64 (ji11)) 0 13830554455654793216 0)) (cmulR (cmulR (floatOfInt .f64 (wrap64 ((wrap64 (a0 - (wrap64 (x4_2 * (wrap64 (x4_2 + 1)))))) - (ji11)))) 0 13830554455654793216 0) (cmulI (floatOfInt .f64 (wrap64 ((wrap64 (a0 - (wrap64 (x4_2 * (wrap64 (x4_2 + 1)))))) - (ji11)))) 0 13830554455654793216 0) 0 4607182418800017408) (cmulI (cmulR (floatOfInt .f64 (wrap64 ((wrap64 (a0 - (wrap64 (x4_2 * (wrap64 (x4_2 + 1)))))) - (ji11)))) 0 13830554455654793216 0) (cmulI (floatOfInt .f64 (wrap64 ((wrap64 (a0 - (wrap64 (x4_2 * (wrap64 (x4_2 + 1)))))) - (ji11)))) 0 13830554455654793216 0) 0 4607182418800017408), caddI (caddR t139.1 t139.2 (cmulR (floatOfInt .f64 (ji11)) 0 13830554455654793216 0) (cmulI (floatOfInt .f64 (ji11)) 0 13830554455654793216 0)) (caddI t139.1 t139.2 (cmulR (floatOfInt .f64 (ji11)) 0 13830554455654793216 0) (cmulI (floatOfInt .f64 (ji11)) 0 13830554455654793216 0)) (cmulR (cmulR (floatOfInt .f64 (wrap64 ((wrap64 (a0 - (wrap64 (x4_2 * (wrap64 (x4_2 + 1)))))) - (ji11)))) 0 13830554455654793216 0) (cmulI (floatOfInt .f64 (wrap64 ((wrap64 (a0 - (wrap64 (x4_2 * (wrap64 (x4_2 + 1)))))) - (ji11)))) 0 13830554455654793216 0) 0 4607182418800017408) (cmulI (cmulR (floatOfInt .f64 (wrap64 ((wrap64 (a0 - (wrap64 (x4_2 * (wrap64 (x4_2 + 1)))))) - (ji11)))) 0 13830554455654793216 0) (cmulI (floatOfInt .f64 (wrap64 ((wrap64 (a0 - (wrap64 (x4_2 * (wrap64 (x4_2 + 1)))))) - (ji11)))) 0 13830554455654793216 0) 0 4607182418800017408))).bind fun bt140 => (some (bt140.1, bt140.2.1, bt140.2.2))) else (none)) else (none)) else (none)) else (none)) else (none)) = some (r1, r2, r3) := by first | (rw [hji11] at H; exact H) | (simp only [hji11] at H ⊢; exact H)
        (try rw [hji11] at A9)
        have hji11_ : (if (wrap64 (x4_2 + 1)) < (wrap64 (a0 - (wrap64 (x4_2 * (wrap64 (x4_2 + 1)))))) then (wrap64 (x4_2 + 1)) else (wrap64 (a0 - (wrap64 (x4_2 * (wrap64 (x4_2 + 1))))))) = ji11 := hji11
        by_cases c12 : cmulOk (floatOfInt .f64 (ji11)) 0 13830554455654793216 0 = true
        ·
         rw [if_pos c12] at H
         have c12b0 := eq_true c12
         have c12b1 : decide (cmulOk (floatOfInt .f64 (ji11)) 0 13830554455654793216 0 = true) = true := decide_eq_true c12
         clear c12
         by_cases c13 : caddOk t139.1 t139.2 (cmulR (floatOfInt .f64 (ji11)) 0 13830554455654793216 0) (cmulI (floatOfInt .f64 (ji11)) 0 13830554455654793216 0) = true
         ·
          rw [if_pos c13] at H
          have c13b0 := eq_true c13
          have c13b1 : decide (caddOk t139.1 t139.2 (cmulR (floatOfInt .f64 (ji11)) 0 13830554455654793216 0) (cmulI (floatOfInt .f64 (ji11)) 0 13830554455654793216 0) = true) = true := decide_eq_true c13
          clear c13
          by_cases c14 : cmulOk (floatOfInt .f64 (wrap64 ((wrap64 (a0 - (wrap64 (x4_2 * (wrap64 (x4_2 + 1)))))) - (ji11)))) 0 13830554455654793216 0 = true
          ·
           rw [if_pos c14] at H
           have c14b0 := eq_true c14
           have c14b1 : decide (cmulOk (floatOfInt .f64 (wrap64 ((wrap64 (a0 - (wrap64 (x4_2 * (wrap64 (x4_2 + 1)))))) - (ji11)))) 0 13830554455654793216 0 = true) = true := decide_eq_true c14
           by_cases c15 : cmulOk (cmulR (floatOfInt .f64 (wrap64 ((wrap64 (a0 - (wrap64 (x4_2 * (wrap64 (x4_2 + 1)))))) - (ji11)))) 0 13830554455654793216 0) (cmulI (floatOfInt .f64 (wrap64 ((wrap64 (a0 - (wrap64 (x4_2 * (wrap64 (x4_2 + 1)))))) - (ji11)))) 0 13830554455654793216 0) 0 4607182418800017408 = true
           ·
            rw [if_pos c15] at H
            have c15b0 := eq_true c15
            have c15b1 : decide (cmulOk (cmulR (floatOfInt .f64 (wrap64 ((wrap64 (a0 - (wrap64 (x4_2 * (wrap64 (x4_2 + 1)))))) - (ji11)))) 0 13830554455654793216 0) (cmulI (floatOfInt .f64 (wrap64 ((wrap64 (a0 - (wrap64 (x4_2 * (wrap64 (x4_2 + 1)))))) - (ji11)))) 0 13830554455654793216 0) 0 4607182418800017408 = true) = true := decide_eq_true c15
            by_cases c16 : caddOk (caddR t139.1 t139.2 (cmulR (floatOfInt .f64 (ji11)) 0 13830554455654793216 0) (cmulI (floatOfInt .f64 (ji11)) 0 13830554455654793216 0)) (caddI t139.1 t139.2 (cmulR (floatOfInt .f64 (ji11)) 0 13830554455654793216 0) (cmulI (floatOfInt .f64 (ji11)) 0 13830554455654793216 0)) (cmulR (cmulR (floatOfInt .f64 (wrap64 ((wrap64 (a0 - (wrap64 (x4_2 * (wrap64 (x4_2 + 1)))))) - (ji11)))) 0 13830554455654793216 0) (cmulI (floatOfInt .f64 (wrap64 ((wrap64 (a0 - (wrap64 (x4_2 * (wrap64 (x4_2 + 1)))))) - (ji11)))) 0 13830554455654793216 0) 0 4607182418800017408) (cmulI (cmulR (floatOfInt .f64 (wrap64 ((wrap64 (a0 - (wrap64 (x4_2 * (wrap64 (x4_2 + 1)))))) - (ji11)))) 0 13830554455654793216 0) (cmulI (floatOfInt .f64 (wrap64 ((wrap64 (a0 - (wrap64 (x4_2 * (wrap64 (x4_2 + 1)))))) - (ji11)))) 0 13830554455654793216 0) 0 4607182418800017408) = true
            ·
             rw [if_pos c16] at H
             have c16b0 := eq_true c16
             have c16b1 : decide (caddOk (caddR t139.1 t139.2 (cmulR (floatOfInt .f64 (ji11)) 0 13830554455654793216 0) (cmulI (floatOfInt .f64 (ji11)) 0 13830554455654793216 0)) (caddI t139.1 t139.2 (cmulR (floatOfInt .f64 (ji11)) 0 13830554455654793216 0) (cmulI (floatOfInt .f64 (ji11)) 0 13830554455654793216 0)) (cmulR (cmulR (floatOfInt .f64 (wrap64 ((wrap64 (a0 - (wrap64 (x4_2 * (wrap64 (x4_2 + 1)))))) - (ji11)))) 0 13830554455654793216 0) (cmulI (floatOfInt .f64 (wrap64 ((wrap64 (a0 - (wrap64 (x4_2 * (wrap64 (x4_2 + 1)))))) - (ji11)))) 0 13830554455654793216 0) 0 4607182418800017408) (cmulI (cmulR (floatOfInt .f64 (wrap64 ((wrap64 (a0 - (wrap64 (x4_2 * (wrap64 (x4_2 + 1)))))) - (ji11)))) 0 13830554455654793216 0) (cmulI (floatOfInt .f64 (wrap64 ((wrap64 (a0 - (wrap64 (x4_2 * (wrap64 (x4_2 + 1)))))) - (ji11)))) 0 13830554455654793216 0) 0 4607182418800017408) = true) = true := decide_eq_true c16
             replace H := Option.bind_eq_some_iff.mp H
             obtain ⟨⟨t140, t141, t142⟩, A170, H⟩ := H
             replace H : (some (t140, t141, t142)) = some (r1, r2, r3) := H
             have A17 := Aside0.mk A170
             clear A170
             simp only [Option.some.injEq, Prod.mk.injEq] at H
             obtain ⟨rfl, rfl, rfl⟩ := H
             go_wp2_with (first | ((with_reducible refine gate_callee (f := 40) rfl ?_); refine goesL_ (some 41) rfl rfl Try.func40 (by kernel_rfl) rfl #[.int .i64 x4_2] rfl (by (try simp only [List.map_toArray, List.map_cons, List.map_nil]); first | done | rfl | (simp only [List.length_drop, List.length_take]; rfl)) ?_; (with_reducible refine (plane_corner.calls x4_2 t139 _ A9.out).mono ?_); rintro e w18 ⟨rfl, hb⟩; refine ⟨_, rfl, ?_⟩; have n0_ := bB BK138 hb; have n1_ := Aside0.mk (below_step (by repeat (first | (with_reducible first | exact HB.out | apply below_alloc | apply pw_below_drewN | apply below_drew1 | refine below_set ?_ GE138.out) | exact HB.out)) hb); clear BK138; clear HB; have BK138 := n0_; have HB := n1_; clear n0_ n1_; (try clear hb); (try clear hb2); (try clear hk); (try clear hi)) | ((with_reducible refine gate_callee (f := 36) rfl ?_); refine goesL_ (some 67) rfl rfl Try.func36 (by kernel_rfl) rfl #[.complex .f64 (caddR (caddR t139.1 t139.2 (cmulR (floatOfInt .f64 (ji11)) 0 13830554455654793216 0) (cmulI (floatOfInt .f64 (ji11)) 0 13830554455654793216 0)) (caddI t139.1 t139.2 (cmulR (floatOfInt .f64 (ji11)) 0 13830554455654793216 0) (cmulI (floatOfInt .f64 (ji11)) 0 13830554455654793216 0)) (cmulR (cmulR (floatOfInt .f64 (wrap64 ((wrap64 (a0 - (wrap64 (x4_2 * (wrap64 (x4_2 + 1)))))) - (ji11)))) 0 13830554455654793216 0) (cmulI (floatOfInt .f64 (wrap64 ((wrap64 (a0 - (wrap64 (x4_2 * (wrap64 (x4_2 + 1)))))) - (ji11)))) 0 13830554455654793216 0) 0 4607182418800017408) (cmulI (cmulR (floatOfInt .f64 (wrap64 ((wrap64 (a0 - (wrap64 (x4_2 * (wrap64 (x4_2 + 1)))))) - (ji11)))) 0 13830554455654793216 0) (cmulI (floatOfInt .f64 (wrap64 ((wrap64 (a0 - (wrap64 (x4_2 * (wrap64 (x4_2 + 1)))))) - (ji11)))) 0 13830554455654793216 0) 0 4607182418800017408)) (caddI (caddR t139.1 t139.2 (cmulR (floatOfInt .f64 (ji11)) 0 13830554455654793216 0) (cmulI (floatOfInt .f64 (ji11)) 0 13830554455654793216 0)) (caddI t139.1 t139.2 (cmulR (floatOfInt .f64 (ji11)) 0 13830554455654793216 0) (cmulI (floatOfInt .f64 (ji11)) 0 13830554455654793216 0)) (cmulR (cmulR (floatOfInt .f64 (wrap64 ((wrap64 (a0 - (wrap64 (x4_2 * (wrap64 (x4_2 + 1)))))) - (ji11)))) 0 13830554455654793216 0) (cmulI (floatOfInt .f64 (wrap64 ((wrap64 (a0 - (wrap64 (x4_2 * (wrap64 (x4_2 + 1)))))) - (ji11)))) 0 13830554455654793216 0) 0 4607182418800017408) (cmulI (cmulR (floatOfInt .f64 (wrap64 ((wrap64 (a0 - (wrap64 (x4_2 * (wrap64 (x4_2 + 1)))))) - (ji11)))) 0 13830554455654793216 0) (cmulI (floatOfInt .f64 (wrap64 ((wrap64 (a0 - (wrap64 (x4_2 * (wrap64 (x4_2 + 1)))))) - (ji11)))) 0 13830554455654793216 0) 0 4607182418800017408))] rfl (by (try simp only [List.map_toArray, List.map_cons, List.map_nil]); first | done | (simp only [hji11]; rfl) | rfl | (simp only [List.length_drop, List.length_take]; rfl)) ?_; (with_reducible refine (plane_place.calls (caddR (caddR t139.1 t139.2 (cmulR (floatOfInt .f64 (ji11)) 0 13830554455654793216 0) (cmulI (floatOfInt .f64 (ji11)) 0 13830554455654793216 0)) (caddI t139.1 t139.2 (cmulR (floatOfInt .f64 (ji11)) 0 13830554455654793216 0) (cmulI (floatOfInt .f64 (ji11)) 0 13830554455654793216 0)) (cmulR (cmulR (floatOfInt .f64 (wrap64 ((wrap64 (a0 - (wrap64 (x4_2 * (wrap64 (x4_2 + 1)))))) - (ji11)))) 0 13830554455654793216 0) (cmulI (floatOfInt .f64 (wrap64 ((wrap64 (a0 - (wrap64 (x4_2 * (wrap64 (x4_2 + 1)))))) - (ji11)))) 0 13830554455654793216 0) 0 4607182418800017408) (cmulI (cmulR (floatOfInt .f64 (wrap64 ((wrap64 (a0 - (wrap64 (x4_2 * (wrap64 (x4_2 + 1)))))) - (ji11)))) 0 13830554455654793216 0) (cmulI (floatOfInt .f64 (wrap64 ((wrap64 (a0 - (wrap64 (x4_2 * (wrap64 (x4_2 + 1)))))) - (ji11)))) 0 13830554455654793216 0) 0 4607182418800017408), caddI (caddR t139.1 t139.2 (cmulR (floatOfInt .f64 (ji11)) 0 13830554455654793216 0) (cmulI (floatOfInt .f64 (ji11)) 0 13830554455654793216 0)) (caddI t139.1 t139.2 (cmulR (floatOfInt .f64 (ji11)) 0 13830554455654793216 0) (cmulI (floatOfInt .f64 (ji11)) 0 13830554455654793216 0)) (cmulR (cmulR (floatOfInt .f64 (wrap64 ((wrap64 (a0 - (wrap64 (x4_2 * (wrap64 (x4_2 + 1)))))) - (ji11)))) 0 13830554455654793216 0) (cmulI (floatOfInt .f64 (wrap64 ((wrap64 (a0 - (wrap64 (x4_2 * (wrap64 (x4_2 + 1)))))) - (ji11)))) 0 13830554455654793216 0) 0 4607182418800017408) (cmulI (cmulR (floatOfInt .f64 (wrap64 ((wrap64 (a0 - (wrap64 (x4_2 * (wrap64 (x4_2 + 1)))))) - (ji11)))) 0 13830554455654793216 0) (cmulI (floatOfInt .f64 (wrap64 ((wrap64 (a0 - (wrap64 (x4_2 * (wrap64 (x4_2 + 1)))))) - (ji11)))) 0 13830554455654793216 0) 0 4607182418800017408)) t140 t141 t142 _ A17.out).mono ?_); rintro e w19 ⟨rfl, hb⟩; refine ⟨_, rfl, ?_⟩; have n0_ := bB BK138 hb; have n1_ := Aside0.mk (below_step (by repeat (first | (with_reducible first | exact HB.out | apply below_alloc | apply pw_below_drewN | apply below_drew1 | refine below_set ?_ GE138.out) | exact HB.out)) hb); clear BK138; clear HB; have BK138 := n0_; have HB := n1_; clear n0_ n1_; (try clear hb); (try clear hb2); (try clear hk); (try clear hi); have hcz20_0 : w19.cell? ⟨gb138, 0, none⟩ = some (.int .i64 0) := (blk_cell BK138.out 0).trans rfl; have hcz20_1 : w19.cell? ⟨gb138, 1, none⟩ = some (.int .i64 0) := (blk_cell BK138.out 1).trans rfl; have hfz20_0 := blk_frozen BK138.out 0; have hfz20_1 := blk_frozen BK138.out 1))
             refine bodyPost_ret (results_ct rfl _ _ gb138 23 #[.int .i64 t140, .int .i64 t141] (0, 0) _ rfl (by (with_reducible repeat (first | refine blk_drewN ?_ _ | refine blk_drew ?_ | refine blk_alloc ?_ _)); refine blk_put (cs := #[.int .i64 t140, .int .i64 0]) ?_ 1 _ rfl; (with_reducible repeat (first | refine blk_drewN ?_ _ | refine blk_drew ?_ | refine blk_alloc ?_ _)); refine blk_put (cs := #[.int .i64 0, .int .i64 0]) ?_ 0 _ rfl; (with_reducible repeat (first | refine blk_drewN ?_ _ | refine blk_drew ?_ | refine blk_alloc ?_ _)); exact BK138.out) Try.underlying23 rfl (by kernel_rfl)) rfl ?_
             exact ⟨by first | rfl | (simp [errW_none, errW_some] <;> rfl) | (simp only [← hji11]; first | rfl | (simp [errW_none, errW_some] <;> rfl)) | (simp [*, errW_none, errW_some] <;> rfl), by repeat (first | (with_reducible first | exact HB.out | apply below_alloc | apply pw_below_drewN | apply below_drew1 | refine below_set ?_ GE138.out) | exact HB.out)⟩
            ·
             rw [if_neg c16] at H
             exact absurd H (by simp)
           ·
            rw [if_neg c15] at H
            exact absurd H (by simp)
          ·
           rw [if_neg c14] at H
           exact absurd H (by simp)
         ·
          rw [if_neg c13] at H
          exact absurd H (by simp)
        ·
         rw [if_neg c12] at H
         exact absurd H (by simp)
       ·
        rw [if_neg c10] at H
        have c10b0 : ((Int.tmod x4_2 2) == 1) = false := beq_eq_false_iff_ne.mpr c10
        have c10b1 : ((Int.tmod x4_2 2) != 1) = true := bne_iff_ne.mpr c10
        obtain ⟨ji21, hji21⟩ : ∃ j_ : Int, (mn (wrap64 (a0 - (wrap64 (x4_2 * (wrap64 (x4_2 + 1)))))) (wrap64 (x4_2 + 1))) = j_ := ⟨_, rfl⟩
        replace H : (if cmulOk (floatOfInt .f64 (ji21)) 0 4607182418800017408 0 = true then (if caddOk t139.1 t139.2 (cmulR (floatOfInt .f64 (ji21)) 0 4607182418800017408 0) (cmulI (floatOfInt .f64 (ji21)) 0 4607182418800017408 0) = true then (if cmulOk (floatOfInt .f64 (wrap64 ((wrap64 (a0 - (wrap64 (x4_2 * (wrap64 (x4_2 + 1)))))) - (ji21)))) 0 4607182418800017408 0 = true then (if cmulOk (cmulR (floatOfInt .f64 (wrap64 ((wrap64 (a0 - (wrap64 (x4_2 * (wrap64 (x4_2 + 1)))))) - (ji21)))) 0 4607182418800017408 0) (cmulI (floatOfInt .f64 (wrap64 ((wrap64 (a0 - (wrap64 (x4_2 * (wrap64 (x4_2 + 1)))))) - (ji21)))) 0 4607182418800017408 0) 0 4607182418800017408 = true then (if caddOk (caddR t139.1 t139.2 (cmulR (floatOfInt .f64 (ji21)) 0 4607182418800017408 0) (cmulI (floatOfInt .f64 (ji21)) 0 4607182418800017408 0)) (caddI t139.1 t139.2 (cmulR (floatOfInt .f64 (ji21)) 0 4607182418800017408 0) (cmulI (floatOfInt .f64 (ji21)) 0 4607182418800017408 0)) (cmulR (cmulR (floatOfInt .f64 (wrap64 ((wrap64 (a0 - (wrap64 (x4_2 * (wrap64 (x4_2 + 1)))))) - (ji21)))) 0 4607182418800017408 0) (cmulI (floatOfInt .f64 (wrap64 ((wrap64 (a0 - (wrap64 (x4_2 * (wrap64 (x4_2 + 1)))))) - (ji21)))) 0 4607182418800017408 0) 0 4607182418800017408) (cmulI (cmulR (floatOfInt .f64 (wrap64 ((wrap64 (a0 - (wrap64 (x4_2 * (wrap64 (x4_2 + 1)))))) - (ji21)))) 0 4607182418800017408 0) (cmulI (floatOfInt .f64 (wrap64 ((wrap64 (a0 - (wrap64 (x4_2 * (wrap64 (x4_2 + 1)))))) - (ji21)))) 0 4607182418800017408 0) 0 4607182418800017408) = true then ((plane_place.f (caddR (caddR t139.1 t139.2 (cmulR (floatOfInt .f64 (ji21)) 0 4607182418800017408 0) (cmulI (floatOfInt .f64 (ji21)) 0 4607182418800017408 0)) (caddI t139.1 t139.2 (cmulR (floatOfInt .f64 (ji21)) 0 4607182418800017408 0) (cmulI (floatOfInt .f64 (ji21)) 0 4607182418800017408 0)) (cmulR (cmulR (floatOfInt .f64 (wrap64 ((wrap64 (a0 - (wrap64 (x4_2 * (wrap64 (x4_2 + 1)))))) - (ji21)))) 0 4607182418800017408 0) (cmulI (floatOfInt .f64 (wrap64 ((wrap64 (a0 - (wrap64 (x4_2 * (wrap64 (x4_2 + 1)))))) - (ji21)))) 0 4607182418800017408 0) 0 4607182418800017408) (cmulI (cmulR (floatOfInt .f64 (wrap64 ((wrap64 (a0 - (wrap64 (x4_2 * (wrap64 (x4_2 + 1)))))) - (ji21)))) 0 4607182418800017408 0) (cmulI (floatOfInt .f64 (wrap64 ((wrap64 (a0 - (wrap64 (x4_2 * (wrap64 (x4_2 + 1)))))) - (ji21)))) 0 4607182418800017408 0) 0 4607182418800017408), caddI (caddR t139.1 t139.2 (cmulR (floatOfInt .f64 (ji21)) 0 4607182418800017408 0) (cmulI (floatOfInt .f64 (ji21)) 0 4607182418800017408 0)) (caddI t139.1 t139.2 (cmulR (floatOfInt .f64 (ji21)) 0 4607182418800017408 0) (cmulI (floatOfInt .f64 (ji21)) 0 4607182418800017408 0)) (cmulR (cmulR (floatOfInt .f64 (wrap64 ((wrap64 (a0 - (wrap64 (x4_2 * (wrap64 (x4_2 + 1)))))) - (ji21)))) 0 4607182418800017408 0) (cmulI (floatOfInt .f64 (wrap64 ((wrap64 (a0 - (wrap64 (x4_2 * (wrap64 (x4_2 + 1)))))) - (ji21)))) 0 4607182418800017408 0) 0 4607182418800017408) (cmulI (cmulR (floatOfInt .f64 (wrap64 ((wrap64 (a0 - (wrap64 (x4_2 * (wrap64 (x4_2 + 1)))))) - (ji21)))) 0 4607182418800017408 0) (cmulI (floatOfInt .f64 (wrap64 ((wrap64 (a0 - (wrap64 (x4_2 * (wrap64 (x4_2 + 1)))))) - (ji21)))) 0 4607182418800017408 0) 0 4607182418800017408))).bind fun bt143 => (some (bt143.1, bt143.2.1, bt143.2.2))) else (none)) else (none)) else (none)) else (none)) else (none)) = some (r1, r2, r3) := by first | (rw [hji21] at H; exact H) | (simp only [hji21] at H ⊢; exact H)
        (try rw [hji21] at A9)
        have hji21_ : (if (wrap64 (x4_2 + 1)) < (wrap64 (a0 - (wrap64 (x4_2 * (wrap64 (x4_2 + 1)))))) then (wrap64 (x4_2 + 1)) else (wrap64 (a0 - (wrap64 (x4_2 * (wrap64 (x4_2 + 1))))))) = ji21 := hji21
        by_cases c22 : cmulOk (floatOfInt .f64 (ji21)) 0 4607182418800017408 0 = true
        ·
         rw [if_pos c22] at H
         have c22b0 := eq_true c22
         have c22b1 : decide (cmulOk (floatOfInt .f64 (ji21)) 0 4607182418800017408 0 = true) = true := decide_eq_true c22
         clear c22
         by_cases c23 : caddOk t139.1 t139.2 (cmulR (floatOfInt .f64 (ji21)) 0 4607182418800017408 0) (cmulI (floatOfInt .f64 (ji21)) 0 4607182418800017408 0) = true
         ·
          rw [if_pos c23] at H
          have c23b0 := eq_true c23
          have c23b1 : decide (caddOk t139.1 t139.2 (cmulR (floatOfInt .f64 (ji21)) 0 4607182418800017408 0) (cmulI (floatOfInt .f64 (ji21)) 0 4607182418800017408 0) = true) = true := decide_eq_true c23
          clear c23
          by_cases c24 : cmulOk (floatOfInt .f64 (wrap64 ((wrap64 (a0 - (wrap64 (x4_2 * (wrap64 (x4_2 + 1)))))) - (ji21)))) 0 4607182418800017408 0 = true
          ·
           rw [if_pos c24] at H
           have c24b0 := eq_true c24
           have c24b1 : decide (cmulOk (floatOfInt .f64 (wrap64 ((wrap64 (a0 - (wrap64 (x4_2 * (wrap64 (x4_2 + 1)))))) - (ji21)))) 0 4607182418800017408 0 = true) = true := decide_eq_true c24
           by_cases c25 : cmulOk (cmulR (floatOfInt .f64 (wrap64 ((wrap64 (a0 - (wrap64 (x4_2 * (wrap64 (x4_2 + 1)))))) - (ji21)))) 0 4607182418800017408 0) (cmulI (floatOfInt .f64 (wrap64 ((wrap64 (a0 - (wrap64 (x4_2 * (wrap64 (x4_2 + 1)))))) - (ji21)))) 0 4607182418800017408 0) 0 4607182418800017408 = true
           ·
            rw [if_pos c25] at H
            have c25b0 := eq_true c25
            have c25b1 : decide (cmulOk (cmulR (floatOfInt .f64 (wrap64 ((wrap64 (a0 - (wrap64 (x4_2 * (wrap64 (x4_2 + 1)))))) - (ji21)))) 0 4607182418800017408 0) (cmulI (floatOfInt .f64 (wrap64 ((wrap64 (a0 - (wrap64 (x4_2 * (wrap64 (x4_2 + 1)))))) - (ji21)))) 0 4607182418800017408 0) 0 4607182418800017408 = true) = true := decide_eq_true c25
            by_cases c26 : caddOk (caddR t139.1 t139.2 (cmulR (floatOfInt .f64 (ji21)) 0 4607182418800017408 0) (cmulI (floatOfInt .f64 (ji21)) 0 4607182418800017408 0)) (caddI t139.1 t139.2 (cmulR (floatOfInt .f64 (ji21)) 0 4607182418800017408 0) (cmulI (floatOfInt .f64 (ji21)) 0 4607182418800017408 0)) (cmulR (cmulR (floatOfInt .f64 (wrap64 ((wrap64 (a0 - (wrap64 (x4_2 * (wrap64 (x4_2 + 1)))))) - (ji21)))) 0 4607182418800017408 0) (cmulI (floatOfInt .f64 (wrap64 ((wrap64 (a0 - (wrap64 (x4_2 * (wrap64 (x4_2 + 1)))))) - (ji21)))) 0 4607182418800017408 0) 0 4607182418800017408) (cmulI (cmulR (floatOfInt .f64 (wrap64 ((wrap64 (a0 - (wrap64 (x4_2 * (wrap64 (x4_2 + 1)))))) - (ji21)))) 0 4607182418800017408 0) (cmulI (floatOfInt .f64 (wrap64 ((wrap64 (a0 - (wrap64 (x4_2 * (wrap64 (x4_2 + 1)))))) - (ji21)))) 0 4607182418800017408 0) 0 4607182418800017408) = true
            ·
             rw [if_pos c26] at H
             have c26b0 := eq_true c26
             have c26b1 : decide (caddOk (caddR t139.1 t139.2 (cmulR (floatOfInt .f64 (ji21)) 0 4607182418800017408 0) (cmulI (floatOfInt .f64 (ji21)) 0 4607182418800017408 0)) (caddI t139.1 t139.2 (cmulR (floatOfInt .f64 (ji21)) 0 4607182418800017408 0) (cmulI (floatOfInt .f64 (ji21)) 0 4607182418800017408 0)) (cmulR (cmulR (floatOfInt .f64 (wrap64 ((wrap64 (a0 - (wrap64 (x4_2 * (wrap64 (x4_2 + 1)))))) - (ji21)))) 0 4607182418800017408 0) (cmulI (floatOfInt .f64 (wrap64 ((wrap64 (a0 - (wrap64 (x4_2 * (wrap64 (x4_2 + 1)))))) - (ji21)))) 0 4607182418800017408 0) 0 4607182418800017408) (cmulI (cmulR (floatOfInt .f64 (wrap64 ((wrap64 (a0 - (wrap64 (x4_2 * (wrap64 (x4_2 + 1)))))) - (ji21)))) 0 4607182418800017408 0) (cmulI (floatOfInt .f64 (wrap64 ((wrap64 (a0 - (wrap64 (x4_2 * (wrap64 (x4_2 + 1)))))) - (ji21)))) 0 4607182418800017408 0) 0 4607182418800017408) = true) = true := decide_eq_true c26
             replace H := Option.bind_eq_some_iff.mp H
             obtain ⟨⟨t143, t144, t145⟩, A270, H⟩ := H
             replace H : (some (t143, t144, t145)) = some (r1, r2, r3) := H
             have A27 := Aside0.mk A270
             clear A270
             simp only [Option.some.injEq, Prod.mk.injEq] at H
             obtain ⟨rfl, rfl, rfl⟩ := H
             go_wp2_with (first | ((with_reducible refine gate_callee (f := 40) rfl ?_); refine goesL_ (some 41) rfl rfl Try.func40 (by kernel_rfl) rfl #[.int .i64 x4_2] rfl (by (try simp only [List.map_toArray, List.map_cons, List.map_nil]); first | done | rfl | (simp only [List.length_drop, List.length_take]; rfl)) ?_; (with_reducible refine (plane_corner.calls x4_2 t139 _ A9.out).mono ?_); rintro e w28 ⟨rfl, hb⟩; refine ⟨_, rfl, ?_⟩; have n0_ := bB BK138 hb; have n1_ := Aside0.mk (below_step (by repeat (first | (with_reducible first | exact HB.out | apply below_alloc | apply pw_below_drewN | apply below_drew1 | refine below_set ?_ GE138.out) | exact HB.out)) hb); clear BK138; clear HB; have BK138 := n0_; have HB := n1_; clear n0_ n1_; (try clear hb); (try clear hb2); (try clear hk); (try clear hi)) | ((with_reducible refine gate_callee (f := 36) rfl ?_); refine goesL_ (some 67) rfl rfl Try.func36 (by kernel_rfl) rfl #[.complex .f64 (caddR (caddR t139.1 t139.2 (cmulR (floatOfInt .f64 (ji21)) 0 4607182418800017408 0) (cmulI (floatOfInt .f64 (ji21)) 0 4607182418800017408 0)) (caddI t139.1 t139.2 (cmulR (floatOfInt .f64 (ji21)) 0 4607182418800017408 0) (cmulI (floatOfInt .f64 (ji21)) 0 4607182418800017408 0)) (cmulR (cmulR (floatOfInt .f64 (wrap64 ((wrap64 (a0 - (wrap64 (x4_2 * (wrap64 (x4_2 + 1)))))) - (ji21)))) 0 4607182418800017408 0) (cmulI (floatOfInt .f64 (wrap64 ((wrap64 (a0 - (wrap64 (x4_2 * (wrap64 (x4_2 + 1)))))) - (ji21)))) 0 4607182418800017408 0) 0 4607182418800017408) (cmulI (cmulR (floatOfInt .f64 (wrap64 ((wrap64 (a0 - (wrap64 (x4_2 * (wrap64 (x4_2 + 1)))))) - (ji21)))) 0 4607182418800017408 0) (cmulI (floatOfInt .f64 (wrap64 ((wrap64 (a0 - (wrap64 (x4_2 * (wrap64 (x4_2 + 1)))))) - (ji21)))) 0 4607182418800017408 0) 0 4607182418800017408)) (caddI (caddR t139.1 t139.2 (cmulR (floatOfInt .f64 (ji21)) 0 4607182418800017408 0) (cmulI (floatOfInt .f64 (ji21)) 0 4607182418800017408 0)) (caddI t139.1 t139.2 (cmulR (floatOfInt .f64 (ji21)) 0 4607182418800017408 0) (cmulI (floatOfInt .f64 (ji21)) 0 4607182418800017408 0)) (cmulR (cmulR (floatOfInt .f64 (wrap64 ((wrap64 (a0 - (wrap64 (x4_2 * (wrap64 (x4_2 + 1)))))) - (ji21)))) 0 4607182418800017408 0) (cmulI (floatOfInt .f64 (wrap64 ((wrap64 (a0 - (wrap64 (x4_2 * (wrap64 (x4_2 + 1)))))) - (ji21)))) 0 4607182418800017408 0) 0 4607182418800017408) (cmulI (cmulR (floatOfInt .f64 (wrap64 ((wrap64 (a0 - (wrap64 (x4_2 * (wrap64 (x4_2 + 1)))))) - (ji21)))) 0 4607182418800017408 0) (cmulI (floatOfInt .f64 (wrap64 ((wrap64 (a0 - (wrap64 (x4_2 * (wrap64 (x4_2 + 1)))))) - (ji21)))) 0 4607182418800017408 0) 0 4607182418800017408))] rfl (by (try simp only [List.map_toArray, List.map_cons, List.map_nil]); first | done | (simp only [hji21]; rfl) | rfl | (simp only [List.length_drop, List.length_take]; rfl)) ?_; (with_reducible refine (plane_place.calls (caddR (caddR t139.1 t139.2 (cmulR (floatOfInt .f64 (ji21)) 0 4607182418800017408 0) (cmulI (floatOfInt .f64 (ji21)) 0 4607182418800017408 0)) (caddI t139.1 t139.2 (cmulR (floatOfInt .f64 (ji21)) 0 4607182418800017408 0) (cmulI (floatOfInt .f64 (ji21)) 0 4607182418800017408 0)) (cmulR (cmulR (floatOfInt .f64 (wrap64 ((wrap64 (a0 - (wrap64 (x4_2 * (wrap64 (x4_2 + 1)))))) - (ji21)))) 0 4607182418800017408 0) (cmulI (floatOfInt .f64 (wrap64 ((wrap64 (a0 - (wrap64 (x4_2 * (wrap64 (x4_2 + 1)))))) - (ji21)))) 0 4607182418800017408 0) 0 4607182418800017408) (cmulI (cmulR (floatOfInt .f64 (wrap64 ((wrap64 (a0 - (wrap64 (x4_2 * (wrap64 (x4_2 + 1)))))) - (ji21)))) 0 4607182418800017408 0) (cmulI (floatOfInt .f64 (wrap64 ((wrap64 (a0 - (wrap64 (x4_2 * (wrap64 (x4_2 + 1)))))) - (ji21)))) 0 4607182418800017408 0) 0 4607182418800017408), caddI (caddR t139.1 t139.2 (cmulR (floatOfInt .f64 (ji21)) 0 4607182418800017408 0) (cmulI (floatOfInt .f64 (ji21)) 0 4607182418800017408 0)) (caddI t139.1 t139.2 (cmulR (floatOfInt .f64 (ji21)) 0 4607182418800017408 0) (cmulI (floatOfInt .f64 (ji21)) 0 4607182418800017408 0)) (cmulR (cmulR (floatOfInt .f64 (wrap64 ((wrap64 (a0 - (wrap64 (x4_2 * (wrap64 (x4_2 + 1)))))) - (ji21)))) 0 4607182418800017408 0) (cmulI (floatOfInt .f64 (wrap64 ((wrap64 (a0 - (wrap64 (x4_2 * (wrap64 (x4_2 + 1)))))) - (ji21)))) 0 4607182418800017408 0) 0 4607182418800017408) (cmulI (cmulR (floatOfInt .f64 (wrap64 ((wrap64 (a0 - (wrap64 (x4_2 * (wrap64 (x4_2 + 1)))))) - (ji21)))) 0 4607182418800017408 0) (cmulI (floatOfInt .f64 (wrap64 ((wrap64 (a0 - (wrap64 (x4_2 * (wrap64 (x4_2 + 1)))))) - (ji21)))) 0 4607182418800017408 0) 0 4607182418800017408)) t143 t144 t145 _ A27.out).mono ?_); rintro e w29 ⟨rfl, hb⟩; refine ⟨_, rfl, ?_⟩; have n0_ := bB BK138 hb; have n1_ := Aside0.mk (below_step (by repeat (first | (with_reducible first | exact HB.out | apply below_alloc | apply pw_below_drewN | apply below_drew1 | refine below_set ?_ GE138.out) | exact HB.out)) hb); clear BK138; clear HB; have BK138 := n0_; have HB := n1_; clear n0_ n1_; (try clear hb); (try clear hb2); (try clear hk); (try clear hi); have hcz30_0 : w29.cell? ⟨gb138, 0, none⟩ = some (.int .i64 0) := (blk_cell BK138.out 0).trans rfl; have hcz30_1 : w29.cell? ⟨gb138, 1, none⟩ = some (.int .i64 0) := (blk_cell BK138.out 1).trans rfl; have hfz30_0 := blk_frozen BK138.out 0; have hfz30_1 := blk_frozen BK138.out 1))
             refine bodyPost_ret (results_ct rfl _ _ gb138 23 #[.int .i64 t143, .int .i64 t144] (0, 0) _ rfl (by (with_reducible repeat (first | refine blk_drewN ?_ _ | refine blk_drew ?_ | refine blk_alloc ?_ _)); refine blk_put (cs := #[.int .i64 t143, .int .i64 0]) ?_ 1 _ rfl; (with_reducible repeat (first | refine blk_drewN ?_ _ | refine blk_drew ?_ | refine blk_alloc ?_ _)); refine blk_put (cs := #[.int .i64 0, .int .i64 0]) ?_ 0 _ rfl; (with_reducible repeat (first | refine blk_drewN ?_ _ | refine blk_drew ?_ | refine blk_alloc ?_ _)); exact BK138.out) Try.underlying23 rfl (by kernel_rfl)) rfl ?_
             exact ⟨by first | rfl | (simp [errW_none, errW_some] <;> rfl) | (simp only [← hji21]; first | rfl | (simp [errW_none, errW_some] <;> rfl)) | (simp [*, errW_none, errW_some] <;> rfl), by repeat (first | (with_reducible first | exact HB.out | apply below_alloc | apply pw_below_drewN | apply below_drew1 | refine below_set ?_ GE138.out) | exact HB.out)⟩
            ·
             rw [if_neg c26] at H
             exact absurd H (by simp)
           ·
            rw [if_neg c25] at H
            exact absurd H (by simp)
          ·
           rw [if_neg c24] at H
           exact absurd H (by simp)
         ·
          rw [if_neg c23] at H
          exact absurd H (by simp)
        ·
         rw [if_neg c22] at H
         exact absurd H (by simp)

/-! ### mosaiclaw17_awake: function 14 -/
def mosaiclaw17_awake.f (k : Nat)  : Option (Bool) := (plane_Mul.f 1 2 3 (-1)).bind fun bt146 => ((plane_Turn.f k 1 2 1).bind fun bt150 => ((plane_Spiral.f k 4).bind fun bt154 => (if (wrap64 ((wrap64 (bt146.2.2 + bt150.2.2)) + bt154.2.2)) = 0 then (if (bt146.1 == 5 && (bt146.2.1 == 5)) = true then (if (bt150.1 == (-2) && (bt150.2.1 == 1)) = true then (some (bt154.1 == (-1) && (bt154.2.1 == 1))) else (some false)) else (some false)) else (some false))))
theorem mosaiclaw17_awake.mono : ∀ k, LeO (mosaiclaw17_awake.f k ) (mosaiclaw17_awake.f (k + 1) ) := by
 intro  k
 unfold mosaiclaw17_awake.f
 repeat' first
   | (with_reducible exact plane_Spiral.mono _ _)
   | (with_reducible exact plane_Turn.mono _ _ _ _)
   | (with_reducible exact LeO.refl _)
   | (with_reducible exact LeO.none _)
   | (with_reducible refine LeO.ite ?_ ?_)
   | (with_reducible refine LeO.bind ?_ (fun _ => ?_))
   | exact plane_Spiral.mono _ _
   | exact plane_Turn.mono _ _ _ _
   | exact LeO.none _
   | refine LeO.ite ?_ ?_
   | refine LeO.bind ?_ (fun _ => ?_)
set_option maxHeartbeats 8000000 in
set_option maxRecDepth 100000 in
theorem mosaiclaw17_awake.calls (k : Nat)  (r : Bool) (w : World) (h : mosaiclaw17_awake.f k  = some r) :
  Calls Try.prog 14 #[] w fun e w' => e = .returned (.bool r) ∧ Below w.heap.size w w' := by
 have hu23 := Try.underlying23
 have HB := Aside0.mk (Below.refl w.heap.size w)
 have H : ((plane_Mul.f 1 2 3 (-1)).bind fun bt146 => ((plane_Turn.f k 1 2 1).bind fun bt150 => ((plane_Spiral.f k 4).bind fun bt154 => (if (wrap64 ((wrap64 (bt146.2.2 + bt150.2.2)) + bt154.2.2)) = 0 then (if (bt146.1 == 5 && (bt146.2.1 == 5)) = true then (if (bt150.1 == (-2) && (bt150.2.1 == 1)) = true then (some (bt154.1 == (-1) && (bt154.2.1 == 1))) else (some false)) else (some false)) else (some false))))) = some r := h
 clear h
 replace H := Option.bind_eq_some_iff.mp H
 obtain ⟨⟨t146, t147, t148⟩, A10, H⟩ := H
 replace H : ((plane_Turn.f k 1 2 1).bind fun bt150 => ((plane_Spiral.f k 4).bind fun bt154 => (if (wrap64 ((wrap64 (t148 + bt150.2.2)) + bt154.2.2)) = 0 then (if (t146 == 5 && (t147 == 5)) = true then (if (bt150.1 == (-2) && (bt150.2.1 == 1)) = true then (some (bt154.1 == (-1) && (bt154.2.1 == 1))) else (some false)) else (some false)) else (some false)))) = some r := H
 have A1 := Aside0.mk A10
 clear A10
 replace H := Option.bind_eq_some_iff.mp H
 obtain ⟨⟨t150, t151, t152⟩, A20, H⟩ := H
 replace H : ((plane_Spiral.f k 4).bind fun bt154 => (if (wrap64 ((wrap64 (t148 + t152)) + bt154.2.2)) = 0 then (if (t146 == 5 && (t147 == 5)) = true then (if (t150 == (-2) && (t151 == 1)) = true then (some (bt154.1 == (-1) && (bt154.2.1 == 1))) else (some false)) else (some false)) else (some false))) = some r := H
 have A2 := Aside0.mk A20
 clear A20
 replace H := Option.bind_eq_some_iff.mp H
 obtain ⟨⟨t154, t155, t156⟩, A30, H⟩ := H
 replace H : (if (wrap64 ((wrap64 (t148 + t152)) + t156)) = 0 then (if (t146 == 5 && (t147 == 5)) = true then (if (t150 == (-2) && (t151 == 1)) = true then (some (t154 == (-1) && (t155 == 1))) else (some false)) else (some false)) else (some false)) = some r := H
 have A3 := Aside0.mk A30
 clear A30
 by_cases c4 : (wrap64 ((wrap64 (t148 + t152)) + t156)) = 0
 ·
  rw [if_pos c4] at H
  have c4b0 : ((wrap64 ((wrap64 (t148 + t152)) + t156)) == 0) = true := beq_iff_eq.mpr c4
  have c4b1 : ((wrap64 ((wrap64 (t148 + t152)) + t156)) != 0) = false := bne_eq_false_iff_eq.mpr c4
  clear c4
  by_cases c5 : (t146 == 5 && (t147 == 5)) = true
  ·
   rw [if_pos c5] at H
   have c5b0 : (t146 == 5 && (t147 == 5)) = true := c5
   (try (have c5b1 : decide (t146 = 5 && (t147 == 5)) = true := by simpa using c5))
   (try (have c5b2 : (t146 == 5 && (t147 == 5)) = true := by simpa using c5))
   clear c5
   by_cases c6 : (t150 == (-2) && (t151 == 1)) = true
   ·
    rw [if_pos c6] at H
    have c6b0 : (t150 == (-2) && (t151 == 1)) = true := c6
    (try (have c6b1 : decide (t150 = (-2) && (t151 == 1)) = true := by simpa using c6))
    (try (have c6b2 : (t150 == (-2) && (t151 == 1)) = true := by simpa using c6))
    clear c6
    obtain rfl := Option.some.inj H
    go_enter Try.func14, Try.ntmps14
    go_wp2_with (first | ((with_reducible refine gate_callee (f := 15) rfl ?_); refine goesL_ (some 10) rfl rfl Try.func15 (by kernel_rfl) rfl #[.agg #[.int .i64 1, .int .i64 2], .agg #[.int .i64 3, .int .i64 (-1)]] rfl (by (try simp only [List.map_toArray, List.map_cons, List.map_nil]); first | done | rfl | (simp only [List.length_drop, List.length_take]; rfl)) ?_; (with_reducible refine (plane_Mul.calls 1 2 3 (-1) t146 t147 t148 _ A1.out).mono ?_); rintro e w7 ⟨rfl, hb⟩; refine ⟨_, rfl, ?_⟩; have n0_ := Aside0.mk (below_step (by repeat (first | (with_reducible first | exact HB.out | apply below_alloc | apply pw_below_drewN | apply below_drew1) | exact HB.out)) hb); clear HB; have HB := n0_; clear n0_; (try clear hb); (try clear hb2); (try clear hk); (try clear hi)) | ((with_reducible refine gate_dst (N := 1) rfl ?_); refine box_event ?hg (N := 1) ?hd (cs := #[.int .i64 0, .int .i64 0]) (t := 23) ?hr ?_; (case hd => rfl); (case hg => rfl); (case hr => first | (go_simp; done) | (go_simp; rfl)); intro gb149 hg w8 hbox hb; have n0_ := Aside0.mk (below_step (by repeat (first | (with_reducible first | exact HB.out | apply below_alloc | apply pw_below_drewN | apply below_drew1) | exact HB.out)) hb); have n1_ := Aside0.mk (hbox); have n2_ := Aside0.mk ((by rw [hg]; exact (below_size (by repeat (first | (with_reducible first | exact HB.out | apply below_alloc | apply pw_below_drewN | apply below_drew1) | exact HB.out))) : w.heap.size ≤ gb149)); have n3_ := Aside0.mk ((by rw [hg]; exact (below_size (by repeat (first | (with_reducible first | exact HB.out | apply below_alloc | apply pw_below_drewN | apply below_drew1) | exact HB.out))) : w.heap.size ≤ gb149)); clear HB; have HB := n0_; have BK149 := n1_; have GW149 := n2_; have GE149 := n3_; clear n0_ n1_ n2_ n3_; clear hb hbox hg; have hcz9_0 : w8.cell? ⟨gb149, 0, none⟩ = some (.int .i64 0) := (blk_cell BK149.out 0).trans rfl; have hcz9_1 : w8.cell? ⟨gb149, 1, none⟩ = some (.int .i64 0) := (blk_cell BK149.out 1).trans rfl; have hfz9_0 := blk_frozen BK149.out 0; have hfz9_1 := blk_frozen BK149.out 1) | ((with_reducible refine gate_callee (f := 10) rfl ?_); refine goesL_ (some 15) rfl rfl Try.func10 (by kernel_rfl) rfl #[.agg #[.int .i64 1, .int .i64 2], .int .i64 1] rfl (by (try simp only [List.map_toArray, List.map_cons, List.map_nil]); first | done | rfl | (simp only [List.length_drop, List.length_take]; rfl)) ?_; (with_reducible refine (plane_Turn.calls k 1 2 1 t150 t151 t152 _ A2.out).mono ?_); rintro e w10 ⟨rfl, hb⟩; refine ⟨_, rfl, ?_⟩; have n0_ := Aside0.mk (blk_below (g := gb149) (o := .cells #[.int .i64 t146, .int .i64 t147] 23 (0, 0)) (by (with_reducible repeat (first | refine blk_drewN ?_ _ | refine blk_drew ?_ | refine blk_alloc ?_ _)); refine blk_put (cs := #[.int .i64 t146, .int .i64 0]) ?_ 1 _ rfl; (with_reducible repeat (first | refine blk_drewN ?_ _ | refine blk_drew ?_ | refine blk_alloc ?_ _)); refine blk_put (cs := #[.int .i64 0, .int .i64 0]) ?_ 0 _ rfl; (with_reducible repeat (first | refine blk_drewN ?_ _ | refine blk_drew ?_ | refine blk_alloc ?_ _)); exact BK149.out) hb); have n1_ := Aside0.mk (below_step (by repeat (first | (with_reducible first | exact HB.out | apply below_alloc | apply pw_below_drewN | apply below_drew1 | refine below_set ?_ GE149.out) | exact HB.out)) hb); clear BK149; clear HB; have BK149 := n0_; have HB := n1_; clear n0_ n1_; (try clear hb); (try clear hb2); (try clear hk); (try clear hi)) | ((with_reducible refine gate_dst (N := 3) rfl ?_); refine box_event ?hg (N := 3) ?hd (cs := #[.int .i64 0, .int .i64 0]) (t := 23) ?hr ?_; (case hd => rfl); (case hg => rfl); (case hr => first | (go_simp; done) | (go_simp; rfl)); intro gb153 hg w11 hbox hb; have n0_ := bB BK149 hb; have n1_ := Aside0.mk (below_step (by repeat (first | (with_reducible first | exact HB.out | apply below_alloc | apply pw_below_drewN | apply below_drew1 | refine below_set ?_ GE149.out) | exact HB.out)) hb); have n2_ := Aside0.mk (hbox); have n3_ := Aside0.mk ((by rw [hg]; exact (below_size (by repeat (first | (with_reducible first | exact HB.out | apply below_alloc | apply pw_below_drewN | apply below_drew1 | refine below_set ?_ GE149.out) | exact HB.out))) : w.heap.size ≤ gb153)); have n4_ := Aside0.mk ((by rw [hg]; exact (below_size (by repeat (first | (with_reducible first | exact HB.out | apply below_alloc | apply pw_below_drewN | apply below_drew1 | refine below_set ?_ GE149.out) | exact HB.out))) : w.heap.size ≤ gb153)); have n5_ := bNl BK149 hg; have n6_ := bNg BK149 hg; clear BK149; clear HB; have BK149 := n0_; have HB := n1_; have BK153 := n2_; have GW153 := n3_; have GE153 := n4_; have NB149_153 := n5_; have NB153_149 := n6_; clear n0_ n1_ n2_ n3_ n4_ n5_ n6_; clear hb hbox hg; have hnb12 := NB153_149.out; have hnc12 := NB149_153.out; have hcz13_0 : w11.cell? ⟨gb153, 0, none⟩ = some (.int .i64 0) := (blk_cell BK153.out 0).trans rfl; have hcz13_1 : w11.cell? ⟨gb153, 1, none⟩ = some (.int .i64 0) := (blk_cell BK153.out 1).trans rfl; have hfz13_0 := blk_frozen BK153.out 0; have hfz13_1 := blk_frozen BK153.out 1) | ((with_reducible refine gate_callee (f := 18) rfl ?_); refine goesL_ (some 19) rfl rfl Try.func18 (by kernel_rfl) rfl #[.int .i64 4] rfl (by (try simp only [List.map_toArray, List.map_cons, List.map_nil]); first | done | rfl | (simp only [List.length_drop, List.length_take]; rfl)) ?_; (with_reducible refine (plane_Spiral.calls k 4 t154 t155 t156 _ A3.out).mono ?_); rintro e w14 ⟨rfl, hb⟩; refine ⟨_, rfl, ?_⟩; have n0_ := Aside0.mk (blk_below (g := gb149) (o := .cells #[.int .i64 t146, .int .i64 t147] 23 (0, 0)) (by (with_reducible repeat (first | refine blk_drewN ?_ _ | refine blk_drew ?_ | refine blk_alloc ?_ _)); refine blk_far ?_ NB149_153.out _; (with_reducible repeat (first | refine blk_drewN ?_ _ | refine blk_drew ?_ | refine blk_alloc ?_ _)); refine blk_far ?_ NB149_153.out _; (with_reducible repeat (first | refine blk_drewN ?_ _ | refine blk_drew ?_ | refine blk_alloc ?_ _)); exact BK149.out) hb); have n1_ := Aside0.mk (blk_below (g := gb153) (o := .cells #[.int .i64 t150, .int .i64 t151] 23 (0, 0)) (by (with_reducible repeat (first | refine blk_drewN ?_ _ | refine blk_drew ?_ | refine blk_alloc ?_ _)); refine blk_put (cs := #[.int .i64 t150, .int .i64 0]) ?_ 1 _ rfl; (with_reducible repeat (first | refine blk_drewN ?_ _ | refine blk_drew ?_ | refine blk_alloc ?_ _)); refine blk_put (cs := #[.int .i64 0, .int .i64 0]) ?_ 0 _ rfl; (with_reducible repeat (first | refine blk_drewN ?_ _ | refine blk_drew ?_ | refine blk_alloc ?_ _)); exact BK153.out) hb); have n2_ := Aside0.mk (below_step (by repeat (first | (with_reducible first | exact HB.out | apply below_alloc | apply pw_below_drewN | apply below_drew1 | refine below_set ?_ GE149.out | refine below_set ?_ GE153.out) | exact HB.out)) hb); clear BK149; clear BK153; clear HB; have BK149 := n0_; have BK153 := n1_; have HB := n2_; clear n0_ n1_ n2_; (try clear hb); (try clear hb2); (try clear hk); (try clear hi)) | ((with_reducible refine gate_dst (N := 5) rfl ?_); refine box_event ?hg (N := 5) ?hd (cs := #[.int .i64 0, .int .i64 0]) (t := 23) ?hr ?_; (case hd => rfl); (case hg => rfl); (case hr => first | (go_simp; done) | (go_simp; rfl)); intro gb157 hg w15 hbox hb; have n0_ := bB BK149 hb; have n1_ := bB BK153 hb; have n2_ := Aside0.mk (below_step (by repeat (first | (with_reducible first | exact HB.out | apply below_alloc | apply pw_below_drewN | apply below_drew1 | refine below_set ?_ GE149.out | refine below_set ?_ GE153.out) | exact HB.out)) hb); have n3_ := Aside0.mk (hbox); have n4_ := Aside0.mk ((by rw [hg]; exact (below_size (by repeat (first | (with_reducible first | exact HB.out | apply below_alloc | apply pw_below_drewN | apply below_drew1 | refine below_set ?_ GE149.out | refine below_set ?_ GE153.out) | exact HB.out))) : w.heap.size ≤ gb157)); have n5_ := Aside0.mk ((by rw [hg]; exact (below_size (by repeat (first | (with_reducible first | exact HB.out | apply below_alloc | apply pw_below_drewN | apply below_drew1 | refine below_set ?_ GE149.out | refine below_set ?_ GE153.out) | exact HB.out))) : w.heap.size ≤ gb157)); have n6_ := bNl BK149 hg; have n7_ := bNg BK149 hg; have n8_ := bNl BK153 hg; have n9_ := bNg BK153 hg; clear BK149; clear BK153; clear HB; have BK149 := n0_; have BK153 := n1_; have HB := n2_; have BK157 := n3_; have GW157 := n4_; have GE157 := n5_; have NB149_157 := n6_; have NB157_149 := n7_; have NB153_157 := n8_; have NB157_153 := n9_; clear n0_ n1_ n2_ n3_ n4_ n5_ n6_ n7_ n8_ n9_; clear hb hbox hg; have hnb16 := NB157_149.out; have hnc16 := NB149_157.out; have hnb17 := NB157_153.out; have hnc17 := NB153_157.out; have hcz18_0 : w15.cell? ⟨gb157, 0, none⟩ = some (.int .i64 0) := (blk_cell BK157.out 0).trans rfl; have hcz18_1 : w15.cell? ⟨gb157, 1, none⟩ = some (.int .i64 0) := (blk_cell BK157.out 1).trans rfl; have hfz18_0 := blk_frozen BK157.out 0; have hfz18_1 := blk_frozen BK157.out 1; have hcz19_0 : w15.cell? ⟨gb149, 0, none⟩ = some (.int .i64 t146) := (blk_cell BK149.out 0).trans rfl; have hcz19_1 : w15.cell? ⟨gb149, 1, none⟩ = some (.int .i64 t147) := (blk_cell BK149.out 1).trans rfl; have hfz19_0 := blk_frozen BK149.out 0; have hfz19_1 := blk_frozen BK149.out 1; have hcz20_0 : w15.cell? ⟨gb153, 0, none⟩ = some (.int .i64 t150) := (blk_cell BK153.out 0).trans rfl; have hcz20_1 : w15.cell? ⟨gb153, 1, none⟩ = some (.int .i64 t151) := (blk_cell BK153.out 1).trans rfl; have hfz20_0 := blk_frozen BK153.out 0; have hfz20_1 := blk_frozen BK153.out 1))
    go_ret
    exact ⟨by first | rfl | (simp [errW_none, errW_some] <;> rfl) | (simp [*, errW_none, errW_some] <;> rfl), by repeat (first | (with_reducible first | exact HB.out | apply below_alloc | apply pw_below_drewN | apply below_drew1 | refine below_set ?_ GE149.out | refine below_set ?_ GE153.out | refine below_set ?_ GE157.out) | exact HB.out)⟩
   ·
    rw [if_neg c6] at H
    have c6b0 : (t150 == (-2) && (t151 == 1)) = false := by simpa using c6
    (try (have c6b1 : decide (t150 = (-2) && (t151 == 1)) = false := by simpa using c6))
    (try (have c6b2 : (t150 == (-2) && (t151 == 1)) = false := by simpa using c6))
    (try (have c6b3 : ¬ (t150 = (-2) && (t151 == 1)) := by simpa using c6))
    clear c6
    obtain rfl := Option.some.inj H
    go_enter Try.func14, Try.ntmps14
    go_wp2_with (first | ((with_reducible refine gate_callee (f := 15) rfl ?_); refine goesL_ (some 10) rfl rfl Try.func15 (by kernel_rfl) rfl #[.agg #[.int .i64 1, .int .i64 2], .agg #[.int .i64 3, .int .i64 (-1)]] rfl (by (try simp only [List.map_toArray, List.map_cons, List.map_nil]); first | done | rfl | (simp only [List.length_drop, List.length_take]; rfl)) ?_; (with_reducible refine (plane_Mul.calls 1 2 3 (-1) t146 t147 t148 _ A1.out).mono ?_); rintro e w21 ⟨rfl, hb⟩; refine ⟨_, rfl, ?_⟩; have n0_ := Aside0.mk (below_step (by repeat (first | (with_reducible first | exact HB.out | apply below_alloc | apply pw_below_drewN | apply below_drew1) | exact HB.out)) hb); clear HB; have HB := n0_; clear n0_; (try clear hb); (try clear hb2); (try clear hk); (try clear hi)) | ((with_reducible refine gate_dst (N := 1) rfl ?_); refine box_event ?hg (N := 1) ?hd (cs := #[.int .i64 0, .int .i64 0]) (t := 23) ?hr ?_; (case hd => rfl); (case hg => rfl); (case hr => first | (go_simp; done) | (go_simp; rfl)); intro gb149 hg w22 hbox hb; have n0_ := Aside0.mk (below_step (by repeat (first | (with_reducible first | exact HB.out | apply below_alloc | apply pw_below_drewN | apply below_drew1) | exact HB.out)) hb); have n1_ := Aside0.mk (hbox); have n2_ := Aside0.mk ((by rw [hg]; exact (below_size (by repeat (first | (with_reducible first | exact HB.out | apply below_alloc | apply pw_below_drewN | apply below_drew1) | exact HB.out))) : w.heap.size ≤ gb149)); have n3_ := Aside0.mk ((by rw [hg]; exact (below_size (by repeat (first | (with_reducible first | exact HB.out | apply below_alloc | apply pw_below_drewN | apply below_drew1) | exact HB.out))) : w.heap.size ≤ gb149)); clear HB; have HB := n0_; have BK149 := n1_; have GW149 := n2_; have GE149 := n3_; clear n0_ n1_ n2_ n3_; clear hb hbox hg; have hcz23_0 : w22.cell? ⟨gb149, 0, none⟩ = some (.int .i64 0) := (blk_cell BK149.out 0).trans rfl; have hcz23_1 : w22.cell? ⟨gb149, 1, none⟩ = some (.int .i64 0) := (blk_cell BK149.out 1).trans rfl; have hfz23_0 := blk_frozen BK149.out 0; have hfz23_1 := blk_frozen BK149.out 1) | ((with_reducible refine gate_callee (f := 10) rfl ?_); refine goesL_ (some 15) rfl rfl Try.func10 (by kernel_rfl) rfl #[.agg #[.int .i64 1, .int .i64 2], .int .i64 1] rfl (by (try simp only [List.map_toArray, List.map_cons, List.map_nil]); first | done | rfl | (simp only [List.length_drop, List.length_take]; rfl)) ?_; (with_reducible refine (plane_Turn.calls k 1 2 1 t150 t151 t152 _ A2.out).mono ?_); rintro e w24 ⟨rfl, hb⟩; refine ⟨_, rfl, ?_⟩; have n0_ := Aside0.mk (blk_below (g := gb149) (o := .cells #[.int .i64 t146, .int .i64 t147] 23 (0, 0)) (by (with_reducible repeat (first | refine blk_drewN ?_ _ | refine blk_drew ?_ | refine blk_alloc ?_ _)); refine blk_put (cs := #[.int .i64 t146, .int .i64 0]) ?_ 1 _ rfl; (with_reducible repeat (first | refine blk_drewN ?_ _ | refine blk_drew ?_ | refine blk_alloc ?_ _)); refine blk_put (cs := #[.int .i64 0, .int .i64 0]) ?_ 0 _ rfl; (with_reducible repeat (first | refine blk_drewN ?_ _ | refine blk_drew ?_ | refine blk_alloc ?_ _)); exact BK149.out) hb); have n1_ := Aside0.mk (below_step (by repeat (first | (with_reducible first | exact HB.out | apply below_alloc | apply pw_below_drewN | apply below_drew1 | refine below_set ?_ GE149.out) | exact HB.out)) hb); clear BK149; clear HB; have BK149 := n0_; have HB := n1_; clear n0_ n1_; (try clear hb); (try clear hb2); (try clear hk); (try clear hi)) | ((with_reducible refine gate_dst (N := 3) rfl ?_); refine box_event ?hg (N := 3) ?hd (cs := #[.int .i64 0, .int .i64 0]) (t := 23) ?hr ?_; (case hd => rfl); (case hg => rfl); (case hr => first | (go_simp; done) | (go_simp; rfl)); intro gb153 hg w25 hbox hb; have n0_ := bB BK149 hb; have n1_ := Aside0.mk (below_step (by repeat (first | (with_reducible first | exact HB.out | apply below_alloc | apply pw_below_drewN | apply below_drew1 | refine below_set ?_ GE149.out) | exact HB.out)) hb); have n2_ := Aside0.mk (hbox); have n3_ := Aside0.mk ((by rw [hg]; exact (below_size (by repeat (first | (with_reducible first | exact HB.out | apply below_alloc | apply pw_below_drewN | apply below_drew1 | refine below_set ?_ GE149.out) | exact HB.out))) : w.heap.size ≤ gb153)); have n4_ := Aside0.mk ((by rw [hg]; exact (below_size (by repeat (first | (with_reducible first | exact HB.out | apply below_alloc | apply pw_below_drewN | apply below_drew1 | refine below_set ?_ GE149.out) | exact HB.out))) : w.heap.size ≤ gb153)); have n5_ := bNl BK149 hg; have n6_ := bNg BK149 hg; clear BK149; clear HB; have BK149 := n0_; have HB := n1_; have BK153 := n2_; have GW153 := n3_; have GE153 := n4_; have NB149_153 := n5_; have NB153_149 := n6_; clear n0_ n1_ n2_ n3_ n4_ n5_ n6_; clear hb hbox hg; have hnb26 := NB153_149.out; have hnc26 := NB149_153.out; have hcz27_0 : w25.cell? ⟨gb153, 0, none⟩ = some (.int .i64 0) := (blk_cell BK153.out 0).trans rfl; have hcz27_1 : w25.cell? ⟨gb153, 1, none⟩ = some (.int .i64 0) := (blk_cell BK153.out 1).trans rfl; have hfz27_0 := blk_frozen BK153.out 0; have hfz27_1 := blk_frozen BK153.out 1) | ((with_reducible refine gate_callee (f := 18) rfl ?_); refine goesL_ (some 19) rfl rfl Try.func18 (by kernel_rfl) rfl #[.int .i64 4] rfl (by (try simp only [List.map_toArray, List.map_cons, List.map_nil]); first | done | rfl | (simp only [List.length_drop, List.length_take]; rfl)) ?_; (with_reducible refine (plane_Spiral.calls k 4 t154 t155 t156 _ A3.out).mono ?_); rintro e w28 ⟨rfl, hb⟩; refine ⟨_, rfl, ?_⟩; have n0_ := Aside0.mk (blk_below (g := gb149) (o := .cells #[.int .i64 t146, .int .i64 t147] 23 (0, 0)) (by (with_reducible repeat (first | refine blk_drewN ?_ _ | refine blk_drew ?_ | refine blk_alloc ?_ _)); refine blk_far ?_ NB149_153.out _; (with_reducible repeat (first | refine blk_drewN ?_ _ | refine blk_drew ?_ | refine blk_alloc ?_ _)); refine blk_far ?_ NB149_153.out _; (with_reducible repeat (first | refine blk_drewN ?_ _ | refine blk_drew ?_ | refine blk_alloc ?_ _)); exact BK149.out) hb); have n1_ := Aside0.mk (blk_below (g := gb153) (o := .cells #[.int .i64 t150, .int .i64 t151] 23 (0, 0)) (by (with_reducible repeat (first | refine blk_drewN ?_ _ | refine blk_drew ?_ | refine blk_alloc ?_ _)); refine blk_put (cs := #[.int .i64 t150, .int .i64 0]) ?_ 1 _ rfl; (with_reducible repeat (first | refine blk_drewN ?_ _ | refine blk_drew ?_ | refine blk_alloc ?_ _)); refine blk_put (cs := #[.int .i64 0, .int .i64 0]) ?_ 0 _ rfl; (with_reducible repeat (first | refine blk_drewN ?_ _ | refine blk_drew ?_ | refine blk_alloc ?_ _)); exact BK153.out) hb); have n2_ := Aside0.mk (below_step (by repeat (first | (with_reducible first | exact HB.out | apply below_alloc | apply pw_below_drewN | apply below_drew1 | refine below_set ?_ GE149.out | refine below_set ?_ GE153.out) | exact HB.out)) hb); clear BK149; clear BK153; clear HB; have BK149 := n0_; have BK153 := n1_; have HB := n2_; clear n0_ n1_ n2_; (try clear hb); (try clear hb2); (try clear hk); (try clear hi)) | ((with_reducible refine gate_dst (N := 5) rfl ?_); refine box_event ?hg (N := 5) ?hd (cs := #[.int .i64 0, .int .i64 0]) (t := 23) ?hr ?_; (case hd => rfl); (case hg => rfl); (case hr => first | (go_simp; done) | (go_simp; rfl)); intro gb157 hg w29 hbox hb; have n0_ := bB BK149 hb; have n1_ := bB BK153 hb; have n2_ := Aside0.mk (below_step (by repeat (first | (with_reducible first | exact HB.out | apply below_alloc | apply pw_below_drewN | apply below_drew1 | refine below_set ?_ GE149.out | refine below_set ?_ GE153.out) | exact HB.out)) hb); have n3_ := Aside0.mk (hbox); have n4_ := Aside0.mk ((by rw [hg]; exact (below_size (by repeat (first | (with_reducible first | exact HB.out | apply below_alloc | apply pw_below_drewN | apply below_drew1 | refine below_set ?_ GE149.out | refine below_set ?_ GE153.out) | exact HB.out))) : w.heap.size ≤ gb157)); have n5_ := Aside0.mk ((by rw [hg]; exact (below_size (by repeat (first | (with_reducible first | exact HB.out | apply below_alloc | apply pw_below_drewN | apply below_drew1 | refine below_set ?_ GE149.out | refine below_set ?_ GE153.out) | exact HB.out))) : w.heap.size ≤ gb157)); have n6_ := bNl BK149 hg; have n7_ := bNg BK149 hg; have n8_ := bNl BK153 hg; have n9_ := bNg BK153 hg; clear BK149; clear BK153; clear HB; have BK149 := n0_; have BK153 := n1_; have HB := n2_; have BK157 := n3_; have GW157 := n4_; have GE157 := n5_; have NB149_157 := n6_; have NB157_149 := n7_; have NB153_157 := n8_; have NB157_153 := n9_; clear n0_ n1_ n2_ n3_ n4_ n5_ n6_ n7_ n8_ n9_; clear hb hbox hg; have hnb30 := NB157_149.out; have hnc30 := NB149_157.out; have hnb31 := NB157_153.out; have hnc31 := NB153_157.out; have hcz32_0 : w29.cell? ⟨gb157, 0, none⟩ = some (.int .i64 0) := (blk_cell BK157.out 0).trans rfl; have hcz32_1 : w29.cell? ⟨gb157, 1, none⟩ = some (.int .i64 0) := (blk_cell BK157.out 1).trans rfl; have hfz32_0 := blk_frozen BK157.out 0; have hfz32_1 := blk_frozen BK157.out 1; have hcz33_0 : w29.cell? ⟨gb149, 0, none⟩ = some (.int .i64 t146) := (blk_cell BK149.out 0).trans rfl; have hcz33_1 : w29.cell? ⟨gb149, 1, none⟩ = some (.int .i64 t147) := (blk_cell BK149.out 1).trans rfl; have hfz33_0 := blk_frozen BK149.out 0; have hfz33_1 := blk_frozen BK149.out 1; have hcz34_0 : w29.cell? ⟨gb153, 0, none⟩ = some (.int .i64 t150) := (blk_cell BK153.out 0).trans rfl; have hcz34_1 : w29.cell? ⟨gb153, 1, none⟩ = some (.int .i64 t151) := (blk_cell BK153.out 1).trans rfl; have hfz34_0 := blk_frozen BK153.out 0; have hfz34_1 := blk_frozen BK153.out 1))
    go_ret
    exact ⟨by first | rfl | (simp [errW_none, errW_some] <;> rfl) | (simp [*, errW_none, errW_some] <;> rfl), by repeat (first | (with_reducible first | exact HB.out | apply below_alloc | apply pw_below_drewN | apply below_drew1 | refine below_set ?_ GE149.out | refine below_set ?_ GE153.out | refine below_set ?_ GE157.out) | exact HB.out)⟩
  ·
   rw [if_neg c5] at H
   have c5b0 : (t146 == 5 && (t147 == 5)) = false := by simpa using c5
   (try (have c5b1 : decide (t146 = 5 && (t147 == 5)) = false := by simpa using c5))
   (try (have c5b2 : (t146 == 5 && (t147 == 5)) = false := by simpa using c5))
   (try (have c5b3 : ¬ (t146 = 5 && (t147 == 5)) := by simpa using c5))
   clear c5
   obtain rfl := Option.some.inj H
   go_enter Try.func14, Try.ntmps14
   go_wp2_with (first | ((with_reducible refine gate_callee (f := 15) rfl ?_); refine goesL_ (some 10) rfl rfl Try.func15 (by kernel_rfl) rfl #[.agg #[.int .i64 1, .int .i64 2], .agg #[.int .i64 3, .int .i64 (-1)]] rfl (by (try simp only [List.map_toArray, List.map_cons, List.map_nil]); first | done | rfl | (simp only [List.length_drop, List.length_take]; rfl)) ?_; (with_reducible refine (plane_Mul.calls 1 2 3 (-1) t146 t147 t148 _ A1.out).mono ?_); rintro e w35 ⟨rfl, hb⟩; refine ⟨_, rfl, ?_⟩; have n0_ := Aside0.mk (below_step (by repeat (first | (with_reducible first | exact HB.out | apply below_alloc | apply pw_below_drewN | apply below_drew1) | exact HB.out)) hb); clear HB; have HB := n0_; clear n0_; (try clear hb); (try clear hb2); (try clear hk); (try clear hi)) | ((with_reducible refine gate_dst (N := 1) rfl ?_); refine box_event ?hg (N := 1) ?hd (cs := #[.int .i64 0, .int .i64 0]) (t := 23) ?hr ?_; (case hd => rfl); (case hg => rfl); (case hr => first | (go_simp; done) | (go_simp; rfl)); intro gb149 hg w36 hbox hb; have n0_ := Aside0.mk (below_step (by repeat (first | (with_reducible first | exact HB.out | apply below_alloc | apply pw_below_drewN | apply below_drew1) | exact HB.out)) hb); have n1_ := Aside0.mk (hbox); have n2_ := Aside0.mk ((by rw [hg]; exact (below_size (by repeat (first | (with_reducible first | exact HB.out | apply below_alloc | apply pw_below_drewN | apply below_drew1) | exact HB.out))) : w.heap.size ≤ gb149)); have n3_ := Aside0.mk ((by rw [hg]; exact (below_size (by repeat (first | (with_reducible first | exact HB.out | apply below_alloc | apply pw_below_drewN | apply below_drew1) | exact HB.out))) : w.heap.size ≤ gb149)); clear HB; have HB := n0_; have BK149 := n1_; have GW149 := n2_; have GE149 := n3_; clear n0_ n1_ n2_ n3_; clear hb hbox hg; have hcz37_0 : w36.cell? ⟨gb149, 0, none⟩ = some (.int .i64 0) := (blk_cell BK149.out 0).trans rfl; have hcz37_1 : w36.cell? ⟨gb149, 1, none⟩ = some (.int .i64 0) := (blk_cell BK149.out 1).trans rfl; have hfz37_0 := blk_frozen BK149.out 0; have hfz37_1 := blk_frozen BK149.out 1) | ((with_reducible refine gate_callee (f := 10) rfl ?_); refine goesL_ (some 15) rfl rfl Try.func10 (by kernel_rfl) rfl #[.agg #[.int .i64 1, .int .i64 2], .int .i64 1] rfl (by (try simp only [List.map_toArray, List.map_cons, List.map_nil]); first | done | rfl | (simp only [List.length_drop, List.length_take]; rfl)) ?_; (with_reducible refine (plane_Turn.calls k 1 2 1 t150 t151 t152 _ A2.out).mono ?_); rintro e w38 ⟨rfl, hb⟩; refine ⟨_, rfl, ?_⟩; have n0_ := Aside0.mk (blk_below (g := gb149) (o := .cells #[.int .i64 t146, .int .i64 t147] 23 (0, 0)) (by (with_reducible repeat (first | refine blk_drewN ?_ _ | refine blk_drew ?_ | refine blk_alloc ?_ _)); refine blk_put (cs := #[.int .i64 t146, .int .i64 0]) ?_ 1 _ rfl; (with_reducible repeat (first | refine blk_drewN ?_ _ | refine blk_drew ?_ | refine blk_alloc ?_ _)); refine blk_put (cs := #[.int .i64 0, .int .i64 0]) ?_ 0 _ rfl; (with_reducible repeat (first | refine blk_drewN ?_ _ | refine blk_drew ?_ | refine blk_alloc ?_ _)); exact BK149.out) hb); have n1_ := Aside0.mk (below_step (by repeat (first | (with_reducible first | exact HB.out | apply below_alloc | apply pw_below_drewN | apply below_drew1 | refine below_set ?_ GE149.out) | exact HB.out)) hb); clear BK149; clear HB; have BK149 := n0_; have HB := n1_; clear n0_ n1_; (try clear hb); (try clear hb2); (try clear hk); (try clear hi)) | ((with_reducible refine gate_dst (N := 3) rfl ?_); refine box_event ?hg (N := 3) ?hd (cs := #[.int .i64 0, .int .i64 0]) (t := 23) ?hr ?_; (case hd => rfl); (case hg => rfl); (case hr => first | (go_simp; done) | (go_simp; rfl)); intro gb153 hg w39 hbox hb; have n0_ := bB BK149 hb; have n1_ := Aside0.mk (below_step (by repeat (first | (with_reducible first | exact HB.out | apply below_alloc | apply pw_below_drewN | apply below_drew1 | refine below_set ?_ GE149.out) | exact HB.out)) hb); have n2_ := Aside0.mk (hbox); have n3_ := Aside0.mk ((by rw [hg]; exact (below_size (by repeat (first | (with_reducible first | exact HB.out | apply below_alloc | apply pw_below_drewN | apply below_drew1 | refine below_set ?_ GE149.out) | exact HB.out))) : w.heap.size ≤ gb153)); have n4_ := Aside0.mk ((by rw [hg]; exact (below_size (by repeat (first | (with_reducible first | exact HB.out | apply below_alloc | apply pw_below_drewN | apply below_drew1 | refine below_set ?_ GE149.out) | exact HB.out))) : w.heap.size ≤ gb153)); have n5_ := bNl BK149 hg; have n6_ := bNg BK149 hg; clear BK149; clear HB; have BK149 := n0_; have HB := n1_; have BK153 := n2_; have GW153 := n3_; have GE153 := n4_; have NB149_153 := n5_; have NB153_149 := n6_; clear n0_ n1_ n2_ n3_ n4_ n5_ n6_; clear hb hbox hg; have hnb40 := NB153_149.out; have hnc40 := NB149_153.out; have hcz41_0 : w39.cell? ⟨gb153, 0, none⟩ = some (.int .i64 0) := (blk_cell BK153.out 0).trans rfl; have hcz41_1 : w39.cell? ⟨gb153, 1, none⟩ = some (.int .i64 0) := (blk_cell BK153.out 1).trans rfl; have hfz41_0 := blk_frozen BK153.out 0; have hfz41_1 := blk_frozen BK153.out 1) | ((with_reducible refine gate_callee (f := 18) rfl ?_); refine goesL_ (some 19) rfl rfl Try.func18 (by kernel_rfl) rfl #[.int .i64 4] rfl (by (try simp only [List.map_toArray, List.map_cons, List.map_nil]); first | done | rfl | (simp only [List.length_drop, List.length_take]; rfl)) ?_; (with_reducible refine (plane_Spiral.calls k 4 t154 t155 t156 _ A3.out).mono ?_); rintro e w42 ⟨rfl, hb⟩; refine ⟨_, rfl, ?_⟩; have n0_ := Aside0.mk (blk_below (g := gb149) (o := .cells #[.int .i64 t146, .int .i64 t147] 23 (0, 0)) (by (with_reducible repeat (first | refine blk_drewN ?_ _ | refine blk_drew ?_ | refine blk_alloc ?_ _)); refine blk_far ?_ NB149_153.out _; (with_reducible repeat (first | refine blk_drewN ?_ _ | refine blk_drew ?_ | refine blk_alloc ?_ _)); refine blk_far ?_ NB149_153.out _; (with_reducible repeat (first | refine blk_drewN ?_ _ | refine blk_drew ?_ | refine blk_alloc ?_ _)); exact BK149.out) hb); have n1_ := Aside0.mk (blk_below (g := gb153) (o := .cells #[.int .i64 t150, .int .i64 t151] 23 (0, 0)) (by (with_reducible repeat (first | refine blk_drewN ?_ _ | refine blk_drew ?_ | refine blk_alloc ?_ _)); refine blk_put (cs := #[.int .i64 t150, .int .i64 0]) ?_ 1 _ rfl; (with_reducible repeat (first | refine blk_drewN ?_ _ | refine blk_drew ?_ | refine blk_alloc ?_ _)); refine blk_put (cs := #[.int .i64 0, .int .i64 0]) ?_ 0 _ rfl; (with_reducible repeat (first | refine blk_drewN ?_ _ | refine blk_drew ?_ | refine blk_alloc ?_ _)); exact BK153.out) hb); have n2_ := Aside0.mk (below_step (by repeat (first | (with_reducible first | exact HB.out | apply below_alloc | apply pw_below_drewN | apply below_drew1 | refine below_set ?_ GE149.out | refine below_set ?_ GE153.out) | exact HB.out)) hb); clear BK149; clear BK153; clear HB; have BK149 := n0_; have BK153 := n1_; have HB := n2_; clear n0_ n1_ n2_; (try clear hb); (try clear hb2); (try clear hk); (try clear hi)) | ((with_reducible refine gate_dst (N := 5) rfl ?_); refine box_event ?hg (N := 5) ?hd (cs := #[.int .i64 0, .int .i64 0]) (t := 23) ?hr ?_; (case hd => rfl); (case hg => rfl); (case hr => first | (go_simp; done) | (go_simp; rfl)); intro gb157 hg w43 hbox hb; have n0_ := bB BK149 hb; have n1_ := bB BK153 hb; have n2_ := Aside0.mk (below_step (by repeat (first | (with_reducible first | exact HB.out | apply below_alloc | apply pw_below_drewN | apply below_drew1 | refine below_set ?_ GE149.out | refine below_set ?_ GE153.out) | exact HB.out)) hb); have n3_ := Aside0.mk (hbox); have n4_ := Aside0.mk ((by rw [hg]; exact (below_size (by repeat (first | (with_reducible first | exact HB.out | apply below_alloc | apply pw_below_drewN | apply below_drew1 | refine below_set ?_ GE149.out | refine below_set ?_ GE153.out) | exact HB.out))) : w.heap.size ≤ gb157)); have n5_ := Aside0.mk ((by rw [hg]; exact (below_size (by repeat (first | (with_reducible first | exact HB.out | apply below_alloc | apply pw_below_drewN | apply below_drew1 | refine below_set ?_ GE149.out | refine below_set ?_ GE153.out) | exact HB.out))) : w.heap.size ≤ gb157)); have n6_ := bNl BK149 hg; have n7_ := bNg BK149 hg; have n8_ := bNl BK153 hg; have n9_ := bNg BK153 hg; clear BK149; clear BK153; clear HB; have BK149 := n0_; have BK153 := n1_; have HB := n2_; have BK157 := n3_; have GW157 := n4_; have GE157 := n5_; have NB149_157 := n6_; have NB157_149 := n7_; have NB153_157 := n8_; have NB157_153 := n9_; clear n0_ n1_ n2_ n3_ n4_ n5_ n6_ n7_ n8_ n9_; clear hb hbox hg; have hnb44 := NB157_149.out; have hnc44 := NB149_157.out; have hnb45 := NB157_153.out; have hnc45 := NB153_157.out; have hcz46_0 : w43.cell? ⟨gb157, 0, none⟩ = some (.int .i64 0) := (blk_cell BK157.out 0).trans rfl; have hcz46_1 : w43.cell? ⟨gb157, 1, none⟩ = some (.int .i64 0) := (blk_cell BK157.out 1).trans rfl; have hfz46_0 := blk_frozen BK157.out 0; have hfz46_1 := blk_frozen BK157.out 1; have hcz47_0 : w43.cell? ⟨gb149, 0, none⟩ = some (.int .i64 t146) := (blk_cell BK149.out 0).trans rfl; have hcz47_1 : w43.cell? ⟨gb149, 1, none⟩ = some (.int .i64 t147) := (blk_cell BK149.out 1).trans rfl; have hfz47_0 := blk_frozen BK149.out 0; have hfz47_1 := blk_frozen BK149.out 1))
   go_ret
   exact ⟨by first | rfl | (simp [errW_none, errW_some] <;> rfl) | (simp [*, errW_none, errW_some] <;> rfl), by repeat (first | (with_reducible first | exact HB.out | apply below_alloc | apply pw_below_drewN | apply below_drew1 | refine below_set ?_ GE149.out | refine below_set ?_ GE153.out | refine below_set ?_ GE157.out) | exact HB.out)⟩
 ·
  rw [if_neg c4] at H
  have c4b0 : ((wrap64 ((wrap64 (t148 + t152)) + t156)) == 0) = false := beq_eq_false_iff_ne.mpr c4
  have c4b1 : ((wrap64 ((wrap64 (t148 + t152)) + t156)) != 0) = true := bne_iff_ne.mpr c4
  obtain rfl := Option.some.inj H
  go_enter Try.func14, Try.ntmps14
  go_wp2_with (first | ((with_reducible refine gate_callee (f := 15) rfl ?_); refine goesL_ (some 10) rfl rfl Try.func15 (by kernel_rfl) rfl #[.agg #[.int .i64 1, .int .i64 2], .agg #[.int .i64 3, .int .i64 (-1)]] rfl (by (try simp only [List.map_toArray, List.map_cons, List.map_nil]); first | done | rfl | (simp only [List.length_drop, List.length_take]; rfl)) ?_; (with_reducible refine (plane_Mul.calls 1 2 3 (-1) t146 t147 t148 _ A1.out).mono ?_); rintro e w48 ⟨rfl, hb⟩; refine ⟨_, rfl, ?_⟩; have n0_ := Aside0.mk (below_step (by repeat (first | (with_reducible first | exact HB.out | apply below_alloc | apply pw_below_drewN | apply below_drew1) | exact HB.out)) hb); clear HB; have HB := n0_; clear n0_; (try clear hb); (try clear hb2); (try clear hk); (try clear hi)) | ((with_reducible refine gate_dst (N := 1) rfl ?_); refine box_event ?hg (N := 1) ?hd (cs := #[.int .i64 0, .int .i64 0]) (t := 23) ?hr ?_; (case hd => rfl); (case hg => rfl); (case hr => first | (go_simp; done) | (go_simp; rfl)); intro gb149 hg w49 hbox hb; have n0_ := Aside0.mk (below_step (by repeat (first | (with_reducible first | exact HB.out | apply below_alloc | apply pw_below_drewN | apply below_drew1) | exact HB.out)) hb); have n1_ := Aside0.mk (hbox); have n2_ := Aside0.mk ((by rw [hg]; exact (below_size (by repeat (first | (with_reducible first | exact HB.out | apply below_alloc | apply pw_below_drewN | apply below_drew1) | exact HB.out))) : w.heap.size ≤ gb149)); have n3_ := Aside0.mk ((by rw [hg]; exact (below_size (by repeat (first | (with_reducible first | exact HB.out | apply below_alloc | apply pw_below_drewN | apply below_drew1) | exact HB.out))) : w.heap.size ≤ gb149)); clear HB; have HB := n0_; have BK149 := n1_; have GW149 := n2_; have GE149 := n3_; clear n0_ n1_ n2_ n3_; clear hb hbox hg; have hcz50_0 : w49.cell? ⟨gb149, 0, none⟩ = some (.int .i64 0) := (blk_cell BK149.out 0).trans rfl; have hcz50_1 : w49.cell? ⟨gb149, 1, none⟩ = some (.int .i64 0) := (blk_cell BK149.out 1).trans rfl; have hfz50_0 := blk_frozen BK149.out 0; have hfz50_1 := blk_frozen BK149.out 1) | ((with_reducible refine gate_callee (f := 10) rfl ?_); refine goesL_ (some 15) rfl rfl Try.func10 (by kernel_rfl) rfl #[.agg #[.int .i64 1, .int .i64 2], .int .i64 1] rfl (by (try simp only [List.map_toArray, List.map_cons, List.map_nil]); first | done | rfl | (simp only [List.length_drop, List.length_take]; rfl)) ?_; (with_reducible refine (plane_Turn.calls k 1 2 1 t150 t151 t152 _ A2.out).mono ?_); rintro e w51 ⟨rfl, hb⟩; refine ⟨_, rfl, ?_⟩; have n0_ := Aside0.mk (blk_below (g := gb149) (o := .cells #[.int .i64 t146, .int .i64 t147] 23 (0, 0)) (by (with_reducible repeat (first | refine blk_drewN ?_ _ | refine blk_drew ?_ | refine blk_alloc ?_ _)); refine blk_put (cs := #[.int .i64 t146, .int .i64 0]) ?_ 1 _ rfl; (with_reducible repeat (first | refine blk_drewN ?_ _ | refine blk_drew ?_ | refine blk_alloc ?_ _)); refine blk_put (cs := #[.int .i64 0, .int .i64 0]) ?_ 0 _ rfl; (with_reducible repeat (first | refine blk_drewN ?_ _ | refine blk_drew ?_ | refine blk_alloc ?_ _)); exact BK149.out) hb); have n1_ := Aside0.mk (below_step (by repeat (first | (with_reducible first | exact HB.out | apply below_alloc | apply pw_below_drewN | apply below_drew1 | refine below_set ?_ GE149.out) | exact HB.out)) hb); clear BK149; clear HB; have BK149 := n0_; have HB := n1_; clear n0_ n1_; (try clear hb); (try clear hb2); (try clear hk); (try clear hi)) | ((with_reducible refine gate_dst (N := 3) rfl ?_); refine box_event ?hg (N := 3) ?hd (cs := #[.int .i64 0, .int .i64 0]) (t := 23) ?hr ?_; (case hd => rfl); (case hg => rfl); (case hr => first | (go_simp; done) | (go_simp; rfl)); intro gb153 hg w52 hbox hb; have n0_ := bB BK149 hb; have n1_ := Aside0.mk (below_step (by repeat (first | (with_reducible first | exact HB.out | apply below_alloc | apply pw_below_drewN | apply below_drew1 | refine below_set ?_ GE149.out) | exact HB.out)) hb); have n2_ := Aside0.mk (hbox); have n3_ := Aside0.mk ((by rw [hg]; exact (below_size (by repeat (first | (with_reducible first | exact HB.out | apply below_alloc | apply pw_below_drewN | apply below_drew1 | refine below_set ?_ GE149.out) | exact HB.out))) : w.heap.size ≤ gb153)); have n4_ := Aside0.mk ((by rw [hg]; exact (below_size (by repeat (first | (with_reducible first | exact HB.out | apply below_alloc | apply pw_below_drewN | apply below_drew1 | refine below_set ?_ GE149.out) | exact HB.out))) : w.heap.size ≤ gb153)); have n5_ := bNl BK149 hg; have n6_ := bNg BK149 hg; clear BK149; clear HB; have BK149 := n0_; have HB := n1_; have BK153 := n2_; have GW153 := n3_; have GE153 := n4_; have NB149_153 := n5_; have NB153_149 := n6_; clear n0_ n1_ n2_ n3_ n4_ n5_ n6_; clear hb hbox hg; have hnb53 := NB153_149.out; have hnc53 := NB149_153.out; have hcz54_0 : w52.cell? ⟨gb153, 0, none⟩ = some (.int .i64 0) := (blk_cell BK153.out 0).trans rfl; have hcz54_1 : w52.cell? ⟨gb153, 1, none⟩ = some (.int .i64 0) := (blk_cell BK153.out 1).trans rfl; have hfz54_0 := blk_frozen BK153.out 0; have hfz54_1 := blk_frozen BK153.out 1) | ((with_reducible refine gate_callee (f := 18) rfl ?_); refine goesL_ (some 19) rfl rfl Try.func18 (by kernel_rfl) rfl #[.int .i64 4] rfl (by (try simp only [List.map_toArray, List.map_cons, List.map_nil]); first | done | rfl | (simp only [List.length_drop, List.length_take]; rfl)) ?_; (with_reducible refine (plane_Spiral.calls k 4 t154 t155 t156 _ A3.out).mono ?_); rintro e w55 ⟨rfl, hb⟩; refine ⟨_, rfl, ?_⟩; have n0_ := Aside0.mk (blk_below (g := gb149) (o := .cells #[.int .i64 t146, .int .i64 t147] 23 (0, 0)) (by (with_reducible repeat (first | refine blk_drewN ?_ _ | refine blk_drew ?_ | refine blk_alloc ?_ _)); refine blk_far ?_ NB149_153.out _; (with_reducible repeat (first | refine blk_drewN ?_ _ | refine blk_drew ?_ | refine blk_alloc ?_ _)); refine blk_far ?_ NB149_153.out _; (with_reducible repeat (first | refine blk_drewN ?_ _ | refine blk_drew ?_ | refine blk_alloc ?_ _)); exact BK149.out) hb); have n1_ := Aside0.mk (blk_below (g := gb153) (o := .cells #[.int .i64 t150, .int .i64 t151] 23 (0, 0)) (by (with_reducible repeat (first | refine blk_drewN ?_ _ | refine blk_drew ?_ | refine blk_alloc ?_ _)); refine blk_put (cs := #[.int .i64 t150, .int .i64 0]) ?_ 1 _ rfl; (with_reducible repeat (first | refine blk_drewN ?_ _ | refine blk_drew ?_ | refine blk_alloc ?_ _)); refine blk_put (cs := #[.int .i64 0, .int .i64 0]) ?_ 0 _ rfl; (with_reducible repeat (first | refine blk_drewN ?_ _ | refine blk_drew ?_ | refine blk_alloc ?_ _)); exact BK153.out) hb); have n2_ := Aside0.mk (below_step (by repeat (first | (with_reducible first | exact HB.out | apply below_alloc | apply pw_below_drewN | apply below_drew1 | refine below_set ?_ GE149.out | refine below_set ?_ GE153.out) | exact HB.out)) hb); clear BK149; clear BK153; clear HB; have BK149 := n0_; have BK153 := n1_; have HB := n2_; clear n0_ n1_ n2_; (try clear hb); (try clear hb2); (try clear hk); (try clear hi)) | ((with_reducible refine gate_dst (N := 5) rfl ?_); refine box_event ?hg (N := 5) ?hd (cs := #[.int .i64 0, .int .i64 0]) (t := 23) ?hr ?_; (case hd => rfl); (case hg => rfl); (case hr => first | (go_simp; done) | (go_simp; rfl)); intro gb157 hg w56 hbox hb; have n0_ := bB BK149 hb; have n1_ := bB BK153 hb; have n2_ := Aside0.mk (below_step (by repeat (first | (with_reducible first | exact HB.out | apply below_alloc | apply pw_below_drewN | apply below_drew1 | refine below_set ?_ GE149.out | refine below_set ?_ GE153.out) | exact HB.out)) hb); have n3_ := Aside0.mk (hbox); have n4_ := Aside0.mk ((by rw [hg]; exact (below_size (by repeat (first | (with_reducible first | exact HB.out | apply below_alloc | apply pw_below_drewN | apply below_drew1 | refine below_set ?_ GE149.out | refine below_set ?_ GE153.out) | exact HB.out))) : w.heap.size ≤ gb157)); have n5_ := Aside0.mk ((by rw [hg]; exact (below_size (by repeat (first | (with_reducible first | exact HB.out | apply below_alloc | apply pw_below_drewN | apply below_drew1 | refine below_set ?_ GE149.out | refine below_set ?_ GE153.out) | exact HB.out))) : w.heap.size ≤ gb157)); have n6_ := bNl BK149 hg; have n7_ := bNg BK149 hg; have n8_ := bNl BK153 hg; have n9_ := bNg BK153 hg; clear BK149; clear BK153; clear HB; have BK149 := n0_; have BK153 := n1_; have HB := n2_; have BK157 := n3_; have GW157 := n4_; have GE157 := n5_; have NB149_157 := n6_; have NB157_149 := n7_; have NB153_157 := n8_; have NB157_153 := n9_; clear n0_ n1_ n2_ n3_ n4_ n5_ n6_ n7_ n8_ n9_; clear hb hbox hg; have hnb57 := NB157_149.out; have hnc57 := NB149_157.out; have hnb58 := NB157_153.out; have hnc58 := NB153_157.out; have hcz59_0 : w56.cell? ⟨gb157, 0, none⟩ = some (.int .i64 0) := (blk_cell BK157.out 0).trans rfl; have hcz59_1 : w56.cell? ⟨gb157, 1, none⟩ = some (.int .i64 0) := (blk_cell BK157.out 1).trans rfl; have hfz59_0 := blk_frozen BK157.out 0; have hfz59_1 := blk_frozen BK157.out 1))
  go_ret
  exact ⟨by first | rfl | (simp [errW_none, errW_some] <;> rfl) | (simp [*, errW_none, errW_some] <;> rfl), by repeat (first | (with_reducible first | exact HB.out | apply below_alloc | apply pw_below_drewN | apply below_drew1 | refine below_set ?_ GE149.out | refine below_set ?_ GE153.out | refine below_set ?_ GE157.out) | exact HB.out)⟩

-- NOT PRINTED: function 49 (api_Place_49)

-- NOT PRINTED: function 44 (api_Place_44)

-- NOT PRINTED: function 52 (slices_insertionSortCmpFunc_int)

-- NOT PRINTED: function 55 (slices_swapRangeCmpFunc_int)

-- NOT PRINTED: function 54 (slices_rotateCmpFunc_int)

-- NOT PRINTED: function 53 (slices_symMergeCmpFunc_int)

-- NOT PRINTED: function 50 (slices_stableCmpFunc_int)

-- NOT PRINTED: function 46 (slices_SortStableFunc_int_int)

-- BY HAND: function 32 (plane_Near)

/-! ### mosaicref17_Check: function 28 -/
def mosaicref17_Check.f (a0_0 : Int) (a0_1 : Int) : Option (Bool) := if a0_0 ≥ (-1048576) then (if a0_0 ≤ 1048576 then (if a0_1 ≥ (-1048576) then (some (decide (a0_1 ≤ 1048576))) else (some false)) else (some false)) else (some false)
set_option maxHeartbeats 8000000 in
set_option maxRecDepth 100000 in
theorem mosaicref17_Check.calls (a0_0 : Int) (a0_1 : Int) (r : Bool) (w : World) (h : mosaicref17_Check.f a0_0 a0_1 = some r) :
  Calls Try.prog 28 #[.agg #[.int .i64 a0_0, .int .i64 a0_1]] w fun e w' => e = .returned (.bool r) ∧ Below w.heap.size w w' := by
 have hu27 := Try.underlying27
 have HB := Aside0.mk (Below.refl w.heap.size w)
 have H : (if a0_0 ≥ (-1048576) then (if a0_0 ≤ 1048576 then (if a0_1 ≥ (-1048576) then (some (decide (a0_1 ≤ 1048576))) else (some false)) else (some false)) else (some false)) = some r := h
 clear h
 by_cases c2 : a0_0 ≥ (-1048576)
 ·
  rw [if_pos c2] at H
  have c2b0 : decide ((-1048576) ≤ a0_0) = true := decide_eq_true c2
  clear c2
  by_cases c3 : a0_0 ≤ 1048576
  ·
   rw [if_pos c3] at H
   have c3b0 : decide (a0_0 ≤ 1048576) = true := decide_eq_true c3
   clear c3
   by_cases c4 : a0_1 ≥ (-1048576)
   ·
    rw [if_pos c4] at H
    have c4b0 : decide ((-1048576) ≤ a0_1) = true := decide_eq_true c4
    clear c4
    obtain rfl := Option.some.inj H
    go_enter Try.func28, Try.ntmps28
    go_wp2_with (first | ((with_reducible refine gate_dst (N := 1) rfl ?_); refine box_event ?hg (N := 1) ?hd (cs := #[.int .i64 a0_0, .int .i64 a0_1]) (t := 27) ?hr ?_; (case hd => rfl); (case hg => rfl); (case hr => first | (go_simp; done) | (go_simp; rfl)); intro gb158 hg w5 hbox hb; have n0_ := Aside0.mk (below_step (by repeat (first | (with_reducible first | exact HB.out | apply below_alloc | apply pw_below_drewN | apply below_drew1) | exact HB.out)) hb); have n1_ := Aside0.mk (hbox); have n2_ := Aside0.mk ((by rw [hg]; exact (below_size (by repeat (first | (with_reducible first | exact HB.out | apply below_alloc | apply pw_below_drewN | apply below_drew1) | exact HB.out))) : w.heap.size ≤ gb158)); have n3_ := Aside0.mk ((by rw [hg]; exact (below_size (by repeat (first | (with_reducible first | exact HB.out | apply below_alloc | apply pw_below_drewN | apply below_drew1) | exact HB.out))) : w.heap.size ≤ gb158)); clear HB; have HB := n0_; have BK158 := n1_; have GW158 := n2_; have GE158 := n3_; clear n0_ n1_ n2_ n3_; clear hb hbox hg; have hcz6_0 : w5.cell? ⟨gb158, 0, none⟩ = some (.int .i64 a0_0) := (blk_cell BK158.out 0).trans rfl; have hcz6_1 : w5.cell? ⟨gb158, 1, none⟩ = some (.int .i64 a0_1) := (blk_cell BK158.out 1).trans rfl; have hfz6_0 := blk_frozen BK158.out 0; have hfz6_1 := blk_frozen BK158.out 1))
    go_ret
    exact ⟨by first | rfl | (simp [errW_none, errW_some] <;> rfl) | (simp [*, errW_none, errW_some] <;> rfl), by repeat (first | (with_reducible first | exact HB.out | apply below_alloc | apply pw_below_drewN | apply below_drew1 | refine below_set ?_ GE158.out) | exact HB.out)⟩
   ·
    rw [if_neg c4] at H
    have c4b0 : decide ((-1048576) ≤ a0_1) = false := decide_eq_false c4
    clear c4
    obtain rfl := Option.some.inj H
    go_enter Try.func28, Try.ntmps28
    go_wp2_with (first | ((with_reducible refine gate_dst (N := 1) rfl ?_); refine box_event ?hg (N := 1) ?hd (cs := #[.int .i64 a0_0, .int .i64 a0_1]) (t := 27) ?hr ?_; (case hd => rfl); (case hg => rfl); (case hr => first | (go_simp; done) | (go_simp; rfl)); intro gb158 hg w7 hbox hb; have n0_ := Aside0.mk (below_step (by repeat (first | (with_reducible first | exact HB.out | apply below_alloc | apply pw_below_drewN | apply below_drew1) | exact HB.out)) hb); have n1_ := Aside0.mk (hbox); have n2_ := Aside0.mk ((by rw [hg]; exact (below_size (by repeat (first | (with_reducible first | exact HB.out | apply below_alloc | apply pw_below_drewN | apply below_drew1) | exact HB.out))) : w.heap.size ≤ gb158)); have n3_ := Aside0.mk ((by rw [hg]; exact (below_size (by repeat (first | (with_reducible first | exact HB.out | apply below_alloc | apply pw_below_drewN | apply below_drew1) | exact HB.out))) : w.heap.size ≤ gb158)); clear HB; have HB := n0_; have BK158 := n1_; have GW158 := n2_; have GE158 := n3_; clear n0_ n1_ n2_ n3_; clear hb hbox hg; have hcz8_0 : w7.cell? ⟨gb158, 0, none⟩ = some (.int .i64 a0_0) := (blk_cell BK158.out 0).trans rfl; have hcz8_1 : w7.cell? ⟨gb158, 1, none⟩ = some (.int .i64 a0_1) := (blk_cell BK158.out 1).trans rfl; have hfz8_0 := blk_frozen BK158.out 0; have hfz8_1 := blk_frozen BK158.out 1))
    go_ret
    exact ⟨by first | rfl | (simp [errW_none, errW_some] <;> rfl) | (simp [*, errW_none, errW_some] <;> rfl), by repeat (first | (with_reducible first | exact HB.out | apply below_alloc | apply pw_below_drewN | apply below_drew1 | refine below_set ?_ GE158.out) | exact HB.out)⟩
  ·
   rw [if_neg c3] at H
   have c3b0 : decide (a0_0 ≤ 1048576) = false := decide_eq_false c3
   clear c3
   obtain rfl := Option.some.inj H
   go_enter Try.func28, Try.ntmps28
   go_wp2_with (first | ((with_reducible refine gate_dst (N := 1) rfl ?_); refine box_event ?hg (N := 1) ?hd (cs := #[.int .i64 a0_0, .int .i64 a0_1]) (t := 27) ?hr ?_; (case hd => rfl); (case hg => rfl); (case hr => first | (go_simp; done) | (go_simp; rfl)); intro gb158 hg w9 hbox hb; have n0_ := Aside0.mk (below_step (by repeat (first | (with_reducible first | exact HB.out | apply below_alloc | apply pw_below_drewN | apply below_drew1) | exact HB.out)) hb); have n1_ := Aside0.mk (hbox); have n2_ := Aside0.mk ((by rw [hg]; exact (below_size (by repeat (first | (with_reducible first | exact HB.out | apply below_alloc | apply pw_below_drewN | apply below_drew1) | exact HB.out))) : w.heap.size ≤ gb158)); have n3_ := Aside0.mk ((by rw [hg]; exact (below_size (by repeat (first | (with_reducible first | exact HB.out | apply below_alloc | apply pw_below_drewN | apply below_drew1) | exact HB.out))) : w.heap.size ≤ gb158)); clear HB; have HB := n0_; have BK158 := n1_; have GW158 := n2_; have GE158 := n3_; clear n0_ n1_ n2_ n3_; clear hb hbox hg; have hcz10_0 : w9.cell? ⟨gb158, 0, none⟩ = some (.int .i64 a0_0) := (blk_cell BK158.out 0).trans rfl; have hcz10_1 : w9.cell? ⟨gb158, 1, none⟩ = some (.int .i64 a0_1) := (blk_cell BK158.out 1).trans rfl; have hfz10_0 := blk_frozen BK158.out 0; have hfz10_1 := blk_frozen BK158.out 1))
   go_ret
   exact ⟨by first | rfl | (simp [errW_none, errW_some] <;> rfl) | (simp [*, errW_none, errW_some] <;> rfl), by repeat (first | (with_reducible first | exact HB.out | apply below_alloc | apply pw_below_drewN | apply below_drew1 | refine below_set ?_ GE158.out) | exact HB.out)⟩
 ·
  rw [if_neg c2] at H
  have c2b0 : decide ((-1048576) ≤ a0_0) = false := decide_eq_false c2
  clear c2
  obtain rfl := Option.some.inj H
  go_enter Try.func28, Try.ntmps28
  go_wp2_with (first | ((with_reducible refine gate_dst (N := 1) rfl ?_); refine box_event ?hg (N := 1) ?hd (cs := #[.int .i64 a0_0, .int .i64 a0_1]) (t := 27) ?hr ?_; (case hd => rfl); (case hg => rfl); (case hr => first | (go_simp; done) | (go_simp; rfl)); intro gb158 hg w11 hbox hb; have n0_ := Aside0.mk (below_step (by repeat (first | (with_reducible first | exact HB.out | apply below_alloc | apply pw_below_drewN | apply below_drew1) | exact HB.out)) hb); have n1_ := Aside0.mk (hbox); have n2_ := Aside0.mk ((by rw [hg]; exact (below_size (by repeat (first | (with_reducible first | exact HB.out | apply below_alloc | apply pw_below_drewN | apply below_drew1) | exact HB.out))) : w.heap.size ≤ gb158)); have n3_ := Aside0.mk ((by rw [hg]; exact (below_size (by repeat (first | (with_reducible first | exact HB.out | apply below_alloc | apply pw_below_drewN | apply below_drew1) | exact HB.out))) : w.heap.size ≤ gb158)); clear HB; have HB := n0_; have BK158 := n1_; have GW158 := n2_; have GE158 := n3_; clear n0_ n1_ n2_ n3_; clear hb hbox hg; have hcz12_0 : w11.cell? ⟨gb158, 0, none⟩ = some (.int .i64 a0_0) := (blk_cell BK158.out 0).trans rfl; have hcz12_1 : w11.cell? ⟨gb158, 1, none⟩ = some (.int .i64 a0_1) := (blk_cell BK158.out 1).trans rfl; have hfz12_0 := blk_frozen BK158.out 0; have hfz12_1 := blk_frozen BK158.out 1))
  go_ret
  exact ⟨by first | rfl | (simp [errW_none, errW_some] <;> rfl) | (simp [*, errW_none, errW_some] <;> rfl), by repeat (first | (with_reducible first | exact HB.out | apply below_alloc | apply pw_below_drewN | apply below_drew1 | refine below_set ?_ GE158.out) | exact HB.out)⟩

/-! ### mosaicref17_Dist: function 31 -/
def mosaicref17_Dist.f (a0_0 : Int) (a0_1 : Int) (a1_0 : Int) (a1_1 : Int) : Option (Int) := (mosaicref17_Check.f a0_0 a0_1).bind fun t161 => (if t161 = true then ((mosaicref17_Check.f a1_0 a1_1).bind fun t162 => (if t162 = true then (some (wrap64 ((wrap64 ((wrap64 (a0_0 - a1_0)) * (wrap64 (a0_0 - a1_0)))) + (wrap64 ((wrap64 (a0_1 - a1_1)) * (wrap64 (a0_1 - a1_1))))))) else (some (-1)))) else (some (-1)))
set_option maxHeartbeats 8000000 in
set_option maxRecDepth 100000 in
theorem mosaicref17_Dist.calls (a0_0 : Int) (a0_1 : Int) (a1_0 : Int) (a1_1 : Int) (r : Int) (w : World) (h : mosaicref17_Dist.f a0_0 a0_1 a1_0 a1_1 = some r) :
  Calls Try.prog 31 #[.agg #[.int .i64 a0_0, .int .i64 a0_1], .agg #[.int .i64 a1_0, .int .i64 a1_1]] w fun e w' => e = .returned (.int .i64 r) ∧ Below w.heap.size w w' := by
 have hu27 := Try.underlying27
 have HB := Aside0.mk (Below.refl w.heap.size w)
 have H : ((mosaicref17_Check.f a0_0 a0_1).bind fun t161 => (if t161 = true then ((mosaicref17_Check.f a1_0 a1_1).bind fun t162 => (if t162 = true then (some (wrap64 ((wrap64 ((wrap64 (a0_0 - a1_0)) * (wrap64 (a0_0 - a1_0)))) + (wrap64 ((wrap64 (a0_1 - a1_1)) * (wrap64 (a0_1 - a1_1))))))) else (some (-1)))) else (some (-1)))) = some r := h
 clear h
 replace H := Option.bind_eq_some_iff.mp H
 obtain ⟨t161, A30, H⟩ := H
 replace H : (if t161 = true then ((mosaicref17_Check.f a1_0 a1_1).bind fun t162 => (if t162 = true then (some (wrap64 ((wrap64 ((wrap64 (a0_0 - a1_0)) * (wrap64 (a0_0 - a1_0)))) + (wrap64 ((wrap64 (a0_1 - a1_1)) * (wrap64 (a0_1 - a1_1))))))) else (some (-1)))) else (some (-1))) = some r := H
 have A3 := Aside0.mk A30
 clear A30
 by_cases c4 : t161 = true
 ·
  subst c4
  have H1 : ((mosaicref17_Check.f a1_0 a1_1).bind fun t162 => (if t162 = true then (some (wrap64 ((wrap64 ((wrap64 (a0_0 - a1_0)) * (wrap64 (a0_0 - a1_0)))) + (wrap64 ((wrap64 (a0_1 - a1_1)) * (wrap64 (a0_1 - a1_1))))))) else (some (-1)))) = some r := by rw [if_pos rfl] at H; exact H
  clear H
  have H := H1
  clear H1
  replace H := Option.bind_eq_some_iff.mp H
  obtain ⟨t162, A50, H⟩ := H
  replace H : (if t162 = true then (some (wrap64 ((wrap64 ((wrap64 (a0_0 - a1_0)) * (wrap64 (a0_0 - a1_0)))) + (wrap64 ((wrap64 (a0_1 - a1_1)) * (wrap64 (a0_1 - a1_1))))))) else (some (-1))) = some r := H
  have A5 := Aside0.mk A50
  clear A50
  by_cases c6 : t162 = true
  ·
   subst c6
   have H1 : (some (wrap64 ((wrap64 ((wrap64 (a0_0 - a1_0)) * (wrap64 (a0_0 - a1_0)))) + (wrap64 ((wrap64 (a0_1 - a1_1)) * (wrap64 (a0_1 - a1_1))))))) = some r := by rw [if_pos rfl] at H; exact H
   clear H
   have H := H1
   clear H1
   obtain rfl := Option.some.inj H
   go_enter Try.func31, Try.ntmps31
   go_wp2_with (first | ((with_reducible refine gate_dst (N := 2) rfl ?_); refine box_event ?hg (N := 2) ?hd (cs := #[.int .i64 a0_0, .int .i64 a0_1]) (t := 27) ?hr ?_; (case hd => rfl); (case hg => rfl); (case hr => first | (go_simp; done) | (go_simp; rfl)); intro gb159 hg w7 hbox hb; have n0_ := Aside0.mk (below_step (by repeat (first | (with_reducible first | exact HB.out | apply below_alloc | apply pw_below_drewN | apply below_drew1) | exact HB.out)) hb); have n1_ := Aside0.mk (hbox); have n2_ := Aside0.mk ((by rw [hg]; exact (below_size (by repeat (first | (with_reducible first | exact HB.out | apply below_alloc | apply pw_below_drewN | apply below_drew1) | exact HB.out))) : w.heap.size ≤ gb159)); have n3_ := Aside0.mk ((by rw [hg]; exact (below_size (by repeat (first | (with_reducible first | exact HB.out | apply below_alloc | apply pw_below_drewN | apply below_drew1) | exact HB.out))) : w.heap.size ≤ gb159)); clear HB; have HB := n0_; have BK159 := n1_; have GW159 := n2_; have GE159 := n3_; clear n0_ n1_ n2_ n3_; clear hb hbox hg) | ((with_reducible refine gate_dst (N := 3) rfl ?_); refine box_event ?hg (N := 3) ?hd (cs := #[.int .i64 a1_0, .int .i64 a1_1]) (t := 27) ?hr ?_; (case hd => rfl); (case hg => rfl); (case hr => first | (go_simp; done) | (go_simp; rfl)); intro gb160 hg w8 hbox hb; have n0_ := bB BK159 hb; have n1_ := Aside0.mk (below_step (by repeat (first | (with_reducible first | exact HB.out | apply below_alloc | apply pw_below_drewN | apply below_drew1 | refine below_set ?_ GE159.out) | exact HB.out)) hb); have n2_ := Aside0.mk (hbox); have n3_ := Aside0.mk ((by rw [hg]; exact (below_size (by repeat (first | (with_reducible first | exact HB.out | apply below_alloc | apply pw_below_drewN | apply below_drew1 | refine below_set ?_ GE159.out) | exact HB.out))) : w.heap.size ≤ gb160)); have n4_ := Aside0.mk ((by rw [hg]; exact (below_size (by repeat (first | (with_reducible first | exact HB.out | apply below_alloc | apply pw_below_drewN | apply below_drew1 | refine below_set ?_ GE159.out) | exact HB.out))) : w.heap.size ≤ gb160)); have n5_ := bNl BK159 hg; have n6_ := bNg BK159 hg; clear BK159; clear HB; have BK159 := n0_; have HB := n1_; have BK160 := n2_; have GW160 := n3_; have GE160 := n4_; have NB159_160 := n5_; have NB160_159 := n6_; clear n0_ n1_ n2_ n3_ n4_ n5_ n6_; clear hb hbox hg; have hnb9 := NB159_160.out; have hnc9 := NB160_159.out; have hcz10_0 : w8.cell? ⟨gb159, 0, none⟩ = some (.int .i64 a0_0) := (blk_cell BK159.out 0).trans rfl; have hcz10_1 : w8.cell? ⟨gb159, 1, none⟩ = some (.int .i64 a0_1) := (blk_cell BK159.out 1).trans rfl; have hfz10_0 := blk_frozen BK159.out 0; have hfz10_1 := blk_frozen BK159.out 1) | ((with_reducible refine gate_callee (f := 28) rfl ?_); refine goesL_ (some 6) rfl rfl Try.func28 (by kernel_rfl) rfl #[.agg #[.int .i64 a0_0, .int .i64 a0_1]] rfl (by (try simp only [List.map_toArray, List.map_cons, List.map_nil]); first | done | rfl | (simp only [List.length_drop, List.length_take]; rfl)) ?_; (with_reducible refine (mosaicref17_Check.calls a0_0 a0_1 true _ A3.out).mono ?_); rintro e w11 ⟨rfl, hb⟩; refine ⟨_, rfl, ?_⟩; have n0_ := bB BK159 hb; have n1_ := bB BK160 hb; have n2_ := Aside0.mk (below_step (by repeat (first | (with_reducible first | exact HB.out | apply below_alloc | apply pw_below_drewN | apply below_drew1 | refine below_set ?_ GE159.out | refine below_set ?_ GE160.out) | exact HB.out)) hb); clear BK159; clear BK160; clear HB; have BK159 := n0_; have BK160 := n1_; have HB := n2_; clear n0_ n1_ n2_; (try clear hb); (try clear hb2); (try clear hk); (try clear hi); have hcz12_0 : w11.cell? ⟨gb160, 0, none⟩ = some (.int .i64 a1_0) := (blk_cell BK160.out 0).trans rfl; have hcz12_1 : w11.cell? ⟨gb160, 1, none⟩ = some (.int .i64 a1_1) := (blk_cell BK160.out 1).trans rfl; have hfz12_0 := blk_frozen BK160.out 0; have hfz12_1 := blk_frozen BK160.out 1) | (go_at_call 28; (with_reducible refine (mosaicref17_Check.calls a1_0 a1_1 true _ A5.out).mono ?_); rintro e w13 ⟨rfl, hb⟩; have n0_ := bB BK159 hb; have n1_ := bB BK160 hb; have n2_ := Aside0.mk (below_step (by repeat (first | (with_reducible first | exact HB.out | apply below_alloc | apply pw_below_drewN | apply below_drew1 | refine below_set ?_ GE159.out | refine below_set ?_ GE160.out) | exact HB.out)) hb); clear BK159; clear BK160; clear HB; have BK159 := n0_; have BK160 := n1_; have HB := n2_; clear n0_ n1_ n2_; (try clear hb); (try clear hb2); (try clear hk); (try clear hi); have hcz14_0 : w13.cell? ⟨gb159, 0, none⟩ = some (.int .i64 a0_0) := (blk_cell BK159.out 0).trans rfl; have hcz14_1 : w13.cell? ⟨gb159, 1, none⟩ = some (.int .i64 a0_1) := (blk_cell BK159.out 1).trans rfl; have hfz14_0 := blk_frozen BK159.out 0; have hfz14_1 := blk_frozen BK159.out 1; have hcz15_0 : w13.cell? ⟨gb160, 0, none⟩ = some (.int .i64 a1_0) := (blk_cell BK160.out 0).trans rfl; have hcz15_1 : w13.cell? ⟨gb160, 1, none⟩ = some (.int .i64 a1_1) := (blk_cell BK160.out 1).trans rfl; have hfz15_0 := blk_frozen BK160.out 0; have hfz15_1 := blk_frozen BK160.out 1))
   go_ret
   exact ⟨by first | rfl | (simp [errW_none, errW_some] <;> rfl) | (simp [*, errW_none, errW_some] <;> rfl), by repeat (first | (with_reducible first | exact HB.out | apply below_alloc | apply pw_below_drewN | apply below_drew1 | refine below_set ?_ GE159.out | refine below_set ?_ GE160.out) | exact HB.out)⟩
  ·
   replace c6 := Bool.eq_false_iff.mpr c6
   subst c6
   have H1 : (some (-1)) = some r := by rw [if_neg (show ¬ (false = true) by decide)] at H; exact H
   clear H
   have H := H1
   clear H1
   obtain rfl := Option.some.inj H
   go_enter Try.func31, Try.ntmps31
   go_wp2_with (first | ((with_reducible refine gate_dst (N := 2) rfl ?_); refine box_event ?hg (N := 2) ?hd (cs := #[.int .i64 a0_0, .int .i64 a0_1]) (t := 27) ?hr ?_; (case hd => rfl); (case hg => rfl); (case hr => first | (go_simp; done) | (go_simp; rfl)); intro gb159 hg w16 hbox hb; have n0_ := Aside0.mk (below_step (by repeat (first | (with_reducible first | exact HB.out | apply below_alloc | apply pw_below_drewN | apply below_drew1) | exact HB.out)) hb); have n1_ := Aside0.mk (hbox); have n2_ := Aside0.mk ((by rw [hg]; exact (below_size (by repeat (first | (with_reducible first | exact HB.out | apply below_alloc | apply pw_below_drewN | apply below_drew1) | exact HB.out))) : w.heap.size ≤ gb159)); have n3_ := Aside0.mk ((by rw [hg]; exact (below_size (by repeat (first | (with_reducible first | exact HB.out | apply below_alloc | apply pw_below_drewN | apply below_drew1) | exact HB.out))) : w.heap.size ≤ gb159)); clear HB; have HB := n0_; have BK159 := n1_; have GW159 := n2_; have GE159 := n3_; clear n0_ n1_ n2_ n3_; clear hb hbox hg) | ((with_reducible refine gate_dst (N := 3) rfl ?_); refine box_event ?hg (N := 3) ?hd (cs := #[.int .i64 a1_0, .int .i64 a1_1]) (t := 27) ?hr ?_; (case hd => rfl); (case hg => rfl); (case hr => first | (go_simp; done) | (go_simp; rfl)); intro gb160 hg w17 hbox hb; have n0_ := bB BK159 hb; have n1_ := Aside0.mk (below_step (by repeat (first | (with_reducible first | exact HB.out | apply below_alloc | apply pw_below_drewN | apply below_drew1 | refine below_set ?_ GE159.out) | exact HB.out)) hb); have n2_ := Aside0.mk (hbox); have n3_ := Aside0.mk ((by rw [hg]; exact (below_size (by repeat (first | (with_reducible first | exact HB.out | apply below_alloc | apply pw_below_drewN | apply below_drew1 | refine below_set ?_ GE159.out) | exact HB.out))) : w.heap.size ≤ gb160)); have n4_ := Aside0.mk ((by rw [hg]; exact (below_size (by repeat (first | (with_reducible first | exact HB.out | apply below_alloc | apply pw_below_drewN | apply below_drew1 | refine below_set ?_ GE159.out) | exact HB.out))) : w.heap.size ≤ gb160)); have n5_ := bNl BK159 hg; have n6_ := bNg BK159 hg; clear BK159; clear HB; have BK159 := n0_; have HB := n1_; have BK160 := n2_; have GW160 := n3_; have GE160 := n4_; have NB159_160 := n5_; have NB160_159 := n6_; clear n0_ n1_ n2_ n3_ n4_ n5_ n6_; clear hb hbox hg; have hnb18 := NB159_160.out; have hnc18 := NB160_159.out; have hcz19_0 : w17.cell? ⟨gb159, 0, none⟩ = some (.int .i64 a0_0) := (blk_cell BK159.out 0).trans rfl; have hcz19_1 : w17.cell? ⟨gb159, 1, none⟩ = some (.int .i64 a0_1) := (blk_cell BK159.out 1).trans rfl; have hfz19_0 := blk_frozen BK159.out 0; have hfz19_1 := blk_frozen BK159.out 1) | ((with_reducible refine gate_callee (f := 28) rfl ?_); refine goesL_ (some 6) rfl rfl Try.func28 (by kernel_rfl) rfl #[.agg #[.int .i64 a0_0, .int .i64 a0_1]] rfl (by (try simp only [List.map_toArray, List.map_cons, List.map_nil]); first | done | rfl | (simp only [List.length_drop, List.length_take]; rfl)) ?_; (with_reducible refine (mosaicref17_Check.calls a0_0 a0_1 true _ A3.out).mono ?_); rintro e w20 ⟨rfl, hb⟩; refine ⟨_, rfl, ?_⟩; have n0_ := bB BK159 hb; have n1_ := bB BK160 hb; have n2_ := Aside0.mk (below_step (by repeat (first | (with_reducible first | exact HB.out | apply below_alloc | apply pw_below_drewN | apply below_drew1 | refine below_set ?_ GE159.out | refine below_set ?_ GE160.out) | exact HB.out)) hb); clear BK159; clear BK160; clear HB; have BK159 := n0_; have BK160 := n1_; have HB := n2_; clear n0_ n1_ n2_; (try clear hb); (try clear hb2); (try clear hk); (try clear hi); have hcz21_0 : w20.cell? ⟨gb160, 0, none⟩ = some (.int .i64 a1_0) := (blk_cell BK160.out 0).trans rfl; have hcz21_1 : w20.cell? ⟨gb160, 1, none⟩ = some (.int .i64 a1_1) := (blk_cell BK160.out 1).trans rfl; have hfz21_0 := blk_frozen BK160.out 0; have hfz21_1 := blk_frozen BK160.out 1) | (go_at_call 28; (with_reducible refine (mosaicref17_Check.calls a1_0 a1_1 false _ A5.out).mono ?_); rintro e w22 ⟨rfl, hb⟩; have n0_ := bB BK159 hb; have n1_ := bB BK160 hb; have n2_ := Aside0.mk (below_step (by repeat (first | (with_reducible first | exact HB.out | apply below_alloc | apply pw_below_drewN | apply below_drew1 | refine below_set ?_ GE159.out | refine below_set ?_ GE160.out) | exact HB.out)) hb); clear BK159; clear BK160; clear HB; have BK159 := n0_; have BK160 := n1_; have HB := n2_; clear n0_ n1_ n2_; (try clear hb); (try clear hb2); (try clear hk); (try clear hi)))
   go_ret
   exact ⟨by first | rfl | (simp [errW_none, errW_some] <;> rfl) | (simp [*, errW_none, errW_some] <;> rfl), by repeat (first | (with_reducible first | exact HB.out | apply below_alloc | apply pw_below_drewN | apply below_drew1 | refine below_set ?_ GE159.out | refine below_set ?_ GE160.out) | exact HB.out)⟩
 ·
  replace c4 := Bool.eq_false_iff.mpr c4
  subst c4
  have H1 : (some (-1)) = some r := by rw [if_neg (show ¬ (false = true) by decide)] at H; exact H
  clear H
  have H := H1
  clear H1
  obtain rfl := Option.some.inj H
  go_enter Try.func31, Try.ntmps31
  go_wp2_with (first | ((with_reducible refine gate_dst (N := 2) rfl ?_); refine box_event ?hg (N := 2) ?hd (cs := #[.int .i64 a0_0, .int .i64 a0_1]) (t := 27) ?hr ?_; (case hd => rfl); (case hg => rfl); (case hr => first | (go_simp; done) | (go_simp; rfl)); intro gb159 hg w23 hbox hb; have n0_ := Aside0.mk (below_step (by repeat (first | (with_reducible first | exact HB.out | apply below_alloc | apply pw_below_drewN | apply below_drew1) | exact HB.out)) hb); have n1_ := Aside0.mk (hbox); have n2_ := Aside0.mk ((by rw [hg]; exact (below_size (by repeat (first | (with_reducible first | exact HB.out | apply below_alloc | apply pw_below_drewN | apply below_drew1) | exact HB.out))) : w.heap.size ≤ gb159)); have n3_ := Aside0.mk ((by rw [hg]; exact (below_size (by repeat (first | (with_reducible first | exact HB.out | apply below_alloc | apply pw_below_drewN | apply below_drew1) | exact HB.out))) : w.heap.size ≤ gb159)); clear HB; have HB := n0_; have BK159 := n1_; have GW159 := n2_; have GE159 := n3_; clear n0_ n1_ n2_ n3_; clear hb hbox hg) | ((with_reducible refine gate_dst (N := 3) rfl ?_); refine box_event ?hg (N := 3) ?hd (cs := #[.int .i64 a1_0, .int .i64 a1_1]) (t := 27) ?hr ?_; (case hd => rfl); (case hg => rfl); (case hr => first | (go_simp; done) | (go_simp; rfl)); intro gb160 hg w24 hbox hb; have n0_ := bB BK159 hb; have n1_ := Aside0.mk (below_step (by repeat (first | (with_reducible first | exact HB.out | apply below_alloc | apply pw_below_drewN | apply below_drew1 | refine below_set ?_ GE159.out) | exact HB.out)) hb); have n2_ := Aside0.mk (hbox); have n3_ := Aside0.mk ((by rw [hg]; exact (below_size (by repeat (first | (with_reducible first | exact HB.out | apply below_alloc | apply pw_below_drewN | apply below_drew1 | refine below_set ?_ GE159.out) | exact HB.out))) : w.heap.size ≤ gb160)); have n4_ := Aside0.mk ((by rw [hg]; exact (below_size (by repeat (first | (with_reducible first | exact HB.out | apply below_alloc | apply pw_below_drewN | apply below_drew1 | refine below_set ?_ GE159.out) | exact HB.out))) : w.heap.size ≤ gb160)); have n5_ := bNl BK159 hg; have n6_ := bNg BK159 hg; clear BK159; clear HB; have BK159 := n0_; have HB := n1_; have BK160 := n2_; have GW160 := n3_; have GE160 := n4_; have NB159_160 := n5_; have NB160_159 := n6_; clear n0_ n1_ n2_ n3_ n4_ n5_ n6_; clear hb hbox hg; have hnb25 := NB159_160.out; have hnc25 := NB160_159.out; have hcz26_0 : w24.cell? ⟨gb159, 0, none⟩ = some (.int .i64 a0_0) := (blk_cell BK159.out 0).trans rfl; have hcz26_1 : w24.cell? ⟨gb159, 1, none⟩ = some (.int .i64 a0_1) := (blk_cell BK159.out 1).trans rfl; have hfz26_0 := blk_frozen BK159.out 0; have hfz26_1 := blk_frozen BK159.out 1) | ((with_reducible refine gate_callee (f := 28) rfl ?_); refine goesL_ (some 6) rfl rfl Try.func28 (by kernel_rfl) rfl #[.agg #[.int .i64 a0_0, .int .i64 a0_1]] rfl (by (try simp only [List.map_toArray, List.map_cons, List.map_nil]); first | done | rfl | (simp only [List.length_drop, List.length_take]; rfl)) ?_; (with_reducible refine (mosaicref17_Check.calls a0_0 a0_1 false _ A3.out).mono ?_); rintro e w27 ⟨rfl, hb⟩; refine ⟨_, rfl, ?_⟩; have n0_ := bB BK159 hb; have n1_ := bB BK160 hb; have n2_ := Aside0.mk (below_step (by repeat (first | (with_reducible first | exact HB.out | apply below_alloc | apply pw_below_drewN | apply below_drew1 | refine below_set ?_ GE159.out | refine below_set ?_ GE160.out) | exact HB.out)) hb); clear BK159; clear BK160; clear HB; have BK159 := n0_; have BK160 := n1_; have HB := n2_; clear n0_ n1_ n2_; (try clear hb); (try clear hb2); (try clear hk); (try clear hi)))
  go_ret
  exact ⟨by first | rfl | (simp [errW_none, errW_some] <;> rfl) | (simp [*, errW_none, errW_some] <;> rfl), by repeat (first | (with_reducible first | exact HB.out | apply below_alloc | apply pw_below_drewN | apply below_drew1 | refine below_set ?_ GE159.out | refine below_set ?_ GE160.out) | exact HB.out)⟩

end Go.Proofs.Ytlpidjenifbjeaa.P
