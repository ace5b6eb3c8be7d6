/- link.at: a node read into a link, walked. -/
import Derived.Test.YtmimnlbkllgfpaaGreatDoorHd
import Derived.Test.YtmimnlbkllgfpaaGreatDoorAx0
import Derived.Test.YtmimnlbkllgfpaaGreatDoorAx1
import Derived.Test.YtmimnlbkllgfpaaGreatDoorAx2
import Derived.Test.YtmimnlbkllgfpaaGreatDoorAx3
import Derived.Test.YtmimnlbkllgfpaaGreatDoorAx4
import Derived.Test.YtmimnlbkllgfpaaGreatDoorAx5
import Derived.Lib.LazyBuf
namespace Go.Proofs.YtmimnlbkllgfpaaGreatDoor.Hand
open Go.RowKit Go.Proofs.YtmimnlbkllgfpaaGreatDoor.A Go.Proofs.YtmimnlbkllgfpaaGreatDoor.Sq Go.Proofs.YtmimnlbkllgfpaaGreatDoorW.PrintWords Go.Proofs.YtmimnlbkllgfpaaGreatDoorW.PrintLast Go.Proofs.YtmimnlbkllgfpaaGreatDoorW.PrintMore

set_option linter.unusedSimpArgs false
set_option linter.unusedVariables false
def at13.T : Bool × List (List Nat × List Nat) := (true, [([], []), ([], []), ([1], [1]), ([2], [2]), ([3], [3]), ([], []), ([5], [5]), ([6], [6]), ([4, 7], [4, 7]), ([0, 0, 1, 2, 3, 4, 5, 6, 7, 8], [0]), ([9, 0, 1, 2, 3, 4, 5, 6, 7, 8], [9]), ([10, 8, 8, 0, 1, 2, 3, 4, 5, 6, 7, 8], [8, 10])])
def at13.B : List Nat := [0, 0, 2, 6, 14, 0, 32, 96, 254, 511, 1023, 2047]
theorem at13.tab : rtab .any (opsOf Tryz.f79 13) = at13.T := by kernel_rfl
theorem at13.bits : waitsOk at13.T.2 at13.B = true := by kernel_rfl
def at14.T : Bool × List (List Nat × List Nat) := (true, [([], []), ([], []), ([1], [1]), ([2], [2]), ([3], [3]), ([], []), ([5], [5]), ([], []), ([7], [7]), ([6, 8], [6, 8]), ([9], [9]), ([4, 10], [4, 10]), ([0, 0, 1, 2, 3, 4, 5, 6, 7, 8, 9, 10, 11], [0]), ([12, 0, 1, 2, 3, 4, 5, 6, 7, 8, 9, 10, 11], [12]), ([13, 11, 11, 0, 1, 2, 3, 4, 5, 6, 7, 8, 9, 10, 11], [11, 13])])
def at14.B : List Nat := [0, 0, 2, 6, 14, 0, 32, 0, 128, 480, 992, 2046, 4095, 8191, 16383]
theorem at14.tab : rtab .any (opsOf Tryz.f79 14) = at14.T := by kernel_rfl
theorem at14.bits : waitsOk at14.T.2 at14.B = true := by kernel_rfl

/-- A link in the making, in a box of its own. -/
structure LkAt (B g : Nat) (w : World) (nm ti : ByteArray) (v2 v3 : Value) (ns : List Int) (ps : List S24) : Prop where
  blk : w.heap[g]? = some (.cells #[.string nm, .string ti, v2, v3] 70 (0, 0))
  nodes : Kd.R (Kd.int .i64) 3 w B (fun _ => True) v2 ns
  places : Kd.R k24 24 w B (fun _ => True) v3 ps
  low : B ≤ g
theorem LkAt.below {B g : Nat} {w w' : World} {nm ti : ByteArray} {v2 v3 : Value} {ns : List Int} {ps : List S24} (h : LkAt B g w nm ti v2 v3 ns ps) (hb : Below w.heap.size w w') : LkAt B g w' nm ti v2 v3 ns ps :=
  ⟨blk_below h.blk hb, Kd.R_below h.nodes hb, Kd.R_below h.places hb, h.low⟩
/-- A store into a block of another type. -/
theorem LkAt.far {B g : Nat} {w : World} {nm ti : ByteArray} {v2 v3 : Value} {ns : List Int} {ps : List S24} (h : LkAt B g w nm ti v2 v3 ns ps) {N : Nat} {cs : Array Value} (hN : w.heap[N]? = some (.cells cs 150 (0, 0))) (j : Nat) (u : Value) : LkAt B g (w.setCell ⟨N, j, none⟩ u) nm ti v2 v3 ns ps :=
  ⟨blk_far h.blk (blk_ne h.blk hN (by decide)) u,
    Kd.R_mono (Kd.R_far (p := ⟨N, j, none⟩) (Kd.R_types h.nodes hN (by decide)) (fun _ hk => hk.2) u) (fun _ _ => trivial),
    Kd.R_mono (Kd.R_far (p := ⟨N, j, none⟩) (Kd.R_types h.places hN (by decide)) (fun _ hk => hk.2) u) (fun _ _ => trivial), h.low⟩
/-- The three numbers that are loaded stand in a block of their own. -/
structure Three (N : Nat) (w : World) (a b c : Int) : Prop where
  blk : w.heap[N]? = some (.cells #[.int .i64 a, .int .i64 b, .int .i64 c] 150 (0, 0))


set_option maxHeartbeats 2000000 in
set_option maxRecDepth 100000 in
theorem at_yes (s : ByteArray) (hs : s.size ≤ 1000000) (x y z : ByteArray) (a b c : Int) (hsp : splitF s ⟨#[44]⟩ = [x, y, z]) (zx : x.size ≤ 1000000) (zy : y.size ≤ 1000000) (zz : z.size ≤ 1000000) (hx : atoiO x.data.toList = some a) (hy : atoiO y.data.toList = some b) (hz : atoiO z.data.toList = some c)
    (w0 w : World) (hB : Below w0.heap.size w0 w) (hL : LibW w0) (g : Nat) (nm ti : ByteArray) (v2 v3 : Value) (ns : List Int) (ps : List S24) (h : LkAt w0.heap.size g w nm ti v2 v3 ns ps) (K : Nat) (ks : Array Value) (hk : w.heap[K]? = some (.cells ks 9 (0, 0))) (hn : ns.length ≤ 100) (hp : ps.length ≤ 100) :
    Calls Tryz.prog 79 #[.string s, .pointer (some ⟨g, 0, none⟩)] w fun e w' => e = .returned (.bool true) ∧ (∃ u2 u3, LkAt w0.heap.size g w' nm ti u2 u3 (ns ++ [a]) (ps ++ [(⟨b, c⟩ : S24)])) ∧ Below w0.heap.size w0 w' ∧ w'.heap[K]? = some (.cells ks 9 (0, 0)) := by
  have hS := split s ⟨#[44]⟩ w (hL.below hB) hs rfl
  rw [hsp] at hS
  have hX := fun W => atoi_ok x zx a hx W
  have hY := fun W => atoi_ok y zy b hy W
  have hZ := fun W => atoi_ok z zz c hz W
  go_enter Tryz.func79, Tryz.ntmps79
  go_wp2_with (go_at_call 50; refine hS.mono ?_; rintro e w1 ⟨M, rfl, hm1, hM, hb1⟩)
  have h1 := h.below hb1
  have hk1 := blk_below hk hb1
  have hB1 := hB.trans (hb1.mono hB.size)
  clear h hB hb1 hS
  have hN1 := blk_new w1 (.cells #[.int .i64 0, .int .i64 0, .int .i64 0] 150)
  have hm2 := blk_alloc hm1 (.cells #[.int .i64 0, .int .i64 0, .int .i64 0] 150)
  have hk2 := blk_alloc hk1 (.cells #[.int .i64 0, .int .i64 0, .int .i64 0] 150)
  have h2 := h1.below (below_alloc (Below.refl _ w1) (.cells #[.int .i64 0, .int .i64 0, .int .i64 0] 150))
  have hB2 := below_alloc hB1 (.cells #[.int .i64 0, .int .i64 0, .int .i64 0] 150)
  have hlow : w0.heap.size ≤ w1.heap.size := hB1.size
  generalize hNN : w1.heap.size = N at *
  generalize (w1.alloc (.cells #[.int .i64 0, .int .i64 0, .int .i64 0] 150)) = w2 at *
  clear hm1 h1 hB1 hNN
  have c0 : w2.cell? ⟨M, 0, none⟩ = some (.string x) := (blk_cell hm2 0).trans rfl
  refine wp_loop_rounds 4 ?_
  rw [rounds_succ]
  have f0 := blk_frozen hN1 0
  have d0 := blk_cell hN1 0
  go_wp2_with (go_at_call 105; refine (hX _).mono ?_; rintro e w3 ⟨rfl, hb3⟩; have hN3 := blk_below hN1 hb3; have hm3 := blk_below hm2 hb3; have hk3 := blk_below hk2 hb3; have h3 := h2.below hb3; have hB3 := hB2.trans (hb3.mono hB2.size); have f3 := blk_frozen hN3 0; have d3 := blk_cell hN3 0)
  have h4 := h3.far hN3 0 (.int .i64 a)
  have hN4 := blk_put hN3 0 (.int .i64 a) rfl
  have hm4 := blk_far (p := ⟨N, 0, none⟩) hm3 (blk_ne hm3 hN3 (by decide)) (.int .i64 a)
  have hk4 := blk_far (p := ⟨N, 0, none⟩) hk3 (blk_ne hk3 hN3 (by decide)) (.int .i64 a)
  have hB4 := hB3.setCell (p := ⟨N, 0, none⟩) hlow (.int .i64 a)
  generalize (w3.setCell ⟨N, 0, none⟩ (.int .i64 a)) = w4 at *
  clear hN3 hm3 h3 hB3 f3 d3 hb3 hX hN1 hm2 h2 hB2 c0 f0 d0
  have c1 : w4.cell? ⟨M, 1, none⟩ = some (.string y) := (blk_cell hm4 1).trans rfl
  rw [rounds_succ]
  go_wp2_with (go_at_call 105; refine (hY _).mono ?_; rintro e w5 ⟨rfl, hb5⟩; have hN5 := blk_below hN4 hb5; have hm5 := blk_below hm4 hb5; have hk5 := blk_below hk4 hb5; have h5 := h4.below hb5; have hB5 := hB4.trans (hb5.mono hB4.size); have f5 := blk_frozen hN5 1; have d5 := blk_cell hN5 1)
  have h6 := h5.far hN5 1 (.int .i64 b)
  have hN6 := blk_put hN5 1 (.int .i64 b) rfl
  have hm6 := blk_far (p := ⟨N, 1, none⟩) hm5 (blk_ne hm5 hN5 (by decide)) (.int .i64 b)
  have hk6 := blk_far (p := ⟨N, 1, none⟩) hk5 (blk_ne hk5 hN5 (by decide)) (.int .i64 b)
  have hB6 := hB5.setCell (p := ⟨N, 1, none⟩) hlow (.int .i64 b)
  generalize (w5.setCell ⟨N, 1, none⟩ (.int .i64 b)) = w6 at *
  clear hN5 hm5 h5 hB5 f5 d5 hb5 hY hN4 hm4 h4 hB4 c1
  have c2 : w6.cell? ⟨M, 2, none⟩ = some (.string z) := (blk_cell hm6 2).trans rfl
  rw [rounds_succ]
  go_wp2_with (go_at_call 105; refine (hZ _).mono ?_; rintro e w7 ⟨rfl, hb7⟩; have hN7 := blk_below hN6 hb7; have hk7 := blk_below hk6 hb7; have h7 := h6.below hb7; have hB7 := hB6.trans (hb7.mono hB6.size); have f7 := blk_frozen hN7 2; have d7 := blk_cell hN7 2)
  have h8 := h7.far hN7 2 (.int .i64 c)
  have hN8 := blk_put hN7 2 (.int .i64 c) rfl
  have hk8 := blk_far (p := ⟨N, 2, none⟩) hk7 (blk_ne hk7 hN7 (by decide)) (.int .i64 c)
  have hB8 := hB7.setCell (p := ⟨N, 2, none⟩) hlow (.int .i64 c)
  generalize (w7.setCell ⟨N, 2, none⟩ (.int .i64 c)) = w8 at *
  clear hN7 h7 hB7 f7 d7 hb7 hZ hN6 hm6 h6 hB6 c2
  rw [rounds_succ]
  go_upto_region 13 with (fail)
  replace hN8 : w8.heap[N]? = some (.cells #[.int .i64 a, .int .i64 b, .int .i64 c] 150 (0, 0)) := hN8
  have info3 : (Tryz.prog.info? 3).map (fun i => (i.zero, i.size, i.bytes)) = some (some (.int .i64 0), (Kd.int .i64).sz, 8) := by kernel_rfl
  have info34 : (Tryz.prog.info? 24).map (fun i => (i.zero, i.size, i.bytes)) = some (some (.agg #[(.int .i64 0), (.int .i64 0)]), k24.sz, 16) := by kernel_rfl
  have hu25 := Tryz.underlying70
  have hu34 := Tryz.underlying24
  try go_wp2
  have h9 := h8.below (below_drew (Below.refl _ _))
  have hN9 := blk_drew hN8
  have hk9 := blk_drew hk8
  have hB9 := below_drew1 hB8
  clear h8 hN8 hB8
  have hg9 := h9.blk
  refine start_ (n := 12) (S := fun w' => w'.cell? ⟨g, 2, none⟩ = some (v2) ∧ w'.cell? ⟨N, 0, none⟩ = some (.int .i64 a)) (ds := [8, 11]) (fB 12 0) (by kernel_rfl) rfl rfl ⟨(blk_cell hg9 2).trans rfl, (blk_cell hN9 0).trans rfl⟩ (fun hHeld => ?_); refine with_tabW at13.tab at13.bits (fun HT_ HW_ => ?_)
  generalize w8.drew = w9 at h9 hN9 hB9 hk9 hg9 hHeld ⊢
  refine pure_ (i := 0) (N := some 34) (v := ?_) (a' := ?_) (fB 12 1) rfl rfl (any_of HT_.out (by kernel_rfl)) (fun _ _ _ h => h) (Or.inl ⟨by rfl, ?_⟩) ?_ ?_
  rotate_left
  · intro w'
    go_simp
    with_reducible rfl
  rotate_left
  · simp only [Act.put, sA, sB, sC, i64_w, i32_w, sD]
    rfl
  refine pure_ (i := 1) (N := some 35) (v := ?_) (a' := ?_) (fB 12 3) rfl rfl (any_of HT_.out (by kernel_rfl)) (fun _ _ _ h => h) (Or.inl ⟨by rfl, ?_⟩) ?_ ?_
  rotate_left
  · intro w'
    go_simp
    with_reducible rfl
  rotate_left
  · simp only [Act.put, sA, sB, sC, i64_w, i32_w, sD]
    rfl
  refine pure_ (i := 2) (N := some 36) (v := ?_) (a' := ?_) (fB 12 7) rfl rfl (any_of HT_.out (by kernel_rfl)) (fun _ _ _ h => h) (Or.inl ⟨by rfl, ?_⟩) ?_ ?_
  rotate_left
  · intro w'
    go_simp
    with_reducible rfl
  rotate_left
  · simp only [Act.put, sA, sB, sC, i64_w, i32_w, sD]
    rfl
  refine pure_ (i := 3) (N := some 37) (v := ?_) (a' := ?_) (fB 12 15) rfl rfl (any_of HT_.out (by kernel_rfl)) (fun _ _ _ h => h) (Or.inl ⟨by rfl, ?_⟩) ?_ ?_
  rotate_left
  · intro w'
    go_simp
    with_reducible rfl
  rotate_left
  · simp only [Act.put, sA, sB, sC, i64_w, i32_w, sD]
    rfl
  refine pure_ (i := 5) (N := some 39) (v := ?_) (a' := ?_) (fB 12 47) rfl rfl (any_of HT_.out (by kernel_rfl)) (fun _ _ _ h => h) (Or.inl ⟨by rfl, ?_⟩) ?_ ?_
  rotate_left
  · intro w'
    go_simp
    with_reducible rfl
  rotate_left
  · simp only [Act.put, sA, sB, sC, i64_w, i32_w, sD]
    rfl
  refine take_ (i := 4) (N := some 38) (v := ?_) (a' := ?_) (fB 12 63) rfl rfl (take_ofW HT_.out HW_.out (by kernel_rfl)) (fun _ _ _ h => h) (Or.inl ⟨by rfl, ?_⟩) hHeld ?_ ?_
  rotate_left
  · rintro w' ⟨s0, s1⟩
    go_simp
    with_reducible rfl
  rotate_left
  · simp only [Act.put, sA, sB, sC, i64_w, i32_w, sD]
    rfl
  refine take_ (i := 6) (N := some 40) (v := ?_) (a' := ?_) (fB 12 127) rfl rfl (take_ofW HT_.out HW_.out (by kernel_rfl)) (fun _ _ _ h => h) (Or.inl ⟨by rfl, ?_⟩) hHeld ?_ ?_
  rotate_left
  · rintro w' ⟨s0, s1⟩
    go_simp
    with_reducible rfl
  rotate_left
  · simp only [Act.put, sA, sB, sC, i64_w, i32_w, sD]
    rfl
  refine one_ (i := 7) (N := some 41) (fB 12 255) rfl rfl (one_of HT_.out (by kernel_rfl)) (by decide) (fun K hK => ?_)
  refine value_ (w1 := ?_) (v := ?_) (by rfl) rfl ?_ ?_
  rotate_left 2
  · go_simp
    constructor
    · rfl
    · rfl
  refine hK.out _ _ ⟨(blk_cell (blk_alloc hg9 _) 2).trans rfl, (blk_cell (blk_alloc hN9 _) 0).trans rfl⟩ (fun hHeld => ?_)
  clear hK K
  refine norm_ (a' := ?_) ?_ ?_
  rotate_left
  · show Act.put _ (some 41) _ = _
    simp only [Act.put, sA, sB, sC, i64_w, i32_w, sD]
    rfl
  refine last_ (i := 8) (N := some 42) (fB 12 511) rfl rfl (one_of HT_.out (by kernel_rfl)) (by decide) (fun K hK => ?_)
  refine Kd.R_append_step (Kd.int .i64) (w0 := w0) w0.heap.size (by rfl) (.tmp 38) (.tmp 41) 48 3 (.int .i64 0) 8 rfl Tryz.underlying48 info3 rfl (by decide) (by omega) v2 ns a [.int .i64 a] (fun _ => True) (fun _ => False) rfl rfl ?aP (fun _ hk => hk.elim) (fun _ _ => trivial) ?aO ?aB ?aS ?aL ?_
  (case aP => exact rfl)
  (case aB => exact hB9)
  (case aO => exact h9.nodes)
  (case aS => exact hB9.size)
  (case aL => omega)
  intro u2 w10 ho hb hgr hat
  obtain ⟨A10, L10, C10, e10⟩ : ∃ A L C, u2 = .slice A L C := by obtain ⟨A, C, e⟩ := Kd.R_slice ho; exact ⟨A, _, C, e⟩
  subst e10
  have hR10 := Kd.R_over' h9.places (Kd.R_typed h9.nodes) (by decide) hgr
  have hg10 := blk_grown hg9 hgr (Kd.R_ne h9.nodes h9.blk (by decide))
  have hN10 := blk_grown hN9 hgr (Kd.R_ne h9.nodes hN9 (by decide))
  have hk10 := blk_grown hk9 hgr (Kd.R_ne h9.nodes hk9 (by decide))
  refine hK.out _ _ ?_
  clear hK K
  refine norm_ (a' := ?_) ?_ ?_
  rotate_left
  · show Act.put _ (some 42) _ = _
    simp only [Act.put, sA, sB, sC, i64_w, i32_w, sD]
    rfl
  refine pure_ (i := 9) (N := some 43) (v := ?_) (a' := ?_) (fB 12 1023) rfl rfl (any_of HT_.out (by kernel_rfl)) (fun _ _ _ h => h) (Or.inl ⟨by rfl, ?_⟩) ?_ ?_
  rotate_left
  · intro w'
    go_simp
    with_reducible rfl
  rotate_left
  · simp only [Act.put, sA, sB, sC, i64_w, i32_w, sD]
    rfl
  refine pure_ (i := 10) (N := some 44) (v := ?_) (a' := ?_) (fB 12 2047) rfl rfl (any_of HT_.out (by kernel_rfl)) (fun _ _ _ h => h) (Or.inl ⟨by rfl, ?_⟩) ?_ ?_
  rotate_left
  · intro w'
    go_simp
    with_reducible rfl
  rotate_left
  · simp only [Act.put, sA, sB, sC, i64_w, i32_w, sD]
    rfl
  refine last_ (i := 11) (N := none) (fB 12 4095) rfl rfl (one_of HT_.out (by kernel_rfl)) (by decide) (fun K hK => ?_)
  have hc10 := (blk_cell hg10 2).trans rfl
  have hf10 := blk_frozen hg10 2
  refine skip_ (w1 := ?_) (by rfl) rfl ?_ ?_
  rotate_left
  · go_simp
    rfl
  refine hK.out _ _ ?_
  clear hK K
  refine done_ (done_of HT_.out (by kernel_rfl)) ?_
  have h11 : LkAt w0.heap.size g (w10.setCell ⟨g, 2, none⟩ (.slice A10 L10 C10)) nm ti (.slice A10 L10 C10) v3 (ns ++ [a]) ps :=
    ⟨blk_put hg10 2 (.slice A10 L10 C10) rfl,
      Kd.R_mono (Kd.R_far (p := ⟨g, 2, none⟩) (Kd.R_types ho hg10 (by decide)) (fun _ hk => hk.2) (.slice A10 L10 C10)) (fun _ _ => trivial),
      Kd.R_mono (Kd.R_far (p := ⟨g, 2, none⟩) (Kd.R_types hR10 hg10 (by decide)) (fun _ hk => hk.2) (.slice A10 L10 C10)) (fun _ _ => trivial), h9.low⟩
  have hN11 := blk_far (p := ⟨g, 2, none⟩) hN10 (blk_ne hN10 hg10 (by decide)) (.slice A10 L10 C10)
  have hk11 := blk_far (p := ⟨g, 2, none⟩) hk10 (blk_ne hk10 hg10 (by decide)) (.slice A10 L10 C10)
  have hB11 := hb.setCell (p := ⟨g, 2, none⟩) h9.low (.slice A10 L10 C10)
  generalize (w10.setCell ⟨g, 2, none⟩ (.slice A10 L10 C10)) = w11 at h11 hN11 hB11 hk11 ⊢
  clear hg10 hN10 hR10 ho hb hgr hat hc10 hf10 h9 hN9 hB9 hg9 hHeld HT_ HW_
  try go_wp2
  have h12 := h11.below (below_drew (Below.refl _ _))
  have hN12 := blk_drew hN11
  have hk12 := blk_drew hk11
  have hB12 := below_drew1 hB11
  clear h11 hN11 hB11
  have hg12 := h12.blk
  refine start_ (n := 15) (S := fun w' => w'.cell? ⟨g, 3, none⟩ = some (v3) ∧ w'.cell? ⟨N, 1, none⟩ = some (.int .i64 b) ∧ w'.cell? ⟨N, 2, none⟩ = some (.int .i64 c)) (ds := [11, 14]) (fB 15 0) (by kernel_rfl) rfl rfl ⟨(blk_cell hg12 3).trans rfl, (blk_cell hN12 1).trans rfl, (blk_cell hN12 2).trans rfl⟩ (fun hHeld => ?_); refine with_tabW at14.tab at14.bits (fun HT_ HW_ => ?_)
  generalize w11.drew = w12 at h12 hN12 hB12 hk12 hg12 hHeld ⊢
  refine pure_ (i := 0) (N := some 45) (v := ?_) (a' := ?_) (fB 15 1) rfl rfl (any_of HT_.out (by kernel_rfl)) (fun _ _ _ h => h) (Or.inl ⟨by rfl, ?_⟩) ?_ ?_
  rotate_left
  · intro w'
    go_simp
    with_reducible rfl
  rotate_left
  · simp only [Act.put, sA, sB, sC, i64_w, i32_w, sD]
    rfl
  refine pure_ (i := 1) (N := some 46) (v := ?_) (a' := ?_) (fB 15 3) rfl rfl (any_of HT_.out (by kernel_rfl)) (fun _ _ _ h => h) (Or.inl ⟨by rfl, ?_⟩) ?_ ?_
  rotate_left
  · intro w'
    go_simp
    with_reducible rfl
  rotate_left
  · simp only [Act.put, sA, sB, sC, i64_w, i32_w, sD]
    rfl
  refine pure_ (i := 2) (N := some 47) (v := ?_) (a' := ?_) (fB 15 7) rfl rfl (any_of HT_.out (by kernel_rfl)) (fun _ _ _ h => h) (Or.inl ⟨by rfl, ?_⟩) ?_ ?_
  rotate_left
  · intro w'
    go_simp
    with_reducible rfl
  rotate_left
  · simp only [Act.put, sA, sB, sC, i64_w, i32_w, sD]
    rfl
  refine pure_ (i := 3) (N := some 48) (v := ?_) (a' := ?_) (fB 15 15) rfl rfl (any_of HT_.out (by kernel_rfl)) (fun _ _ _ h => h) (Or.inl ⟨by rfl, ?_⟩) ?_ ?_
  rotate_left
  · intro w'
    go_simp
    with_reducible rfl
  rotate_left
  · simp only [Act.put, sA, sB, sC, i64_w, i32_w, sD]
    rfl
  refine pure_ (i := 5) (N := some 50) (v := ?_) (a' := ?_) (fB 15 47) rfl rfl (any_of HT_.out (by kernel_rfl)) (fun _ _ _ h => h) (Or.inl ⟨by rfl, ?_⟩) ?_ ?_
  rotate_left
  · intro w'
    go_simp
    with_reducible rfl
  rotate_left
  · simp only [Act.put, sA, sB, sC, i64_w, i32_w, sD]
    rfl
  refine pure_ (i := 7) (N := some 52) (v := ?_) (a' := ?_) (fB 15 175) rfl rfl (any_of HT_.out (by kernel_rfl)) (fun _ _ _ h => h) (Or.inl ⟨by rfl, ?_⟩) ?_ ?_
  rotate_left
  · intro w'
    go_simp
    with_reducible rfl
  rotate_left
  · simp only [Act.put, sA, sB, sC, i64_w, i32_w, sD]
    rfl
  refine take_ (i := 4) (N := some 49) (v := ?_) (a' := ?_) (fB 15 191) rfl rfl (take_ofW HT_.out HW_.out (by kernel_rfl)) (fun _ _ _ h => h) (Or.inl ⟨by rfl, ?_⟩) hHeld ?_ ?_
  rotate_left
  · rintro w' ⟨s0, s1, s2⟩
    go_simp
    with_reducible rfl
  rotate_left
  · simp only [Act.put, sA, sB, sC, i64_w, i32_w, sD]
    rfl
  refine take_ (i := 6) (N := some 51) (v := ?_) (a' := ?_) (fB 15 255) rfl rfl (take_ofW HT_.out HW_.out (by kernel_rfl)) (fun _ _ _ h => h) (Or.inl ⟨by rfl, ?_⟩) hHeld ?_ ?_
  rotate_left
  · rintro w' ⟨s0, s1, s2⟩
    go_simp
    with_reducible rfl
  rotate_left
  · simp only [Act.put, sA, sB, sC, i64_w, i32_w, sD]
    rfl
  refine take_ (i := 8) (N := some 53) (v := ?_) (a' := ?_) (fB 15 511) rfl rfl (take_ofW HT_.out HW_.out (by kernel_rfl)) (fun _ _ _ h => h) (Or.inl ⟨by rfl, ?_⟩) hHeld ?_ ?_
  rotate_left
  · rintro w' ⟨s0, s1, s2⟩
    go_simp
    with_reducible rfl
  rotate_left
  · simp only [Act.put, sA, sB, sC, i64_w, i32_w, sD]
    rfl
  refine pure_ (i := 9) (N := some 54) (v := ?_) (a' := ?_) (fB 15 1023) rfl rfl (any_of HT_.out (by kernel_rfl)) (fun _ _ _ h => h) (Or.inl ⟨by rfl, ?_⟩) ?_ ?_
  rotate_left
  · intro w'
    go_simp
    with_reducible rfl
  rotate_left
  · simp only [Act.put, sA, sB, sC, i64_w, i32_w, sD]
    rfl
  refine one_ (i := 10) (N := some 55) (fB 15 2047) rfl rfl (one_of HT_.out (by kernel_rfl)) (by decide) (fun K hK => ?_)
  refine value_ (w1 := ?_) (v := ?_) (by rfl) rfl ?_ ?_
  rotate_left 2
  · go_simp
    constructor
    · rfl
    · rfl
  refine hK.out _ _ ⟨(blk_cell (blk_alloc hg12 _) 3).trans rfl, (blk_cell (blk_alloc hN12 _) 1).trans rfl, (blk_cell (blk_alloc hN12 _) 2).trans rfl⟩ (fun hHeld => ?_)
  clear hK K
  refine norm_ (a' := ?_) ?_ ?_
  rotate_left
  · show Act.put _ (some 55) _ = _
    simp only [Act.put, sA, sB, sC, i64_w, i32_w, sD]
    rfl
  refine last_ (i := 11) (N := some 56) (fB 15 4095) rfl rfl (one_of HT_.out (by kernel_rfl)) (by decide) (fun K hK => ?_)
  refine Kd.R_append_step k24 (w0 := w0) w0.heap.size (by rfl) (.tmp 49) (.tmp 55) 68 24 (.agg #[(.int .i64 0), (.int .i64 0)]) 16 rfl Tryz.underlying68 info34 rfl (by decide) (by omega) v3 ps (⟨b, c⟩ : S24) [.int .i64 b, .int .i64 c] (fun _ => True) (fun _ => False) rfl rfl ?aP (fun _ hk => hk.elim) (fun _ _ => trivial) ?aO ?aB ?aS ?aL ?_
  (case aP => exact k24_mkM _ _ _ (⟨b, c⟩ : S24))
  (case aB => exact hB12)
  (case aO => exact h12.places)
  (case aS => exact hB12.size)
  (case aL => omega)
  intro u3 w13 ho hb hgr hat
  obtain ⟨A13, L13, C13, e13⟩ : ∃ A L C, u3 = .slice A L C := by obtain ⟨A, C, e⟩ := Kd.R_slice ho; exact ⟨A, _, C, e⟩
  subst e13
  have hR13 := Kd.R_over' h12.nodes (Kd.R_typed h12.places) (by decide) hgr
  have hg13 := blk_grown hg12 hgr (Kd.R_ne h12.places h12.blk (by decide))
  have hN13 := blk_grown hN12 hgr (Kd.R_ne h12.places hN12 (by decide))
  have hk13 := blk_grown hk12 hgr (Kd.R_ne h12.places hk12 (by decide))
  refine hK.out _ _ ?_
  clear hK K
  refine norm_ (a' := ?_) ?_ ?_
  rotate_left
  · show Act.put _ (some 56) _ = _
    simp only [Act.put, sA, sB, sC, i64_w, i32_w, sD]
    rfl
  refine pure_ (i := 12) (N := some 57) (v := ?_) (a' := ?_) (fB 15 8191) rfl rfl (any_of HT_.out (by kernel_rfl)) (fun _ _ _ h => h) (Or.inl ⟨by rfl, ?_⟩) ?_ ?_
  rotate_left
  · intro w'
    go_simp
    with_reducible rfl
  rotate_left
  · simp only [Act.put, sA, sB, sC, i64_w, i32_w, sD]
    rfl
  refine pure_ (i := 13) (N := some 58) (v := ?_) (a' := ?_) (fB 15 16383) rfl rfl (any_of HT_.out (by kernel_rfl)) (fun _ _ _ h => h) (Or.inl ⟨by rfl, ?_⟩) ?_ ?_
  rotate_left
  · intro w'
    go_simp
    with_reducible rfl
  rotate_left
  · simp only [Act.put, sA, sB, sC, i64_w, i32_w, sD]
    rfl
  refine last_ (i := 14) (N := none) (fB 15 32767) rfl rfl (one_of HT_.out (by kernel_rfl)) (by decide) (fun K hK => ?_)
  have hc13 := (blk_cell hg13 3).trans rfl
  have hf13 := blk_frozen hg13 3
  refine skip_ (w1 := ?_) (by rfl) rfl ?_ ?_
  rotate_left
  · go_simp
    rfl
  refine hK.out _ _ ?_
  clear hK K
  refine done_ (done_of HT_.out (by kernel_rfl)) ?_
  have h14 : LkAt w0.heap.size g (w13.setCell ⟨g, 3, none⟩ (.slice A13 L13 C13)) nm ti (.slice A10 L10 C10) (.slice A13 L13 C13) (ns ++ [a]) (ps ++ [(⟨b, c⟩ : S24)]) :=
    ⟨blk_put hg13 3 (.slice A13 L13 C13) rfl,
      Kd.R_mono (Kd.R_far (p := ⟨g, 3, none⟩) (Kd.R_types hR13 hg13 (by decide)) (fun _ hk => hk.2) (.slice A13 L13 C13)) (fun _ _ => trivial),
      Kd.R_mono (Kd.R_far (p := ⟨g, 3, none⟩) (Kd.R_types ho hg13 (by decide)) (fun _ hk => hk.2) (.slice A13 L13 C13)) (fun _ _ => trivial), h12.low⟩
  have hN14 := blk_far (p := ⟨g, 3, none⟩) hN13 (blk_ne hN13 hg13 (by decide)) (.slice A13 L13 C13)
  have hk14 := blk_far (p := ⟨g, 3, none⟩) hk13 (blk_ne hk13 hg13 (by decide)) (.slice A13 L13 C13)
  have hB14 := hb.setCell (p := ⟨g, 3, none⟩) h12.low (.slice A13 L13 C13)
  generalize (w13.setCell ⟨g, 3, none⟩ (.slice A13 L13 C13)) = w14 at h14 hN14 hB14 hk14 ⊢
  clear hg13 hN13 hR13 ho hb hgr hat hc13 hf13 h12 hN12 hB12 hg12 hHeld HT_ HW_
  go_wp2
  go_ret
  exact ⟨rfl, ⟨_, _, h14⟩, hB14, hk14⟩
set_option maxHeartbeats 2000000 in
set_option maxRecDepth 100000 in
theorem at_no0 (s : ByteArray) (hs : s.size ≤ 1000000) (x y z : ByteArray) (a b c : Int) (hsp : splitF s ⟨#[44]⟩ = [x, y, z]) (zx : x.size ≤ 1000000) (zy : y.size ≤ 1000000) (zz : z.size ≤ 1000000) (hx : atoiO x.data.toList = none)
    (w0 w : World) (hB : Below w0.heap.size w0 w) (hL : LibW w0) (g : Nat) (nm ti : ByteArray) (v2 v3 : Value) (ns : List Int) (ps : List S24) (h : LkAt w0.heap.size g w nm ti v2 v3 ns ps) (K : Nat) (ks : Array Value) (hk : w.heap[K]? = some (.cells ks 9 (0, 0))) (hn : ns.length ≤ 100) (hp : ps.length ≤ 100) :
    Calls Tryz.prog 79 #[.string s, .pointer (some ⟨g, 0, none⟩)] w fun e w' => e = .returned (.bool false) ∧ LkAt w0.heap.size g w' nm ti v2 v3 ns ps ∧ Below w0.heap.size w0 w' ∧ w'.heap[K]? = some (.cells ks 9 (0, 0)) := by
  have hS := split s ⟨#[44]⟩ w (hL.below hB) hs rfl
  rw [hsp] at hS
  have hX := fun W hW => atoi_no x zx hx W hW
  go_enter Tryz.func79, Tryz.ntmps79
  go_wp2_with (go_at_call 50; refine hS.mono ?_; rintro e w1 ⟨M, rfl, hm1, hM, hb1⟩)
  have h1 := h.below hb1
  have hk1 := blk_below hk hb1
  have hB1 := hB.trans (hb1.mono hB.size)
  clear h hB hb1 hS
  have hN1 := blk_new w1 (.cells #[.int .i64 0, .int .i64 0, .int .i64 0] 150)
  have hm2 := blk_alloc hm1 (.cells #[.int .i64 0, .int .i64 0, .int .i64 0] 150)
  have hk2 := blk_alloc hk1 (.cells #[.int .i64 0, .int .i64 0, .int .i64 0] 150)
  have h2 := h1.below (below_alloc (Below.refl _ w1) (.cells #[.int .i64 0, .int .i64 0, .int .i64 0] 150))
  have hB2 := below_alloc hB1 (.cells #[.int .i64 0, .int .i64 0, .int .i64 0] 150)
  have hlow : w0.heap.size ≤ w1.heap.size := hB1.size
  generalize hNN : w1.heap.size = N at *
  generalize (w1.alloc (.cells #[.int .i64 0, .int .i64 0, .int .i64 0] 150)) = w2 at *
  clear hm1 h1 hB1 hNN
  have c0 : w2.cell? ⟨M, 0, none⟩ = some (.string x) := (blk_cell hm2 0).trans rfl
  refine wp_loop_rounds 4 ?_
  rw [rounds_succ]
  go_wp2_with (go_at_call 105; refine (hX _ (hL.below hB2)).mono ?_; rintro e w9 ⟨n9, N9, rfl, hb9⟩; have h9 := h2.below hb9; have hB9 := hB2.trans (hb9.mono hB2.size))
  go_ret
  exact ⟨rfl, h9, hB9, blk_below hk2 hb9⟩
set_option maxHeartbeats 2000000 in
set_option maxRecDepth 100000 in
theorem at_no1 (s : ByteArray) (hs : s.size ≤ 1000000) (x y z : ByteArray) (a b c : Int) (hsp : splitF s ⟨#[44]⟩ = [x, y, z]) (zx : x.size ≤ 1000000) (zy : y.size ≤ 1000000) (zz : z.size ≤ 1000000) (hx : atoiO x.data.toList = some a) (hy : atoiO y.data.toList = none)
    (w0 w : World) (hB : Below w0.heap.size w0 w) (hL : LibW w0) (g : Nat) (nm ti : ByteArray) (v2 v3 : Value) (ns : List Int) (ps : List S24) (h : LkAt w0.heap.size g w nm ti v2 v3 ns ps) (K : Nat) (ks : Array Value) (hk : w.heap[K]? = some (.cells ks 9 (0, 0))) (hn : ns.length ≤ 100) (hp : ps.length ≤ 100) :
    Calls Tryz.prog 79 #[.string s, .pointer (some ⟨g, 0, none⟩)] w fun e w' => e = .returned (.bool false) ∧ LkAt w0.heap.size g w' nm ti v2 v3 ns ps ∧ Below w0.heap.size w0 w' ∧ w'.heap[K]? = some (.cells ks 9 (0, 0)) := by
  have hS := split s ⟨#[44]⟩ w (hL.below hB) hs rfl
  rw [hsp] at hS
  have hX := fun W => atoi_ok x zx a hx W
  have hY := fun W hW => atoi_no y zy hy W hW
  go_enter Tryz.func79, Tryz.ntmps79
  go_wp2_with (go_at_call 50; refine hS.mono ?_; rintro e w1 ⟨M, rfl, hm1, hM, hb1⟩)
  have h1 := h.below hb1
  have hk1 := blk_below hk hb1
  have hB1 := hB.trans (hb1.mono hB.size)
  clear h hB hb1 hS
  have hN1 := blk_new w1 (.cells #[.int .i64 0, .int .i64 0, .int .i64 0] 150)
  have hm2 := blk_alloc hm1 (.cells #[.int .i64 0, .int .i64 0, .int .i64 0] 150)
  have hk2 := blk_alloc hk1 (.cells #[.int .i64 0, .int .i64 0, .int .i64 0] 150)
  have h2 := h1.below (below_alloc (Below.refl _ w1) (.cells #[.int .i64 0, .int .i64 0, .int .i64 0] 150))
  have hB2 := below_alloc hB1 (.cells #[.int .i64 0, .int .i64 0, .int .i64 0] 150)
  have hlow : w0.heap.size ≤ w1.heap.size := hB1.size
  generalize hNN : w1.heap.size = N at *
  generalize (w1.alloc (.cells #[.int .i64 0, .int .i64 0, .int .i64 0] 150)) = w2 at *
  clear hm1 h1 hB1 hNN
  have c0 : w2.cell? ⟨M, 0, none⟩ = some (.string x) := (blk_cell hm2 0).trans rfl
  refine wp_loop_rounds 4 ?_
  rw [rounds_succ]
  have f0 := blk_frozen hN1 0
  have d0 := blk_cell hN1 0
  go_wp2_with (go_at_call 105; refine (hX _).mono ?_; rintro e w3 ⟨rfl, hb3⟩; have hN3 := blk_below hN1 hb3; have hm3 := blk_below hm2 hb3; have hk3 := blk_below hk2 hb3; have h3 := h2.below hb3; have hB3 := hB2.trans (hb3.mono hB2.size); have f3 := blk_frozen hN3 0; have d3 := blk_cell hN3 0)
  have h4 := h3.far hN3 0 (.int .i64 a)
  have hN4 := blk_put hN3 0 (.int .i64 a) rfl
  have hm4 := blk_far (p := ⟨N, 0, none⟩) hm3 (blk_ne hm3 hN3 (by decide)) (.int .i64 a)
  have hk4 := blk_far (p := ⟨N, 0, none⟩) hk3 (blk_ne hk3 hN3 (by decide)) (.int .i64 a)
  have hB4 := hB3.setCell (p := ⟨N, 0, none⟩) hlow (.int .i64 a)
  generalize (w3.setCell ⟨N, 0, none⟩ (.int .i64 a)) = w4 at *
  clear hN3 hm3 h3 hB3 f3 d3 hb3 hX hN1 hm2 h2 hB2 c0 f0 d0
  have c1 : w4.cell? ⟨M, 1, none⟩ = some (.string y) := (blk_cell hm4 1).trans rfl
  rw [rounds_succ]
  go_wp2_with (go_at_call 105; refine (hY _ (hL.below hB4)).mono ?_; rintro e w9 ⟨n9, N9, rfl, hb9⟩; have h9 := h4.below hb9; have hB9 := hB4.trans (hb9.mono hB4.size))
  go_ret
  exact ⟨rfl, h9, hB9, blk_below hk4 hb9⟩
set_option maxHeartbeats 2000000 in
set_option maxRecDepth 100000 in
theorem at_no2 (s : ByteArray) (hs : s.size ≤ 1000000) (x y z : ByteArray) (a b c : Int) (hsp : splitF s ⟨#[44]⟩ = [x, y, z]) (zx : x.size ≤ 1000000) (zy : y.size ≤ 1000000) (zz : z.size ≤ 1000000) (hx : atoiO x.data.toList = some a) (hy : atoiO y.data.toList = some b) (hz : atoiO z.data.toList = none)
    (w0 w : World) (hB : Below w0.heap.size w0 w) (hL : LibW w0) (g : Nat) (nm ti : ByteArray) (v2 v3 : Value) (ns : List Int) (ps : List S24) (h : LkAt w0.heap.size g w nm ti v2 v3 ns ps) (K : Nat) (ks : Array Value) (hk : w.heap[K]? = some (.cells ks 9 (0, 0))) (hn : ns.length ≤ 100) (hp : ps.length ≤ 100) :
    Calls Tryz.prog 79 #[.string s, .pointer (some ⟨g, 0, none⟩)] w fun e w' => e = .returned (.bool false) ∧ LkAt w0.heap.size g w' nm ti v2 v3 ns ps ∧ Below w0.heap.size w0 w' ∧ w'.heap[K]? = some (.cells ks 9 (0, 0)) := by
  have hS := split s ⟨#[44]⟩ w (hL.below hB) hs rfl
  rw [hsp] at hS
  have hX := fun W => atoi_ok x zx a hx W
  have hY := fun W => atoi_ok y zy b hy W
  have hZ := fun W hW => atoi_no z zz hz W hW
  go_enter Tryz.func79, Tryz.ntmps79
  go_wp2_with (go_at_call 50; refine hS.mono ?_; rintro e w1 ⟨M, rfl, hm1, hM, hb1⟩)
  have h1 := h.below hb1
  have hk1 := blk_below hk hb1
  have hB1 := hB.trans (hb1.mono hB.size)
  clear h hB hb1 hS
  have hN1 := blk_new w1 (.cells #[.int .i64 0, .int .i64 0, .int .i64 0] 150)
  have hm2 := blk_alloc hm1 (.cells #[.int .i64 0, .int .i64 0, .int .i64 0] 150)
  have hk2 := blk_alloc hk1 (.cells #[.int .i64 0, .int .i64 0, .int .i64 0] 150)
  have h2 := h1.below (below_alloc (Below.refl _ w1) (.cells #[.int .i64 0, .int .i64 0, .int .i64 0] 150))
  have hB2 := below_alloc hB1 (.cells #[.int .i64 0, .int .i64 0, .int .i64 0] 150)
  have hlow : w0.heap.size ≤ w1.heap.size := hB1.size
  generalize hNN : w1.heap.size = N at *
  generalize (w1.alloc (.cells #[.int .i64 0, .int .i64 0, .int .i64 0] 150)) = w2 at *
  clear hm1 h1 hB1 hNN
  have c0 : w2.cell? ⟨M, 0, none⟩ = some (.string x) := (blk_cell hm2 0).trans rfl
  refine wp_loop_rounds 4 ?_
  rw [rounds_succ]
  have f0 := blk_frozen hN1 0
  have d0 := blk_cell hN1 0
  go_wp2_with (go_at_call 105; refine (hX _).mono ?_; rintro e w3 ⟨rfl, hb3⟩; have hN3 := blk_below hN1 hb3; have hm3 := blk_below hm2 hb3; have hk3 := blk_below hk2 hb3; have h3 := h2.below hb3; have hB3 := hB2.trans (hb3.mono hB2.size); have f3 := blk_frozen hN3 0; have d3 := blk_cell hN3 0)
  have h4 := h3.far hN3 0 (.int .i64 a)
  have hN4 := blk_put hN3 0 (.int .i64 a) rfl
  have hm4 := blk_far (p := ⟨N, 0, none⟩) hm3 (blk_ne hm3 hN3 (by decide)) (.int .i64 a)
  have hk4 := blk_far (p := ⟨N, 0, none⟩) hk3 (blk_ne hk3 hN3 (by decide)) (.int .i64 a)
  have hB4 := hB3.setCell (p := ⟨N, 0, none⟩) hlow (.int .i64 a)
  generalize (w3.setCell ⟨N, 0, none⟩ (.int .i64 a)) = w4 at *
  clear hN3 hm3 h3 hB3 f3 d3 hb3 hX hN1 hm2 h2 hB2 c0 f0 d0
  have c1 : w4.cell? ⟨M, 1, none⟩ = some (.string y) := (blk_cell hm4 1).trans rfl
  rw [rounds_succ]
  go_wp2_with (go_at_call 105; refine (hY _).mono ?_; rintro e w5 ⟨rfl, hb5⟩; have hN5 := blk_below hN4 hb5; have hm5 := blk_below hm4 hb5; have hk5 := blk_below hk4 hb5; have h5 := h4.below hb5; have hB5 := hB4.trans (hb5.mono hB4.size); have f5 := blk_frozen hN5 1; have d5 := blk_cell hN5 1)
  have h6 := h5.far hN5 1 (.int .i64 b)
  have hN6 := blk_put hN5 1 (.int .i64 b) rfl
  have hm6 := blk_far (p := ⟨N, 1, none⟩) hm5 (blk_ne hm5 hN5 (by decide)) (.int .i64 b)
  have hk6 := blk_far (p := ⟨N, 1, none⟩) hk5 (blk_ne hk5 hN5 (by decide)) (.int .i64 b)
  have hB6 := hB5.setCell (p := ⟨N, 1, none⟩) hlow (.int .i64 b)
  generalize (w5.setCell ⟨N, 1, none⟩ (.int .i64 b)) = w6 at *
  clear hN5 hm5 h5 hB5 f5 d5 hb5 hY hN4 hm4 h4 hB4 c1
  have c2 : w6.cell? ⟨M, 2, none⟩ = some (.string z) := (blk_cell hm6 2).trans rfl
  rw [rounds_succ]
  go_wp2_with (go_at_call 105; refine (hZ _ (hL.below hB6)).mono ?_; rintro e w9 ⟨n9, N9, rfl, hb9⟩; have h9 := h6.below hb9; have hB9 := hB6.trans (hb9.mono hB6.size))
  go_ret
  exact ⟨rfl, h9, hB9, blk_below hk6 hb9⟩
set_option maxHeartbeats 2000000 in
set_option maxRecDepth 100000 in
theorem at_len (s : ByteArray) (hs : s.size ≤ 1000000) (l : List ByteArray) (hsp : splitF s ⟨#[44]⟩ = l) (h3 : l.length ≠ 3)
    (w0 w : World) (hB : Below w0.heap.size w0 w) (hL : LibW w0) (g : Nat) (nm ti : ByteArray) (v2 v3 : Value) (ns : List Int) (ps : List S24) (h : LkAt w0.heap.size g w nm ti v2 v3 ns ps) (K : Nat) (ks : Array Value) (hk : w.heap[K]? = some (.cells ks 9 (0, 0))) :
    Calls Tryz.prog 79 #[.string s, .pointer (some ⟨g, 0, none⟩)] w fun e w' => e = .returned (.bool false) ∧ LkAt w0.heap.size g w' nm ti v2 v3 ns ps ∧ Below w0.heap.size w0 w' ∧ w'.heap[K]? = some (.cells ks 9 (0, 0)) := by
  have hS := split s ⟨#[44]⟩ w (hL.below hB) hs rfl
  rw [hsp] at hS
  have hne : ¬ (l.length : Int) = 3 := by omega
  go_enter Tryz.func79, Tryz.ntmps79
  go_wp2_with (go_at_call 50; refine hS.mono ?_; rintro e w1 ⟨M, rfl, hm1, hM, hb1⟩)
  go_ret
  exact ⟨rfl, h.below hb1, hB.trans (hb1.mono hB.size), blk_below hk hb1⟩
/-- The node that pieces say. -/
def atO : List ByteArray → Option (Int × Int × Int)
  | [x, y, z] => match atoiO x.data.toList, atoiO y.data.toList, atoiO z.data.toList with
    | some a, some b, some c => some (a, b, c)
    | _, _, _ => none
  | _ => none
theorem at_is (s : ByteArray) (hs : s.size ≤ 1000000) (hz : ∀ x ∈ splitF s ⟨#[44]⟩, x.size ≤ 1000000)
    (w0 w : World) (hB : Below w0.heap.size w0 w) (hL : LibW w0) (g : Nat) (nm ti : ByteArray) (v2 v3 : Value) (ns : List Int) (ps : List S24) (h : LkAt w0.heap.size g w nm ti v2 v3 ns ps) (K : Nat) (ks : Array Value) (hk : w.heap[K]? = some (.cells ks 9 (0, 0))) (hn : ns.length ≤ 100) (hp : ps.length ≤ 100) :
    (∃ a b c, atO (splitF s ⟨#[44]⟩) = some (a, b, c) ∧ Calls Tryz.prog 79 #[.string s, .pointer (some ⟨g, 0, none⟩)] w fun e w' => e = .returned (.bool true) ∧ (∃ u2 u3, LkAt w0.heap.size g w' nm ti u2 u3 (ns ++ [a]) (ps ++ [(⟨b, c⟩ : S24)])) ∧ Below w0.heap.size w0 w' ∧ w'.heap[K]? = some (.cells ks 9 (0, 0))) ∨
    (atO (splitF s ⟨#[44]⟩) = none ∧ Calls Tryz.prog 79 #[.string s, .pointer (some ⟨g, 0, none⟩)] w fun e w' => e = .returned (.bool false) ∧ LkAt w0.heap.size g w' nm ti v2 v3 ns ps ∧ Below w0.heap.size w0 w' ∧ w'.heap[K]? = some (.cells ks 9 (0, 0))) := by
  match hl : splitF s ⟨#[44]⟩ with
  | [x, y, z] =>
    rw [hl] at hz
    have zx := hz x (by simp)
    have zy := hz y (by simp)
    have zz := hz z (by simp)
    cases hx : atoiO x.data.toList with
    | none => exact Or.inr ⟨by simp [atO, hx], at_no0 s hs x y z 0 0 0 hl zx zy zz hx w0 w hB hL g nm ti v2 v3 ns ps h K ks hk hn hp⟩
    | some a =>
      cases hy : atoiO y.data.toList with
      | none => exact Or.inr ⟨by simp [atO, hx, hy], at_no1 s hs x y z a 0 0 hl zx zy zz hx hy w0 w hB hL g nm ti v2 v3 ns ps h K ks hk hn hp⟩
      | some b =>
        cases hz' : atoiO z.data.toList with
        | none => exact Or.inr ⟨by simp [atO, hx, hy, hz'], at_no2 s hs x y z a b 0 hl zx zy zz hx hy hz' w0 w hB hL g nm ti v2 v3 ns ps h K ks hk hn hp⟩
        | some c => exact Or.inl ⟨a, b, c, by simp [atO, hx, hy, hz'], at_yes s hs x y z a b c hl zx zy zz hx hy hz' w0 w hB hL g nm ti v2 v3 ns ps h K ks hk hn hp⟩
  | [] => exact Or.inr ⟨rfl, at_len s hs _ hl (by simp) w0 w hB hL g nm ti v2 v3 ns ps h K ks hk⟩
  | [_] => exact Or.inr ⟨rfl, at_len s hs _ hl (by simp) w0 w hB hL g nm ti v2 v3 ns ps h K ks hk⟩
  | [_, _] => exact Or.inr ⟨rfl, at_len s hs _ hl (by simp) w0 w hB hL g nm ti v2 v3 ns ps h K ks hk⟩
  | _ :: _ :: _ :: _ :: _ => exact Or.inr ⟨rfl, at_len s hs _ hl (by simp) w0 w hB hL g nm ti v2 v3 ns ps h K ks hk⟩
end Go.Proofs.YtmimnlbkllgfpaaGreatDoor.Hand
/- link.part: a part of a text read into a link, walked. -/
namespace Go.Proofs.YtmimnlbkllgfpaaGreatDoor.Hand
open Go.RowKit Go.Proofs.YtmimnlbkllgfpaaGreatDoor.A Go.Proofs.YtmimnlbkllgfpaaGreatDoor.Sq Go.Proofs.YtmimnlbkllgfpaaGreatDoorW.PrintWords Go.Proofs.YtmimnlbkllgfpaaGreatDoorW.PrintLast Go.Proofs.YtmimnlbkllgfpaaGreatDoorW.PrintMore

theorem LkAt.title {B g : Nat} {w : World} {nm ti : ByteArray} {v2 v3 : Value} {ns : List Int} {ps : List S24} (h : LkAt B g w nm ti v2 v3 ns ps) (x : ByteArray) : LkAt B g (w.setCell ⟨g, 1, none⟩ (.string x)) nm x v2 v3 ns ps :=
  ⟨blk_put h.blk 1 (.string x) rfl,
    Kd.R_mono (Kd.R_far (p := ⟨g, 1, none⟩) (Kd.R_types h.nodes h.blk (by decide)) (fun _ hk => hk.2) (.string x)) (fun _ _ => trivial),
    Kd.R_mono (Kd.R_far (p := ⟨g, 1, none⟩) (Kd.R_types h.places h.blk (by decide)) (fun _ hk => hk.2) (.string x)) (fun _ _ => trivial), h.low⟩
/-- The text behind a beginning, and whether it has it. -/
def tailB (s p : ByteArray) : ByteArray := ⟨(Lib.trimPrefix s.data.toList p.data.toList).toArray⟩
def hasB (s p : ByteArray) : Bool := Lib.hasPrefix s.data.toList p.data.toList
theorem cutPrefix (s p : ByteArray) (w : World) : Calls Tryz.prog 47 #[.string s, .string p] w fun e w' => e = .returned (.tuple #[.string (tailB s p), .bool (hasB s p)]) ∧ w' = w := Tryz.strings_CutPrefix s p w
set_option maxHeartbeats 2000000 in
set_option maxRecDepth 100000 in
theorem part_title (k : Nat) (s X : ByteArray) (e1 : Int) (b : Bool) (hp : hasB s ⟨#[116, 105, 116, 108, 101, 61]⟩ = true) (hU : link_Unescape.f k (tailB s ⟨#[116, 105, 116, 108, 101, 61]⟩) = some (X, e1)) (he : b = (e1 == 0))
    (w0 w : World) (hB : Below w0.heap.size w0 w) (g : Nat) (nm ti : ByteArray) (v2 v3 : Value) (ns : List Int) (ps : List S24) (h : LkAt w0.heap.size g w nm ti v2 v3 ns ps) (K : Nat) (ks : Array Value) (hk : w.heap[K]? = some (.cells ks 9 (0, 0))) :
    Calls Tryz.prog 51 #[.string s, .pointer (some ⟨g, 0, none⟩)] w fun e w' => e = .returned (.bool b) ∧ (∃ u2 u3, LkAt w0.heap.size g w' nm X u2 u3 ns ps) ∧ Below w0.heap.size w0 w' ∧ w'.heap[K]? = some (.cells ks 9 (0, 0)) := by
  have hC := fun W => cutPrefix s ⟨#[116, 105, 116, 108, 101, 61]⟩ W
  rw [hp] at hC
  have hU' := fun W => link_Unescape.calls k _ X e1 W hU
  generalize tailB s ⟨#[116, 105, 116, 108, 101, 61]⟩ = T at *
  go_enter Tryz.func51, Tryz.ntmps51
  go_wp2_with (first | (go_at_call 47; refine (hC _).mono ?_; rintro e w1 ⟨rfl, rfl⟩) | (go_at_call 78; refine (hU' _).mono ?_; rintro e w2 ⟨rfl, hb2⟩; have h2 := h.below hb2; have hB2 := hB.trans (hb2.mono hB.size); have hc2 := blk_cell h2.blk 1; have hf2 := blk_frozen h2.blk 1; have hk2 := blk_below hk hb2))
  go_ret
  exact ⟨by rw [he]; rfl, ⟨_, _, h2.title X⟩, hB2.setCell (p := ⟨g, 1, none⟩) h2.low _, blk_far (p := ⟨g, 1, none⟩) hk2 (blk_ne hk2 h2.blk (by decide)) _⟩
set_option maxHeartbeats 2000000 in
set_option maxRecDepth 100000 in
theorem part_none (s : ByteArray) (hp : hasB s ⟨#[116, 105, 116, 108, 101, 61]⟩ = false) (hq : hasB s ⟨#[110, 111, 100, 101, 61]⟩ = false)
    (g : Nat) (w : World) :
    Calls Tryz.prog 51 #[.string s, .pointer (some ⟨g, 0, none⟩)] w fun e w' => e = .returned (.bool false) ∧ w' = w := by
  obtain ⟨T, H, hC, hp1, hq1, hT⟩ : ∃ (T : ByteArray → ByteArray) (H : ByteArray → Bool), (∀ W p, Calls Tryz.prog 47 #[.string s, .string p] W fun e w' => e = .returned (.tuple #[.string (T p), .bool (H p)]) ∧ w' = W) ∧ H ⟨#[116, 105, 116, 108, 101, 61]⟩ = false ∧ H ⟨#[110, 111, 100, 101, 61]⟩ = false ∧ T = tailB s := ⟨tailB s, hasB s, fun W p => cutPrefix s p W, hp, hq, rfl⟩
  go_enter Tryz.func51, Tryz.ntmps51
  go_wp2_with (first | (go_at_call 47; refine (hC _ _).mono ?_; rintro e w1 ⟨rfl, rfl⟩; first | rw [hp1] | rw [hq1]))
  go_ret
  exact ⟨rfl, rfl⟩
set_option maxHeartbeats 2000000 in
set_option maxRecDepth 100000 in
theorem part_node (s : ByteArray) (hp : hasB s ⟨#[116, 105, 116, 108, 101, 61]⟩ = false) (hq : hasB s ⟨#[110, 111, 100, 101, 61]⟩ = true) (b : Bool)
    (g : Nat) (w : World) (Q : World → Prop) (hA : Calls Tryz.prog 79 #[.string (tailB s ⟨#[110, 111, 100, 101, 61]⟩), .pointer (some ⟨g, 0, none⟩)] w fun e w' => e = .returned (.bool b) ∧ Q w') :
    Calls Tryz.prog 51 #[.string s, .pointer (some ⟨g, 0, none⟩)] w fun e w' => e = .returned (.bool b) ∧ Q w' := by
  obtain ⟨T, H, hC, hp1, hq1, hT⟩ : ∃ (T : ByteArray → ByteArray) (H : ByteArray → Bool), (∀ W p, Calls Tryz.prog 47 #[.string s, .string p] W fun e w' => e = .returned (.tuple #[.string (T p), .bool (H p)]) ∧ w' = W) ∧ H ⟨#[116, 105, 116, 108, 101, 61]⟩ = false ∧ H ⟨#[110, 111, 100, 101, 61]⟩ = true ∧ T = tailB s := ⟨tailB s, hasB s, fun W p => cutPrefix s p W, hp, hq, rfl⟩
  rw [← hT] at hA
  clear hT hp hq
  go_enter Tryz.func51, Tryz.ntmps51
  go_wp2_with (first | (go_at_call 47; refine (hC _ _).mono ?_; rintro e w1 ⟨rfl, rfl⟩; first | rw [hp1] | rw [hq1]) | (go_at_call 79; refine hA.mono ?_; rintro e w1 ⟨rfl, hq1⟩))
  go_ret
  exact ⟨rfl, hq1⟩
/-- What a part says. -/
def partF (k : Nat) (s ti : ByteArray) (ns : List Int) (ps : List S24) : Option (Bool × ByteArray × List Int × List S24) :=
  if hasB s ⟨#[116, 105, 116, 108, 101, 61]⟩ = true then (link_Unescape.f k (tailB s ⟨#[116, 105, 116, 108, 101, 61]⟩)).bind fun r => some (r.2 == 0, r.1, ns, ps)
  else if hasB s ⟨#[110, 111, 100, 101, 61]⟩ = true then
    match atO (splitF (tailB s ⟨#[110, 111, 100, 101, 61]⟩) ⟨#[44]⟩) with
    | some (a, b, c) => some (true, ti, ns ++ [a], ps ++ [⟨b, c⟩])
    | none => some (false, ti, ns, ps)
  else some (false, ti, ns, ps)
theorem part (k : Nat) (s : ByteArray) (hz : (tailB s ⟨#[110, 111, 100, 101, 61]⟩).size ≤ 1000000) (hzs : ∀ x ∈ splitF (tailB s ⟨#[110, 111, 100, 101, 61]⟩) ⟨#[44]⟩, x.size ≤ 1000000)
    (w0 w : World) (hB : Below w0.heap.size w0 w) (hL : LibW w0) (g : Nat) (nm ti : ByteArray) (v2 v3 : Value) (ns : List Int) (ps : List S24) (h : LkAt w0.heap.size g w nm ti v2 v3 ns ps) (K : Nat) (ks : Array Value) (hk : w.heap[K]? = some (.cells ks 9 (0, 0))) (hn : ns.length ≤ 100) (hp : ps.length ≤ 100)
    (r : Bool) (ti2 : ByteArray) (ns2 : List Int) (ps2 : List S24) (hF : partF k s ti ns ps = some (r, ti2, ns2, ps2)) :
    Calls Tryz.prog 51 #[.string s, .pointer (some ⟨g, 0, none⟩)] w fun e w' => e = .returned (.bool r) ∧ (∃ u2 u3, LkAt w0.heap.size g w' nm ti2 u2 u3 ns2 ps2) ∧ Below w0.heap.size w0 w' ∧ w'.heap[K]? = some (.cells ks 9 (0, 0)) := by
  unfold partF at hF
  split at hF
  · rename_i hp1
    obtain ⟨⟨X, e1⟩, hU, hF⟩ := Option.bind_eq_some_iff.mp hF
    simp only [Option.some.injEq, Prod.mk.injEq] at hF
    obtain ⟨rfl, rfl, rfl, rfl⟩ := hF
    exact part_title k s X e1 _ hp1 hU rfl w0 w hB g nm ti v2 v3 ns ps h K ks hk
  · rename_i hp1
    have hp1 : hasB s ⟨#[116, 105, 116, 108, 101, 61]⟩ = false := by simpa using hp1
    split at hF
    · rename_i hq1
      rcases at_is _ hz hzs w0 w hB hL g nm ti v2 v3 ns ps h K ks hk hn hp with ⟨a, b, c, ha, hA⟩ | ⟨ha, hA⟩
      · rw [ha] at hF
        simp only [Option.some.injEq, Prod.mk.injEq] at hF
        obtain ⟨rfl, rfl, rfl, rfl⟩ := hF
        exact part_node s hp1 hq1 true g w _ hA
      · rw [ha] at hF
        simp only [Option.some.injEq, Prod.mk.injEq] at hF
        obtain ⟨rfl, rfl, rfl, rfl⟩ := hF
        refine (part_node s hp1 hq1 false g w _ hA).mono ?_
        rintro e w' ⟨rfl, h', hb'⟩
        exact ⟨rfl, ⟨_, _, h'⟩, hb'⟩
    · rename_i hq1
      have hq1 : hasB s ⟨#[110, 111, 100, 101, 61]⟩ = false := by simpa using hq1
      simp only [Option.some.injEq, Prod.mk.injEq] at hF
      obtain ⟨rfl, rfl, rfl, rfl⟩ := hF
      refine (part_none s hp1 hq1 g w).mono ?_
      rintro e w' ⟨rfl, rfl⟩
      exact ⟨rfl, ⟨_, _, h⟩, hB, hk⟩
end Go.Proofs.YtmimnlbkllgfpaaGreatDoor.Hand
/- link.Read: walked. -/
namespace Go.Proofs.YtmimnlbkllgfpaaGreatDoor.Hand
open Go.RowKit Go.Proofs.YtmimnlbkllgfpaaGreatDoor.A Go.Proofs.YtmimnlbkllgfpaaGreatDoor.Sq Go.Proofs.YtmimnlbkllgfpaaGreatDoorW.PrintWords Go.Proofs.YtmimnlbkllgfpaaGreatDoorW.PrintLast Go.Proofs.YtmimnlbkllgfpaaGreatDoorW.PrintMore
set_option linter.unusedVariables false

theorem split_sizes (sep : ByteArray) : ∀ (k : Nat) (s : ByteArray), ∀ p ∈ Lib.splitB sep 0 k s, p.size ≤ s.size
  | 0, s, p, h => by
    rw [Lib.splitB_zero, List.mem_singleton] at h; rw [h]; exact Nat.le_refl _
  | k + 1, s, p, h => by
    unfold Lib.splitB at h
    split at h
    · rw [List.mem_singleton] at h; rw [h]; exact Nat.le_refl _
    · rcases List.mem_cons.mp h with rfl | h
      · rw [ByteArray.size_extract]; omega
      · have := split_sizes sep k _ p h
        rw [ByteArray.size_extract] at this; omega
theorem tail_size (s p : ByteArray) : (tailB s p).size ≤ s.size := by
  have e : (tailB s p).size = (Lib.trimPrefix s.data.toList p.data.toList).length := by show (Lib.trimPrefix s.data.toList p.data.toList).toArray.size = _; simp
  have e2 : s.size = s.data.toList.length := by show s.data.size = _; simp
  rw [e, e2]
  unfold Lib.trimPrefix
  split
  · rw [List.length_drop]; omega
  · exact Nat.le_refl _
/-- What parts say; 'none' inside: one of them says nothing. -/
def partsF (k : Nat) : List ByteArray → ByteArray → List Int → List S24 → Option (Option (ByteArray × List Int × List S24))
  | [], ti, ns, ps => some (some (ti, ns, ps))
  | x :: r, ti, ns, ps => if 6 < ns.length then some none else (partF k x ti ns ps).bind fun q => if q.1 = true then partsF k r q.2.1 q.2.2.1 q.2.2.2 else some none
def noLink : ByteArray × ByteArray × List Int × List S24 × Int := (⟨#[]⟩, ⟨#[]⟩, [], [], 3)
def bodyB (t : ByteArray) : ByteArray := tailB t ⟨#[109, 111, 115, 97, 105, 99, 58]⟩
def cutA (t : ByteArray) : ByteArray := ⟨(Lib.cut (bodyB t).data.toList [63]).1.toArray⟩
def cutR (t : ByteArray) : ByteArray := ⟨(Lib.cut (bodyB t).data.toList [63]).2.1.toArray⟩
def cutC (t : ByteArray) : Bool := (Lib.cut (bodyB t).data.toList [63]).2.2
def readF (k : Nat) (t : ByteArray) : Option (ByteArray × ByteArray × List Int × List S24 × Int) :=
  if t.size ≤ 100000 then
    (link_Unbase32.f k (cutA t)).bind fun q =>
      if hasB t ⟨#[109, 111, 115, 97, 105, 99, 58]⟩ = true ∧ q.2 = 0 then
        (if cutC t = true then partsF k (splitF (cutR t) ⟨#[38]⟩) ⟨#[]⟩ [] [] else some (some (⟨#[]⟩, [], []))).bind fun o => match o with
          | none => some noLink
          | some (ti, ns, ps) => (link_Text.f k q.1 ti ns ps).bind fun u => if u.2 = 0 ∧ u.1.toList = t.toList then some (q.1, ti, ns, ps, 0) else some noLink
      else some noLink
  else none
/-- The answer's shape. -/
def Rd (w w' : World) (e : Ending) (r : ByteArray × ByteArray × List Int × List S24 × Int) : Prop := ∃ v2_ v3_ : Value, e = .returned (.tuple #[.agg #[.string r.1, .string r.2.1, v2_, v3_], .int .i64 r.2.2.2.2]) ∧ Kd.R (Kd.int .i64) 3 w' w.heap.size (fun _ => True) v2_ r.2.2.1 ∧ Kd.R k24 24 w' w.heap.size (fun _ => True) v3_ r.2.2.2.1 ∧ Below w.heap.size w w'

theorem LkAt.name {B g : Nat} {w : World} {nm ti : ByteArray} {v2 v3 : Value} {ns : List Int} {ps : List S24} (h : LkAt B g w nm ti v2 v3 ns ps) (x : ByteArray) : LkAt B g (w.setCell ⟨g, 0, none⟩ (.string x)) x ti v2 v3 ns ps :=
  ⟨blk_put h.blk 0 (.string x) rfl,
    Kd.R_mono (Kd.R_far (p := ⟨g, 0, none⟩) (Kd.R_types h.nodes h.blk (by decide)) (fun _ hk => hk.2) (.string x)) (fun _ _ => trivial),
    Kd.R_mono (Kd.R_far (p := ⟨g, 0, none⟩) (Kd.R_types h.places h.blk (by decide)) (fun _ hk => hk.2) (.string x)) (fun _ _ => trivial), h.low⟩
theorem LkAt.fresh (w : World) : LkAt w.heap.size w.heap.size (w.alloc (.cells #[.string ⟨#[]⟩, .string ⟨#[]⟩, .slice none 0 0, .slice none 0 0] 70)) ⟨#[]⟩ ⟨#[]⟩ (.slice none 0 0) (.slice none 0 0) [] [] :=
  ⟨blk_new w _, Kd.R_nil _ _ _ _ _, Kd.R_nil _ _ _ _ _, Nat.le_refl _⟩
theorem partF_len {k : Nat} {s ti : ByteArray} {ns : List Int} {ps : List S24} {r : Bool} {ti2 : ByteArray} {ns2 : List Int} {ps2 : List S24} (h : partF k s ti ns ps = some (r, ti2, ns2, ps2)) (hl : ps.length = ns.length) : ps2.length = ns2.length := by
  unfold partF at h
  split at h
  · obtain ⟨q, _, h⟩ := Option.bind_eq_some_iff.mp h
    simp only [Option.some.injEq, Prod.mk.injEq] at h
    obtain ⟨_, _, rfl, rfl⟩ := h
    exact hl
  · split at h
    · split at h
      · simp only [Option.some.injEq, Prod.mk.injEq] at h
        obtain ⟨_, _, rfl, rfl⟩ := h
        simp [hl]
      · simp only [Option.some.injEq, Prod.mk.injEq] at h
        obtain ⟨_, _, rfl, rfl⟩ := h
        exact hl
    · simp only [Option.some.injEq, Prod.mk.injEq] at h
      obtain ⟨_, _, rfl, rfl⟩ := h
      exact hl
set_option maxHeartbeats 4000000 in
set_option maxRecDepth 100000 in
theorem read_no0 (k : Nat) (t A R N : ByteArray) (c i : Bool) (e1 : Int) (ht : t.size ≤ 100000) (hA : A = cutA t) (hR : R = cutR t) (hc : c = cutC t) (hi : i = hasB t ⟨#[109, 111, 115, 97, 105, 99, 58]⟩) (hU : link_Unbase32.f k A = some (N, e1)) (hno : i = false) (w : World) (hL : LibW w) :
    Calls Tryz.prog 26 #[.string t] w fun e w' => Rd w w' e noLink := by
  have hP := fun W => cutPrefix t ⟨#[109, 111, 115, 97, 105, 99, 58]⟩ W
  rw [← hi] at hP
  have hsz := tail_size t ⟨#[109, 111, 115, 97, 105, 99, 58]⟩
  have hC := fun W (hW : LibW W) => cut (bodyB t) 63 (by unfold bodyB; omega) W hW A R c hA hR hc
  have hU' := fun W => link_Unbase32.calls k A N e1 W hU
  have eb : tailB t ⟨#[109, 111, 115, 97, 105, 99, 58]⟩ = bodyB t := rfl
  rw [eb] at hP
  generalize bodyB t = T at *
  clear hA hR hc hi eb hU hsz
  have hB0 := below_alloc (Below.refl w.heap.size w) (.cells #[.string ⟨#[]⟩, .string ⟨#[]⟩, .slice none 0 0, .slice none 0 0] 70)
  have hR0 := blk_new w (.cells #[.string ⟨#[]⟩, .string ⟨#[]⟩, .slice none 0 0, .slice none 0 0] 70)
  subst hno
  go_enter Tryz.func26, Tryz.ntmps26
  go_wp2_with (first | (go_at_call 47; refine (hP _).mono ?_; rintro e w1 ⟨rfl, rfl⟩) | (go_at_call 48; refine (hC _ (hL.below hB0)).mono ?_; rintro e w2 ⟨rfl, hb2⟩; have hR2 := blk_below hR0 hb2; have hB2 := hB0.trans (hb2.mono hB0.size); have hL2 := hL.below hB2; have hlt := hb2.size; clear hP hC hb2 hR0 hB0))
  have h3 := LkAt.fresh w2
  have hB3 := below_alloc (Below.refl w2.heap.size w2) (.cells #[.string ⟨#[]⟩, .string ⟨#[]⟩, .slice none 0 0, .slice none 0 0] 70)
  have hlt2 : w.heap.size < w2.heap.size := blk_lt hR2
  clear hlt
  refine (hU' _).mono ?_
  rintro e w4 ⟨rfl, hb4⟩
  have h4 := h3.below hb4
  have hB4 := hB3.trans (hb4.mono hB3.size)
  have hc4 := (blk_cell h4.blk 0).trans rfl
  have hf4 := blk_frozen h4.blk 0
  have h5 := h4.name N
  have hB5 := hB4.setCell (p := ⟨w2.heap.size, 0, none⟩) (Nat.le_refl _) (.string N)
  have hR5 := blk_below hR2 hB5
  have hz := And.intro h5 (And.intro hB5 hR5)
  have z0 := (blk_cell hR5 0).trans rfl
  have y0 := blk_frozen hR5 0
  have z1 := (blk_cell hR5 1).trans rfl
  have y1 := blk_frozen hR5 1
  have z2 := (blk_cell hR5 2).trans rfl
  have y2 := blk_frozen hR5 2
  have z3 := (blk_cell hR5 3).trans rfl
  have y3 := blk_frozen hR5 3
  go_wp2
  refine bodyPost_ret (results_ct rfl _ _ w.heap.size 70 #[.string ⟨#[]⟩, .string ⟨#[]⟩, .slice none 0 0, .slice none 0 0] (0, 0) _ rfl (by refine blk_put (cs := #[.string ⟨#[]⟩, .string ⟨#[]⟩, .slice none 0 0, .slice none 0 0]) ?_ 3 _ rfl; refine blk_put (cs := #[.string ⟨#[]⟩, .string ⟨#[]⟩, .slice none 0 0, .slice none 0 0]) ?_ 2 _ rfl; refine blk_put (cs := #[.string ⟨#[]⟩, .string ⟨#[]⟩, .slice none 0 0, .slice none 0 0]) ?_ 1 _ rfl; refine blk_put (cs := #[.string ⟨#[]⟩, .string ⟨#[]⟩, .slice none 0 0, .slice none 0 0]) ?_ 0 _ rfl; exact hR5) Tryz.underlying70 rfl (by kernel_rfl)) rfl ?_
  exact ⟨_, _, rfl, Kd.R_nil _ _ _ _ _, Kd.R_nil _ _ _ _ _, ((((hB2.trans (hB5.mono hB2.size)).setCell (p := ⟨w.heap.size, 0, none⟩) (Nat.le_refl _) _).setCell (p := ⟨w.heap.size, 1, none⟩) (Nat.le_refl _) _).setCell (p := ⟨w.heap.size, 2, none⟩) (Nat.le_refl _) _).setCell (p := ⟨w.heap.size, 3, none⟩) (Nat.le_refl _) _⟩
set_option maxHeartbeats 4000000 in
set_option maxRecDepth 100000 in
theorem read_no1 (k : Nat) (t A R N : ByteArray) (c i : Bool) (e1 : Int) (ht : t.size ≤ 100000) (hA : A = cutA t) (hR : R = cutR t) (hc : c = cutC t) (hi : i = hasB t ⟨#[109, 111, 115, 97, 105, 99, 58]⟩) (hU : link_Unbase32.f k A = some (N, e1)) (hno1 : i = true) (hno2 : ¬ e1 = 0) (w : World) (hL : LibW w) :
    Calls Tryz.prog 26 #[.string t] w fun e w' => Rd w w' e noLink := by
  have hP := fun W => cutPrefix t ⟨#[109, 111, 115, 97, 105, 99, 58]⟩ W
  rw [← hi] at hP
  have hsz := tail_size t ⟨#[109, 111, 115, 97, 105, 99, 58]⟩
  have hC := fun W (hW : LibW W) => cut (bodyB t) 63 (by unfold bodyB; omega) W hW A R c hA hR hc
  have hU' := fun W => link_Unbase32.calls k A N e1 W hU
  have eb : tailB t ⟨#[109, 111, 115, 97, 105, 99, 58]⟩ = bodyB t := rfl
  rw [eb] at hP
  generalize bodyB t = T at *
  clear hA hR hc hi eb hU hsz
  have hB0 := below_alloc (Below.refl w.heap.size w) (.cells #[.string ⟨#[]⟩, .string ⟨#[]⟩, .slice none 0 0, .slice none 0 0] 70)
  have hR0 := blk_new w (.cells #[.string ⟨#[]⟩, .string ⟨#[]⟩, .slice none 0 0, .slice none 0 0] 70)
  subst hno1
  have hno3 : (e1 != 0) = true := bne_iff_ne.mpr hno2
  go_enter Tryz.func26, Tryz.ntmps26
  go_wp2_with (first | (go_at_call 47; refine (hP _).mono ?_; rintro e w1 ⟨rfl, rfl⟩) | (go_at_call 48; refine (hC _ (hL.below hB0)).mono ?_; rintro e w2 ⟨rfl, hb2⟩; have hR2 := blk_below hR0 hb2; have hB2 := hB0.trans (hb2.mono hB0.size); have hL2 := hL.below hB2; have hlt := hb2.size; clear hP hC hb2 hR0 hB0))
  have h3 := LkAt.fresh w2
  have hB3 := below_alloc (Below.refl w2.heap.size w2) (.cells #[.string ⟨#[]⟩, .string ⟨#[]⟩, .slice none 0 0, .slice none 0 0] 70)
  have hlt2 : w.heap.size < w2.heap.size := blk_lt hR2
  clear hlt
  refine (hU' _).mono ?_
  rintro e w4 ⟨rfl, hb4⟩
  have h4 := h3.below hb4
  have hB4 := hB3.trans (hb4.mono hB3.size)
  have hc4 := (blk_cell h4.blk 0).trans rfl
  have hf4 := blk_frozen h4.blk 0
  have h5 := h4.name N
  have hB5 := hB4.setCell (p := ⟨w2.heap.size, 0, none⟩) (Nat.le_refl _) (.string N)
  have hR5 := blk_below hR2 hB5
  have z0 := (blk_cell hR5 0).trans rfl
  have y0 := blk_frozen hR5 0
  have z1 := (blk_cell hR5 1).trans rfl
  have y1 := blk_frozen hR5 1
  have z2 := (blk_cell hR5 2).trans rfl
  have y2 := blk_frozen hR5 2
  have z3 := (blk_cell hR5 3).trans rfl
  have y3 := blk_frozen hR5 3
  go_wp2
  refine bodyPost_ret (results_ct rfl _ _ w.heap.size 70 #[.string ⟨#[]⟩, .string ⟨#[]⟩, .slice none 0 0, .slice none 0 0] (0, 0) _ rfl (by refine blk_put (cs := #[.string ⟨#[]⟩, .string ⟨#[]⟩, .slice none 0 0, .slice none 0 0]) ?_ 3 _ rfl; refine blk_put (cs := #[.string ⟨#[]⟩, .string ⟨#[]⟩, .slice none 0 0, .slice none 0 0]) ?_ 2 _ rfl; refine blk_put (cs := #[.string ⟨#[]⟩, .string ⟨#[]⟩, .slice none 0 0, .slice none 0 0]) ?_ 1 _ rfl; refine blk_put (cs := #[.string ⟨#[]⟩, .string ⟨#[]⟩, .slice none 0 0, .slice none 0 0]) ?_ 0 _ rfl; exact hR5) Tryz.underlying70 rfl (by kernel_rfl)) rfl ?_
  exact ⟨_, _, rfl, Kd.R_nil _ _ _ _ _, Kd.R_nil _ _ _ _ _, ((((hB2.trans (hB5.mono hB2.size)).setCell (p := ⟨w.heap.size, 0, none⟩) (Nat.le_refl _) _).setCell (p := ⟨w.heap.size, 1, none⟩) (Nat.le_refl _) _).setCell (p := ⟨w.heap.size, 2, none⟩) (Nat.le_refl _) _).setCell (p := ⟨w.heap.size, 3, none⟩) (Nat.le_refl _) _⟩
/-- A fact that arithmetic shall not look into. -/
structure Asd (p : Prop) : Prop where mk :: (out : p)
def Fin1 (k : Nat) (t N ti : ByteArray) (ns : List Int) (ps : List S24) (u : ByteArray) (f : Int) (res : ByteArray × ByteArray × List Int × List S24 × Int) : Prop := (f = 0 ∧ u.toList = t.toList → res = (N, ti, ns, ps, 0)) ∧ (¬ (f = 0 ∧ u.toList = t.toList) → res = noLink)
set_option maxHeartbeats 4000000 in
set_option maxRecDepth 100000 in
theorem read_one (k : Nat) (t A R N : ByteArray) (c i : Bool) (e1 : Int) (ht : t.size ≤ 100000) (hA : A = cutA t) (hR : R = cutR t) (hc : c = cutC t) (hi : i = hasB t ⟨#[109, 111, 115, 97, 105, 99, 58]⟩) (hU : link_Unbase32.f k A = some (N, e1)) (hi1 : i = true) (he1 : e1 = 0) (res : ByteArray × ByteArray × List Int × List S24 × Int) (hc0 : c = false) (u : ByteArray) (f : Int) (ti : ByteArray) (hti : ti = ⟨#[]⟩) (ns : List Int) (hns : ns = []) (ps : List S24) (hps : ps = []) (hO : link_Text.f k N ti ns ps = some (u, f)) (hres : Asd (Fin1 k t N ti ns ps u f res)) (w : World) (hL : LibW w) :
    Calls Tryz.prog 26 #[.string t] w fun e w' => Rd w w' e res := by
  have hP := fun W => cutPrefix t ⟨#[109, 111, 115, 97, 105, 99, 58]⟩ W
  rw [← hi] at hP
  have hsz := tail_size t ⟨#[109, 111, 115, 97, 105, 99, 58]⟩
  have hC := fun W (hW : LibW W) => cut (bodyB t) 63 (by unfold bodyB; omega) W hW A R c hA hR hc
  have hU' := fun W => link_Unbase32.calls k A N e1 W hU
  have eb : tailB t ⟨#[109, 111, 115, 97, 105, 99, 58]⟩ = bodyB t := rfl
  rw [eb] at hP
  generalize bodyB t = T at *
  clear hA hR hc hi eb hU hsz
  have hB0 := below_alloc (Below.refl w.heap.size w) (.cells #[.string ⟨#[]⟩, .string ⟨#[]⟩, .slice none 0 0, .slice none 0 0] 70)
  have hR0 := blk_new w (.cells #[.string ⟨#[]⟩, .string ⟨#[]⟩, .slice none 0 0, .slice none 0 0] 70)
  subst hi1
  subst he1
  subst hc0
  replace hres : Asd ((f = 0 ∧ u.toList = t.toList → res = (N, ti, ns, ps, 0)) ∧ (¬ (f = 0 ∧ u.toList = t.toList) → res = noLink)) := ⟨hres.out⟩
  go_enter Tryz.func26, Tryz.ntmps26
  go_wp2_with (first | (go_at_call 47; refine (hP _).mono ?_; rintro e w1 ⟨rfl, rfl⟩) | (go_at_call 48; refine (hC _ (hL.below hB0)).mono ?_; rintro e w2 ⟨rfl, hb2⟩; have hR2 := blk_below hR0 hb2; have hB2 := hB0.trans (hb2.mono hB0.size); have hL2 := hL.below hB2; have hlt := hb2.size; clear hP hC hb2 hR0 hB0))
  have h3 := LkAt.fresh w2
  have hB3 := below_alloc (Below.refl w2.heap.size w2) (.cells #[.string ⟨#[]⟩, .string ⟨#[]⟩, .slice none 0 0, .slice none 0 0] 70)
  have hlt2 : w.heap.size < w2.heap.size := blk_lt hR2
  clear hlt
  refine (hU' _).mono ?_
  rintro e w4 ⟨rfl, hb4⟩
  have h4 := h3.below hb4
  have hB4 := hB3.trans (hb4.mono hB3.size)
  have hc4 := (blk_cell h4.blk 0).trans rfl
  have hf4 := blk_frozen h4.blk 0
  have h5 := h4.name N
  have hB5 := hB4.setCell (p := ⟨w2.heap.size, 0, none⟩) (Nat.le_refl _) (.string N)
  have hR5 := blk_below hR2 hB5
  obtain ⟨v2, v3, h5⟩ : ∃ v2 v3, LkAt w2.heap.size w2.heap.size (w4.setCell ⟨w2.heap.size, 0, none⟩ (.string N)) N ti v2 v3 ns ps := ⟨_, _, by subst hti; subst hns; subst hps; exact h5⟩
  clear hti hns hps
  go_upto_region 15 with (fail)
  generalize w4.setCell ⟨w2.heap.size, 0, none⟩ (.string N) = w5 at h5 hB5 hR5 ⊢
  clear h4 hB4 hc4 hf4 hb4 h3 hB3 hU'
  obtain ⟨A2, C2, e2⟩ := Kd.R_slice h5.nodes
  subst e2
  obtain ⟨A3, C3, e3⟩ := Kd.R_slice h5.places
  subst e3
  have q2 := Kd.R_reads' h5.nodes
  have q3 := Kd.R_reads' h5.places
  have hT := link_Text.calls k N ti A2 C2 ns A3 C3 ps u f w5 q2.2.2 q2.2.1 q3.2.2 q3.2.1 hO (hL2.below hB5)
  have x0 := (blk_cell h5.blk 0).trans rfl
  have x1 := (blk_cell h5.blk 1).trans rfl
  have x2 := (blk_cell h5.blk 2).trans rfl
  have x3 := (blk_cell h5.blk 3).trans rfl
  clear q2 q3 hO
  by_cases hf : f = 0
  · subst hf
    by_cases hu : u.toList = t.toList
    · have b0 : (u.toList == t.toList) = true := beq_iff_eq.mpr hu
      have b1 : (u.toList != t.toList) = false := bne_eq_false_iff_eq.mpr hu
      have hr : res = (N, ti, ns, ps, 0) := hres.out.1 ⟨rfl, hu⟩
      subst hr
      go_wp2_with (go_at_call 41; refine hT.mono ?_; rintro e w8 ⟨rfl, hb8⟩; have h8 := h5.below hb8; have hB8 := hB5.trans (hb8.mono hB5.size); have hR8 := blk_below hR5 hb8; have o0 := (blk_cell h8.blk 0).trans rfl; have o1 := (blk_cell h8.blk 1).trans rfl; have o2 := (blk_cell h8.blk 2).trans rfl; have o3 := (blk_cell h8.blk 3).trans rfl; have z0 := (blk_cell hR8 0).trans rfl; have z1 := (blk_cell hR8 1).trans rfl; have z2 := (blk_cell hR8 2).trans rfl; have z3 := (blk_cell hR8 3).trans rfl; have y0 := blk_frozen hR8 0; have y1 := blk_frozen hR8 1; have y2 := blk_frozen hR8 2; have y3 := blk_frozen hR8 3)
      refine bodyPost_ret (results_ct rfl _ _ w.heap.size 70 #[.string N, .string ti, .slice A2 ns.length C2, .slice A3 ps.length C3] (0, 0) _ rfl (by refine blk_put (cs := #[.string N, .string ti, .slice A2 ns.length C2, .slice none 0 0]) ?_ 3 _ rfl; refine blk_put (cs := #[.string N, .string ti, .slice none 0 0, .slice none 0 0]) ?_ 2 _ rfl; refine blk_put (cs := #[.string N, .string ⟨#[]⟩, .slice none 0 0, .slice none 0 0]) ?_ 1 _ rfl; refine blk_put (cs := #[.string ⟨#[]⟩, .string ⟨#[]⟩, .slice none 0 0, .slice none 0 0]) ?_ 0 _ rfl; exact hR8) Tryz.underlying70 rfl (by kernel_rfl)) rfl ?_
      exact ⟨_, _, rfl, Kd.R_mono (Kd.R_lower (Kd.R_far (p := ⟨w.heap.size, 3, none⟩) (Kd.R_far (p := ⟨w.heap.size, 2, none⟩) (Kd.R_far (p := ⟨w.heap.size, 1, none⟩) (Kd.R_far (p := ⟨w.heap.size, 0, none⟩) (Kd.R_types h8.nodes hR8 (by decide)) (fun _ hk => hk.2) _) (fun _ hk => hk.2) _) (fun _ hk => hk.2) _) (fun _ hk => hk.2) _) hB2.size) (fun _ _ => trivial), Kd.R_mono (Kd.R_lower (Kd.R_far (p := ⟨w.heap.size, 3, none⟩) (Kd.R_far (p := ⟨w.heap.size, 2, none⟩) (Kd.R_far (p := ⟨w.heap.size, 1, none⟩) (Kd.R_far (p := ⟨w.heap.size, 0, none⟩) (Kd.R_types h8.places hR8 (by decide)) (fun _ hk => hk.2) _) (fun _ hk => hk.2) _) (fun _ hk => hk.2) _) (fun _ hk => hk.2) _) hB2.size) (fun _ _ => trivial), ((((hB2.trans (hB8.mono hB2.size)).setCell (p := ⟨w.heap.size, 0, none⟩) (Nat.le_refl _) _).setCell (p := ⟨w.heap.size, 1, none⟩) (Nat.le_refl _) _).setCell (p := ⟨w.heap.size, 2, none⟩) (Nat.le_refl _) _).setCell (p := ⟨w.heap.size, 3, none⟩) (Nat.le_refl _) _⟩
    · have b0 : (u.toList == t.toList) = false := beq_eq_false_iff_ne.mpr hu
      have b1 : (u.toList != t.toList) = true := bne_iff_ne.mpr hu
      have hr : res = noLink := hres.out.2 (fun h => hu h.2)
      subst hr
      go_wp2_with (go_at_call 41; refine hT.mono ?_; rintro e w8 ⟨rfl, hb8⟩; have h8 := h5.below hb8; have hB8 := hB5.trans (hb8.mono hB5.size); have hR8 := blk_below hR5 hb8; have o0 := (blk_cell h8.blk 0).trans rfl; have o1 := (blk_cell h8.blk 1).trans rfl; have o2 := (blk_cell h8.blk 2).trans rfl; have o3 := (blk_cell h8.blk 3).trans rfl; have z0 := (blk_cell hR8 0).trans rfl; have z1 := (blk_cell hR8 1).trans rfl; have z2 := (blk_cell hR8 2).trans rfl; have z3 := (blk_cell hR8 3).trans rfl; have y0 := blk_frozen hR8 0; have y1 := blk_frozen hR8 1; have y2 := blk_frozen hR8 2; have y3 := blk_frozen hR8 3)
      refine bodyPost_ret (results_ct rfl _ _ w.heap.size 70 #[.string ⟨#[]⟩, .string ⟨#[]⟩, .slice none 0 0, .slice none 0 0] (0, 0) _ rfl (by refine blk_put (cs := #[.string ⟨#[]⟩, .string ⟨#[]⟩, .slice none 0 0, .slice none 0 0]) ?_ 3 _ rfl; refine blk_put (cs := #[.string ⟨#[]⟩, .string ⟨#[]⟩, .slice none 0 0, .slice none 0 0]) ?_ 2 _ rfl; refine blk_put (cs := #[.string ⟨#[]⟩, .string ⟨#[]⟩, .slice none 0 0, .slice none 0 0]) ?_ 1 _ rfl; refine blk_put (cs := #[.string ⟨#[]⟩, .string ⟨#[]⟩, .slice none 0 0, .slice none 0 0]) ?_ 0 _ rfl; exact hR8) Tryz.underlying70 rfl (by kernel_rfl)) rfl ?_
      exact ⟨_, _, rfl, Kd.R_nil _ _ _ _ _, Kd.R_nil _ _ _ _ _, ((((hB2.trans (hB8.mono hB2.size)).setCell (p := ⟨w.heap.size, 0, none⟩) (Nat.le_refl _) _).setCell (p := ⟨w.heap.size, 1, none⟩) (Nat.le_refl _) _).setCell (p := ⟨w.heap.size, 2, none⟩) (Nat.le_refl _) _).setCell (p := ⟨w.heap.size, 3, none⟩) (Nat.le_refl _) _⟩
  · have b0 : (f != 0) = true := bne_iff_ne.mpr hf
    have hr : res = noLink := hres.out.2 (fun h => hf h.1)
    subst hr
    go_wp2_with (go_at_call 41; refine hT.mono ?_; rintro e w8 ⟨rfl, hb8⟩; have h8 := h5.below hb8; have hB8 := hB5.trans (hb8.mono hB5.size); have hR8 := blk_below hR5 hb8; have o0 := (blk_cell h8.blk 0).trans rfl; have o1 := (blk_cell h8.blk 1).trans rfl; have o2 := (blk_cell h8.blk 2).trans rfl; have o3 := (blk_cell h8.blk 3).trans rfl; have z0 := (blk_cell hR8 0).trans rfl; have z1 := (blk_cell hR8 1).trans rfl; have z2 := (blk_cell hR8 2).trans rfl; have z3 := (blk_cell hR8 3).trans rfl; have y0 := blk_frozen hR8 0; have y1 := blk_frozen hR8 1; have y2 := blk_frozen hR8 2; have y3 := blk_frozen hR8 3)
    refine bodyPost_ret (results_ct rfl _ _ w.heap.size 70 #[.string ⟨#[]⟩, .string ⟨#[]⟩, .slice none 0 0, .slice none 0 0] (0, 0) _ rfl (by refine blk_put (cs := #[.string ⟨#[]⟩, .string ⟨#[]⟩, .slice none 0 0, .slice none 0 0]) ?_ 3 _ rfl; refine blk_put (cs := #[.string ⟨#[]⟩, .string ⟨#[]⟩, .slice none 0 0, .slice none 0 0]) ?_ 2 _ rfl; refine blk_put (cs := #[.string ⟨#[]⟩, .string ⟨#[]⟩, .slice none 0 0, .slice none 0 0]) ?_ 1 _ rfl; refine blk_put (cs := #[.string ⟨#[]⟩, .string ⟨#[]⟩, .slice none 0 0, .slice none 0 0]) ?_ 0 _ rfl; exact hR8) Tryz.underlying70 rfl (by kernel_rfl)) rfl ?_
    exact ⟨_, _, rfl, Kd.R_nil _ _ _ _ _, Kd.R_nil _ _ _ _ _, ((((hB2.trans (hB8.mono hB2.size)).setCell (p := ⟨w.heap.size, 0, none⟩) (Nat.le_refl _) _).setCell (p := ⟨w.heap.size, 1, none⟩) (Nat.le_refl _) _).setCell (p := ⟨w.heap.size, 2, none⟩) (Nat.le_refl _) _).setCell (p := ⟨w.heap.size, 3, none⟩) (Nat.le_refl _) _⟩
theorem node_size (x : ByteArray) (h : x.size ≤ 100000) : (tailB x ⟨#[110, 111, 100, 101, 61]⟩).size ≤ 1000000 := Nat.le_trans (tail_size _ _) (Nat.le_trans h (by decide))
theorem node_sizes (x : ByteArray) (h : x.size ≤ 100000) : ∀ y ∈ splitF (tailB x ⟨#[110, 111, 100, 101, 61]⟩) ⟨#[44]⟩, y.size ≤ 1000000 := fun y hy => Nat.le_trans (split_sizes _ _ _ y hy) (node_size x h)
theorem w64_succ (j : Nat) (h : j ≤ 100001) : wrap64 ((j : Int) + 1) = ((j + 1 : Nat) : Int) := by unfold wrap64; omega
theorem int_lt {a b : Nat} (h : a < b) : (a : Int) < (b : Int) := Int.ofNat_lt.mpr h
theorem int_nlt {a b : Nat} (h : ¬ a < b) : ¬ (a : Int) < (b : Int) := fun h2 => h (Int.ofNat_lt.mp h2)
theorem le100 {n : Nat} (h : ¬ 6 < n) : n ≤ 100 := by omega
theorem eq_len {j n : Nat} (h : j ≤ n) (h2 : ¬ j < n) : j = n := by omega
def intOf : Value → Int | .int _ q => q | _ => 0
end Go.Proofs.YtmimnlbkllgfpaaGreatDoor.Hand
/- link.Read of a text with parts: walked. -/
namespace Go.Proofs.YtmimnlbkllgfpaaGreatDoor.Hand
open Go.RowKit Go.Proofs.YtmimnlbkllgfpaaGreatDoor.A Go.Proofs.YtmimnlbkllgfpaaGreatDoor.Sq Go.Proofs.YtmimnlbkllgfpaaGreatDoorW.PrintWords Go.Proofs.YtmimnlbkllgfpaaGreatDoorW.PrintLast Go.Proofs.YtmimnlbkllgfpaaGreatDoorW.PrintMore
set_option linter.unusedVariables false

set_option maxHeartbeats 4000000 in
set_option maxRecDepth 100000 in
theorem read_many (k : Nat) (t A R N : ByteArray) (c i : Bool) (e1 : Int) (ht : t.size ≤ 100000) (hA : A = cutA t) (hR : R = cutR t) (hc : c = cutC t) (hi : i = hasB t ⟨#[109, 111, 115, 97, 105, 99, 58]⟩) (hU : link_Unbase32.f k A = some (N, e1)) (hi1 : i = true) (he1 : e1 = 0) (res : ByteArray × ByteArray × List Int × List S24 × Int) (hc1 : c = true) (l : List ByteArray) (hl : splitF R ⟨#[38]⟩ = l) (zR : R.size ≤ 100000) (O : Option (ByteArray × List Int × List S24)) (hF : partsF k l ⟨#[]⟩ [] [] = some O) (hr0 : Asd (O = none → res = noLink)) (hr1 : Asd (∀ ti ns ps, O = some (ti, ns, ps) → ∃ u f, link_Text.f k N ti ns ps = some (u, f) ∧ Fin1 k t N ti ns ps u f res)) (w : World) (hL : LibW w) :
    Calls Tryz.prog 26 #[.string t] w fun e w' => Rd w w' e res := by
  have hP := fun W => cutPrefix t ⟨#[109, 111, 115, 97, 105, 99, 58]⟩ W
  rw [← hi] at hP
  have hsz := tail_size t ⟨#[109, 111, 115, 97, 105, 99, 58]⟩
  have hC := fun W (hW : LibW W) => cut (bodyB t) 63 (by unfold bodyB; omega) W hW A R c hA hR hc
  have hU' := fun W => link_Unbase32.calls k A N e1 W hU
  have eb : tailB t ⟨#[109, 111, 115, 97, 105, 99, 58]⟩ = bodyB t := rfl
  rw [eb] at hP
  generalize bodyB t = T at *
  clear hA hR hc hi eb hU hsz
  have hB0 := below_alloc (Below.refl w.heap.size w) (.cells #[.string ⟨#[]⟩, .string ⟨#[]⟩, .slice none 0 0, .slice none 0 0] 70)
  have hR0 := blk_new w (.cells #[.string ⟨#[]⟩, .string ⟨#[]⟩, .slice none 0 0, .slice none 0 0] 70)
  subst hi1
  subst he1
  subst hc1
  have hzs : ∀ x ∈ l, x.size ≤ 100000 := fun x hx => by
    rw [← hl] at hx
    exact Nat.le_trans (split_sizes _ _ _ x hx) zR
  have hS := fun W (hW : LibW W) => split R ⟨#[38]⟩ W hW (Nat.le_trans zR (by decide)) rfl
  have hll : l.length ≤ 100001 := by
    rw [← hl, splitF_len R ⟨#[38]⟩ rfl]
    exact Nat.succ_le_succ (Nat.le_trans (Lib.countB_le ⟨#[38]⟩ (by decide) R.size R (Nat.le_refl _)) zR)
  rw [hl] at hS
  clear hl
  go_enter Tryz.func26, Tryz.ntmps26
  go_wp2_with (first | (go_at_call 47; refine (hP _).mono ?_; rintro e w1 ⟨rfl, rfl⟩) | (go_at_call 48; refine (hC _ (hL.below hB0)).mono ?_; rintro e w2 ⟨rfl, hb2⟩; have hR2 := blk_below hR0 hb2; have hB2 := hB0.trans (hb2.mono hB0.size); have hL2 := hL.below hB2; have hlt := hb2.size; clear hP hC hb2 hR0 hB0))
  have h3 := LkAt.fresh w2
  have hB3 := below_alloc (Below.refl w2.heap.size w2) (.cells #[.string ⟨#[]⟩, .string ⟨#[]⟩, .slice none 0 0, .slice none 0 0] 70)
  have hlt2 : w.heap.size < w2.heap.size := blk_lt hR2
  clear hlt
  refine (hU' _).mono ?_
  rintro e w4 ⟨rfl, hb4⟩
  have h4 := h3.below hb4
  have hB4 := hB3.trans (hb4.mono hB3.size)
  have hc4 := (blk_cell h4.blk 0).trans rfl
  have hf4 := blk_frozen h4.blk 0
  have h5 := h4.name N
  have hB5 := hB4.setCell (p := ⟨w2.heap.size, 0, none⟩) (Nat.le_refl _) (.string N)
  have hR5 := blk_below hR2 hB5
  go_upto_region 9 with (fail)
  generalize w4.setCell ⟨w2.heap.size, 0, none⟩ (.string N) = w5 at h5 hB5 hR5 ⊢
  clear h4 hB4 hc4 hf4 hb4 h3 hB3 hU'
  go_wp2_with (go_at_call 50; refine (hS _ (hL2.below hB5)).mono ?_; rintro e w6 ⟨M, rfl, hM6, hMl, hb6⟩; have h6 := h5.below hb6; have hB6 := hB5.trans (hb6.mono hB5.size); clear hS hb6 h5 hB5 hR5)
  go_loopw [44] (fun iv wr => ∃ (j : Nat) (ti : ByteArray) (ns : List Int) (ps : List S24) (v2 v3 : Value), j ≤ l.length ∧ iv = .int .i64 j ∧ Asd (partsF k (l.drop j) ti ns ps = some O) ∧ ps.length = ns.length ∧ LkAt w2.heap.size w2.heap.size wr N ti v2 v3 ns ps ∧ wr.heap[M]? = some (.cells (l.map Value.string).toArray 9 (0, 0)) ∧ Below w2.heap.size w2 wr) (fun iv _ => l.length - (intOf iv).toNat)
  case atStart => exact ⟨0, _, _, _, _, _, Nat.zero_le _, rfl, ⟨hF⟩, rfl, h6, hM6, hB6⟩
  case round =>
    clear h6 hM6 hB6 hF
    obtain ⟨j, ti, ns, ps, v2, v3, hj, rfl, hP, hpn, h5, hM5, hB5⟩ := hrel
    have hR5 := blk_below hR2 hB5
    by_cases hlt : j < l.length
    · obtain ⟨x, hx⟩ : ∃ x, l[j]? = some x := ⟨l[j], List.getElem?_eq_getElem hlt⟩
      have hxm : x ∈ l := List.mem_of_getElem? hx
      have hd : l.drop j = x :: l.drop (j + 1) := by rw [List.drop_eq_getElem_cons hlt]; congr 1; rw [List.getElem?_eq_getElem hlt] at hx; exact Option.some.inj hx
      have hP2 := hP.out
      rw [hd, partsF] at hP2
      have cM : wr.cell? ⟨M, j, none⟩ = some (.string x) := (blk_cell hM5 j).trans (by simp [hx])
      have hz := hzs x hxm
      clear hd hP hx hxm
      by_cases h6 : 6 < ns.length
      · rw [if_pos h6] at hP2
        have hO := Option.some.inj hP2
        have hr : res = noLink := hr0.out hO.symm
        subst hr
        clear hr0 hr1 hO hP2
        obtain ⟨A2, C2, e2⟩ := Kd.R_slice h5.nodes
        subst e2
        have x2 := (blk_cell h5.blk 2).trans rfl
        have g6 : (6 : Int) < (ns.length : Int) := int_lt h6
        have g7 : decide ((6 : Int) < (ns.length : Int)) = true := decide_eq_true g6
        have z0 := (blk_cell hR5 0).trans rfl
        have y0 := blk_frozen hR5 0
        have z1 := (blk_cell hR5 1).trans rfl
        have y1 := blk_frozen hR5 1
        have z2 := (blk_cell hR5 2).trans rfl
        have y2 := blk_frozen hR5 2
        have z3 := (blk_cell hR5 3).trans rfl
        have y3 := blk_frozen hR5 3
        go_wp2
        refine bodyPost_ret (results_ct rfl _ _ w.heap.size 70 #[.string ⟨#[]⟩, .string ⟨#[]⟩, .slice none 0 0, .slice none 0 0] (0, 0) _ rfl (by refine blk_put (cs := #[.string ⟨#[]⟩, .string ⟨#[]⟩, .slice none 0 0, .slice none 0 0]) ?_ 3 _ rfl; refine blk_put (cs := #[.string ⟨#[]⟩, .string ⟨#[]⟩, .slice none 0 0, .slice none 0 0]) ?_ 2 _ rfl; refine blk_put (cs := #[.string ⟨#[]⟩, .string ⟨#[]⟩, .slice none 0 0, .slice none 0 0]) ?_ 1 _ rfl; refine blk_put (cs := #[.string ⟨#[]⟩, .string ⟨#[]⟩, .slice none 0 0, .slice none 0 0]) ?_ 0 _ rfl; exact hR5) Tryz.underlying70 rfl (by kernel_rfl)) rfl ?_
        exact ⟨_, _, rfl, Kd.R_nil _ _ _ _ _, Kd.R_nil _ _ _ _ _, ((((hB2.trans (hB5.mono hB2.size)).setCell (p := ⟨w.heap.size, 0, none⟩) (Nat.le_refl _) _).setCell (p := ⟨w.heap.size, 1, none⟩) (Nat.le_refl _) _).setCell (p := ⟨w.heap.size, 2, none⟩) (Nat.le_refl _) _).setCell (p := ⟨w.heap.size, 3, none⟩) (Nat.le_refl _) _⟩
      · rw [if_neg h6] at hP2
        obtain ⟨⟨r, ti2, ns2, ps2⟩, hq, hP3⟩ := Option.bind_eq_some_iff.mp hP2
        have hPt := part k x (node_size x hz) (node_sizes x hz) w2 wr hB5 hL2 w2.heap.size N ti v2 v3 ns ps h5 M _ hM5 (le100 h6) (by rw [hpn]; exact le100 h6) r ti2 ns2 ps2 hq
        obtain ⟨A2, C2, e2⟩ := Kd.R_slice h5.nodes
        have g6 : ¬ (6 : Int) < (ns.length : Int) := int_nlt h6
        have g7 : decide ((6 : Int) < (ns.length : Int)) = false := decide_eq_false g6
        have hl2 := partF_len hq hpn
        have ew : wrap64 ((j : Int) + 1) = ((j + 1 : Nat) : Int) := w64_succ j (Nat.le_trans hj hll)
        have hm1 : l.length - (j + 1) < l.length - j := Nat.sub_lt_sub_left hlt (Nat.lt_succ_self j)
        have x2 := (blk_cell h5.blk 2).trans rfl
        rw [e2] at x2
        clear e2 hq hP2 hz
        cases r with
        | false =>
          rw [if_neg (by simp)] at hP3
          have hO := Option.some.inj hP3
          have hr : res = noLink := hr0.out hO.symm
          subst hr
          clear hr0 hr1 hO hP3
          go_wp2_with (go_at_call 51; refine hPt.mono ?_; rintro e w8 ⟨rfl, ⟨u2, u3, h8⟩, hB8, hM8⟩; have hR8 := blk_below hR2 hB8; have z0 := (blk_cell hR8 0).trans rfl; have z1 := (blk_cell hR8 1).trans rfl; have z2 := (blk_cell hR8 2).trans rfl; have z3 := (blk_cell hR8 3).trans rfl; have y0 := blk_frozen hR8 0; have y1 := blk_frozen hR8 1; have y2 := blk_frozen hR8 2; have y3 := blk_frozen hR8 3)
          refine bodyPost_ret (results_ct rfl _ _ w.heap.size 70 #[.string ⟨#[]⟩, .string ⟨#[]⟩, .slice none 0 0, .slice none 0 0] (0, 0) _ rfl (by refine blk_put (cs := #[.string ⟨#[]⟩, .string ⟨#[]⟩, .slice none 0 0, .slice none 0 0]) ?_ 3 _ rfl; refine blk_put (cs := #[.string ⟨#[]⟩, .string ⟨#[]⟩, .slice none 0 0, .slice none 0 0]) ?_ 2 _ rfl; refine blk_put (cs := #[.string ⟨#[]⟩, .string ⟨#[]⟩, .slice none 0 0, .slice none 0 0]) ?_ 1 _ rfl; refine blk_put (cs := #[.string ⟨#[]⟩, .string ⟨#[]⟩, .slice none 0 0, .slice none 0 0]) ?_ 0 _ rfl; exact hR8) Tryz.underlying70 rfl (by kernel_rfl)) rfl ?_
          exact ⟨_, _, rfl, Kd.R_nil _ _ _ _ _, Kd.R_nil _ _ _ _ _, ((((hB2.trans (hB8.mono hB2.size)).setCell (p := ⟨w.heap.size, 0, none⟩) (Nat.le_refl _) _).setCell (p := ⟨w.heap.size, 1, none⟩) (Nat.le_refl _) _).setCell (p := ⟨w.heap.size, 2, none⟩) (Nat.le_refl _) _).setCell (p := ⟨w.heap.size, 3, none⟩) (Nat.le_refl _) _⟩
        | true =>
          rw [if_pos rfl] at hP3
          have hP4 := Asd.mk hP3
          clear hP3
          go_upto_region 14 with (go_at_call 51; refine hPt.mono ?_; rintro e w8 ⟨rfl, ⟨u2, u3, h8⟩, hB8, hM8⟩)
          have hA := Asd.mk (And.intro ew (And.intro hm1 (And.intro hlt (And.intro hl2 (And.intro h8 (And.intro hM8 hB8))))))
          clear hPt zR ht g6 g7 x2 cM ew hm1 hlt hll hj hl2 h8 hM8 hB8 hzs hpn h5 hM5 hB5 hR5 hMl
          go_wp2
          obtain ⟨⟨ew, hm1, hlt, hl2, h8, hM8, hB8⟩⟩ := hA
          simp only [ew]
          exact ⟨⟨j + 1, ti2, ns2, ps2, u2, u3, hlt, rfl, hP4, hl2, h8, hM8, hB8⟩, hm1⟩
    · have hke : j = l.length := eq_len hj hlt
      have hP2 := hP.out
      rw [hke, List.drop_of_length_le (Nat.le_refl _), partsF] at hP2
      obtain ⟨u, f, hO, hres⟩ := hr1.out ti ns ps (Option.some.inj hP2).symm
      replace hres : Asd ((f = 0 ∧ u.toList = t.toList → res = (N, ti, ns, ps, 0)) ∧ (¬ (f = 0 ∧ u.toList = t.toList) → res = noLink)) := ⟨hres⟩
      clear hr0 hr1 hP hP2 hzs hpn hj hlt hll
      subst hke
      generalize wr = w5 at *
      go_upto_region 15 with (fail)
      obtain ⟨A2, C2, e2⟩ := Kd.R_slice h5.nodes
      subst e2
      obtain ⟨A3, C3, e3⟩ := Kd.R_slice h5.places
      subst e3
      have q2 := Kd.R_reads' h5.nodes
      have q3 := Kd.R_reads' h5.places
      have hT := link_Text.calls k N ti A2 C2 ns A3 C3 ps u f w5 q2.2.2 q2.2.1 q3.2.2 q3.2.1 hO (hL2.below hB5)
      have x0 := (blk_cell h5.blk 0).trans rfl
      have x1 := (blk_cell h5.blk 1).trans rfl
      have x2 := (blk_cell h5.blk 2).trans rfl
      have x3 := (blk_cell h5.blk 3).trans rfl
      clear q2 q3 hO
      by_cases hf : f = 0
      · subst hf
        by_cases hu : u.toList = t.toList
        · have b0 : (u.toList == t.toList) = true := beq_iff_eq.mpr hu
          have b1 : (u.toList != t.toList) = false := bne_eq_false_iff_eq.mpr hu
          have hr : res = (N, ti, ns, ps, 0) := hres.out.1 ⟨rfl, hu⟩
          subst hr
          go_wp2_with (go_at_call 41; refine hT.mono ?_; rintro e w8 ⟨rfl, hb8⟩; have h8 := h5.below hb8; have hB8 := hB5.trans (hb8.mono hB5.size); have hR8 := blk_below hR5 hb8; have o0 := (blk_cell h8.blk 0).trans rfl; have o1 := (blk_cell h8.blk 1).trans rfl; have o2 := (blk_cell h8.blk 2).trans rfl; have o3 := (blk_cell h8.blk 3).trans rfl; have z0 := (blk_cell hR8 0).trans rfl; have z1 := (blk_cell hR8 1).trans rfl; have z2 := (blk_cell hR8 2).trans rfl; have z3 := (blk_cell hR8 3).trans rfl; have y0 := blk_frozen hR8 0; have y1 := blk_frozen hR8 1; have y2 := blk_frozen hR8 2; have y3 := blk_frozen hR8 3)
          refine bodyPost_ret (results_ct rfl _ _ w.heap.size 70 #[.string N, .string ti, .slice A2 ns.length C2, .slice A3 ps.length C3] (0, 0) _ rfl (by refine blk_put (cs := #[.string N, .string ti, .slice A2 ns.length C2, .slice none 0 0]) ?_ 3 _ rfl; refine blk_put (cs := #[.string N, .string ti, .slice none 0 0, .slice none 0 0]) ?_ 2 _ rfl; refine blk_put (cs := #[.string N, .string ⟨#[]⟩, .slice none 0 0, .slice none 0 0]) ?_ 1 _ rfl; refine blk_put (cs := #[.string ⟨#[]⟩, .string ⟨#[]⟩, .slice none 0 0, .slice none 0 0]) ?_ 0 _ rfl; exact hR8) Tryz.underlying70 rfl (by kernel_rfl)) rfl ?_
          exact ⟨_, _, rfl, Kd.R_mono (Kd.R_lower (Kd.R_far (p := ⟨w.heap.size, 3, none⟩) (Kd.R_far (p := ⟨w.heap.size, 2, none⟩) (Kd.R_far (p := ⟨w.heap.size, 1, none⟩) (Kd.R_far (p := ⟨w.heap.size, 0, none⟩) (Kd.R_types h8.nodes hR8 (by decide)) (fun _ hk => hk.2) _) (fun _ hk => hk.2) _) (fun _ hk => hk.2) _) (fun _ hk => hk.2) _) hB2.size) (fun _ _ => trivial), Kd.R_mono (Kd.R_lower (Kd.R_far (p := ⟨w.heap.size, 3, none⟩) (Kd.R_far (p := ⟨w.heap.size, 2, none⟩) (Kd.R_far (p := ⟨w.heap.size, 1, none⟩) (Kd.R_far (p := ⟨w.heap.size, 0, none⟩) (Kd.R_types h8.places hR8 (by decide)) (fun _ hk => hk.2) _) (fun _ hk => hk.2) _) (fun _ hk => hk.2) _) (fun _ hk => hk.2) _) hB2.size) (fun _ _ => trivial), ((((hB2.trans (hB8.mono hB2.size)).setCell (p := ⟨w.heap.size, 0, none⟩) (Nat.le_refl _) _).setCell (p := ⟨w.heap.size, 1, none⟩) (Nat.le_refl _) _).setCell (p := ⟨w.heap.size, 2, none⟩) (Nat.le_refl _) _).setCell (p := ⟨w.heap.size, 3, none⟩) (Nat.le_refl _) _⟩
        · have b0 : (u.toList == t.toList) = false := beq_eq_false_iff_ne.mpr hu
          have b1 : (u.toList != t.toList) = true := bne_iff_ne.mpr hu
          have hr : res = noLink := hres.out.2 (fun h => hu h.2)
          subst hr
          go_wp2_with (go_at_call 41; refine hT.mono ?_; rintro e w8 ⟨rfl, hb8⟩; have h8 := h5.below hb8; have hB8 := hB5.trans (hb8.mono hB5.size); have hR8 := blk_below hR5 hb8; have o0 := (blk_cell h8.blk 0).trans rfl; have o1 := (blk_cell h8.blk 1).trans rfl; have o2 := (blk_cell h8.blk 2).trans rfl; have o3 := (blk_cell h8.blk 3).trans rfl; have z0 := (blk_cell hR8 0).trans rfl; have z1 := (blk_cell hR8 1).trans rfl; have z2 := (blk_cell hR8 2).trans rfl; have z3 := (blk_cell hR8 3).trans rfl; have y0 := blk_frozen hR8 0; have y1 := blk_frozen hR8 1; have y2 := blk_frozen hR8 2; have y3 := blk_frozen hR8 3)
          refine bodyPost_ret (results_ct rfl _ _ w.heap.size 70 #[.string ⟨#[]⟩, .string ⟨#[]⟩, .slice none 0 0, .slice none 0 0] (0, 0) _ rfl (by refine blk_put (cs := #[.string ⟨#[]⟩, .string ⟨#[]⟩, .slice none 0 0, .slice none 0 0]) ?_ 3 _ rfl; refine blk_put (cs := #[.string ⟨#[]⟩, .string ⟨#[]⟩, .slice none 0 0, .slice none 0 0]) ?_ 2 _ rfl; refine blk_put (cs := #[.string ⟨#[]⟩, .string ⟨#[]⟩, .slice none 0 0, .slice none 0 0]) ?_ 1 _ rfl; refine blk_put (cs := #[.string ⟨#[]⟩, .string ⟨#[]⟩, .slice none 0 0, .slice none 0 0]) ?_ 0 _ rfl; exact hR8) Tryz.underlying70 rfl (by kernel_rfl)) rfl ?_
          exact ⟨_, _, rfl, Kd.R_nil _ _ _ _ _, Kd.R_nil _ _ _ _ _, ((((hB2.trans (hB8.mono hB2.size)).setCell (p := ⟨w.heap.size, 0, none⟩) (Nat.le_refl _) _).setCell (p := ⟨w.heap.size, 1, none⟩) (Nat.le_refl _) _).setCell (p := ⟨w.heap.size, 2, none⟩) (Nat.le_refl _) _).setCell (p := ⟨w.heap.size, 3, none⟩) (Nat.le_refl _) _⟩
      · have b0 : (f != 0) = true := bne_iff_ne.mpr hf
        have hr : res = noLink := hres.out.2 (fun h => hf h.1)
        subst hr
        go_wp2_with (go_at_call 41; refine hT.mono ?_; rintro e w8 ⟨rfl, hb8⟩; have h8 := h5.below hb8; have hB8 := hB5.trans (hb8.mono hB5.size); have hR8 := blk_below hR5 hb8; have o0 := (blk_cell h8.blk 0).trans rfl; have o1 := (blk_cell h8.blk 1).trans rfl; have o2 := (blk_cell h8.blk 2).trans rfl; have o3 := (blk_cell h8.blk 3).trans rfl; have z0 := (blk_cell hR8 0).trans rfl; have z1 := (blk_cell hR8 1).trans rfl; have z2 := (blk_cell hR8 2).trans rfl; have z3 := (blk_cell hR8 3).trans rfl; have y0 := blk_frozen hR8 0; have y1 := blk_frozen hR8 1; have y2 := blk_frozen hR8 2; have y3 := blk_frozen hR8 3)
        refine bodyPost_ret (results_ct rfl _ _ w.heap.size 70 #[.string ⟨#[]⟩, .string ⟨#[]⟩, .slice none 0 0, .slice none 0 0] (0, 0) _ rfl (by refine blk_put (cs := #[.string ⟨#[]⟩, .string ⟨#[]⟩, .slice none 0 0, .slice none 0 0]) ?_ 3 _ rfl; refine blk_put (cs := #[.string ⟨#[]⟩, .string ⟨#[]⟩, .slice none 0 0, .slice none 0 0]) ?_ 2 _ rfl; refine blk_put (cs := #[.string ⟨#[]⟩, .string ⟨#[]⟩, .slice none 0 0, .slice none 0 0]) ?_ 1 _ rfl; refine blk_put (cs := #[.string ⟨#[]⟩, .string ⟨#[]⟩, .slice none 0 0, .slice none 0 0]) ?_ 0 _ rfl; exact hR8) Tryz.underlying70 rfl (by kernel_rfl)) rfl ?_
        exact ⟨_, _, rfl, Kd.R_nil _ _ _ _ _, Kd.R_nil _ _ _ _ _, ((((hB2.trans (hB8.mono hB2.size)).setCell (p := ⟨w.heap.size, 0, none⟩) (Nat.le_refl _) _).setCell (p := ⟨w.heap.size, 1, none⟩) (Nat.le_refl _) _).setCell (p := ⟨w.heap.size, 2, none⟩) (Nat.le_refl _) _).setCell (p := ⟨w.heap.size, 3, none⟩) (Nat.le_refl _) _⟩
end Go.Proofs.YtmimnlbkllgfpaaGreatDoor.Hand
/- link.Read: its contract in the printed texts' form. -/
namespace Go.Proofs.YtmimnlbkllgfpaaGreatDoor.Hand
open Go.RowKit Go.Proofs.YtmimnlbkllgfpaaGreatDoor.A Go.Proofs.YtmimnlbkllgfpaaGreatDoor.Sq Go.Proofs.YtmimnlbkllgfpaaGreatDoorW.PrintWords Go.Proofs.YtmimnlbkllgfpaaGreatDoorW.PrintLast Go.Proofs.YtmimnlbkllgfpaaGreatDoorW.PrintMore

theorem size_arr (l : List UInt8) : (⟨l.toArray⟩ : ByteArray).size = l.length := by show l.toArray.size = _; simp
theorem len_data (s : ByteArray) : s.data.toList.length = s.size := Array.length_toList
theorem cutR_size (t : ByteArray) : (cutR t).size ≤ t.size := by
  unfold cutR
  rw [size_arr]
  refine Nat.le_trans (cut_len _ 63).2 ?_
  rw [len_data]
  exact tail_size t _
theorem cutA_size (t : ByteArray) : (cutA t).size ≤ t.size := by
  unfold cutA
  rw [size_arr]
  refine Nat.le_trans (cut_len _ 63).1 ?_
  rw [len_data]
  exact tail_size t _
def link_Read.f (a0 : ByteArray) : Option (ByteArray × ByteArray × List Int × List S24 × Int) := readF 6000 a0
theorem link_Read.calls (a0 r1 r2 : ByteArray) (r3 : List Int) (r4 : List S24) (r5 : Int) (w : World) (h : link_Read.f a0 = some (r1, r2, r3, r4, r5)) (hTab : LibW w) :
    Calls Tryz.prog 26 #[.string a0] w fun e w' => ∃ v2_ v3_ : Value, e = .returned (.tuple #[.agg #[.string r1, .string r2, v2_, v3_], .int .i64 r5]) ∧ Kd.R (Kd.int .i64) 3 w' w.heap.size (fun _ => True) v2_ r3 ∧ Kd.R k24 24 w' w.heap.size (fun _ => True) v3_ r4 ∧ Below w.heap.size w w' := by
  have key : Calls Tryz.prog 26 #[.string a0] w fun e w' => Rd w w' e (r1, r2, r3, r4, r5) := by
    unfold link_Read.f readF at h
    split at h
    · rename_i ht
      obtain ⟨⟨N, e1⟩, hU, h⟩ := Option.bind_eq_some_iff.mp h
      simp only at h
      by_cases hc : hasB a0 ⟨#[109, 111, 115, 97, 105, 99, 58]⟩ = true ∧ e1 = 0
      · rw [if_pos hc] at h
        cases hC : cutC a0 with
        | false =>
          rw [hC, if_neg (by simp), Option.bind_some] at h
          simp only at h
          obtain ⟨⟨u, f⟩, hO, h⟩ := Option.bind_eq_some_iff.mp h
          refine read_one 6000 a0 _ _ N false _ e1 ht rfl rfl hC.symm rfl hU hc.1 hc.2 _ rfl u f _ rfl _ rfl _ rfl hO ⟨?_⟩ w hTab
          simp only at h
          constructor
          · intro hh; rw [if_pos hh] at h; exact (Option.some.inj h).symm
          · intro hh; rw [if_neg hh] at h; exact (Option.some.inj h).symm
        | true =>
          rw [hC, if_pos rfl] at h
          obtain ⟨O, hF, h⟩ := Option.bind_eq_some_iff.mp h
          refine read_many 6000 a0 _ _ N true _ e1 ht rfl rfl hC.symm rfl hU hc.1 hc.2 _ rfl _ rfl (Nat.le_trans (cutR_size a0) ht) O hF ⟨?_⟩ ⟨?_⟩ w hTab
          · rintro rfl
            exact (Option.some.inj h).symm
          · rintro ti ns ps rfl
            simp only at h
            obtain ⟨⟨u, f⟩, hO, h⟩ := Option.bind_eq_some_iff.mp h
            refine ⟨u, f, hO, ?_⟩
            simp only at h
            constructor
            · intro hh; rw [if_pos hh] at h; exact (Option.some.inj h).symm
            · intro hh; rw [if_neg hh] at h; exact (Option.some.inj h).symm
      · rw [if_neg hc] at h
        have hr := Option.some.inj h
        rw [← hr]
        cases hi : hasB a0 ⟨#[109, 111, 115, 97, 105, 99, 58]⟩ with
        | false => exact read_no0 6000 a0 _ _ N _ _ e1 ht rfl rfl rfl rfl hU hi w hTab
        | true => exact read_no1 6000 a0 _ _ N _ _ e1 ht rfl rfl rfl rfl hU hi (fun he => hc ⟨hi, he⟩) w hTab
    · cases h
  exact key
end Go.Proofs.YtmimnlbkllgfpaaGreatDoor.Hand
