-- mosaiclaw29.Ref: its printed text, turned: the nodes are a slice that is shared, not an own row.
import Derived.Test.YtdccglkmkahblaaDoorPx0
import Derived.Test.YtdccglkmkahblaaDoorPx2
namespace Go.Proofs.YtdccglkmkahblaaDoor.Rf
open Go.Proofs.YtdccglkmkahblaaDoor.P Go.RowKit Go.Proofs.YtdccglkmkahblaaDoor.Sq Go.Proofs.YtdccglkmkahblaaDoor.Hand Go.Proofs.YtdccglkmkahblaaDoorW.PrintWords Go.Proofs.YtdccglkmkahblaaDoorW.PrintLast Go.Proofs.YtdccglkmkahblaaDoorW.PrintMore
attribute [local go_sem] max2_int min2_int max_two min_two max_three min_three max_four min_four   -- for this text's walks alone
set_option linter.unusedVariables false
set_option linter.unusedSimpArgs false

/-! ### mosaiclaw29_Ref: function 13 -/
def mosaiclaw29_Ref.l0 : Nat → Int → ByteArray → ByteArray → List Int → List (S34) → ByteArray → ByteArray → List Int → List (S45) → Option (ByteArray × ByteArray × List Int × (List (S45)))
 | 0, _, _, _, _, _, _, _, _, _ => none
 | k + 1, x4, x181000, x181001, x181002, x181003, x183000, x183001, x183002, x183003 => if x4 < (x181003.length : Int) then (if 0 ≤ x4 then ((mosaiclaw17_Ref.f ((rd_T34 x181003 x4).f0) ((rd_T34 x181003 x4).f1)).bind fun bt184 => (if x183003.length < 8796093022208 then (mosaiclaw29_Ref.l0 k (wrap64 (x4 + 1)) x181000 x181001 x181002 x181003 x183000 x183001 x183002 (x183003 ++ [(⟨bt184.1, bt184.2⟩ : S45)])) else (none))) else (none)) else (some (x183000, x183001, x183002, x183003))
def mosaiclaw29_Ref.f (k : Nat) (a0_0 : ByteArray) (a0_1 : ByteArray) (l0_2 : List Int) (l0_3 : List (S34)) : Option (ByteArray × ByteArray × List Int × (List (S45))) := mosaiclaw29_Ref.l0 k 0 a0_0 a0_1 l0_2 l0_3 a0_0 a0_1 l0_2 ([] : List (S45))
def mosaiclaw29_Ref.T5 : Bool × List (List Nat × List Nat) := (true, [([], []), ([0], [0]), ([], []), ([2], [2]), ([], []), ([3, 4], [3, 4]), ([5], [5]), ([6], [6]), ([7], [7]), ([1, 8, 7], [1, 8]), ([0, 1, 2, 3, 4, 5, 6, 7, 8, 9], []), ([10, 9, 9, 0, 1, 2, 3, 4, 5, 6, 7, 8, 9], [9, 10])])
def mosaiclaw29_Ref.B5 : List Nat := [0, 1, 0, 4, 0, 28, 60, 124, 252, 511, 1023, 2047]
theorem mosaiclaw29_Ref.tab5 : rtab .any (opsOf Tryd.f13 5) = mosaiclaw29_Ref.T5 := by kernel_rfl
theorem mosaiclaw29_Ref.bits5 : waitsOk mosaiclaw29_Ref.T5.2 mosaiclaw29_Ref.B5 = true := by kernel_rfl
set_option maxHeartbeats 8000000 in
set_option maxRecDepth 100000 in
theorem mosaiclaw29_Ref.calls (k : Nat) (a0_0 : ByteArray) (a0_1 : ByteArray) (P0_2_ : Nat → Prop) (Ao2 : Option Addr) (co2 : Nat) (l0_2 : List Int) (A0_3 : Option Addr) (c0_3 : Nat) (l0_3 : List (S34)) (r1 : ByteArray) (r2 : ByteArray) (r3 : List Int) (r4 : List (S45)) (w0 w : World) (hB : Below w0.heap.size w0 w) (ho0_2 : Kd.R (Kd.int .i64) 3 w w0.heap.size P0_2_ (.slice none 0 0) ([] : List Int)) (hr0_3 : ∀ W_, Kept w W_ (fun k_ => P0_2_ k_) → Kd.C k34 W_ A0_3 l0_3.length l0_3) (hc0_3 : l0_3.length ≤ c0_3) (h : mosaiclaw29_Ref.f k a0_0 a0_1 l0_2 l0_3 = some (r1, r2, r3, r4)) :
  Calls Tryd.prog 13 #[.agg #[.string a0_0, .string a0_1, .slice Ao2 l0_2.length co2, .slice A0_3 l0_3.length c0_3]] w fun e w' => ∃ v2_ v3_ : Value, e = .returned (.agg #[.string r1, .string r2, .slice Ao2 r3.length co2, v3_]) ∧ Kd.R (Kd.int .i64) 3 w' w0.heap.size (fun k_ => (P0_2_ k_ ∨ w.heap.size ≤ k_)) v2_ ([] : List Int) ∧ Kd.R k45 45 w' w0.heap.size (fun k_ => (P0_2_ k_ ∨ w.heap.size ≤ k_)) v3_ r4 ∧ Below w0.heap.size w0 w' ∧ Kept w w' (fun k_ => P0_2_ k_) := by
 have hu25 := Tryd.underlying25
 have hu39 := Tryd.underlying39
 have hu34 := Tryd.underlying34
 have info45 : (Tryd.prog.info? 45).map (fun i => (i.zero, i.size, i.bytes)) = some (some (.agg #[(.int .i64 0), (.int .i64 0)]), k45.sz, 16) := by kernel_rfl
 have HO0_2 := Aside0.mk (show Kd.R (Kd.int .i64) 3 w w0.heap.size (fun k_ => (P0_2_ k_ ∨ w.heap.size ≤ k_)) (.slice none 0 0) ([] : List Int) from Kd.R_mono ho0_2 (fun k_ hk => (.inl hk)))
 have HR0_3 := Aside0.mk hr0_3
 have HC0_3 := Aside0.mk hc0_3
 clear hr0_3 hc0_3
 have HK := Aside0.mk (Kept.refl w (fun k_ => P0_2_ k_))
 have HW0 := Aside0.mk hB.size
 have HB := Aside0.mk hB
 clear hB
 have H : (mosaiclaw29_Ref.l0 k 0 a0_0 a0_1 l0_2 l0_3 a0_0 a0_1 l0_2 ([] : List (S45))) = some (r1, r2, r3, r4) := h
 clear h
 have H' := Aside0.mk H
 clear H
 go_enter Tryd.func13, Tryd.ntmps13
 go_wp2_with (first | ((with_reducible refine gate_dst (N := 1) rfl ?_); refine box_event ?hg (N := 1) ?hd (cs := #[.string a0_0, .string a0_1, .slice Ao2 l0_2.length co2, .slice A0_3 l0_3.length c0_3]) (t := 25) ?hr ?_; (case hd => rfl); (case hg => rfl); (case hr => first | (go_simp; done) | (go_simp; rfl)); intro gb180 hg w3 hbox hb; have n0_ := Aside0.mk (Kd.R_below (by (with_reducible repeat (first | apply Kd.R_alloc | apply Kd.R_drewN | apply Kd.R_drew)); exact HO0_2.out) hb); have n1_ := Aside0.mk (Kept.below (S := (fun k_ => P0_2_ k_)) (by repeat (first | (with_reducible first | exact HK.out | apply Kept.alloc | apply Kept.drewN | apply Kept.drew) | exact HK.out)) hb); have n2_ := Aside0.mk (below_step (by repeat (first | (with_reducible first | exact HB.out | apply below_alloc | apply pw_below_drewN | apply below_drew1) | exact HB.out)) hb); have n3_ := Aside0.mk (hbox); have n4_ := Aside0.mk ((by rw [hg]; exact (by first | exact HK.out.1 | exact (show Kept w _ (fun k_ => P0_2_ k_) from by repeat (first | (with_reducible first | exact HK.out | apply Kept.alloc | apply Kept.drewN | apply Kept.drew) | exact HK.out)).1) : w.heap.size ≤ gb180)); have n5_ := Aside0.mk ((by rw [hg]; exact (below_size (by repeat (first | (with_reducible first | exact HB.out | apply below_alloc | apply pw_below_drewN | apply below_drew1) | exact HB.out))) : w0.heap.size ≤ gb180)); clear HO0_2; clear HK; clear HB; have HO0_2 := n0_; have HK := n1_; have HB := n2_; have BK180 := n3_; have GW180 := n4_; have GE180 := n5_; clear n0_ n1_ n2_ n3_ n4_ n5_; clear hb hbox hg) | ((with_reducible refine gate_dst (N := 2) rfl ?_); refine box_event ?hg (N := 2) ?hd (cs := #[.string (⟨#[]⟩ : ByteArray), .string (⟨#[]⟩ : ByteArray), .slice none 0 0, .slice none 0 0]) (t := 39) ?hr ?_; (case hd => rfl); (case hg => rfl); (case hr => first | (go_simp; done) | (go_simp; rfl)); intro gb181 hg w4 hbox hb; have n0_ := Aside0.mk (Kd.R_below (by (with_reducible repeat (first | apply Kd.R_alloc | apply Kd.R_drewN | apply Kd.R_drew)); exact HO0_2.out) hb); have n1_ := bB BK180 hb; have n2_ := Aside0.mk (Kept.below (S := (fun k_ => P0_2_ k_)) (by repeat (first | (with_reducible first | exact HK.out | apply Kept.alloc | apply Kept.drewN | apply Kept.drew | refine Kept.setCell ?_ (.inr GW180.out) _) | exact HK.out)) hb); have n3_ := Aside0.mk (below_step (by repeat (first | (with_reducible first | exact HB.out | apply below_alloc | apply pw_below_drewN | apply below_drew1 | refine below_set ?_ GE180.out) | exact HB.out)) hb); have n4_ := Aside0.mk (hbox); have n5_ := Aside0.mk ((by rw [hg]; exact (by first | exact HK.out.1 | exact (show Kept w _ (fun k_ => P0_2_ k_) from by repeat (first | (with_reducible first | exact HK.out | apply Kept.alloc | apply Kept.drewN | apply Kept.drew | refine Kept.setCell ?_ (.inr GW180.out) _) | exact HK.out)).1) : w.heap.size ≤ gb181)); have n6_ := Aside0.mk ((by rw [hg]; exact (below_size (by repeat (first | (with_reducible first | exact HB.out | apply below_alloc | apply pw_below_drewN | apply below_drew1 | refine below_set ?_ GE180.out) | exact HB.out))) : w0.heap.size ≤ gb181)); have n7_ := bNl BK180 hg; have n8_ := bNg BK180 hg; clear HO0_2; clear BK180; clear HK; clear HB; have HO0_2 := n0_; have BK180 := n1_; have HK := n2_; have HB := n3_; have BK181 := n4_; have GW181 := n5_; have GE181 := n6_; have NB180_181 := n7_; have NB181_180 := n8_; clear n0_ n1_ n2_ n3_ n4_ n5_ n6_ n7_ n8_; clear hb hbox hg; have hnb5 := NB180_181.out; have hnc5 := NB181_180.out; have hcz6_0 : w4.cell? ⟨gb180, 0, none⟩ = some (.string a0_0) := (blk_cell BK180.out 0).trans rfl; have hcz6_1 : w4.cell? ⟨gb180, 1, none⟩ = some (.string a0_1) := (blk_cell BK180.out 1).trans rfl; have hcz6_2 : w4.cell? ⟨gb180, 2, none⟩ = some (.slice Ao2 l0_2.length co2) := (blk_cell BK180.out 2).trans rfl; have hcz6_3 : w4.cell? ⟨gb180, 3, none⟩ = some (.slice A0_3 l0_3.length c0_3) := (blk_cell BK180.out 3).trans rfl; have hfz6_0 := blk_frozen BK180.out 0; have hfz6_1 := blk_frozen BK180.out 1; have hfz6_2 := blk_frozen BK180.out 2; have hfz6_3 := blk_frozen BK180.out 3) | ((with_reducible refine gate_dst (N := 3) rfl ?_); refine box_event ?hg (N := 3) ?hd (cs := #[.string (⟨#[]⟩ : ByteArray), .string (⟨#[]⟩ : ByteArray), .slice none 0 0, .slice none 0 0]) (t := 39) ?hr ?_; (case hd => rfl); (case hg => rfl); (case hr => first | (go_simp; done) | (go_simp; rfl)); intro gb182 hg w7 hbox hb; have n0_ := Aside0.mk (Kd.R_below (by (with_reducible repeat (first | apply Kd.R_alloc | apply Kd.R_drewN | apply Kd.R_drew)); exact HO0_2.out) hb); have n1_ := bB BK180 hb; have n2_ := bB BK181 hb; have n3_ := Aside0.mk (Kept.below (S := (fun k_ => P0_2_ k_)) (by repeat (first | (with_reducible first | exact HK.out | apply Kept.alloc | apply Kept.drewN | apply Kept.drew | refine Kept.setCell ?_ (.inr GW180.out) _ | refine Kept.setCell ?_ (.inr GW181.out) _) | exact HK.out)) hb); have n4_ := Aside0.mk (below_step (by repeat (first | (with_reducible first | exact HB.out | apply below_alloc | apply pw_below_drewN | apply below_drew1 | refine below_set ?_ GE180.out | refine below_set ?_ GE181.out) | exact HB.out)) hb); have n5_ := Aside0.mk (hbox); have n6_ := Aside0.mk ((by rw [hg]; exact (by first | exact HK.out.1 | exact (show Kept w _ (fun k_ => P0_2_ k_) from by repeat (first | (with_reducible first | exact HK.out | apply Kept.alloc | apply Kept.drewN | apply Kept.drew | refine Kept.setCell ?_ (.inr GW180.out) _ | refine Kept.setCell ?_ (.inr GW181.out) _) | exact HK.out)).1) : w.heap.size ≤ gb182)); have n7_ := Aside0.mk ((by rw [hg]; exact (below_size (by repeat (first | (with_reducible first | exact HB.out | apply below_alloc | apply pw_below_drewN | apply below_drew1 | refine below_set ?_ GE180.out | refine below_set ?_ GE181.out) | exact HB.out))) : w0.heap.size ≤ gb182)); have n8_ := bNl BK180 hg; have n9_ := bNg BK180 hg; have n10_ := bNl BK181 hg; have n11_ := bNg BK181 hg; clear HO0_2; clear BK180; clear BK181; clear HK; clear HB; have HO0_2 := n0_; have BK180 := n1_; have BK181 := n2_; have HK := n3_; have HB := n4_; have BK182 := n5_; have GW182 := n6_; have GE182 := n7_; have NB180_182 := n8_; have NB182_180 := n9_; have NB181_182 := n10_; have NB182_181 := n11_; clear n0_ n1_ n2_ n3_ n4_ n5_ n6_ n7_ n8_ n9_ n10_ n11_; clear hb hbox hg; have hnb8 := NB182_180.out; have hnc8 := NB180_182.out; have hnb9 := NB182_181.out; have hnc9 := NB181_182.out; have hcz10_0 : w7.cell? ⟨gb182, 0, none⟩ = some (.string (⟨#[]⟩ : ByteArray)) := (blk_cell BK182.out 0).trans rfl; have hcz10_1 : w7.cell? ⟨gb182, 1, none⟩ = some (.string (⟨#[]⟩ : ByteArray)) := (blk_cell BK182.out 1).trans rfl; have hcz10_2 : w7.cell? ⟨gb182, 2, none⟩ = some (.slice none 0 0) := (blk_cell BK182.out 2).trans rfl; have hcz10_3 : w7.cell? ⟨gb182, 3, none⟩ = some (.slice none 0 0) := (blk_cell BK182.out 3).trans rfl; have hfz10_0 := blk_frozen BK182.out 0; have hfz10_1 := blk_frozen BK182.out 1; have hfz10_2 := blk_frozen BK182.out 2; have hfz10_3 := blk_frozen BK182.out 3))
 go_loopg [4] k (fun kq v4 w' => ∃ (x4_1 : Int) (x183003_1 : List (S45)) (u183003 : Value), v4 = .int .i64 x4_1 ∧ Aside0 (mosaiclaw29_Ref.l0 kq x4_1 a0_0 a0_1 l0_2 l0_3 a0_0 a0_1 l0_2 x183003_1 = some (r1, r2, r3, r4)) ∧ Aside0 (kq ≤ k) ∧ Aside0 (Kd.R (Kd.int .i64) 3 w' w0.heap.size (fun k_ => (P0_2_ k_ ∨ w.heap.size ≤ k_)) (.slice none 0 0) ([] : List Int)) ∧ Aside0 (Kd.R (Kd.int .i64) 3 w' w0.heap.size (fun k_ => (P0_2_ k_ ∨ w.heap.size ≤ k_)) (.slice none 0 0) ([] : List Int)) ∧ Aside0 (Kd.R k45 45 w' w0.heap.size (fun k_ => (P0_2_ k_ ∨ w.heap.size ≤ k_)) u183003 x183003_1) ∧ Aside0 (w'.heap[gb180]? = some (.cells #[.string a0_0, .string a0_1, (.slice Ao2 l0_2.length co2), (.slice A0_3 l0_3.length c0_3)] 25 (0, 0))) ∧ Aside0 (w'.heap[gb181]? = some (.cells #[.string (⟨#[]⟩ : ByteArray), .string (⟨#[]⟩ : ByteArray), (.slice none 0 0), (.slice none 0 0)] 39 (0, 0))) ∧ Aside0 (w'.heap[gb182]? = some (.cells #[.string a0_0, .string a0_1, (.slice Ao2 l0_2.length co2), u183003] 39 (0, 0))) ∧ Aside0 (Kept w w' (fun k_ => P0_2_ k_)) ∧ Aside0 (Below w0.heap.size w0 w'))
 case atStart => exact ⟨(0), (([] : List (S45))), (.slice none 0 0), (by first | rfl | (simp; done) | (simp [*]; done)), H', ⟨Nat.le_refl _⟩, ⟨by (with_reducible repeat (first | apply Kd.R_alloc | apply Kd.R_drewN | apply Kd.R_drew)); exact Kd.R_mono (Kd.R_far (p := ⟨gb182, 3, none⟩) (Kd.R_far (p := ⟨gb182, 2, none⟩) (Kd.R_far (p := ⟨gb182, 1, none⟩) (Kd.R_far (p := ⟨gb182, 0, none⟩) (Kd.R_types HO0_2.out BK182.out (by decide)) (fun _ hk => hk.2) (.string a0_0)) (fun _ hk => hk.2) (.string a0_1)) (fun _ hk => hk.2) (.slice Ao2 l0_2.length co2)) (fun _ hk => hk.2) (.slice none 0 0)) (fun _ hk => hk.1)⟩, ⟨by (with_reducible repeat (first | apply Kd.R_alloc | apply Kd.R_drewN | apply Kd.R_drew)); exact Kd.R_mono (Kd.R_far (p := ⟨gb182, 3, none⟩) (Kd.R_far (p := ⟨gb182, 2, none⟩) (Kd.R_far (p := ⟨gb182, 1, none⟩) (Kd.R_far (p := ⟨gb182, 0, none⟩) (Kd.R_types HO0_2.out BK182.out (by decide)) (fun _ hk => hk.2) (.string a0_0)) (fun _ hk => hk.2) (.string a0_1)) (fun _ hk => hk.2) (.slice Ao2 l0_2.length co2)) (fun _ hk => hk.2) (.slice none 0 0)) (fun _ hk => hk.1)⟩, ⟨by first | exact Kd.R_nil _ _ _ _ _ | exact Kd.N_nil _ _ _ _ _ | exact Kd.V_nil _ _ _ _ _ | exact Kd.Q_nil _ _ _ _ _ | exact Kd.S_nil _ _ _ _ _⟩, ⟨by (with_reducible repeat (first | refine blk_drewN ?_ _ | refine blk_drew ?_ | refine blk_alloc ?_ _)); refine blk_far ?_ NB180_182.out _; (with_reducible repeat (first | refine blk_drewN ?_ _ | refine blk_drew ?_ | refine blk_alloc ?_ _)); refine blk_far ?_ NB180_182.out _; (with_reducible repeat (first | refine blk_drewN ?_ _ | refine blk_drew ?_ | refine blk_alloc ?_ _)); refine blk_far ?_ NB180_182.out _; (with_reducible repeat (first | refine blk_drewN ?_ _ | refine blk_drew ?_ | refine blk_alloc ?_ _)); refine blk_far ?_ NB180_182.out _; (with_reducible repeat (first | refine blk_drewN ?_ _ | refine blk_drew ?_ | refine blk_alloc ?_ _)); exact BK180.out⟩, ⟨by (with_reducible repeat (first | refine blk_drewN ?_ _ | refine blk_drew ?_ | refine blk_alloc ?_ _)); refine blk_far ?_ NB181_182.out _; (with_reducible repeat (first | refine blk_drewN ?_ _ | refine blk_drew ?_ | refine blk_alloc ?_ _)); refine blk_far ?_ NB181_182.out _; (with_reducible repeat (first | refine blk_drewN ?_ _ | refine blk_drew ?_ | refine blk_alloc ?_ _)); refine blk_far ?_ NB181_182.out _; (with_reducible repeat (first | refine blk_drewN ?_ _ | refine blk_drew ?_ | refine blk_alloc ?_ _)); refine blk_far ?_ NB181_182.out _; (with_reducible repeat (first | refine blk_drewN ?_ _ | refine blk_drew ?_ | refine blk_alloc ?_ _)); exact BK181.out⟩, ⟨by (with_reducible repeat (first | refine blk_drewN ?_ _ | refine blk_drew ?_ | refine blk_alloc ?_ _)); refine blk_put (cs := #[.string a0_0, .string a0_1, .slice Ao2 l0_2.length co2, .slice none 0 0]) ?_ 3 _ rfl; (with_reducible repeat (first | refine blk_drewN ?_ _ | refine blk_drew ?_ | refine blk_alloc ?_ _)); refine blk_put (cs := #[.string a0_0, .string a0_1, .slice none 0 0, .slice none 0 0]) ?_ 2 _ rfl; (with_reducible repeat (first | refine blk_drewN ?_ _ | refine blk_drew ?_ | refine blk_alloc ?_ _)); refine blk_put (cs := #[.string a0_0, .string (⟨#[]⟩ : ByteArray), .slice none 0 0, .slice none 0 0]) ?_ 1 _ rfl; (with_reducible repeat (first | refine blk_drewN ?_ _ | refine blk_drew ?_ | refine blk_alloc ?_ _)); refine blk_put (cs := #[.string (⟨#[]⟩ : ByteArray), .string (⟨#[]⟩ : ByteArray), .slice none 0 0, .slice none 0 0]) ?_ 0 _ rfl; (with_reducible repeat (first | refine blk_drewN ?_ _ | refine blk_drew ?_ | refine blk_alloc ?_ _)); exact BK182.out⟩, ⟨by repeat (first | (with_reducible first | exact HK.out | apply Kept.alloc | apply Kept.drewN | apply Kept.drew | refine Kept.setCell ?_ (.inr GW180.out) _ | refine Kept.setCell ?_ (.inr GW181.out) _ | refine Kept.setCell ?_ (.inr GW182.out) _) | exact HK.out)⟩, ⟨by repeat (first | (with_reducible first | exact HB.out | apply below_alloc | apply pw_below_drewN | apply below_drew1 | refine below_set ?_ GE180.out | refine below_set ?_ GE181.out | refine below_set ?_ GE182.out) | exact HB.out)⟩⟩
 case round =>
  clear H'
  try clear c1
  try clear p2
  try clear c5
  try clear c8
  try clear c9
  try clear hcz10_0
  try clear hcz10_1
  try clear hcz10_2
  try clear hcz10_3
  try clear hcz6_0
  try clear hcz6_1
  try clear hcz6_2
  try clear hcz6_3
  try clear hfz10_0
  try clear hfz10_1
  try clear hfz10_2
  try clear hfz10_3
  try clear hfz6_0
  try clear hfz6_1
  try clear hfz6_2
  try clear hfz6_3
  obtain ⟨x4_1, x183003_1, u183003, rfl, HA, HK1, HO_181002, HO_183002, HO_183003, BK180, BK181, BK182, HK, HB⟩ := hrel
  cases gk with
  | zero => exact absurd HA.out (by simp [mosaiclaw29_Ref.l0])
  | succ k1 =>
   have H := HA.out
   clear HA
   simp only [mosaiclaw29_Ref.l0] at H
   by_cases c11 : x4_1 < (l0_3.length : Int)
   ·
    rw [if_pos c11] at H
    have c11b0 : decide (x4_1 < (l0_3.length : Int)) = true := decide_eq_true c11
    clear c11
    by_cases c12 : 0 ≤ x4_1
    rotate_left; · rw [if_neg c12] at H; exact absurd H (by simp)
    rw [if_pos c12] at H
    have c12b0 : decide (0 ≤ x4_1) = true := decide_eq_true c12
    clear c12
    replace H := Option.bind_eq_some_iff.mp H
    obtain ⟨⟨t184, t185⟩, A130, H⟩ := H
    replace H : (if x183003_1.length < 8796093022208 then (mosaiclaw29_Ref.l0 k1 (wrap64 (x4_1 + 1)) a0_0 a0_1 l0_2 l0_3 a0_0 a0_1 l0_2 (x183003_1 ++ [(⟨t184, t185⟩ : S45)])) else (none)) = some (r1, r2, r3, r4) := H
    have A13 := Aside0.mk A130
    clear A130
    by_cases c14 : x183003_1.length < 8796093022208
    rotate_left; · rw [if_neg c14] at H; exact absurd H (by simp)
    rw [if_pos c14] at H
    have LMc14 := Aside0.mk c14
    clear c14
    obtain ⟨y186, hy186⟩ : ∃ y_ : List (S45), y_ = (x183003_1 ++ [(⟨t184, t185⟩ : S45)]) := ⟨_, rfl⟩
    replace H : (mosaiclaw29_Ref.l0 k1 (wrap64 (x4_1 + 1)) a0_0 a0_1 l0_2 l0_3 a0_0 a0_1 l0_2 y186) = some (r1, r2, r3, r4) := by first | (rw [hy186]; with_reducible exact H) | (have H2_ := (Option.bind_some _ _).symm.trans H; rw [hy186]; with_reducible exact H2_) | (have H2_ := (Option.bind_some _ _).symm.trans H; with_reducible exact H2_) | with_reducible exact H | (rw [hy186]; exact H) | exact H
    have Ny186 := Aside0.mk hy186
    clear hy186
    have H' := Aside0.mk H
    clear H
    have hnb15 := NB180_181.out
    have hnc15 := NB181_180.out
    have hnb16 := NB180_182.out
    have hnc16 := NB182_180.out
    have hcz17_0 : wr.cell? ⟨gb180, 0, none⟩ = some (.string a0_0) := (blk_cell BK180.out 0).trans rfl
    have hcz17_1 : wr.cell? ⟨gb180, 1, none⟩ = some (.string a0_1) := (blk_cell BK180.out 1).trans rfl
    have hcz17_2 : wr.cell? ⟨gb180, 2, none⟩ = some (.slice Ao2 l0_2.length co2) := (blk_cell BK180.out 2).trans rfl
    have hcz17_3 : wr.cell? ⟨gb180, 3, none⟩ = some (.slice A0_3 l0_3.length c0_3) := (blk_cell BK180.out 3).trans rfl
    have hfz17_0 := blk_frozen BK180.out 0
    have hfz17_1 := blk_frozen BK180.out 1
    have hfz17_2 := blk_frozen BK180.out 2
    have hfz17_3 := blk_frozen BK180.out 3
    try go_wp2
    have n0_ := Aside0.mk (Kd.R_drew HO_181002.out)
    have n1_ := Aside0.mk (Kd.R_drew HO_183002.out)
    have n2_ := Aside0.mk (Kd.R_drew HO_183003.out)
    have n3_ := Aside0.mk (blk_drew BK180.out)
    have n4_ := Aside0.mk (blk_drew BK181.out)
    have n5_ := Aside0.mk (blk_drew BK182.out)
    have n6_ := Aside0.mk (Kept.drew HK.out)
    have n7_ := Aside0.mk (below_drew1 HB.out)
    clear HO_181002
    clear HO_183002
    clear HO_183003
    clear BK180
    clear BK181
    clear BK182
    clear HK
    clear HB
    have HO_181002 := n0_
    have HO_183002 := n1_
    have HO_183003 := n2_
    have BK180 := n3_
    have BK181 := n4_
    have BK182 := n5_
    have HK := n6_
    have HB := n7_
    clear n0_ n1_ n2_ n3_ n4_ n5_ n6_ n7_
    have p183 : 0 ≤ (x4_1 : Int) := of_decide_eq_true (by first | (with_reducible assumption) | assumption)
    have q183 : x4_1 < (l0_3.length : Int) := of_decide_eq_true (by first | (with_reducible assumption) | assumption)
    obtain ⟨ad183, e183, hx183_0, hx183_1⟩ := at_T34 (Kd.C_kept_now HR0_3.out HK.out) x4_1 p183 q183
    have hw183_1 := hx183_1
    have hw183_0 := hx183_0
    cases e183
    replace p183 := eq_true p183
    replace q183 := eq_true q183
    refine start_ (n := 12) (S := fun w' => w'.cell? ⟨gb182, 0, none⟩ = some (.string a0_0) ∧ w'.cell? ⟨gb182, 1, none⟩ = some (.string a0_1) ∧ w'.cell? ⟨gb182, 2, none⟩ = some (.slice Ao2 l0_2.length co2) ∧ w'.cell? ⟨gb182, 3, none⟩ = some (u183003) ∧ w'.cell? ⟨gb180, 0, none⟩ = some (.string a0_0) ∧ w'.cell? ⟨gb180, 1, none⟩ = some (.string a0_1) ∧ w'.cell? ⟨gb180, 2, none⟩ = some (.slice Ao2 l0_2.length co2) ∧ w'.cell? ⟨gb180, 3, none⟩ = some (.slice (some ad183) l0_3.length c0_3) ∧ w'.cell? (ad183.add ((x4_1).toNat * 2)) = some (.int .i64 ((rd_T34 l0_3 x4_1).f0)) ∧ w'.cell? ⟨(ad183.add ((x4_1).toNat * 2)).block, (ad183.add ((x4_1).toNat * 2)).off + 1, none⟩ = some (.int .i64 ((rd_T34 l0_3 x4_1).f1))) (ds := [9, 11]) (fB 12 0) (by kernel_rfl) rfl rfl ⟨(blk_cell BK182.out 0).trans rfl, (blk_cell BK182.out 1).trans rfl, (blk_cell BK182.out 2).trans rfl, (blk_cell BK182.out 3).trans rfl, (blk_cell BK180.out 0).trans rfl, (blk_cell BK180.out 1).trans rfl, (blk_cell BK180.out 2).trans rfl, (blk_cell BK180.out 3).trans rfl, hx183_0, hx183_1⟩ (fun hHeld => ?_); refine with_tabW mosaiclaw29_Ref.tab5 mosaiclaw29_Ref.bits5 (fun HT_ HW_ => ?_)
    generalize wr.drew = w18 at HO_181002 HO_183002 HO_183003 BK180 BK181 BK182 HK HB hx183_0 hx183_1 hHeld ⊢
    refine pure_ (i := 0) (N := some 19) (v := ?_) (a' := ?_) (fB 12 1) rfl rfl (any_of HT_.out (by kernel_rfl)) (fun _ _ _ h => h) (Or.inl ⟨by rfl, ?_⟩) ?_ ?_
    rotate_left; · intro w'; go_simp; with_reducible rfl
    rotate_left; · simp only [Act.put, sA, sB, sC, i64_w, i32_w, sD]; rfl
    refine pure_ (i := 2) (N := some 21) (v := ?_) (a' := ?_) (fB 12 5) rfl rfl (any_of HT_.out (by kernel_rfl)) (fun _ _ _ h => h) (Or.inl ⟨by rfl, ?_⟩) ?_ ?_
    rotate_left; · intro w'; go_simp; with_reducible rfl
    rotate_left; · simp only [Act.put, sA, sB, sC, i64_w, i32_w, sD]; rfl
    refine pure_ (i := 4) (N := some 23) (v := ?_) (a' := ?_) (fB 12 21) rfl rfl (any_of HT_.out (by kernel_rfl)) (fun _ _ _ h => h) (Or.inl ⟨by rfl, ?_⟩) ?_ ?_
    rotate_left; · intro w'; go_simp; with_reducible rfl
    rotate_left; · simp only [Act.put, sA, sB, sC, i64_w, i32_w, sD]; rfl
    refine take_ (i := 1) (N := some 20) (v := ?_) (a' := ?_) (fB 12 23) rfl rfl (take_ofW HT_.out HW_.out (by kernel_rfl)) (fun _ _ _ h => h) (Or.inl ⟨by rfl, ?_⟩) hHeld ?_ ?_
    rotate_left; · rintro w' ⟨s0, s1, s2, s3, s4, s5, s6, s7, s8, s9⟩; go_simp; with_reducible rfl
    rotate_left; · simp only [Act.put, sA, sB, sC, i64_w, i32_w, sD]; rfl
    refine take_ (i := 3) (N := some 22) (v := ?_) (a' := ?_) (fB 12 31) rfl rfl (take_ofW HT_.out HW_.out (by kernel_rfl)) (fun _ _ _ h => h) (Or.inl ⟨by rfl, ?_⟩) hHeld ?_ ?_
    rotate_left; · rintro w' ⟨s0, s1, s2, s3, s4, s5, s6, s7, s8, s9⟩; go_simp; with_reducible rfl
    rotate_left; · simp only [Act.put, sA, sB, sC, i64_w, i32_w, sD]; rfl
    refine pure_ (i := 5) (N := some 24) (v := ?_) (a' := ?_) (fB 12 63) rfl rfl (any_of HT_.out (by kernel_rfl)) (fun _ _ _ h => h) (Or.inl ⟨by rfl, ?_⟩) ?_ ?_
    rotate_left; · intro w'; go_simp; with_reducible rfl
    rotate_left; · simp only [Act.put, sA, sB, sC, i64_w, i32_w, sD]; rfl
    refine take_ (i := 6) (N := some 25) (v := ?_) (a' := ?_) (fB 12 127) rfl rfl (take_ofW HT_.out HW_.out (by kernel_rfl)) (fun _ _ _ h => h) (Or.inl ⟨by rfl, ?_⟩) hHeld ?_ ?_
    rotate_left; · rintro w' ⟨s0, s1, s2, s3, s4, s5, s6, s7, s8, s9⟩; go_simp; with_reducible rfl
    rotate_left; · simp only [Act.put, sA, sB, sC, i64_w, i32_w, sD]; rfl
    refine one_ (i := 7) (N := some 26) (fB 12 255) rfl rfl (one_of HT_.out (by kernel_rfl)) (by decide) (fun K hK => ?_)
    refine goes_ Tryd.func16 (by kernel_rfl) rfl #[.agg #[.int .i64 ((rd_T34 l0_3 x4_1).f0), .int .i64 ((rd_T34 l0_3 x4_1).f1)]] (by rfl) rfl rfl (by (try simp only [List.map_toArray, List.map_cons, List.map_nil]); first | done | rfl | (simp only [List.length_drop, List.length_take]; rfl)) ?_
    with_reducible refine (mosaiclaw17_Ref.calls ((rd_T34 l0_3 x4_1).f0) ((rd_T34 l0_3 x4_1).f1) t184 t185 _ A13.out).mono ?_
    rintro e w19 ⟨rfl, hb⟩
    have HS8_ := (hb.cell (World.block_lt_of_cell? _ _ (hHeld.2.2.2.2.2.2.2.2.1))).trans (hHeld.2.2.2.2.2.2.2.2.1)
    have HS9_ := (hb.cell (World.block_lt_of_cell? _ _ (hHeld.2.2.2.2.2.2.2.2.2))).trans (hHeld.2.2.2.2.2.2.2.2.2)
    refine ⟨_, rfl, ?_⟩
    have n0_ := Aside0.mk (Kd.R_below (by (with_reducible repeat (first | apply Kd.R_alloc | apply Kd.R_drewN | apply Kd.R_drew)); exact HO_181002.out) hb)
    have n1_ := Aside0.mk (Kd.R_below (by (with_reducible repeat (first | apply Kd.R_alloc | apply Kd.R_drewN | apply Kd.R_drew)); exact HO_183002.out) hb)
    have n2_ := Aside0.mk (Kd.R_below (by (with_reducible repeat (first | apply Kd.R_alloc | apply Kd.R_drewN | apply Kd.R_drew)); exact HO_183003.out) hb)
    have n3_ := bB BK180 hb
    have n4_ := bB BK181 hb
    have n5_ := bB BK182 hb
    have n6_ := Aside0.mk (Kept.below (S := (fun k_ => P0_2_ k_)) (by repeat (first | (with_reducible first | exact HK.out | apply Kept.alloc | apply Kept.drewN | apply Kept.drew | refine Kept.setCell ?_ (.inr GW180.out) _ | refine Kept.setCell ?_ (.inr GW181.out) _ | refine Kept.setCell ?_ (.inr GW182.out) _) | exact HK.out)) hb)
    have n7_ := hS HB hb
    clear HO_181002
    clear HO_183002
    clear HO_183003
    clear BK180
    clear BK181
    clear BK182
    clear HK
    clear HB
    have HO_181002 := n0_
    have HO_183002 := n1_
    have HO_183003 := n2_
    have BK180 := n3_
    have BK181 := n4_
    have BK182 := n5_
    have HK := n6_
    have HB := n7_
    clear n0_ n1_ n2_ n3_ n4_ n5_ n6_ n7_
    (try clear hb); (try clear hb2); (try clear hk); (try clear hi)
    refine hK.out _ _ ⟨(blk_cell BK182.out 0).trans rfl, (blk_cell BK182.out 1).trans rfl, (blk_cell BK182.out 2).trans rfl, (blk_cell BK182.out 3).trans rfl, (blk_cell BK180.out 0).trans rfl, (blk_cell BK180.out 1).trans rfl, (blk_cell BK180.out 2).trans rfl, (blk_cell BK180.out 3).trans rfl, HS8_, HS9_⟩ (fun hHeld => ?_)
    clear hK K
    refine norm_ (a' := ?_) ?_ ?_
    rotate_left; · show Act.put _ (some 26) _ = _; simp only [Act.put, sA, sB, sC, i64_w, i32_w, sD]; rfl
    refine one_ (i := 8) (N := some 27) (fB 12 511) rfl rfl (one_of HT_.out (by kernel_rfl)) (by decide) (fun K hK => ?_)
    refine value_ (w1 := ?_) (v := ?_) (by rfl) rfl ?_ ?_
    rotate_left 2
    ·
     go_simp
     constructor
     ·
      rfl
     ·
      rfl
    refine hK.out _ _ ⟨(blk_cell (blk_alloc BK182.out _) 0).trans rfl, (blk_cell (blk_alloc BK182.out _) 1).trans rfl, (blk_cell (blk_alloc BK182.out _) 2).trans rfl, (blk_cell (blk_alloc BK182.out _) 3).trans rfl, (blk_cell (blk_alloc BK180.out _) 0).trans rfl, (blk_cell (blk_alloc BK180.out _) 1).trans rfl, (blk_cell (blk_alloc BK180.out _) 2).trans rfl, (blk_cell (blk_alloc BK180.out _) 3).trans rfl, (World.cell?_alloc_lt _ _ _ (World.block_lt_of_cell? _ _ (hHeld.2.2.2.2.2.2.2.2.1))).trans (hHeld.2.2.2.2.2.2.2.2.1), (World.cell?_alloc_lt _ _ _ (World.block_lt_of_cell? _ _ (hHeld.2.2.2.2.2.2.2.2.2))).trans (hHeld.2.2.2.2.2.2.2.2.2)⟩ (fun hHeld => ?_)
    clear hK K
    refine norm_ (a' := ?_) ?_ ?_
    rotate_left; · show Act.put _ (some 27) _ = _; simp only [Act.put, sA, sB, sC, i64_w, i32_w, sD]; rfl
    refine last_ (i := 9) (N := some 28) (fB 12 1023) rfl rfl (one_of HT_.out (by kernel_rfl)) (by decide) (fun K hK => ?_)
    refine Kd.R_append_step k45 (w0 := w0) w0.heap.size (by rfl) (.tmp 20) (.tmp 27) 37 45 (.agg #[(.int .i64 0), (.int .i64 0)]) 16 rfl Tryd.underlying37 info45 rfl (by decide) (by omega) u183003 x183003_1 (⟨t184, t185⟩ : S45) [.int .i64 t184, .int .i64 t185] (fun k_ => (P0_2_ k_ ∨ w.heap.size ≤ k_)) (fun _ => False) rfl rfl ?aP (fun _ hk => hk.elim) ?aF ?aO ?aB ?aS ?aL ?_
    (case aP => exact k45_mkM _ _ _ (⟨t184, t185⟩ : S45))
    (case aB => exact (by repeat (first | (with_reducible first | exact HB.out | apply below_alloc | apply pw_below_drewN | apply below_drew1 | refine below_set ?_ GE180.out | refine below_set ?_ GE181.out | refine below_set ?_ GE182.out) | exact HB.out)))
    (case aF => exact (fun k_ hk => (.inr (Nat.le_trans (by first | exact HK.out.1 | exact (show Kept w _ (fun k_ => P0_2_ k_) from by repeat (first | (with_reducible first | exact HK.out | apply Kept.alloc | apply Kept.drewN | apply Kept.drew | refine Kept.setCell ?_ (.inr GW180.out) _ | refine Kept.setCell ?_ (.inr GW181.out) _ | refine Kept.setCell ?_ (.inr GW182.out) _) | exact HK.out)).1) hk))))
    (case aO => exact (by (with_reducible repeat (first | apply Kd.R_alloc | apply Kd.R_drewN | apply Kd.R_drew)); exact HO_183003.out))
    (case aS => exact (below_size (by repeat (first | (with_reducible first | exact HB.out | apply below_alloc | apply pw_below_drewN | apply below_drew1 | refine below_set ?_ GE180.out | refine below_set ?_ GE181.out | refine below_set ?_ GE182.out) | exact HB.out))))
    (case aL => have := LMc14.out; omega)
    intro v187 w20 ho hb hg hat
    rw [← Ny186.out] at ho
    have n0_ := Aside0.mk (Kd.R_over' (by (with_reducible repeat (first | apply Kd.R_alloc | apply Kd.R_drewN | apply Kd.R_drew)); exact HO_181002.out) (Kd.R_typed (by (with_reducible repeat (first | apply Kd.R_alloc | apply Kd.R_drewN | apply Kd.R_drew)); exact HO_183003.out)) (by decide) hg)
    have n1_ := Aside0.mk (Kd.R_over' (by (with_reducible repeat (first | apply Kd.R_alloc | apply Kd.R_drewN | apply Kd.R_drew)); exact HO_183002.out) (Kd.R_typed (by (with_reducible repeat (first | apply Kd.R_alloc | apply Kd.R_drewN | apply Kd.R_drew)); exact HO_183003.out)) (by decide) hg)
    have n2_ := Aside0.mk (blk_grown (g := gb180) (o := .cells #[.string a0_0, .string a0_1, .slice Ao2 l0_2.length co2, .slice (some ad183) l0_3.length c0_3] 25 (0, 0)) (by exact bS BK180) hg (Kd.R_ne HO_183003.out BK180.out (by decide)))
    have n3_ := Aside0.mk (blk_grown (g := gb181) (o := .cells #[.string (⟨#[]⟩ : ByteArray), .string (⟨#[]⟩ : ByteArray), .slice none 0 0, .slice none 0 0] 39 (0, 0)) (by exact bS BK181) hg (Kd.R_ne HO_183003.out BK181.out (by decide)))
    have n4_ := Aside0.mk (blk_grown (g := gb182) (o := .cells #[.string a0_0, .string a0_1, .slice Ao2 l0_2.length co2, u183003] 39 (0, 0)) (by exact bS BK182) hg (Kd.R_ne HO_183003.out BK182.out (by decide)))
    have n5_ := Aside0.mk (hb)
    have n6_ := Aside0.mk (Kept.of_grown (S := (fun k_ => P0_2_ k_)) hg (by repeat (first | (with_reducible first | exact HK.out | apply Kept.alloc | apply Kept.drewN | apply Kept.drew | refine Kept.setCell ?_ (.inr GW180.out) _ | refine Kept.setCell ?_ (.inr GW181.out) _ | refine Kept.setCell ?_ (.inr GW182.out) _) | exact HK.out)) (fun k_ e_ => (HO_183003.out.1 k_ e_)))
    have n7_ := Aside0.mk (ho)
    clear HO_181002
    clear HO_183002
    clear BK180
    clear BK181
    clear BK182
    clear HB
    clear HK
    clear HO_183003
    have HO_181002 := n0_
    have HO_183002 := n1_
    have BK180 := n2_
    have BK181 := n3_
    have BK182 := n4_
    have HB := n5_
    have HK := n6_
    have HO188 := n7_
    clear n0_ n1_ n2_ n3_ n4_ n5_ n6_ n7_
    clear ho hb hg hat
    obtain ⟨Ao21, co21, eo21⟩ := Kd.R_slice HO188.out
    (first | subst eo21 | (injection eo21 with f1_ f2_ f3_; have f4_ := f1_.symm; have f5_ := f3_.symm; clear f1_ f2_ f3_; subst f4_; subst f5_))
    refine hK.out _ _ ?_
    clear hK K
    refine norm_ (a' := ?_) ?_ ?_
    rotate_left; · show Act.put _ (some 28) _ = _; simp only [Act.put, sA, sB, sC, i64_w, i32_w, sD]; rfl
    refine pure_ (i := 10) (N := some 29) (v := ?_) (a' := ?_) (fB 12 2047) rfl rfl (any_of HT_.out (by kernel_rfl)) (fun _ _ _ h => h) (Or.inl ⟨by rfl, ?_⟩) ?_ ?_
    rotate_left; · intro w'; go_simp; with_reducible rfl
    rotate_left; · simp only [Act.put, sA, sB, sC, i64_w, i32_w, sD]; rfl
    refine last_ (i := 11) (N := none) (fB 12 4095) rfl rfl (one_of HT_.out (by kernel_rfl)) (by decide) (fun K hK => ?_)
    have hs22 : w20.cell? ⟨gb182, 3, none⟩ = some (u183003) := (blk_cell BK182.out 3).trans rfl
    have hfs22 := blk_frozen BK182.out 3
    have hns22_0 := NB180_182.out
    have hns22_1 := NB181_182.out
    have hms22_0 := NB182_180.out
    have hms22_1 := NB182_181.out
    refine skip_ (w1 := ?_) (by rfl) rfl ?_ ?_
    rotate_left
    ·
     go_simp
     rfl
    refine hK.out _ _ ?_
    clear hK K
    refine done_ (done_of HT_.out (by kernel_rfl)) ?_
    try go_wp2
    go_roundg k1
    case measure => have := HK1.out; omega
    case rel => exact ⟨(wrap64 (x4_1 + 1)), (y186), (.slice Ao21 y186.length co21), (by first | rfl | (simp; done) | (simp [*]; done)), H', ⟨by have := HK1.out; omega⟩, ⟨by (with_reducible repeat (first | apply Kd.R_alloc | apply Kd.R_drewN | apply Kd.R_drew)); exact Kd.R_mono (Kd.R_far (p := ⟨gb182, 3, none⟩) (Kd.R_types HO_181002.out BK182.out (by decide)) (fun _ hk => hk.2) (.slice Ao21 y186.length co21)) (fun _ hk => hk.1)⟩, ⟨by (with_reducible repeat (first | apply Kd.R_alloc | apply Kd.R_drewN | apply Kd.R_drew)); exact Kd.R_mono (Kd.R_far (p := ⟨gb182, 3, none⟩) (Kd.R_types HO_183002.out BK182.out (by decide)) (fun _ hk => hk.2) (.slice Ao21 y186.length co21)) (fun _ hk => hk.1)⟩, ⟨by (with_reducible repeat (first | apply Kd.R_alloc | apply Kd.R_drewN | apply Kd.R_drew)); exact Kd.R_mono (Kd.R_far (p := ⟨gb182, 3, none⟩) (Kd.R_types HO188.out BK182.out (by decide)) (fun _ hk => hk.2) (.slice Ao21 y186.length co21)) (fun _ hk => hk.1)⟩, ⟨by (with_reducible repeat (first | refine blk_drewN ?_ _ | refine blk_drew ?_ | refine blk_alloc ?_ _)); refine blk_far ?_ NB180_182.out _; (with_reducible repeat (first | refine blk_drewN ?_ _ | refine blk_drew ?_ | refine blk_alloc ?_ _)); exact BK180.out⟩, ⟨by (with_reducible repeat (first | refine blk_drewN ?_ _ | refine blk_drew ?_ | refine blk_alloc ?_ _)); refine blk_far ?_ NB181_182.out _; (with_reducible repeat (first | refine blk_drewN ?_ _ | refine blk_drew ?_ | refine blk_alloc ?_ _)); exact BK181.out⟩, ⟨by (with_reducible repeat (first | refine blk_drewN ?_ _ | refine blk_drew ?_ | refine blk_alloc ?_ _)); refine blk_put (cs := #[.string a0_0, .string a0_1, .slice Ao2 l0_2.length co2, u183003]) ?_ 3 _ rfl; (with_reducible repeat (first | refine blk_drewN ?_ _ | refine blk_drew ?_ | refine blk_alloc ?_ _)); exact BK182.out⟩, ⟨by repeat (first | (with_reducible first | exact HK.out | apply Kept.alloc | apply Kept.drewN | apply Kept.drew | refine Kept.setCell ?_ (.inr GW180.out) _ | refine Kept.setCell ?_ (.inr GW181.out) _ | refine Kept.setCell ?_ (.inr GW182.out) _) | exact HK.out)⟩, ⟨by repeat (first | (with_reducible first | exact HB.out | apply below_alloc | apply pw_below_drewN | apply below_drew1 | refine below_set ?_ GE180.out | refine below_set ?_ GE181.out | refine below_set ?_ GE182.out) | exact HB.out)⟩⟩
   ·
    rw [if_neg c11] at H
    have c11b0 : decide (x4_1 < (l0_3.length : Int)) = false := decide_eq_false c11
    clear c11
    simp only [Option.some.injEq, Prod.mk.injEq] at H
    obtain ⟨rfl, rfl, rfl, rfl⟩ := H
    have hnb23 := NB180_181.out
    have hnc23 := NB181_180.out
    have hnb24 := NB180_182.out
    have hnc24 := NB182_180.out
    have hcz25_0 : wr.cell? ⟨gb180, 0, none⟩ = some (.string a0_0) := (blk_cell BK180.out 0).trans rfl
    have hcz25_1 : wr.cell? ⟨gb180, 1, none⟩ = some (.string a0_1) := (blk_cell BK180.out 1).trans rfl
    have hcz25_2 : wr.cell? ⟨gb180, 2, none⟩ = some (.slice Ao2 l0_2.length co2) := (blk_cell BK180.out 2).trans rfl
    have hcz25_3 : wr.cell? ⟨gb180, 3, none⟩ = some (.slice A0_3 l0_3.length c0_3) := (blk_cell BK180.out 3).trans rfl
    have hfz25_0 := blk_frozen BK180.out 0
    have hfz25_1 := blk_frozen BK180.out 1
    have hfz25_2 := blk_frozen BK180.out 2
    have hfz25_3 := blk_frozen BK180.out 3
    have hnb26 := NB182_181.out
    have hnc26 := NB181_182.out
    have hcz27_0 : wr.cell? ⟨gb182, 0, none⟩ = some (.string a0_0) := (blk_cell BK182.out 0).trans rfl
    have hcz27_1 : wr.cell? ⟨gb182, 1, none⟩ = some (.string a0_1) := (blk_cell BK182.out 1).trans rfl
    have hcz27_2 : wr.cell? ⟨gb182, 2, none⟩ = some (.slice Ao2 l0_2.length co2) := (blk_cell BK182.out 2).trans rfl
    have hcz27_3 : wr.cell? ⟨gb182, 3, none⟩ = some (u183003) := (blk_cell BK182.out 3).trans rfl
    have hfz27_0 := blk_frozen BK182.out 0
    have hfz27_1 := blk_frozen BK182.out 1
    have hfz27_2 := blk_frozen BK182.out 2
    have hfz27_3 := blk_frozen BK182.out 3
    have hcz28_0 : wr.cell? ⟨gb181, 0, none⟩ = some (.string (⟨#[]⟩ : ByteArray)) := (blk_cell BK181.out 0).trans rfl
    have hcz28_1 : wr.cell? ⟨gb181, 1, none⟩ = some (.string (⟨#[]⟩ : ByteArray)) := (blk_cell BK181.out 1).trans rfl
    have hcz28_2 : wr.cell? ⟨gb181, 2, none⟩ = some (.slice none 0 0) := (blk_cell BK181.out 2).trans rfl
    have hcz28_3 : wr.cell? ⟨gb181, 3, none⟩ = some (.slice none 0 0) := (blk_cell BK181.out 3).trans rfl
    have hfz28_0 := blk_frozen BK181.out 0
    have hfz28_1 := blk_frozen BK181.out 1
    have hfz28_2 := blk_frozen BK181.out 2
    have hfz28_3 := blk_frozen BK181.out 3
    obtain ⟨Ao29, co29, eo29⟩ := Kd.R_slice HO_183003.out
    subst eo29
    go_wp2
    refine bodyPost_ret (results_cell_row rfl _ _ gb181 39 #[.string a0_0, .string a0_1, .slice Ao2 l0_2.length co2, .slice Ao29 x183003_1.length co29] (0, 0) _ rfl (by (with_reducible repeat (first | refine blk_drewN ?_ _ | refine blk_drew ?_ | refine blk_alloc ?_ _)); refine blk_put (cs := #[.string a0_0, .string a0_1, .slice Ao2 l0_2.length co2, .slice none 0 0]) ?_ 3 _ rfl; (with_reducible repeat (first | refine blk_drewN ?_ _ | refine blk_drew ?_ | refine blk_alloc ?_ _)); refine blk_put (cs := #[.string a0_0, .string a0_1, .slice none 0 0, .slice none 0 0]) ?_ 2 _ rfl; (with_reducible repeat (first | refine blk_drewN ?_ _ | refine blk_drew ?_ | refine blk_alloc ?_ _)); refine blk_put (cs := #[.string a0_0, .string (⟨#[]⟩ : ByteArray), .slice none 0 0, .slice none 0 0]) ?_ 1 _ rfl; (with_reducible repeat (first | refine blk_drewN ?_ _ | refine blk_drew ?_ | refine blk_alloc ?_ _)); refine blk_put (cs := #[.string (⟨#[]⟩ : ByteArray), .string (⟨#[]⟩ : ByteArray), .slice none 0 0, .slice none 0 0]) ?_ 0 _ rfl; (with_reducible repeat (first | refine blk_drewN ?_ _ | refine blk_drew ?_ | refine blk_alloc ?_ _)); exact BK181.out) Tryd.underlying39 rfl (by kernel_rfl)) rfl ?_
    exact ⟨_, _, by first | rfl | (simp [errW_none, errW_some] <;> rfl) | (simp [*, errW_none, errW_some] <;> rfl), by (with_reducible repeat (first | apply Kd.R_alloc | apply Kd.R_drewN | apply Kd.R_drew)); exact Kd.R_mono (Kd.R_far (p := ⟨gb181, 3, none⟩) (Kd.R_far (p := ⟨gb181, 2, none⟩) (Kd.R_far (p := ⟨gb181, 1, none⟩) (Kd.R_far (p := ⟨gb181, 0, none⟩) (Kd.R_types HO_183002.out BK181.out (by decide)) (fun _ hk => hk.2) (.string a0_0)) (fun _ hk => hk.2) (.string a0_1)) (fun _ hk => hk.2) (.slice Ao2 l0_2.length co2)) (fun _ hk => hk.2) (.slice Ao29 x183003_1.length co29)) (fun _ hk => hk.1), by (with_reducible repeat (first | apply Kd.R_alloc | apply Kd.R_drewN | apply Kd.R_drew)); exact Kd.R_mono (Kd.R_far (p := ⟨gb181, 3, none⟩) (Kd.R_far (p := ⟨gb181, 2, none⟩) (Kd.R_far (p := ⟨gb181, 1, none⟩) (Kd.R_far (p := ⟨gb181, 0, none⟩) (Kd.R_types HO_183003.out BK181.out (by decide)) (fun _ hk => hk.2) (.string a0_0)) (fun _ hk => hk.2) (.string a0_1)) (fun _ hk => hk.2) (.slice Ao2 l0_2.length co2)) (fun _ hk => hk.2) (.slice Ao29 x183003_1.length co29)) (fun _ hk => hk.1), by repeat (first | (with_reducible first | exact HB.out | apply below_alloc | apply pw_below_drewN | apply below_drew1 | refine below_set ?_ GE180.out | refine below_set ?_ GE181.out | refine below_set ?_ GE182.out) | exact HB.out), by repeat (first | (with_reducible first | exact HK.out | apply Kept.alloc | apply Kept.drewN | apply Kept.drew | refine Kept.setCell ?_ (.inr GW180.out) _ | refine Kept.setCell ?_ (.inr GW181.out) _ | refine Kept.setCell ?_ (.inr GW182.out) _) | exact HK.out)⟩

-- NOT PRINTED: function 72 (api_Place_72)

-- NOT PRINTED: function 56 (api_Place_56)

-- NOT PRINTED: function 90 (slices_insertionSortCmpFunc_int)

-- NOT PRINTED: function 115 (slices_swapRangeCmpFunc_int)

-- NOT PRINTED: function 105 (slices_rotateCmpFunc_int)

-- NOT PRINTED: function 91 (slices_symMergeCmpFunc_int)

-- NOT PRINTED: function 73 (slices_stableCmpFunc_int)

-- NOT PRINTED: function 58 (slices_SortStableFunc_int_int)

-- BY HAND: function 34 (plane_Near)

-- BY HAND: function 35 (api_Place_35)

-- BY HAND: function 14 (link_Nearest)

/-! ### mosaicref17_Dist: function 37 -/
end Go.Proofs.YtdccglkmkahblaaDoor.Rf
namespace Go.Proofs.YtdccglkmkahblaaDoor.Hand
open Go.RowKit Go.Proofs.YtdccglkmkahblaaDoor.P Go.Proofs.YtdccglkmkahblaaDoorW.PrintWords Go.Proofs.YtdccglkmkahblaaDoorW.PrintLast Go.Proofs.YtdccglkmkahblaaDoorW.PrintMore
/-- A place as the document has it. -/
def pc (p : S34) : S45 := ⟨p.f0, p.f1⟩
def mosaiclaw29_Ref.f (a0_0 : ByteArray) (a0_1 : ByteArray) (l0_2 : List Int) (l0_3 : List (S34)) : Option (ByteArray × ByteArray × List Int × (List (S45))) := if l0_3.length ≤ 1000 then some (a0_0, a0_1, l0_2, l0_3.map pc) else none
theorem ref_rd (l : List S34) (i : Nat) (h : i < l.length) : rd_T34 l (i : Int) = l[i] := by
  unfold rd_T34; rw [Int.toNat_natCast, List.getD_eq_getElem?_getD, List.getElem?_eq_getElem h]; rfl
theorem ref_w64 {n : Int} (h : -9223372036854775808 ≤ n ∧ n ≤ 9223372036854775807) : wrap64 n = n := by
  unfold wrap64; omega
theorem ref_l0 (a b a' b' : ByteArray) (n n' : List Int) (p : List S34) (hp : p.length ≤ 1000) (m : Nat) : ∀ (i k : Nat), p.length = i + m → m + 1 ≤ k →
    Rf.mosaiclaw29_Ref.l0 k (i : Int) a b n p a' b' n' ((p.take i).map pc) = some (a', b', n', p.map pc) := by
  induction m with
  | zero =>
    intro i k hi hk
    obtain ⟨k, rfl⟩ : ∃ k', k = k' + 1 := ⟨k - 1, by omega⟩
    rw [Rf.mosaiclaw29_Ref.l0, if_neg (by omega), List.take_of_length_le (by omega)]
  | succ m ih =>
    intro i k hi hk
    obtain ⟨k, rfl⟩ : ∃ k', k = k' + 1 := ⟨k - 1, by omega⟩
    have h1 : i < p.length := by omega
    have e : (p.take i).map pc ++ [(⟨p[i].f0, p[i].f1⟩ : S45)] = (p.take (i + 1)).map pc := by
      rw [List.take_succ_eq_append_getElem h1, List.map_append]; rfl
    rw [Rf.mosaiclaw29_Ref.l0, if_pos (by omega), if_pos (by omega), ref_rd p i h1, mosaiclaw17_Ref.f, Option.bind_some, if_pos (by simp; omega), e, ref_w64 (by omega)]
    exact_mod_cast ih (i + 1) k (by omega) (by omega)
theorem mosaiclaw29_Ref.calls (a0_0 : ByteArray) (a0_1 : ByteArray) (A0_2 : Option Addr) (c0_2 : Nat) (l0_2 : List Int) (A0_3 : Option Addr) (c0_3 : Nat) (l0_3 : List (S34)) (r1 : ByteArray) (r2 : ByteArray) (r3 : List Int) (r4 : List (S45)) (w : World) (_ : Kd.C (Kd.int .i64) w A0_2 l0_2.length l0_2) (_ : l0_2.length ≤ c0_2) (hr0_3 : Kd.C k34 w A0_3 l0_3.length l0_3) (hc0_3 : l0_3.length ≤ c0_3) (h : mosaiclaw29_Ref.f a0_0 a0_1 l0_2 l0_3 = some (r1, r2, r3, r4)) :
    Calls Tryd.prog 13 #[.agg #[.string a0_0, .string a0_1, .slice A0_2 l0_2.length c0_2, .slice A0_3 l0_3.length c0_3]] w fun e w' => ∃ v2_ v3_ : Value, e = .returned (.agg #[.string r1, .string r2, .slice A0_2 l0_2.length c0_2, v3_]) ∧ Kd.R (Kd.int .i64) 3 w' w.heap.size (fun _ => True) v2_ ([] : List Int) ∧ Kd.R k45 45 w' w.heap.size (fun _ => True) v3_ r4 ∧ Below w.heap.size w w' := by
  unfold mosaiclaw29_Ref.f at h
  split at h
  · rename_i hp
    obtain ⟨rfl, rfl, rfl, rfl⟩ := by simpa only [Option.some.injEq, Prod.mk.injEq] using h
    have h2 : Rf.mosaiclaw29_Ref.f 1001 a0_0 a0_1 l0_2 l0_3 = some (a0_0, a0_1, l0_2, l0_3.map pc) := by
      have := ref_l0 a0_0 a0_1 a0_0 a0_1 l0_2 l0_2 l0_3 hp l0_3.length 0 1001 (by omega) (by omega)
      have e : ((l0_3.take 0).map pc) = ([] : List S45) := by simp
      rw [e] at this
      exact this
    refine (Rf.mosaiclaw29_Ref.calls 1001 a0_0 a0_1 (fun _ => False) A0_2 c0_2 l0_2 A0_3 c0_3 l0_3 _ _ _ _ w w (Below.refl _ _) (Kd.R_nil _ _ _ _ _) (fun W hk => ?_) hc0_3 h2).mono ?_
    · exact Kd.C_foot_neS (S := fun _ => False) (fun {W W' x cs} h => by obtain ⟨c1, c2, e, h1, h2⟩ := h; exact ⟨c1, c2, e, h1, h2⟩) hr0_3 (fun _ _ _ h => h) W hk
    · rintro e w' ⟨v2, v3, rfl, _, ho, hb, _⟩
      exact ⟨.slice none 0 0, v3, rfl, Kd.R_nil _ _ _ _ _, Kd.R_mono ho (fun _ _ => trivial), hb⟩
  · cases h
theorem ref_nodes {a0_0 : ByteArray} {a0_1 : ByteArray} {l0_2 : List Int} {l0_3 : List S34} {r1 r2 : ByteArray} {r3 : List Int} {r4 : List S45} (h : mosaiclaw29_Ref.f a0_0 a0_1 l0_2 l0_3 = some (r1, r2, r3, r4)) : l0_2 = r3 := by
  unfold mosaiclaw29_Ref.f at h
  split at h
  · obtain ⟨_, _, rfl, _⟩ := by simpa only [Option.some.injEq, Prod.mk.injEq] using h
    rfl
  · cases h
end Go.Proofs.YtdccglkmkahblaaDoor.Hand
