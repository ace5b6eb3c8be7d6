-- Written for this claim by the session's own turn of the kit's print program (wip/tools/xprint.py).
import Derived.Test.YtmimnlbkllgfpaaGreatDoorSg
import Derived.Test.YtmimnlbkllgfpaaGreatDoorAx0
import Derived.Test.YtmimnlbkllgfpaaGreatDoorAx5
import Derived.Test.YtmimnlbkllgfpaaGreatDoorAx6
import Derived.Test.YtmimnlbkllgfpaaGreatDoorAx8
import Derived.Test.YtmimnlbkllgfpaaGreatDoorAx9
namespace Go.Proofs.YtmimnlbkllgfpaaGreatDoor.A
open Go.RowKit Go.Proofs.YtmimnlbkllgfpaaGreatDoor.Sg Go.Proofs.YtmimnlbkllgfpaaGreatDoor.Fl Go.Proofs.YtmimnlbkllgfpaaGreatDoor.Sq Go.Proofs.YtmimnlbkllgfpaaGreatDoor.Hand Go.Proofs.YtmimnlbkllgfpaaGreatDoorW.PrintWords Go.Proofs.YtmimnlbkllgfpaaGreatDoorW.PrintLast Go.Proofs.YtmimnlbkllgfpaaGreatDoorW.PrintMore
attribute [local go_sem] max2_int min2_int max_two min_two max_three min_three max_four min_four   -- for this text's walks alone
set_option linter.unusedVariables false
set_option linter.unusedSimpArgs false

/-! ### mosaicref31_Table_Announce: function 8 -/
mutual
def mosaicref31_Table_Announce.j0 : Nat → Int → Bool → Int → List (S42) → ByteArray → Int → Int → Int → Int → Option (Int × (List (S42)) × Int)
 | 0, _, _, _, _, _, _, _, _, _ => none
 | k + 1, x2, x43, x301000, x301001, x302000, x302001, x302002, x302003, x302004 => if x43 = true then (some (x301000, x301001, 1)) else ((mosaicref31_Table_Nodes.f k x301000 x301001 x302000 x2).bind fun t306 => (if (t306.length : Int) = 0 then ((mosaicref31_Table_Names.f k x301000 x301001 x2).bind fun t309 => (mosaicref31_Table_Announce.j1 k x2 (decide ((t309.length : Int) ≥ x301000)) x301000 x301001 x302000 x302001 x302002 x302003 x302004)) else (mosaicref31_Table_Announce.j1 k x2 false x301000 x301001 x302000 x302001 x302002 x302003 x302004)))
def mosaicref31_Table_Announce.j1 : Nat → Int → Bool → Int → List (S42) → ByteArray → Int → Int → Int → Int → Option (Int × (List (S42)) × Int)
 | 0, _, _, _, _, _, _, _, _, _ => none
 | k + 1, x2, x60, x301000, x301001, x302000, x302001, x302002, x302003, x302004 => if x60 = true then (some (x301000, x301001, 6)) else (mosaicref31_Table_Announce.l0 k x2 ([] : List (S42)) false 0 x301000 x301001 x302000 x302001 x302002 x302003 x302004)
def mosaicref31_Table_Announce.l0 : Nat → Int → List (S42) → Bool → Int → Int → List (S42) → ByteArray → Int → Int → Int → Int → Option (Int × (List (S42)) × Int)
 | 0, _, _, _, _, _, _, _, _, _, _, _ => none
 | k + 1, x2, x8, x9, x10, x301000, x301001, x302000, x302001, x302002, x302003, x302004 => if x10 < (x301001.length : Int) then (if 0 ≤ x10 then (if ((rd_T42 x301001 x10).f3) < x2 then (mosaicref31_Table_Announce.j3 k x2 x8 x9 x10 true x301000 x301001 x302000 x302001 x302002 x302003 x302004 ((rd_T42 x301001 x10).f0) ((rd_T42 x301001 x10).f1) ((rd_T42 x301001 x10).f2.f0) ((rd_T42 x301001 x10).f2.f1) ((rd_T42 x301001 x10).f3)) else (if ((rd_T42 x301001 x10).f0).toList = x302000.toList then (mosaicref31_Table_Announce.j3 k x2 x8 x9 x10 (((rd_T42 x301001 x10).f1) == x302001) x301000 x301001 x302000 x302001 x302002 x302003 x302004 ((rd_T42 x301001 x10).f0) ((rd_T42 x301001 x10).f1) ((rd_T42 x301001 x10).f2.f0) ((rd_T42 x301001 x10).f2.f1) ((rd_T42 x301001 x10).f3)) else (mosaicref31_Table_Announce.j3 k x2 x8 x9 x10 false x301000 x301001 x302000 x302001 x302002 x302003 x302004 ((rd_T42 x301001 x10).f0) ((rd_T42 x301001 x10).f1) ((rd_T42 x301001 x10).f2.f0) ((rd_T42 x301001 x10).f2.f1) ((rd_T42 x301001 x10).f3)))) else (none)) else (if x9 = true then (some (x301000, x8, 0)) else (if x8.length < 2932031007402 then (some (x301000, (x8 ++ [(⟨x302000, x302001, (⟨x302002, x302003⟩ : S40), x302004⟩ : S42)]), 0)) else (none)))
def mosaicref31_Table_Announce.j3 : Nat → Int → List (S42) → Bool → Int → Bool → Int → List (S42) → ByteArray → Int → Int → Int → Int → ByteArray → Int → Int → Int → Int → Option (Int × (List (S42)) × Int)
 | 0, _, _, _, _, _, _, _, _, _, _, _, _, _, _, _, _, _ => none
 | k + 1, x2, x8, x9, x10, x91, x301000, x301001, x302000, x302001, x302002, x302003, x302004, x317000, x317001, x317002, x317003, x317004 => if x91 = true then (mosaicref31_Table_Announce.l0 k x2 x8 x9 (wrap64 (x10 + 1)) x301000 x301001 x302000 x302001 x302002 x302003 x302004) else (if x9 = true then (if x8.length < 2932031007402 then (mosaicref31_Table_Announce.l0 k x2 (x8 ++ [(⟨x317000, x317001, (⟨x317002, x317003⟩ : S40), x317004⟩ : S42)]) x9 (wrap64 (x10 + 1)) x301000 x301001 x302000 x302001 x302002 x302003 x302004) else (none)) else ((mosaicref31_before.f x302000 x302001 x302002 x302003 x302004 x317000 x317001 x317002 x317003 x317004).bind fun t320 => (if t320 = true then (if x8.length < 2932031007402 then ((some (x8 ++ [(⟨x302000, x302001, (⟨x302002, x302003⟩ : S40), x302004⟩ : S42)] : List (S42))).bind fun y321 => (if y321.length < 2932031007402 then (mosaicref31_Table_Announce.l0 k x2 (y321 ++ [(⟨x317000, x317001, (⟨x317002, x317003⟩ : S40), x317004⟩ : S42)]) true (wrap64 (x10 + 1)) x301000 x301001 x302000 x302001 x302002 x302003 x302004) else (none))) else (none)) else (if x8.length < 2932031007402 then (mosaicref31_Table_Announce.l0 k x2 (x8 ++ [(⟨x317000, x317001, (⟨x317002, x317003⟩ : S40), x317004⟩ : S42)]) x9 (wrap64 (x10 + 1)) x301000 x301001 x302000 x302001 x302002 x302003 x302004) else (none)))))
end
def mosaicref31_Table_Announce.f (k : Nat) (a0_0 : Int) (l0_1 : List (S42)) (a1_0 : ByteArray) (a1_1 : Int) (a1_2 : Int) (a1_3 : Int) (a1_4 : Int) (a2 : Int) : Option (Int × (List (S42)) × Int) := (mosaicref18_Tick.f a2).bind fun t303 => (if t303 = true then (if (a1_0.size : Int) = 32 then ((mosaicref18_IsPeer.f a1_1).bind fun t304 => (if t304 = true then ((mosaicref17_Check.f a1_2 a1_3).bind fun t305 => (if t305 = true then (if a1_4 < a2 then (mosaicref31_Table_Announce.j0 k a2 true a0_0 l0_1 a1_0 a1_1 a1_2 a1_3 a1_4) else (mosaicref31_Table_Announce.j0 k a2 (decide (a1_4 > 1099511627776)) a0_0 l0_1 a1_0 a1_1 a1_2 a1_3 a1_4)) else (mosaicref31_Table_Announce.j0 k a2 true a0_0 l0_1 a1_0 a1_1 a1_2 a1_3 a1_4))) else (mosaicref31_Table_Announce.j0 k a2 true a0_0 l0_1 a1_0 a1_1 a1_2 a1_3 a1_4))) else (mosaicref31_Table_Announce.j0 k a2 true a0_0 l0_1 a1_0 a1_1 a1_2 a1_3 a1_4)) else (mosaicref31_Table_Announce.j0 k a2 true a0_0 l0_1 a1_0 a1_1 a1_2 a1_3 a1_4))
def mosaicref31_Table_Announce.T3 : Bool × List (List Nat × List Nat) := (true, [([], []), ([], []), ([1], [1]), ([], []), ([0, 2, 3], [0, 2, 3]), ([4], [4]), ([5], [5]), ([6, 4], [6]), ([7], [7]), ([7], [7]), ([8, 9, 7, 7], [7, 8, 9]), ([10, 7], [7, 10]), ([7], [7]), ([12, 7], [7, 12]), ([11, 13, 7], [7, 11, 13]), ([7, 14], [7, 14])])
def mosaicref31_Table_Announce.B3 : List Nat := [0, 0, 2, 0, 15, 31, 63, 127, 255, 255, 1023, 2047, 255, 4351, 16383, 32767]
theorem mosaicref31_Table_Announce.tab3 : rtab .any (opsOf Tryz.f8 3) = mosaicref31_Table_Announce.T3 := by kernel_rfl
theorem mosaicref31_Table_Announce.bits3 : waitsOk mosaicref31_Table_Announce.T3.2 mosaicref31_Table_Announce.B3 = true := by kernel_rfl
namespace BAx17
theorem b0 {p : Prop} (h : p := by repeat (first | (with_reducible first | exact HK.out | apply Kept.alloc | apply Kept.drewN | apply Kept.drew | refine Kept.setCell ?_ (.inr GW300.out) _ | refine Kept.setCell ?_ (.inr GW301.out) _ | refine Kept.setCell ?_ (.inr GW302.out) _) | exact HK.out)) : p := h
theorem b1 {p : Prop} (h : p := by repeat (first | (with_reducible first | exact HB.out | apply below_alloc | apply pw_below_drewN | apply below_drew1 | refine below_set ?_ GE300.out | refine below_set ?_ GE301.out | refine below_set ?_ GE302.out) | exact HB.out)) : p := h
theorem b2 {p : Prop} (h : p := by repeat (first | (with_reducible first | exact HB.out | apply below_alloc | apply pw_below_drewN | apply below_drew1 | refine below_set ?_ GE300.out | refine below_set ?_ GE301.out | refine below_set ?_ GE302.out | refine below_set ?_ GE316.out) | exact HB.out)) : p := h
theorem b3 {p : Prop} (h : p := by (with_reducible repeat (first | refine blk_drewN ?_ _ | refine blk_drew ?_ | refine blk_alloc ?_ _)); refine blk_put (cs := #[.string ((rd_T42 l0_1 x10_3).f0), .int .i64 ((rd_T42 l0_1 x10_3).f1), .int .i64 ((rd_T42 l0_1 x10_3).f2.f0), .int .i64 ((rd_T42 l0_1 x10_3).f2.f1), .int .i64 0]) ?_ 4 _ rfl; (with_reducible repeat (first | refine blk_drewN ?_ _ | refine blk_drew ?_ | refine blk_alloc ?_ _)); refine blk_put (cs := #[.string ((rd_T42 l0_1 x10_3).f0), .int .i64 ((rd_T42 l0_1 x10_3).f1), .int .i64 ((rd_T42 l0_1 x10_3).f2.f0), .int .i64 0, .int .i64 0]) ?_ 3 _ rfl; (with_reducible repeat (first | refine blk_drewN ?_ _ | refine blk_drew ?_ | refine blk_alloc ?_ _)); refine blk_put (cs := #[.string ((rd_T42 l0_1 x10_3).f0), .int .i64 ((rd_T42 l0_1 x10_3).f1), .int .i64 0, .int .i64 0, .int .i64 0]) ?_ 2 _ rfl; (with_reducible repeat (first | refine blk_drewN ?_ _ | refine blk_drew ?_ | refine blk_alloc ?_ _)); refine blk_put (cs := #[.string ((rd_T42 l0_1 x10_3).f0), .int .i64 0, .int .i64 0, .int .i64 0, .int .i64 0]) ?_ 1 _ rfl; (with_reducible repeat (first | refine blk_drewN ?_ _ | refine blk_drew ?_ | refine blk_alloc ?_ _)); refine blk_put (cs := #[.string (⟨#[]⟩ : ByteArray), .int .i64 0, .int .i64 0, .int .i64 0, .int .i64 0]) ?_ 0 _ rfl; (with_reducible repeat (first | refine blk_drewN ?_ _ | refine blk_drew ?_ | refine blk_alloc ?_ _)); exact BK316.out) : p := h
theorem b4 {p : Prop} (h : p := by repeat (first | (with_reducible first | exact HK.out | apply Kept.alloc | apply Kept.drewN | apply Kept.drew | refine Kept.setCell ?_ (.inr GW300.out) _ | refine Kept.setCell ?_ (.inr GW301.out) _ | refine Kept.setCell ?_ (.inr GW302.out) _ | refine Kept.setCell ?_ (.inr GW316.out) _) | exact HK.out)) : p := h
theorem b5 {p : Prop} (h : p := by (with_reducible repeat (first | refine blk_drewN ?_ _ | refine blk_drew ?_ | refine blk_alloc ?_ _)); refine blk_far ?_ NB300_316.out _; (with_reducible repeat (first | refine blk_drewN ?_ _ | refine blk_drew ?_ | refine blk_alloc ?_ _)); refine blk_far ?_ NB300_316.out _; (with_reducible repeat (first | refine blk_drewN ?_ _ | refine blk_drew ?_ | refine blk_alloc ?_ _)); refine blk_far ?_ NB300_316.out _; (with_reducible repeat (first | refine blk_drewN ?_ _ | refine blk_drew ?_ | refine blk_alloc ?_ _)); refine blk_far ?_ NB300_316.out _; (with_reducible repeat (first | refine blk_drewN ?_ _ | refine blk_drew ?_ | refine blk_alloc ?_ _)); refine blk_far ?_ NB300_316.out _; (with_reducible repeat (first | refine blk_drewN ?_ _ | refine blk_drew ?_ | refine blk_alloc ?_ _)); exact BK300.out) : p := h
theorem b6 {p : Prop} (h : p := by (with_reducible repeat (first | refine blk_drewN ?_ _ | refine blk_drew ?_ | refine blk_alloc ?_ _)); refine blk_far ?_ NB301_316.out _; (with_reducible repeat (first | refine blk_drewN ?_ _ | refine blk_drew ?_ | refine blk_alloc ?_ _)); refine blk_far ?_ NB301_316.out _; (with_reducible repeat (first | refine blk_drewN ?_ _ | refine blk_drew ?_ | refine blk_alloc ?_ _)); refine blk_far ?_ NB301_316.out _; (with_reducible repeat (first | refine blk_drewN ?_ _ | refine blk_drew ?_ | refine blk_alloc ?_ _)); refine blk_far ?_ NB301_316.out _; (with_reducible repeat (first | refine blk_drewN ?_ _ | refine blk_drew ?_ | refine blk_alloc ?_ _)); refine blk_far ?_ NB301_316.out _; (with_reducible repeat (first | refine blk_drewN ?_ _ | refine blk_drew ?_ | refine blk_alloc ?_ _)); exact BK301.out) : p := h
theorem b7 {p : Prop} (h : p := by (with_reducible repeat (first | refine blk_drewN ?_ _ | refine blk_drew ?_ | refine blk_alloc ?_ _)); refine blk_far ?_ NB302_316.out _; (with_reducible repeat (first | refine blk_drewN ?_ _ | refine blk_drew ?_ | refine blk_alloc ?_ _)); refine blk_far ?_ NB302_316.out _; (with_reducible repeat (first | refine blk_drewN ?_ _ | refine blk_drew ?_ | refine blk_alloc ?_ _)); refine blk_far ?_ NB302_316.out _; (with_reducible repeat (first | refine blk_drewN ?_ _ | refine blk_drew ?_ | refine blk_alloc ?_ _)); refine blk_far ?_ NB302_316.out _; (with_reducible repeat (first | refine blk_drewN ?_ _ | refine blk_drew ?_ | refine blk_alloc ?_ _)); refine blk_far ?_ NB302_316.out _; (with_reducible repeat (first | refine blk_drewN ?_ _ | refine blk_drew ?_ | refine blk_alloc ?_ _)); exact BK302.out) : p := h
theorem b8 {p : Prop} (h : p := by (with_reducible repeat (first | apply Kd.R_alloc | apply Kd.R_drewN | apply Kd.R_drew)); exact Kd.R_mono (Kd.R_far (p := ⟨gb316, 4, none⟩) (Kd.R_far (p := ⟨gb316, 3, none⟩) (Kd.R_far (p := ⟨gb316, 2, none⟩) (Kd.R_far (p := ⟨gb316, 1, none⟩) (Kd.R_far (p := ⟨gb316, 0, none⟩) (Kd.R_mono HO_301001.out (fun k_ hk => (⟨hk, hk.2⟩ : _ ∧ k_ ≠ gb316))) (fun _ hk => hk.2) (.string ((rd_T42 l0_1 x10_3).f0))) (fun _ hk => hk.2) (.int .i64 ((rd_T42 l0_1 x10_3).f1))) (fun _ hk => hk.2) (.int .i64 ((rd_T42 l0_1 x10_3).f2.f0))) (fun _ hk => hk.2) (.int .i64 ((rd_T42 l0_1 x10_3).f2.f1))) (fun _ hk => hk.2) (.int .i64 ((rd_T42 l0_1 x10_3).f3))) (fun _ hk => ⟨hk.1.1.1, ⟨hk.1.1.2.1, ⟨hk.1.1.2.2, hk.1.2⟩⟩⟩)) : p := h
theorem b9 {p : Prop} (h : p := by (with_reducible repeat (first | apply Kd.R_alloc | apply Kd.R_drewN | apply Kd.R_drew)); exact Kd.R_mono (Kd.R_far (p := ⟨gb316, 4, none⟩) (Kd.R_far (p := ⟨gb316, 3, none⟩) (Kd.R_far (p := ⟨gb316, 2, none⟩) (Kd.R_far (p := ⟨gb316, 1, none⟩) (Kd.R_far (p := ⟨gb316, 0, none⟩) (Kd.R_mono HO_8.out (fun k_ hk => (⟨hk, hk.2⟩ : _ ∧ k_ ≠ gb316))) (fun _ hk => hk.2) (.string ((rd_T42 l0_1 x10_3).f0))) (fun _ hk => hk.2) (.int .i64 ((rd_T42 l0_1 x10_3).f1))) (fun _ hk => hk.2) (.int .i64 ((rd_T42 l0_1 x10_3).f2.f0))) (fun _ hk => hk.2) (.int .i64 ((rd_T42 l0_1 x10_3).f2.f1))) (fun _ hk => hk.2) (.int .i64 ((rd_T42 l0_1 x10_3).f3))) (fun _ hk => ⟨hk.1.1.1, ⟨hk.1.1.2.1, ⟨hk.1.1.2.2, hk.1.2⟩⟩⟩)) : p := h
theorem b10 {p : Prop} (h : p := by (with_reducible repeat (first | refine blk_drewN ?_ _ | refine blk_drew ?_ | refine blk_alloc ?_ _)); refine blk_put (cs := #[.int .i64 a0_0, .slice none 0 0]) ?_ 1 _ rfl; (with_reducible repeat (first | refine blk_drewN ?_ _ | refine blk_drew ?_ | refine blk_alloc ?_ _)); refine blk_put (cs := #[.int .i64 0, .slice none 0 0]) ?_ 0 _ rfl; (with_reducible repeat (first | refine blk_drewN ?_ _ | refine blk_drew ?_ | refine blk_alloc ?_ _)); exact BK302.out) : p := h
theorem b11 {p : Prop} (h : p := by first | exact HK.out.1 | exact (show Kept w _ (fun k_ => P0_1_ k_) from by repeat (first | (with_reducible first | exact HK.out | apply Kept.alloc | apply Kept.drewN | apply Kept.drew | refine Kept.setCell ?_ (.inr GW300.out) _ | refine Kept.setCell ?_ (.inr GW301.out) _ | refine Kept.setCell ?_ (.inr GW302.out) _) | exact HK.out)).1) : p := h
theorem b12 {p : Prop} (h : p := by (with_reducible repeat (first | refine blk_drewN ?_ _ | refine blk_drew ?_ | refine blk_alloc ?_ _)); exact BK300.out) : p := h
theorem b13 {p : Prop} (h : p := by (with_reducible repeat (first | refine blk_drewN ?_ _ | refine blk_drew ?_ | refine blk_alloc ?_ _)); exact BK301.out) : p := h
theorem b14 {p : Prop} (h : p := by (with_reducible repeat (first | refine blk_drewN ?_ _ | refine blk_drew ?_ | refine blk_alloc ?_ _)); exact BK302.out) : p := h
theorem b15 {p : Prop} (h : p := by (with_reducible repeat (first | apply Kd.R_alloc | apply Kd.R_drewN | apply Kd.R_drew)); exact HO_301001.out) : p := h
theorem b16 {p : Prop} (h : p := by first | exact HK.out.1 | exact (show Kept w _ (fun k_ => P0_1_ k_) from by repeat (first | (with_reducible first | exact HK.out | apply Kept.alloc | apply Kept.drewN | apply Kept.drew | refine Kept.setCell ?_ (.inr GW300.out) _ | refine Kept.setCell ?_ (.inr GW301.out) _ | refine Kept.setCell ?_ (.inr GW302.out) _ | refine Kept.setCell ?_ (.inr GW316.out) _) | exact HK.out)).1) : p := h
theorem b17 {p : Prop} (h : p := by (with_reducible repeat (first | apply Kd.R_alloc | apply Kd.R_drewN | apply Kd.R_drew)); exact HO0_1.out) : p := h
theorem b18 {p : Prop} (h : p := by (try simp only [List.map_toArray, List.map_cons, List.map_nil]); first | done | rfl | (simp only [List.length_drop, List.length_take]; rfl)) : p := h
theorem b19 {p : Prop} (h : p := by first | rfl | (simp; done) | (simp [*]; done)) : p := h
theorem b20 {p : Prop} (h : p := by (with_reducible repeat (first | apply Kd.R_alloc | apply Kd.R_drewN | apply Kd.R_drew)); exact HO_8.out) : p := h
theorem b21 {p : Prop} (h : p := by (with_reducible repeat (first | apply Kd.R_alloc | apply Kd.R_drewN | apply Kd.R_drew)); exact Kd.R_mono HO_301001.out (fun _ hk => ⟨⟨hk.1, ⟨hk.2.2.1, hk.2.2.2⟩⟩, hk.2.1⟩)) : p := h
theorem b22 {p : Prop} (h : p := by (with_reducible repeat (first | apply Kd.R_alloc | apply Kd.R_drewN | apply Kd.R_drew)); exact Kd.R_mono HO_301001.out (fun _ hk => ⟨hk.1.1, ⟨hk.2, hk.1.2.1⟩⟩)) : p := h
theorem b23 {p : Prop} (h : p := by first | rfl | (simp [errW_none, errW_some] <;> rfl) | (simp [*, errW_none, errW_some] <;> rfl)) : p := h
theorem b24 {p : Prop} (h : p := by have := HJ3.out; have := HJ42.out; have := HK3.out; have := HJ62.out; omega) : p := h
theorem b25 {p : Prop} (h : p := by have := HJ3.out; have := HJ42.out; have := HK3.out; first | omega | exact Nat.le_refl _) : p := h
theorem b26 {p : Prop} (h : p := by first | omega | exact Nat.le_refl _) : p := h
end BAx17
open BAx17
set_option maxHeartbeats 8000000 in
set_option maxRecDepth 100000 in
theorem mosaicref31_Table_Announce.calls (k : Nat) (a0_0 : Int) (P0_1_ : Nat → Prop) (u9000_ : Value) (l0_1 : List (S42)) (a1_0 : ByteArray) (a1_1 : Int) (a1_2 : Int) (a1_3 : Int) (a1_4 : Int) (a2 : Int) (r1 : Int) (r2 : List (S42)) (r3 : Int) (w0 w : World) (hB : Below w0.heap.size w0 w) (ho0_1 : Kd.R k42 42 w w0.heap.size P0_1_ u9000_ l0_1) (h : mosaicref31_Table_Announce.f k a0_0 l0_1 a1_0 a1_1 a1_2 a1_3 a1_4 a2 = some (r1, r2, r3)) :
  Calls Tryz.prog 8 #[.agg #[.int .i64 a0_0, u9000_], .agg #[.string a1_0, .int .i64 a1_1, .int .i64 a1_2, .int .i64 a1_3, .int .i64 a1_4], .int .i64 a2] w fun e w' => ∃ v1_ : Value, e = .returned (.tuple #[.agg #[.int .i64 r1, v1_], .int .i64 r3]) ∧ Kd.R k42 42 w' w0.heap.size (fun k_ => (P0_1_ k_ ∨ w.heap.size ≤ k_)) v1_ r2 ∧ Below w0.heap.size w0 w' ∧ Kept w w' (fun k_ => P0_1_ k_) := by
 have hu33 := Tryz.underlying33
 have hu42 := Tryz.underlying42
 have hu40 := Tryz.underlying40
 have HO0_1 := Aside0.mk (show Kd.R k42 42 w w0.heap.size (fun k_ => (P0_1_ k_ ∨ w.heap.size ≤ k_)) u9000_ l0_1 from Kd.R_mono ho0_1 (fun k_ hk => (.inl hk)))
 have HK := Aside0.mk (Kept.refl w (fun k_ => P0_1_ k_))
 have HW0 := Aside0.mk hB.size
 have HB := Aside0.mk hB
 clear hB
 have H : ((mosaicref18_Tick.f a2).bind fun t303 => (if t303 = true then (if (a1_0.size : Int) = 32 then ((mosaicref18_IsPeer.f a1_1).bind fun t304 => (if t304 = true then ((mosaicref17_Check.f a1_2 a1_3).bind fun t305 => (if t305 = true then (if a1_4 < a2 then (mosaicref31_Table_Announce.j0 k a2 true a0_0 l0_1 a1_0 a1_1 a1_2 a1_3 a1_4) else (mosaicref31_Table_Announce.j0 k a2 (decide (a1_4 > 1099511627776)) a0_0 l0_1 a1_0 a1_1 a1_2 a1_3 a1_4)) else (mosaicref31_Table_Announce.j0 k a2 true a0_0 l0_1 a1_0 a1_1 a1_2 a1_3 a1_4))) else (mosaicref31_Table_Announce.j0 k a2 true a0_0 l0_1 a1_0 a1_1 a1_2 a1_3 a1_4))) else (mosaicref31_Table_Announce.j0 k a2 true a0_0 l0_1 a1_0 a1_1 a1_2 a1_3 a1_4)) else (mosaicref31_Table_Announce.j0 k a2 true a0_0 l0_1 a1_0 a1_1 a1_2 a1_3 a1_4))) = some (r1, r2, r3) := h
 clear h
 have HC4 := Aside0.mk H
 clear H
 obtain ⟨Ao5, co5, eo5⟩ := Kd.R_slice HO0_1.out
 subst eo5
 go_enter Tryz.func8, Tryz.ntmps8
 go_upto_region 1 with (first | ((with_reducible refine gate_dst (N := 3) rfl ?_); (try (refine gate_guard (by rfl) ?_; dsimp only)); refine box_event ?hg (N := 3) ?hd (cs := #[.int .i64 a0_0, .slice Ao5 l0_1.length co5]) (t := 33) ?hr ?_; (case hd => rfl); (case hg => rfl); (case hr => first | (go_simp; done) | (go_simp; rfl)); intro gb300 hg w6 hbox hb; replace HO0_1 := Aside0.mk (Kd.R_below b17 hb); have BK300 := Aside0.mk (hbox); have GW300 := Aside0.mk ((by rw [hg]; exact (by first | exact HK.out.1 | exact (show Kept w _ (fun k_ => P0_1_ k_) from by repeat (first | (with_reducible first | exact HK.out | apply Kept.alloc | apply Kept.drewN | apply Kept.drew) | exact HK.out)).1) : w.heap.size ≤ gb300)); replace HK := Aside0.mk (Kept.below (S := (fun k_ => P0_1_ k_)) (by repeat (first | (with_reducible first | exact HK.out | apply Kept.alloc | apply Kept.drewN | apply Kept.drew) | exact HK.out)) hb); have GE300 := hG HB hg; replace HB := hS HB hb; clear hb hbox hg) | ((with_reducible refine gate_dst (N := 4) rfl ?_); (try (refine gate_guard (by rfl) ?_; dsimp only)); refine box_event ?hg (N := 4) ?hd (cs := #[.string a1_0, .int .i64 a1_1, .int .i64 a1_2, .int .i64 a1_3, .int .i64 a1_4]) (t := 42) ?hr ?_; (case hd => rfl); (case hg => rfl); (case hr => first | (go_simp; done) | (go_simp; rfl)); intro gb301 hg w7 hbox hb; replace HO0_1 := Aside0.mk (Kd.R_below (Kd.R_elderB b17 gb301 (Nat.le_of_eq hg.symm)) hb); have BK301 := Aside0.mk (hbox); have GW301 := Aside0.mk ((by rw [hg]; exact (by first | exact HK.out.1 | exact (show Kept w _ (fun k_ => P0_1_ k_) from by repeat (first | (with_reducible first | exact HK.out | apply Kept.alloc | apply Kept.drewN | apply Kept.drew | refine Kept.setCell ?_ (.inr GW300.out) _) | exact HK.out)).1) : w.heap.size ≤ gb301)); replace HK := Aside0.mk (Kept.below (S := (fun k_ => P0_1_ k_)) (by repeat (first | (with_reducible first | exact HK.out | apply Kept.alloc | apply Kept.drewN | apply Kept.drew | refine Kept.setCell ?_ (.inr GW300.out) _) | exact HK.out)) hb); have GE301 := hG HB hg; replace HB := hS HB hb; have NB300_301 := bNl BK300 hg; have NB301_300 := bNg BK300 hg; replace BK300 := bB BK300 hb; clear hb hbox hg) | ((with_reducible refine gate_dst (N := 6) rfl ?_); (try (refine gate_guard (by rfl) ?_; dsimp only)); refine box_event ?hg (N := 6) ?hd (cs := #[.int .i64 0, .slice none 0 0]) (t := 33) ?hr ?_; (case hd => rfl); (case hg => rfl); (case hr => first | (go_simp; done) | (go_simp; rfl)); intro gb302 hg w8 hbox hb; replace HO0_1 := Aside0.mk (Kd.R_below b17 hb); have BK302 := Aside0.mk (hbox); have GW302 := Aside0.mk ((by rw [hg]; exact (by first | exact HK.out.1 | exact (show Kept w _ (fun k_ => P0_1_ k_) from by repeat (first | (with_reducible first | exact HK.out | apply Kept.alloc | apply Kept.drewN | apply Kept.drew | refine Kept.setCell ?_ (.inr GW300.out) _ | refine Kept.setCell ?_ (.inr GW301.out) _) | exact HK.out)).1) : w.heap.size ≤ gb302)); replace HK := Aside0.mk (Kept.below (S := (fun k_ => P0_1_ k_)) (by repeat (first | (with_reducible first | exact HK.out | apply Kept.alloc | apply Kept.drewN | apply Kept.drew | refine Kept.setCell ?_ (.inr GW300.out) _ | refine Kept.setCell ?_ (.inr GW301.out) _) | exact HK.out)) hb); have GE302 := hG HB hg; replace HB := hS HB hb; have NB300_302 := bNl BK300 hg; have NB302_300 := bNg BK300 hg; replace BK300 := bB BK300 hb; have NB301_302 := bNl BK301 hg; have NB302_301 := bNg BK301 hg; replace BK301 := bB BK301 hb; clear hb hbox hg))
 (try simp only [Act.put, List.setIfInBounds_toArray, List.set_cons_zero, List.set_cons_succ])
 go_cut [43] (fun v43 wc => ∃ (kq : Nat) (x43_3 : Bool), v43 = .bool x43_3 ∧ Aside0 (mosaicref31_Table_Announce.j0 kq a2 x43_3 a0_0 l0_1 a1_0 a1_1 a1_2 a1_3 a1_4 = some (r1, r2, r3)) ∧ Aside0 (kq ≤ k) ∧ Aside0 (Kd.R k42 42 wc w0.heap.size (fun k_ => (P0_1_ k_ ∨ w.heap.size ≤ k_) ∧ k_ ≠ gb301) (.slice Ao5 l0_1.length co5) l0_1) ∧ Aside0 (wc.heap[gb300]? = some (.cells #[.int .i64 a0_0, (.slice Ao5 l0_1.length co5)] 33 (0, 0))) ∧ Aside0 (wc.heap[gb301]? = some (.cells #[.string a1_0, .int .i64 a1_1, .int .i64 a1_2, .int .i64 a1_3, .int .i64 a1_4] 42 (0, 0))) ∧ Aside0 (wc.heap[gb302]? = some (.cells #[.int .i64 0, (.slice none 0 0)] 33 (0, 0))) ∧ Aside0 (Kept w wc (fun k_ => P0_1_ k_)) ∧ Aside0 (Below w0.heap.size w0 wc))
 case first =>
  have H := HC4.out
  clear HC4
  replace H := Option.bind_eq_some_iff.mp H
  obtain ⟨t303, A90, H⟩ := H
  have A9 := Aside0.mk A90
  clear A90
  by_cases c10 : t303 = true
  ·
   subst c10
   rw [if_pos rfl] at H
   by_cases c11 : (a1_0.size : Int) = 32
   ·
    rw [if_pos c11] at H
    have c11b0 := beq_iff_eq.mpr c11
    have c11b1 := bne_eq_false_iff_eq.mpr c11
    clear c11
    (first | rw [c11b0] | (simp only [i64_w, i32_w, IntKind.wrap_u8]; rw [c11b0]) | skip)
    replace H := Option.bind_eq_some_iff.mp H
    obtain ⟨t304, A120, H⟩ := H
    have A12 := Aside0.mk A120
    clear A120
    by_cases c13 : t304 = true
    ·
     subst c13
     rw [if_pos rfl] at H
     replace H := Option.bind_eq_some_iff.mp H
     obtain ⟨t305, A140, H⟩ := H
     have A14 := Aside0.mk A140
     clear A140
     by_cases c15 : t305 = true
     ·
      subst c15
      rw [if_pos rfl] at H
      by_cases c16 : a1_4 < a2
      ·
       rw [if_pos c16] at H
       have c16b0 := decide_eq_true c16
       clear c16
       have H' := Aside0.mk H
       clear H
       go_wp2_with (first | ((with_reducible refine gate_callee (f := 29) rfl ?_); refine goesL_ (some 13) rfl rfl Tryz.func29 (by kernel_rfl) rfl #[.int .i64 a2] rfl b18 ?_; (with_reducible refine (mosaicref18_Tick.calls a2 true _ A9.out).mono ?_); rintro e w' ⟨rfl, ⟨nd, rfl⟩⟩; refine ⟨_, rfl, ?_⟩; have hnb17 := NB301_300.out; have hnc17 := NB300_301.out; have hnb18 := NB301_302.out; have hnc18 := NB302_301.out; have ⟨_, _, _, _, _, _, _, _, _, _⟩ := cc5 BK301) | (go_at_call 30; (with_reducible refine (mosaicref18_IsPeer.calls a1_1 true _ A12.out).mono ?_); rintro e w' ⟨rfl, ⟨nd, rfl⟩⟩) | (go_at_call 31; (with_reducible refine (mosaicref17_Check.calls a1_2 a1_3 true _ A14.out).mono ?_); rintro e w20 ⟨rfl, hb⟩; replace HO0_1 := Aside0.mk (Kd.R_below b17 hb); replace BK300 := bB BK300 hb; replace BK301 := bB BK301 hb; replace BK302 := bB BK302 hb; replace HK := Aside0.mk (Kept.below (S := (fun k_ => P0_1_ k_)) b0 hb); replace HB := Aside0.mk (below_step b1 hb); (try clear hb); (try clear hb2); (try clear hk); (try clear hi); have ⟨_, _, _, _, _, _, _, _, _, _⟩ := cc5 BK301))
       go_meet
       case rel => exact ⟨_, (true), b19, H', ⟨b26⟩, ⟨b17⟩, ⟨b12⟩, ⟨b13⟩, ⟨b14⟩, ⟨b0⟩, ⟨b1⟩⟩
      ·
       rw [if_neg c16] at H
       have c16b0 := decide_eq_false c16
       clear c16
       have H' := Aside0.mk H
       clear H
       go_wp2_with (first | ((with_reducible refine gate_callee (f := 29) rfl ?_); refine goesL_ (some 13) rfl rfl Tryz.func29 (by kernel_rfl) rfl #[.int .i64 a2] rfl b18 ?_; (with_reducible refine (mosaicref18_Tick.calls a2 true _ A9.out).mono ?_); rintro e w' ⟨rfl, ⟨nd, rfl⟩⟩; refine ⟨_, rfl, ?_⟩; have hnb22 := NB301_300.out; have hnc22 := NB300_301.out; have hnb23 := NB301_302.out; have hnc23 := NB302_301.out; have ⟨_, _, _, _, _, _, _, _, _, _⟩ := cc5 BK301) | (go_at_call 30; (with_reducible refine (mosaicref18_IsPeer.calls a1_1 true _ A12.out).mono ?_); rintro e w' ⟨rfl, ⟨nd, rfl⟩⟩) | (go_at_call 31; (with_reducible refine (mosaicref17_Check.calls a1_2 a1_3 true _ A14.out).mono ?_); rintro e w25 ⟨rfl, hb⟩; replace HO0_1 := Aside0.mk (Kd.R_below b17 hb); replace BK300 := bB BK300 hb; replace BK301 := bB BK301 hb; replace BK302 := bB BK302 hb; replace HK := Aside0.mk (Kept.below (S := (fun k_ => P0_1_ k_)) b0 hb); replace HB := Aside0.mk (below_step b1 hb); (try clear hb); (try clear hb2); (try clear hk); (try clear hi); have ⟨_, _, _, _, _, _, _, _, _, _⟩ := cc5 BK301))
       go_meet
       case rel => exact ⟨_, (decide (a1_4 > 1099511627776)), b19, H', ⟨b26⟩, ⟨b17⟩, ⟨b12⟩, ⟨b13⟩, ⟨b14⟩, ⟨b0⟩, ⟨b1⟩⟩
     ·
      replace c15 := Bool.eq_false_iff.mpr c15
      subst c15
      rw [if_neg (show ¬ (false = true) by decide)] at H
      have H' := Aside0.mk H
      clear H
      go_wp2_with (first | ((with_reducible refine gate_callee (f := 29) rfl ?_); refine goesL_ (some 13) rfl rfl Tryz.func29 (by kernel_rfl) rfl #[.int .i64 a2] rfl b18 ?_; (with_reducible refine (mosaicref18_Tick.calls a2 true _ A9.out).mono ?_); rintro e w' ⟨rfl, ⟨nd, rfl⟩⟩; refine ⟨_, rfl, ?_⟩; have hnb27 := NB301_300.out; have hnc27 := NB300_301.out; have hnb28 := NB301_302.out; have hnc28 := NB302_301.out; have ⟨_, _, _, _, _, _, _, _, _, _⟩ := cc5 BK301) | (go_at_call 30; (with_reducible refine (mosaicref18_IsPeer.calls a1_1 true _ A12.out).mono ?_); rintro e w' ⟨rfl, ⟨nd, rfl⟩⟩) | (go_at_call 31; (with_reducible refine (mosaicref17_Check.calls a1_2 a1_3 false _ A14.out).mono ?_); rintro e w30 ⟨rfl, hb⟩; replace HO0_1 := Aside0.mk (Kd.R_below b17 hb); replace BK300 := bB BK300 hb; replace BK301 := bB BK301 hb; replace BK302 := bB BK302 hb; replace HK := Aside0.mk (Kept.below (S := (fun k_ => P0_1_ k_)) b0 hb); replace HB := Aside0.mk (below_step b1 hb); (try clear hb); (try clear hb2); (try clear hk); (try clear hi)))
      go_meet
      case rel => exact ⟨_, (true), b19, H', ⟨b26⟩, ⟨b17⟩, ⟨b12⟩, ⟨b13⟩, ⟨b14⟩, ⟨b0⟩, ⟨b1⟩⟩
    ·
     replace c13 := Bool.eq_false_iff.mpr c13
     subst c13
     rw [if_neg (show ¬ (false = true) by decide)] at H
     have H' := Aside0.mk H
     clear H
     go_wp2_with (first | ((with_reducible refine gate_callee (f := 29) rfl ?_); refine goesL_ (some 13) rfl rfl Tryz.func29 (by kernel_rfl) rfl #[.int .i64 a2] rfl b18 ?_; (with_reducible refine (mosaicref18_Tick.calls a2 true _ A9.out).mono ?_); rintro e w' ⟨rfl, ⟨nd, rfl⟩⟩; refine ⟨_, rfl, ?_⟩; have hnb31 := NB301_300.out; have hnc31 := NB300_301.out; have hnb32 := NB301_302.out; have hnc32 := NB302_301.out; have ⟨_, _, _, _, _, _, _, _, _, _⟩ := cc5 BK301) | (go_at_call 30; (with_reducible refine (mosaicref18_IsPeer.calls a1_1 false _ A12.out).mono ?_); rintro e w' ⟨rfl, ⟨nd, rfl⟩⟩))
     go_meet
     case rel => exact ⟨_, (true), b19, H', ⟨b26⟩, ⟨b17⟩, ⟨b12⟩, ⟨b13⟩, ⟨b14⟩, ⟨b0⟩, ⟨b1⟩⟩
   ·
    rw [if_neg c11] at H
    have c11b0 := beq_eq_false_iff_ne.mpr c11
    have c11b1 := bne_iff_ne.mpr c11
    (first | rw [c11b0] | (simp only [i64_w, i32_w, IntKind.wrap_u8]; rw [c11b0]) | skip)
    have H' := Aside0.mk H
    clear H
    go_wp2_with (first | ((with_reducible refine gate_callee (f := 29) rfl ?_); refine goesL_ (some 13) rfl rfl Tryz.func29 (by kernel_rfl) rfl #[.int .i64 a2] rfl b18 ?_; (with_reducible refine (mosaicref18_Tick.calls a2 true _ A9.out).mono ?_); rintro e w' ⟨rfl, ⟨nd, rfl⟩⟩; refine ⟨_, rfl, ?_⟩; have hnb34 := NB301_300.out; have hnc34 := NB300_301.out; have hnb35 := NB301_302.out; have hnc35 := NB302_301.out; have ⟨_, _, _, _, _, _, _, _, _, _⟩ := cc5 BK301))
    go_meet
    case rel => exact ⟨_, (true), b19, H', ⟨b26⟩, ⟨b17⟩, ⟨b12⟩, ⟨b13⟩, ⟨b14⟩, ⟨b0⟩, ⟨b1⟩⟩
  ·
   replace c10 := Bool.eq_false_iff.mpr c10
   subst c10
   rw [if_neg (show ¬ (false = true) by decide)] at H
   have H' := Aside0.mk H
   clear H
   go_wp2_with (first | ((with_reducible refine gate_callee (f := 29) rfl ?_); refine goesL_ (some 13) rfl rfl Tryz.func29 (by kernel_rfl) rfl #[.int .i64 a2] rfl b18 ?_; (with_reducible refine (mosaicref18_Tick.calls a2 false _ A9.out).mono ?_); rintro e w' ⟨rfl, ⟨nd, rfl⟩⟩; refine ⟨_, rfl, ?_⟩))
   go_meet
   case rel => exact ⟨_, (true), b19, H', ⟨b26⟩, ⟨b17⟩, ⟨b12⟩, ⟨b13⟩, ⟨b14⟩, ⟨b0⟩, ⟨b1⟩⟩
 case rest =>
  clear HC4
  obtain ⟨kq, x43_3, rfl, HA, HJ3, HO_301001, BK300, BK301, BK302, HK, HB⟩ := hcut
  cases kq with
  | zero => exact absurd HA.out (by simp [mosaicref31_Table_Announce.j0])
  | succ kj3 =>
   have H := HA.out
   clear HA
   simp only [mosaicref31_Table_Announce.j0] at H
   by_cases c37 : x43_3 = true
   ·
    subst c37
    rw [if_pos rfl] at H
    simp only [Option.some.injEq, Prod.mk.injEq] at H
    obtain ⟨rfl, rfl, rfl⟩ := H
    have hnb38 := NB300_301.out
    have hnc38 := NB301_300.out
    have hnb39 := NB300_302.out
    have hnc39 := NB302_300.out
    have ⟨_, _, _, _⟩ := cc2 BK300
    have hnb41 := NB302_301.out
    have hnc41 := NB301_302.out
    have ⟨_, _, _, _⟩ := cc2 BK302
    go_wp2
    refine bodyPost_ret (results_ct rfl _ _ gb302 33 #[.int .i64 a0_0, .slice Ao5 l0_1.length co5] (0, 0) _ rfl b10 Tryz.underlying33 rfl (by kernel_rfl)) rfl ?_
    exact ⟨_, b23, by (with_reducible repeat (first | apply Kd.R_alloc | apply Kd.R_drewN | apply Kd.R_drew)); exact Kd.R_mono (Kd.R_far (p := ⟨gb302, 1, none⟩) (Kd.R_far (p := ⟨gb302, 0, none⟩) (Kd.R_types HO_301001.out BK302.out (by decide)) (fun _ hk => hk.2) (.int .i64 a0_0)) (fun _ hk => hk.2) (.slice Ao5 l0_1.length co5)) (fun _ hk => hk.1.1), b1, b0⟩
   ·
    replace c37 := Bool.eq_false_iff.mpr c37
    subst c37
    rw [if_neg (show ¬ (false = true) by decide)] at H
    have HC43 := Aside0.mk H
    clear H
    go_upto_region 3 with (fail)
    go_cut [60] (fun v60 wc => ∃ (kq : Nat) (x60_42 : Bool), v60 = .bool x60_42 ∧ Aside0 (mosaicref31_Table_Announce.j1 kq a2 x60_42 a0_0 l0_1 a1_0 a1_1 a1_2 a1_3 a1_4 = some (r1, r2, r3)) ∧ Aside0 (kq ≤ kj3) ∧ Aside0 (Kd.R k42 42 wc w0.heap.size (fun k_ => (P0_1_ k_ ∨ w.heap.size ≤ k_) ∧ k_ ≠ gb301) (.slice Ao5 l0_1.length co5) l0_1) ∧ Aside0 (wc.heap[gb300]? = some (.cells #[.int .i64 a0_0, (.slice Ao5 l0_1.length co5)] 33 (0, 0))) ∧ Aside0 (wc.heap[gb301]? = some (.cells #[.string a1_0, .int .i64 a1_1, .int .i64 a1_2, .int .i64 a1_3, .int .i64 a1_4] 42 (0, 0))) ∧ Aside0 (wc.heap[gb302]? = some (.cells #[.int .i64 0, (.slice none 0 0)] 33 (0, 0))) ∧ Aside0 (Kept w wc (fun k_ => P0_1_ k_)) ∧ Aside0 (Below w0.heap.size w0 wc))
    case first =>
     have H := HC43.out
     clear HC43
     replace H := Option.bind_eq_some_iff.mp H
     obtain ⟨t306, A440, H⟩ := H
     have A44 := Aside0.mk A440
     clear A440
     by_cases c45 : (t306.length : Int) = 0
     ·
      rw [if_pos c45] at H
      have c45b0 := beq_iff_eq.mpr c45
      have c45b1 := bne_eq_false_iff_eq.mpr c45
      clear c45
      (first | rw [c45b0] | (simp only [i64_w, i32_w, IntKind.wrap_u8]; rw [c45b0]) | skip)
      replace H := Option.bind_eq_some_iff.mp H
      obtain ⟨t309, A460, H⟩ := H
      have A46 := Aside0.mk A460
      clear A460
      have H' := Aside0.mk H
      clear H
      try go_wp2
      have n0_ := Aside0.mk (Kd.R_drew HO_301001.out)
      have n1_ := Aside0.mk (blk_drew BK300.out)
      have n2_ := Aside0.mk (blk_drew BK301.out)
      have n3_ := Aside0.mk (blk_drew BK302.out)
      have n4_ := Aside0.mk (Kept.drew HK.out)
      have n5_ := Aside0.mk (below_drew1 HB.out)
      clear HO_301001 BK300 BK301 BK302 HK HB
      have HO_301001 := n0_
      have BK300 := n1_
      have BK301 := n2_
      have BK302 := n3_
      have HK := n4_
      have HB := n5_
      clear n0_ n1_ n2_ n3_ n4_ n5_
      refine start_ (n := 16) (S := fun w' => w'.cell? ⟨gb300, 0, none⟩ = some (.int .i64 a0_0) ∧ w'.cell? ⟨gb300, 1, none⟩ = some (.slice Ao5 l0_1.length co5) ∧ w'.cell? ⟨gb301, 0, none⟩ = some (.string a1_0) ∧ w'.cell? ⟨gb301, 1, none⟩ = some (.int .i64 a1_1) ∧ w'.cell? ⟨gb301, 2, none⟩ = some (.int .i64 a1_2) ∧ w'.cell? ⟨gb301, 3, none⟩ = some (.int .i64 a1_3) ∧ w'.cell? ⟨gb301, 4, none⟩ = some (.int .i64 a1_4)) (ds := []) (fB 16 0) (by kernel_rfl) rfl rfl ⟨(blk_cell BK300.out 0).trans rfl, (blk_cell BK300.out 1).trans rfl, (blk_cell BK301.out 0).trans rfl, (blk_cell BK301.out 1).trans rfl, (blk_cell BK301.out 2).trans rfl, (blk_cell BK301.out 3).trans rfl, (blk_cell BK301.out 4).trans rfl⟩ (fun hHeld => ?_); refine with_tabW mosaicref31_Table_Announce.tab3 mosaicref31_Table_Announce.bits3 (fun HT_ HW_ => ?_)
      generalize wc.drew = w47 at HO_301001 BK300 BK301 BK302 HK HB hHeld ⊢
      refine pS 1 46 16 2 HT_ ?_
      refine pS 3 48 16 10 HT_ ?_
      refine tS 0 45 16 11 HT_ HW_ hHeld ?_
      refine tS 2 47 16 15 HT_ HW_ hHeld ?_
      refine one_ (i := 4) (N := some 49) (fB 16 31) rfl rfl (one_of HT_.out (by kernel_rfl)) (by decide) (fun K hK => ?_)
      refine goes_ Tryz.func21 (by kernel_rfl) rfl #[.agg #[.int .i64 a0_0, .slice Ao5 l0_1.length co5], .string a1_0, .int .i64 a2] (by rfl) rfl rfl b18 ?_
      with_reducible refine (mosaicref31_Table_Nodes.calls kj3 a0_0 _ _ l0_1 a1_0 a2 t306 _ ?side1 ?side2 A44.out).mono ?_
      (case side1 => repeat (first | exact (Kd.R_reads' HO_301001.out).2.2 | (with_reducible refine Kd.C_alloc ?_ _) | (with_reducible refine Kd.C_drewN ?_ _) | (with_reducible refine Kd.C_drew ?_)))
      (case side2 => exact (Kd.R_reads' HO_301001.out).2.1)
      rintro e w48 ⟨v307, rfl, ho0, hb⟩
      refine ⟨_, rfl, ?_⟩
      have n0_ := Aside0.mk (Kd.R_elder' b15 (Kd.R_base ho0) hb)
      have n1_ := Aside0.mk (Kd.R_lower (Kd.R_newB (Kd.R_new' (Kd.R_newM (M := fun k_ => (P0_1_ k_ ∨ w.heap.size ≤ k_)) ho0 b11 (fun k_ h_ => .inr h_)) (Kd.R_lt b15)) (g := gb301) (o := .cells #[.string a1_0, .int .i64 a1_1, .int .i64 a1_2, .int .i64 a1_3, .int .i64 a1_4] 42 (0, 0)) (by exact bS BK301)) (below_size b1))
      have n2_ := bB BK300 hb
      have n3_ := bB BK301 hb
      have n4_ := bB BK302 hb
      have n5_ := Aside0.mk (Kept.below (S := (fun k_ => P0_1_ k_)) b0 hb)
      have n6_ := hS HB hb
      clear HO_301001 BK300 BK301 BK302 HK HB
      have HO_301001 := n0_
      have HO308 := n1_
      have BK300 := n2_
      have BK301 := n3_
      have BK302 := n4_
      have HK := n5_
      have HB := n6_
      clear n0_ n1_ n2_ n3_ n4_ n5_ n6_
      (try clear hb); (try clear hb2); (try clear hk); (try clear hi)
      (try clear ho0)
      obtain ⟨Ao49, co49, eo49⟩ := Kd.R_slice HO308.out
      (first | subst eo49 | (injection eo49 with f1_ f2_ f3_; have f4_ := f1_.symm; have f5_ := f3_.symm; clear f1_ f2_ f3_; subst f4_; subst f5_))
      refine hK.out _ _ ⟨(blk_cell BK300.out 0).trans rfl, (blk_cell BK300.out 1).trans rfl, (blk_cell BK301.out 0).trans rfl, (blk_cell BK301.out 1).trans rfl, (blk_cell BK301.out 2).trans rfl, (blk_cell BK301.out 3).trans rfl, (blk_cell BK301.out 4).trans rfl⟩ (fun hHeld => ?_)
      clear hK K
      refine norm_ (a' := ?_) ?_ ?_
      rotate_left; · show Act.put _ (some 49) _ = _; simp only [Act.put, sA, sB, sC, i64_w, i32_w, sD]; rfl
      refine pS 5 50 16 63 HT_ ?_
      refine pS 6 51 16 127 HT_ ?_
      refine pS 7 52 16 255 HT_ ?_
      refine pS 9 54 16 767 HT_ ?_
      refine pS 12 57 16 4863 HT_ ?_
      refine tS 8 53 16 5119 HT_ HW_ hHeld ?_
      refine tS 13 58 16 13311 HT_ HW_ hHeld ?_
      refine one_ (i := 10) (N := some 55) (fB 16 14335) rfl rfl (one_of HT_.out (by kernel_rfl)) (by decide) (fun K hK => ?_)
      refine goes_ Tryz.func24 (by kernel_rfl) rfl #[.agg #[.int .i64 a0_0, .slice Ao5 l0_1.length co5], .int .i64 a2] (by rfl) rfl rfl b18 ?_
      with_reducible refine (mosaicref31_Table_Names.calls kj3 a0_0 _ _ l0_1 a2 t309 _ ?side1 ?side2 A46.out).mono ?_
      (case side1 => repeat (first | exact (Kd.R_reads' HO_301001.out).2.2 | (with_reducible refine Kd.C_alloc ?_ _) | (with_reducible refine Kd.C_drewN ?_ _) | (with_reducible refine Kd.C_drew ?_)))
      (case side2 => exact (Kd.R_reads' HO_301001.out).2.1)
      rintro e w50 ⟨v310, rfl, ho0, hb⟩
      refine ⟨_, rfl, ?_⟩
      have n0_ := Aside0.mk (Kd.R_below b15 hb)
      have n1_ := Aside0.mk (Kd.R_below (by (with_reducible repeat (first | apply Kd.R_alloc | apply Kd.R_drewN | apply Kd.R_drew)); exact HO308.out) hb)
      have n2_ := Aside0.mk (Kd.R_lower (Kd.R_newM (M := fun k_ => (P0_1_ k_ ∨ w.heap.size ≤ k_)) ho0 b11 (fun k_ h_ => .inr h_)) (below_size b1))
      have n3_ := bB BK300 hb
      have n4_ := bB BK301 hb
      have n5_ := bB BK302 hb
      have n6_ := Aside0.mk (Kept.below (S := (fun k_ => P0_1_ k_)) b0 hb)
      have n7_ := hS HB hb
      clear HO_301001 HO308 BK300 BK301 BK302 HK HB
      have HO_301001 := n0_
      have HO308 := n1_
      have HO311 := n2_
      have BK300 := n3_
      have BK301 := n4_
      have BK302 := n5_
      have HK := n6_
      have HB := n7_
      clear n0_ n1_ n2_ n3_ n4_ n5_ n6_ n7_
      (try clear hb); (try clear hb2); (try clear hk); (try clear hi)
      (try clear ho0)
      obtain ⟨Ao51, co51, eo51⟩ := Kd.R_slice HO311.out
      (first | subst eo51 | (injection eo51 with f1_ f2_ f3_; have f4_ := f1_.symm; have f5_ := f3_.symm; clear f1_ f2_ f3_; subst f4_; subst f5_))
      refine hK.out _ _ ⟨(blk_cell BK300.out 0).trans rfl, (blk_cell BK300.out 1).trans rfl, (blk_cell BK301.out 0).trans rfl, (blk_cell BK301.out 1).trans rfl, (blk_cell BK301.out 2).trans rfl, (blk_cell BK301.out 3).trans rfl, (blk_cell BK301.out 4).trans rfl⟩ (fun hHeld => ?_)
      clear hK K
      refine norm_ (a' := ?_) ?_ ?_
      rotate_left; · show Act.put _ (some 55) _ = _; simp only [Act.put, sA, sB, sC, i64_w, i32_w, sD]; rfl
      refine pS 11 56 16 16383 HT_ ?_
      refine pS 14 59 16 32767 HT_ ?_
      refine pS 15 60 16 65535 HT_ ?_
      refine done_ (done_of HT_.out (by kernel_rfl)) ?_
      try go_wp2
      go_meet
      case rel => exact ⟨_, (decide ((t309.length : Int) ≥ a0_0)), b19, H', ⟨by have := HJ3.out; first | omega | exact Nat.le_refl _⟩, ⟨by (with_reducible repeat (first | apply Kd.R_alloc | apply Kd.R_drewN | apply Kd.R_drew)); exact Kd.R_mono HO_301001.out (fun _ hk => ⟨hk.1.1, hk.1.2⟩)⟩, ⟨b12⟩, ⟨b13⟩, ⟨b14⟩, ⟨b0⟩, ⟨b1⟩⟩
     ·
      rw [if_neg c45] at H
      have c45b0 := beq_eq_false_iff_ne.mpr c45
      have c45b1 := bne_iff_ne.mpr c45
      have c45b2 : ¬ (t306 = []) := fun h_ => c45 (by rw [h_]; rfl)
      (first | rw [c45b0] | (simp only [i64_w, i32_w, IntKind.wrap_u8]; rw [c45b0]) | skip)
      have H' := Aside0.mk H
      clear H
      try go_wp2
      have n0_ := Aside0.mk (Kd.R_drew HO_301001.out)
      have n1_ := Aside0.mk (blk_drew BK300.out)
      have n2_ := Aside0.mk (blk_drew BK301.out)
      have n3_ := Aside0.mk (blk_drew BK302.out)
      have n4_ := Aside0.mk (Kept.drew HK.out)
      have n5_ := Aside0.mk (below_drew1 HB.out)
      clear HO_301001 BK300 BK301 BK302 HK HB
      have HO_301001 := n0_
      have BK300 := n1_
      have BK301 := n2_
      have BK302 := n3_
      have HK := n4_
      have HB := n5_
      clear n0_ n1_ n2_ n3_ n4_ n5_
      refine start_ (n := 16) (S := fun w' => w'.cell? ⟨gb300, 0, none⟩ = some (.int .i64 a0_0) ∧ w'.cell? ⟨gb300, 1, none⟩ = some (.slice Ao5 l0_1.length co5) ∧ w'.cell? ⟨gb301, 0, none⟩ = some (.string a1_0) ∧ w'.cell? ⟨gb301, 1, none⟩ = some (.int .i64 a1_1) ∧ w'.cell? ⟨gb301, 2, none⟩ = some (.int .i64 a1_2) ∧ w'.cell? ⟨gb301, 3, none⟩ = some (.int .i64 a1_3) ∧ w'.cell? ⟨gb301, 4, none⟩ = some (.int .i64 a1_4)) (ds := []) (fB 16 0) (by kernel_rfl) rfl rfl ⟨(blk_cell BK300.out 0).trans rfl, (blk_cell BK300.out 1).trans rfl, (blk_cell BK301.out 0).trans rfl, (blk_cell BK301.out 1).trans rfl, (blk_cell BK301.out 2).trans rfl, (blk_cell BK301.out 3).trans rfl, (blk_cell BK301.out 4).trans rfl⟩ (fun hHeld => ?_); refine with_tabW mosaicref31_Table_Announce.tab3 mosaicref31_Table_Announce.bits3 (fun HT_ HW_ => ?_)
      generalize wc.drew = w52 at HO_301001 BK300 BK301 BK302 HK HB hHeld ⊢
      refine pS 1 46 16 2 HT_ ?_
      refine pS 3 48 16 10 HT_ ?_
      refine tS 0 45 16 11 HT_ HW_ hHeld ?_
      refine tS 2 47 16 15 HT_ HW_ hHeld ?_
      refine one_ (i := 4) (N := some 49) (fB 16 31) rfl rfl (one_of HT_.out (by kernel_rfl)) (by decide) (fun K hK => ?_)
      refine goes_ Tryz.func21 (by kernel_rfl) rfl #[.agg #[.int .i64 a0_0, .slice Ao5 l0_1.length co5], .string a1_0, .int .i64 a2] (by rfl) rfl rfl b18 ?_
      with_reducible refine (mosaicref31_Table_Nodes.calls kj3 a0_0 _ _ l0_1 a1_0 a2 t306 _ ?side1 ?side2 A44.out).mono ?_
      (case side1 => repeat (first | exact (Kd.R_reads' HO_301001.out).2.2 | (with_reducible refine Kd.C_alloc ?_ _) | (with_reducible refine Kd.C_drewN ?_ _) | (with_reducible refine Kd.C_drew ?_)))
      (case side2 => exact (Kd.R_reads' HO_301001.out).2.1)
      rintro e w53 ⟨v307, rfl, ho0, hb⟩
      refine ⟨_, rfl, ?_⟩
      have n0_ := Aside0.mk (Kd.R_elder' b15 (Kd.R_base ho0) hb)
      have n1_ := Aside0.mk (Kd.R_lower (Kd.R_newB (Kd.R_new' (Kd.R_newM (M := fun k_ => (P0_1_ k_ ∨ w.heap.size ≤ k_)) ho0 b11 (fun k_ h_ => .inr h_)) (Kd.R_lt b15)) (g := gb301) (o := .cells #[.string a1_0, .int .i64 a1_1, .int .i64 a1_2, .int .i64 a1_3, .int .i64 a1_4] 42 (0, 0)) (by exact bS BK301)) (below_size b1))
      have n2_ := bB BK300 hb
      have n3_ := bB BK301 hb
      have n4_ := bB BK302 hb
      have n5_ := Aside0.mk (Kept.below (S := (fun k_ => P0_1_ k_)) b0 hb)
      have n6_ := hS HB hb
      clear HO_301001 BK300 BK301 BK302 HK HB
      have HO_301001 := n0_
      have HO308 := n1_
      have BK300 := n2_
      have BK301 := n3_
      have BK302 := n4_
      have HK := n5_
      have HB := n6_
      clear n0_ n1_ n2_ n3_ n4_ n5_ n6_
      (try clear hb); (try clear hb2); (try clear hk); (try clear hi)
      (try clear ho0)
      obtain ⟨Ao54, co54, eo54⟩ := Kd.R_slice HO308.out
      (first | subst eo54 | (injection eo54 with f1_ f2_ f3_; have f4_ := f1_.symm; have f5_ := f3_.symm; clear f1_ f2_ f3_; subst f4_; subst f5_))
      refine hK.out _ _ ⟨(blk_cell BK300.out 0).trans rfl, (blk_cell BK300.out 1).trans rfl, (blk_cell BK301.out 0).trans rfl, (blk_cell BK301.out 1).trans rfl, (blk_cell BK301.out 2).trans rfl, (blk_cell BK301.out 3).trans rfl, (blk_cell BK301.out 4).trans rfl⟩ (fun hHeld => ?_)
      clear hK K
      refine norm_ (a' := ?_) ?_ ?_
      rotate_left; · show Act.put _ (some 49) _ = _; simp only [Act.put, sA, sB, sC, i64_w, i32_w, sD]; rfl
      refine pS 5 50 16 63 HT_ ?_
      refine pS 6 51 16 127 HT_ ?_
      refine pS 7 52 16 255 HT_ ?_
      refine oS 8 53 16 511 HT_ ?_
      refine oS 9 54 16 1023 HT_ ?_
      refine oS 10 55 16 2047 HT_ ?_
      refine oS 11 56 16 4095 HT_ ?_
      refine oS 12 57 16 8191 HT_ ?_
      refine oS 13 58 16 16383 HT_ ?_
      refine oS 14 59 16 32767 HT_ ?_
      refine pS 15 60 16 65535 HT_ ?_
      refine done_ (done_of HT_.out (by kernel_rfl)) ?_
      try go_wp2
      go_meet
      case rel => exact ⟨_, (false), b19, H', ⟨by have := HJ3.out; first | omega | exact Nat.le_refl _⟩, ⟨by (with_reducible repeat (first | apply Kd.R_alloc | apply Kd.R_drewN | apply Kd.R_drew)); exact Kd.R_mono HO_301001.out (fun _ hk => ⟨hk.1.1, hk.1.2⟩)⟩, ⟨b12⟩, ⟨b13⟩, ⟨b14⟩, ⟨b0⟩, ⟨b1⟩⟩
    case rest =>
     clear HC43
     try clear c37
     obtain ⟨kq, x60_42, rfl, HA, HJ42, HO_301001, BK300, BK301, BK302, HK, HB⟩ := hcut
     cases kq with
     | zero => exact absurd HA.out (by simp [mosaicref31_Table_Announce.j1])
     | succ kj42 =>
      have H := HA.out
      clear HA
      simp only [mosaicref31_Table_Announce.j1] at H
      by_cases c55 : x60_42 = true
      ·
       subst c55
       rw [if_pos rfl] at H
       simp only [Option.some.injEq, Prod.mk.injEq] at H
       obtain ⟨rfl, rfl, rfl⟩ := H
       have hnb56 := NB300_301.out
       have hnc56 := NB301_300.out
       have hnb57 := NB300_302.out
       have hnc57 := NB302_300.out
       have ⟨_, _, _, _⟩ := cc2 BK300
       have hnb59 := NB302_301.out
       have hnc59 := NB301_302.out
       have ⟨_, _, _, _⟩ := cc2 BK302
       go_wp2
       refine bodyPost_ret (results_ct rfl _ _ gb302 33 #[.int .i64 a0_0, .slice Ao5 l0_1.length co5] (0, 0) _ rfl b10 Tryz.underlying33 rfl (by kernel_rfl)) rfl ?_
       exact ⟨_, b23, by (with_reducible repeat (first | apply Kd.R_alloc | apply Kd.R_drewN | apply Kd.R_drew)); exact Kd.R_mono (Kd.R_far (p := ⟨gb302, 1, none⟩) (Kd.R_far (p := ⟨gb302, 0, none⟩) (Kd.R_types HO_301001.out BK302.out (by decide)) (fun _ hk => hk.2) (.int .i64 a0_0)) (fun _ hk => hk.2) (.slice Ao5 l0_1.length co5)) (fun _ hk => hk.1.1), b1, b0⟩
      ·
       replace c55 := Bool.eq_false_iff.mpr c55
       subst c55
       rw [if_neg (show ¬ (false = true) by decide)] at H
       have H' := Aside0.mk H
       clear H
       go_wp2
       go_loopg [8, 9, 10] kj42 (fun kq v8 v9 v10 w' => ∃ (x8_3 : List (S42)) (x9_3 : Bool) (x10_3 : Int), v9 = .bool x9_3 ∧ v10 = .int .i64 x10_3 ∧ Aside0 (mosaicref31_Table_Announce.l0 kq a2 x8_3 x9_3 x10_3 a0_0 l0_1 a1_0 a1_1 a1_2 a1_3 a1_4 = some (r1, r2, r3)) ∧ Aside0 (kq ≤ kj42) ∧ Aside0 (Kd.R k42 42 w' w0.heap.size (fun k_ => (P0_1_ k_ ∨ w.heap.size ≤ k_) ∧ some k_ ≠ ((.slice Ao5 l0_1.length co5) : Value).ownBlock ∧ k_ ≠ gb301) v8 x8_3) ∧ Aside0 (Kd.R k42 42 w' w0.heap.size (fun k_ => (P0_1_ k_ ∨ w.heap.size ≤ k_) ∧ some k_ ≠ (v8 : Value).ownBlock ∧ k_ ≠ gb301) (.slice Ao5 l0_1.length co5) l0_1) ∧ Aside0 (w'.heap[gb300]? = some (.cells #[.int .i64 a0_0, (.slice Ao5 l0_1.length co5)] 33 (0, 0))) ∧ Aside0 (w'.heap[gb301]? = some (.cells #[.string a1_0, .int .i64 a1_1, .int .i64 a1_2, .int .i64 a1_3, .int .i64 a1_4] 42 (0, 0))) ∧ Aside0 (w'.heap[gb302]? = some (.cells #[.int .i64 0, (.slice none 0 0)] 33 (0, 0))) ∧ Aside0 (Kept w w' (fun k_ => P0_1_ k_)) ∧ Aside0 (Below w0.heap.size w0 w'))
       case atStart => exact ⟨(([] : List (S42))), (false), (0), b19, b19, H', ⟨Nat.le_refl _⟩, ⟨by first | exact Kd.R_nil _ _ _ _ _ | exact Kd.N_nil _ _ _ _ _ | exact Kd.V_nil _ _ _ _ _ | exact Kd.Q_nil _ _ _ _ _ | exact Kd.S_nil _ _ _ _ _⟩, ⟨by (with_reducible repeat (first | apply Kd.R_alloc | apply Kd.R_drewN | apply Kd.R_drew)); exact Kd.R_mono HO_301001.out (fun _ hk => ⟨hk.1, ⟨(by simp [Value.ownBlock]), hk.2⟩⟩)⟩, ⟨b12⟩, ⟨b13⟩, ⟨b14⟩, ⟨b0⟩, ⟨b1⟩⟩
       case round =>
        clear H'
        try clear c37
        try clear c55
        obtain ⟨x8_3, x9_3, x10_3, rfl, rfl, HA, HK3, HO_8, HO_301001, BK300, BK301, BK302, HK, HB⟩ := hrel
        cases gk with
        | zero => exact absurd HA.out (by simp [mosaicref31_Table_Announce.l0])
        | succ k3 =>
         have H := HA.out
         clear HA
         simp only [mosaicref31_Table_Announce.l0] at H
         by_cases c61 : x10_3 < (l0_1.length : Int)
         ·
          rw [if_pos c61] at H
          have c61b0 := decide_eq_true c61
          clear c61
          by_cases c62 : 0 ≤ x10_3
          rotate_left; · rw [if_neg c62] at H; exact absurd H (by simp)
          rw [if_pos c62] at H
          have c62b0 := decide_eq_true c62
          clear c62
          have HC63 := Aside0.mk H
          clear H
          have hnb64 := NB300_301.out
          have hnc64 := NB301_300.out
          have hnb65 := NB300_302.out
          have hnc65 := NB302_300.out
          have ⟨_, _, _, _⟩ := cc2 BK300
          have p315 : 0 ≤ (x10_3 : Int) := of_decide_eq_true (by first | (with_reducible assumption) | assumption)
          have q315 : x10_3 < (l0_1.length : Int) := of_decide_eq_true (by first | (with_reducible assumption) | assumption)
          obtain ⟨ad315, e315, hx315_0, hx315_1, hx315_2, hx315_3, hx315_4⟩ := at_T42 (Kd.R_reads' HO_301001.out).2.2 x10_3 p315 q315
          cases e315
          replace p315 := eq_true p315
          replace q315 := eq_true q315
          go_upto_region 11 with (first | ((with_reducible refine gate_dst (N := 11) rfl ?_); (try (refine gate_guard (by rfl) ?_; dsimp only)); refine box_event ?hg (N := 11) ?hd (cs := #[.string (⟨#[]⟩ : ByteArray), .int .i64 0, .int .i64 0, .int .i64 0, .int .i64 0]) (t := 42) ?hr ?_; (case hd => rfl); (case hg => rfl); (case hr => first | (go_simp; done) | (go_simp; rfl)); intro gb316 hg w67 hbox hb; replace HO_8 := Aside0.mk (Kd.R_below (Kd.R_elderB b20 gb316 (Nat.le_of_eq hg.symm)) hb); replace HO_301001 := Aside0.mk (Kd.R_below (Kd.R_elderB b15 gb316 (Nat.le_of_eq hg.symm)) hb); have BK316 := Aside0.mk (hbox); have GW316 := Aside0.mk ((by rw [hg]; exact b11 : w.heap.size ≤ gb316)); replace HK := Aside0.mk (Kept.below (S := (fun k_ => P0_1_ k_)) b0 hb); have GE316 := hG HB hg; replace HB := hS HB hb; have NB300_316 := bNl BK300 hg; have NB316_300 := bNg BK300 hg; replace BK300 := bB BK300 hb; have NB301_316 := bNl BK301 hg; have NB316_301 := bNg BK301 hg; replace BK301 := bB BK301 hb; have NB302_316 := bNl BK302 hg; have NB316_302 := bNg BK302 hg; replace BK302 := bB BK302 hb; clear hb hbox hg; have hnb68 := NB316_300.out; have hnc68 := NB300_316.out; have hnb69 := NB316_301.out; have hnc69 := NB301_316.out; have hnb70 := NB316_302.out; have hnc70 := NB302_316.out; have ⟨_, _, _, _, _, _, _, _, _, _⟩ := cc5 BK316))
          (try simp only [Act.put, List.setIfInBounds_toArray, List.set_cons_zero, List.set_cons_succ])
          go_cut [91] (fun v91 wc => ∃ (kq : Nat) (x91_62 : Bool), v91 = .bool x91_62 ∧ Aside0 (mosaicref31_Table_Announce.j3 kq a2 x8_3 x9_3 x10_3 x91_62 a0_0 l0_1 a1_0 a1_1 a1_2 a1_3 a1_4 ((rd_T42 l0_1 x10_3).f0) ((rd_T42 l0_1 x10_3).f1) ((rd_T42 l0_1 x10_3).f2.f0) ((rd_T42 l0_1 x10_3).f2.f1) ((rd_T42 l0_1 x10_3).f3) = some (r1, r2, r3)) ∧ Aside0 (kq ≤ k3) ∧ Aside0 (Kd.R k42 42 wc w0.heap.size (fun k_ => (P0_1_ k_ ∨ w.heap.size ≤ k_) ∧ some k_ ≠ ((.slice (some ad315) l0_1.length co5) : Value).ownBlock ∧ k_ ≠ gb301 ∧ k_ ≠ gb316) u8 x8_3) ∧ Aside0 (Kd.R k42 42 wc w0.heap.size (fun k_ => (P0_1_ k_ ∨ w.heap.size ≤ k_) ∧ some k_ ≠ (u8 : Value).ownBlock ∧ k_ ≠ gb301 ∧ k_ ≠ gb316) (.slice (some ad315) l0_1.length co5) l0_1) ∧ Aside0 (wc.heap[gb300]? = some (.cells #[.int .i64 a0_0, (.slice (some ad315) l0_1.length co5)] 33 (0, 0))) ∧ Aside0 (wc.heap[gb301]? = some (.cells #[.string a1_0, .int .i64 a1_1, .int .i64 a1_2, .int .i64 a1_3, .int .i64 a1_4] 42 (0, 0))) ∧ Aside0 (wc.heap[gb302]? = some (.cells #[.int .i64 0, (.slice none 0 0)] 33 (0, 0))) ∧ Aside0 (wc.heap[gb316]? = some (.cells #[.string ((rd_T42 l0_1 x10_3).f0), .int .i64 ((rd_T42 l0_1 x10_3).f1), .int .i64 ((rd_T42 l0_1 x10_3).f2.f0), .int .i64 ((rd_T42 l0_1 x10_3).f2.f1), .int .i64 ((rd_T42 l0_1 x10_3).f3)] 42 (0, 0))) ∧ Aside0 (Kept w wc (fun k_ => P0_1_ k_)) ∧ Aside0 (Below w0.heap.size w0 wc))
          case first =>
           have H := HC63.out
           clear HC63
           by_cases c72 : ((rd_T42 l0_1 x10_3).f3) < a2
           ·
            rw [if_pos c72] at H
            have c72b0 := decide_eq_true c72
            clear c72
            (first | rw [c72b0] | (simp only [i64_w, i32_w, IntKind.wrap_u8]; rw [c72b0]) | skip)
            have H' := Aside0.mk H
            clear H
            have hnb73 := NB316_300.out
            have hnc73 := NB300_316.out
            have hnb74 := NB316_301.out
            have hnc74 := NB301_316.out
            have hnb75 := NB316_302.out
            have hnc75 := NB302_316.out
            have ⟨_, _, _, _, _, _, _, _, _, _⟩ := cc5 BK316
            go_wp2
            go_meet
            case rel => exact ⟨_, (true), b19, H', ⟨b25⟩, ⟨b9⟩, ⟨b8⟩, ⟨b5⟩, ⟨b6⟩, ⟨b7⟩, ⟨b3⟩, ⟨b4⟩, ⟨b2⟩⟩
           ·
            rw [if_neg c72] at H
            have c72b0 := decide_eq_false c72
            clear c72
            (first | rw [c72b0] | (simp only [i64_w, i32_w, IntKind.wrap_u8]; rw [c72b0]) | skip)
            by_cases c77 : ((rd_T42 l0_1 x10_3).f0).toList = a1_0.toList
            ·
             rw [if_pos c77] at H
             have c77b0 := beq_iff_eq.mpr c77
             have c77b1 := bne_eq_false_iff_eq.mpr c77
             clear c77
             have H' := Aside0.mk H
             clear H
             have hnb78 := NB316_300.out
             have hnc78 := NB300_316.out
             have hnb79 := NB316_301.out
             have hnc79 := NB301_316.out
             have hnb80 := NB316_302.out
             have hnc80 := NB302_316.out
             have ⟨_, _, _, _, _, _, _, _, _, _⟩ := cc5 BK316
             have hnb82 := NB301_300.out
             have hnc82 := NB300_301.out
             have hnb83 := NB301_302.out
             have hnc83 := NB302_301.out
             have ⟨_, _, _, _, _, _, _, _, _, _⟩ := cc5 BK301
             go_wp2
             go_meet
             case rel => exact ⟨_, ((((rd_T42 l0_1 x10_3).f1) == a1_1)), b19, H', ⟨b25⟩, ⟨b9⟩, ⟨b8⟩, ⟨b5⟩, ⟨b6⟩, ⟨b7⟩, ⟨b3⟩, ⟨b4⟩, ⟨b2⟩⟩
            ·
             rw [if_neg c77] at H
             have c77b0 := beq_eq_false_iff_ne.mpr c77
             have c77b1 := bne_iff_ne.mpr c77
             have H' := Aside0.mk H
             clear H
             have hnb85 := NB316_300.out
             have hnc85 := NB300_316.out
             have hnb86 := NB316_301.out
             have hnc86 := NB301_316.out
             have hnb87 := NB316_302.out
             have hnc87 := NB302_316.out
             have ⟨_, _, _, _, _, _, _, _, _, _⟩ := cc5 BK316
             have hnb89 := NB301_300.out
             have hnc89 := NB300_301.out
             have hnb90 := NB301_302.out
             have hnc90 := NB302_301.out
             have ⟨_, _, _, _, _, _, _, _, _, _⟩ := cc5 BK301
             go_wp2
             go_meet
             case rel => exact ⟨_, (false), b19, H', ⟨b25⟩, ⟨b9⟩, ⟨b8⟩, ⟨b5⟩, ⟨b6⟩, ⟨b7⟩, ⟨b3⟩, ⟨b4⟩, ⟨b2⟩⟩
          case rest =>
           clear HC63
           try clear c37
           try clear c55
           try clear c61
           try clear c61b0
           try clear c62
           try clear c62b0
           try clear hcz66_0
           try clear hcz66_1
           try clear hcz71_0
           try clear hcz71_1
           try clear hcz71_2
           try clear hcz71_3
           try clear hcz71_4
           try clear hfz66_0
           try clear hfz66_1
           try clear hfz71_0
           try clear hfz71_1
           try clear hfz71_2
           try clear hfz71_3
           try clear hfz71_4
           try clear hx315_0
           try clear hx315_1
           try clear hx315_2
           try clear hx315_3
           try clear hx315_4
           try clear p315
           try clear q315
           obtain ⟨kq, x91_62, rfl, HA, HJ62, HO_8, HO_301001, BK300, BK301, BK302, BK316, HK, HB⟩ := hcut
           cases kq with
           | zero => exact absurd HA.out (by simp [mosaicref31_Table_Announce.j3])
           | succ kj62 =>
            have H := HA.out
            clear HA
            simp only [mosaicref31_Table_Announce.j3] at H
            by_cases c92 : x91_62 = true
            ·
             subst c92
             rw [if_pos rfl] at H
             have H' := Aside0.mk H
             clear H
             go_wp2
             go_roundg kj62
             case measure => have := HJ3.out; have := HJ42.out; have := HK3.out; have := HJ62.out; omega
             case rel => exact ⟨(x8_3), (x9_3), (wrap64 (x10_3 + 1)), b19, b19, H', ⟨b24⟩, ⟨by (with_reducible repeat (first | apply Kd.R_alloc | apply Kd.R_drewN | apply Kd.R_drew)); exact Kd.R_mono HO_8.out (fun _ hk => ⟨hk.1, ⟨hk.2.1, hk.2.2.1⟩⟩)⟩, ⟨by (with_reducible repeat (first | apply Kd.R_alloc | apply Kd.R_drewN | apply Kd.R_drew)); exact Kd.R_mono HO_301001.out (fun _ hk => ⟨hk.1, ⟨hk.2.1, hk.2.2.1⟩⟩)⟩, ⟨b12⟩, ⟨b13⟩, ⟨b14⟩, ⟨b4⟩, ⟨b2⟩⟩
            ·
             replace c92 := Bool.eq_false_iff.mpr c92
             subst c92
             rw [if_neg (show ¬ (false = true) by decide)] at H
             by_cases c93 : x9_3 = true
             ·
              subst c93
              rw [if_pos rfl] at H
              by_cases c94 : x8_3.length < 2932031007402
              rotate_left; · rw [if_neg c94] at H; exact absurd H (by simp)
              rw [if_pos c94] at H
              have LMc94 := Aside0.mk c94
              clear c94
              obtain ⟨y317, hy317⟩ : ∃ y_ : List (S42), y_ = (x8_3 ++ [(⟨((rd_T42 l0_1 x10_3).f0), ((rd_T42 l0_1 x10_3).f1), (⟨((rd_T42 l0_1 x10_3).f2.f0), ((rd_T42 l0_1 x10_3).f2.f1)⟩ : S40), ((rd_T42 l0_1 x10_3).f3)⟩ : S42)]) := ⟨_, rfl⟩
              replace H : (mosaicref31_Table_Announce.l0 kj62 a2 y317 true (wrap64 (x10_3 + 1)) a0_0 l0_1 a1_0 a1_1 a1_2 a1_3 a1_4) = some (r1, r2, r3) := by first | (rw [hy317]; with_reducible exact H) | (have H2_ := (Option.bind_some _ _).symm.trans H; rw [hy317]; with_reducible exact H2_) | (have H2_ := (Option.bind_some _ _).symm.trans H; with_reducible exact H2_) | with_reducible exact H | (rw [hy317]; exact H) | exact H
              have Ny317 := Aside0.mk hy317
              clear hy317
              have H' := Aside0.mk H
              clear H
              have hnb95 := NB316_300.out
              have hnc95 := NB300_316.out
              have hnb96 := NB316_301.out
              have hnc96 := NB301_316.out
              have hnb97 := NB316_302.out
              have hnc97 := NB302_316.out
              have hcz98_0 : wc.cell? ⟨gb316, 0, none⟩ = some (.string ((rd_T42 l0_1 x10_3).f0)) := (blk_cell BK316.out 0).trans rfl
              have hcz98_1 : wc.cell? ⟨gb316, 1, none⟩ = some (.int .i64 ((rd_T42 l0_1 x10_3).f1)) := (blk_cell BK316.out 1).trans rfl
              have hcz98_2 : wc.cell? ⟨gb316, 2, none⟩ = some (.int .i64 ((rd_T42 l0_1 x10_3).f2.f0)) := (blk_cell BK316.out 2).trans rfl
              have hcz98_3 : wc.cell? ⟨gb316, 3, none⟩ = some (.int .i64 ((rd_T42 l0_1 x10_3).f2.f1)) := (blk_cell BK316.out 3).trans rfl
              have hcz98_4 : wc.cell? ⟨gb316, 4, none⟩ = some (.int .i64 ((rd_T42 l0_1 x10_3).f3)) := (blk_cell BK316.out 4).trans rfl
              have hfz98_0 := blk_frozen BK316.out 0
              have hfz98_1 := blk_frozen BK316.out 1
              have hfz98_2 := blk_frozen BK316.out 2
              have hfz98_3 := blk_frozen BK316.out 3
              have hfz98_4 := blk_frozen BK316.out 4
              go_wp2_with (first | ((with_reducible refine gate_builtin (b := .append) (xs := #[.tmp 103, .tmp 105]) rfl ?_); (try (refine gate_guard (by rfl) ?_; dsimp only)); at_builtin; refine Kd.R_append k42 (w0 := w0) w0.heap.size rfl (.tmp 103) (.tmp 105) 31 42 (.agg #[(.string ⟨#[]⟩), (.int .i64 0), (.int .i64 0), (.int .i64 0), (.int .i64 0)]) 48 rfl Tryz.underlying31 info42 rfl (by decide) (by omega) u8 x8_3 (⟨((rd_T42 l0_1 x10_3).f0), ((rd_T42 l0_1 x10_3).f1), (⟨((rd_T42 l0_1 x10_3).f2.f0), ((rd_T42 l0_1 x10_3).f2.f1)⟩ : S40), ((rd_T42 l0_1 x10_3).f3)⟩ : S42) [.string ((rd_T42 l0_1 x10_3).f0), .int .i64 ((rd_T42 l0_1 x10_3).f1), .int .i64 ((rd_T42 l0_1 x10_3).f2.f0), .int .i64 ((rd_T42 l0_1 x10_3).f2.f1), .int .i64 ((rd_T42 l0_1 x10_3).f3)] (fun k_ => (P0_1_ k_ ∨ w.heap.size ≤ k_) ∧ some k_ ≠ (.slice (some ad315) l0_1.length co5 : Value).ownBlock ∧ k_ ≠ gb301 ∧ k_ ≠ gb316) (fun _ => False) rfl rfl ?aP (fun _ hk => hk.elim) ?aF ?aO ?aB ?aS ?aL ?_; (case aP => exact k42_mkM _ _ _ (⟨((rd_T42 l0_1 x10_3).f0), ((rd_T42 l0_1 x10_3).f1), (⟨((rd_T42 l0_1 x10_3).f2.f0), ((rd_T42 l0_1 x10_3).f2.f1)⟩ : S40), ((rd_T42 l0_1 x10_3).f3)⟩ : S42)); (case aB => exact b2); (case aF => exact (fun k_ hk => ⟨(.inr (Nat.le_trans b16 hk)), Kd.fresh' (Kd.R_lt b15) k_ hk, Kd.freshB (g := gb301) (o := .cells #[.string a1_0, .int .i64 a1_1, .int .i64 a1_2, .int .i64 a1_3, .int .i64 a1_4] 42 (0, 0)) (by exact bS BK301) k_ hk, Kd.freshB (g := gb316) (o := .cells #[.string ((rd_T42 l0_1 x10_3).f0), .int .i64 ((rd_T42 l0_1 x10_3).f1), .int .i64 ((rd_T42 l0_1 x10_3).f2.f0), .int .i64 ((rd_T42 l0_1 x10_3).f2.f1), .int .i64 ((rd_T42 l0_1 x10_3).f3)] 42 (0, 0)) (by exact bS BK316) k_ hk⟩)); (case aO => exact b20); (case aS => exact (below_size b2)); (case aL => have := LMc94.out; omega); intro v318 w99 ho hb hg hat; rw [← Ny317.out] at ho; replace HO_301001 := Aside0.mk (Kd.R_after (ok := (fun k_ => (P0_1_ k_ ∨ w.heap.size ≤ k_) ∧ k_ ≠ gb301 ∧ k_ ≠ gb316)) b21 hg hat); replace BK300 := Aside0.mk (blk_grown (g := gb300) (o := .cells #[.int .i64 a0_0, .slice (some ad315) l0_1.length co5] 33 (0, 0)) (by exact bS BK300) hg (Kd.R_ne HO_8.out BK300.out (by decide))); replace BK301 := Aside0.mk (blk_grown (g := gb301) (o := .cells #[.string a1_0, .int .i64 a1_1, .int .i64 a1_2, .int .i64 a1_3, .int .i64 a1_4] 42 (0, 0)) (by exact bS BK301) hg (Kd.R_away HO_8.out (fun _ hk => hk.2.2.1))); replace BK302 := Aside0.mk (blk_grown (g := gb302) (o := .cells #[.int .i64 0, .slice none 0 0] 33 (0, 0)) (by exact bS BK302) hg (Kd.R_ne HO_8.out BK302.out (by decide))); replace BK316 := Aside0.mk (blk_grown (g := gb316) (o := .cells #[.string ((rd_T42 l0_1 x10_3).f0), .int .i64 ((rd_T42 l0_1 x10_3).f1), .int .i64 ((rd_T42 l0_1 x10_3).f2.f0), .int .i64 ((rd_T42 l0_1 x10_3).f2.f1), .int .i64 ((rd_T42 l0_1 x10_3).f3)] 42 (0, 0)) (by exact bS BK316) hg (Kd.R_away HO_8.out (fun _ hk => hk.2.2.2))); replace HB := Aside0.mk (hb); replace HK := Aside0.mk (Kept.of_grown (S := (fun k_ => P0_1_ k_)) hg b4 (fun k_ e_ => (HO_8.out.1 k_ e_).1)); have HO319 := Aside0.mk (ho); clear HO_8; clear ho hb hg hat))
              go_roundg kj62
              case measure => have := HJ3.out; have := HJ42.out; have := HK3.out; have := HJ62.out; omega
              case rel => exact ⟨(y317), (true), (wrap64 (x10_3 + 1)), b19, b19, H', ⟨b24⟩, ⟨by (with_reducible repeat (first | apply Kd.R_alloc | apply Kd.R_drewN | apply Kd.R_drew)); exact Kd.R_mono HO319.out (fun _ hk => ⟨hk.1, ⟨hk.2.1, hk.2.2.1⟩⟩)⟩, ⟨b22⟩, ⟨b12⟩, ⟨b13⟩, ⟨b14⟩, ⟨b4⟩, ⟨b2⟩⟩
             ·
              replace c93 := Bool.eq_false_iff.mpr c93
              subst c93
              rw [if_neg (show ¬ (false = true) by decide)] at H
              replace H := Option.bind_eq_some_iff.mp H
              obtain ⟨t320, A1000, H⟩ := H
              have A100 := Aside0.mk A1000
              clear A1000
              by_cases c101 : t320 = true
              ·
               subst c101
               rw [if_pos rfl] at H
               by_cases c102 : x8_3.length < 2932031007402
               rotate_left; · rw [if_neg c102] at H; exact absurd H (by simp)
               rw [if_pos c102] at H
               have LMc102 := Aside0.mk c102
               clear c102
               obtain ⟨y321, hy321⟩ : ∃ y_ : List (S42), y_ = (x8_3 ++ [(⟨a1_0, a1_1, (⟨a1_2, a1_3⟩ : S40), a1_4⟩ : S42)]) := ⟨_, rfl⟩
               replace H : (if y321.length < 2932031007402 then (mosaicref31_Table_Announce.l0 kj62 a2 (y321 ++ [(⟨((rd_T42 l0_1 x10_3).f0), ((rd_T42 l0_1 x10_3).f1), (⟨((rd_T42 l0_1 x10_3).f2.f0), ((rd_T42 l0_1 x10_3).f2.f1)⟩ : S40), ((rd_T42 l0_1 x10_3).f3)⟩ : S42)]) true (wrap64 (x10_3 + 1)) a0_0 l0_1 a1_0 a1_1 a1_2 a1_3 a1_4) else (none)) = some (r1, r2, r3) := by first | (rw [hy321]; with_reducible exact H) | (have H2_ := (Option.bind_some _ _).symm.trans H; rw [hy321]; with_reducible exact H2_) | (have H2_ := (Option.bind_some _ _).symm.trans H; with_reducible exact H2_) | with_reducible exact H | (rw [hy321]; exact H) | exact H
               have Ny321 := Aside0.mk hy321
               clear hy321
               by_cases c103 : y321.length < 2932031007402
               rotate_left; · rw [if_neg c103] at H; exact absurd H (by simp)
               rw [if_pos c103] at H
               have LMc103 := Aside0.mk c103
               clear c103
               obtain ⟨y324, hy324⟩ : ∃ y_ : List (S42), y_ = (y321 ++ [(⟨((rd_T42 l0_1 x10_3).f0), ((rd_T42 l0_1 x10_3).f1), (⟨((rd_T42 l0_1 x10_3).f2.f0), ((rd_T42 l0_1 x10_3).f2.f1)⟩ : S40), ((rd_T42 l0_1 x10_3).f3)⟩ : S42)]) := ⟨_, rfl⟩
               replace H : (mosaicref31_Table_Announce.l0 kj62 a2 y324 true (wrap64 (x10_3 + 1)) a0_0 l0_1 a1_0 a1_1 a1_2 a1_3 a1_4) = some (r1, r2, r3) := by first | (rw [hy324]; with_reducible exact H) | (have H2_ := (Option.bind_some _ _).symm.trans H; rw [hy324]; with_reducible exact H2_) | (have H2_ := (Option.bind_some _ _).symm.trans H; with_reducible exact H2_) | with_reducible exact H | (rw [hy324]; exact H) | exact H
               have Ny324 := Aside0.mk hy324
               clear hy324
               have H' := Aside0.mk H
               clear H
               have hnb104 := NB301_300.out
               have hnc104 := NB300_301.out
               have hnb105 := NB301_302.out
               have hnc105 := NB302_301.out
               have hnb106 := NB301_316.out
               have hnc106 := NB316_301.out
               have ⟨_, _, _, _, _, _, _, _, _, _⟩ := cc5 BK301
               have hnb108 := NB316_300.out
               have hnc108 := NB300_316.out
               have hnb109 := NB316_302.out
               have hnc109 := NB302_316.out
               have hcz110_0 : wc.cell? ⟨gb316, 0, none⟩ = some (.string ((rd_T42 l0_1 x10_3).f0)) := (blk_cell BK316.out 0).trans rfl
               have hcz110_1 : wc.cell? ⟨gb316, 1, none⟩ = some (.int .i64 ((rd_T42 l0_1 x10_3).f1)) := (blk_cell BK316.out 1).trans rfl
               have hcz110_2 : wc.cell? ⟨gb316, 2, none⟩ = some (.int .i64 ((rd_T42 l0_1 x10_3).f2.f0)) := (blk_cell BK316.out 2).trans rfl
               have hcz110_3 : wc.cell? ⟨gb316, 3, none⟩ = some (.int .i64 ((rd_T42 l0_1 x10_3).f2.f1)) := (blk_cell BK316.out 3).trans rfl
               have hcz110_4 : wc.cell? ⟨gb316, 4, none⟩ = some (.int .i64 ((rd_T42 l0_1 x10_3).f3)) := (blk_cell BK316.out 4).trans rfl
               have hfz110_0 := blk_frozen BK316.out 0
               have hfz110_1 := blk_frozen BK316.out 1
               have hfz110_2 := blk_frozen BK316.out 2
               have hfz110_3 := blk_frozen BK316.out 3
               have hfz110_4 := blk_frozen BK316.out 4
               go_wp2_with (first | (go_at_call 32; (with_reducible refine (mosaicref31_before.calls a1_0 a1_1 a1_2 a1_3 a1_4 ((rd_T42 l0_1 x10_3).f0) ((rd_T42 l0_1 x10_3).f1) ((rd_T42 l0_1 x10_3).f2.f0) ((rd_T42 l0_1 x10_3).f2.f1) ((rd_T42 l0_1 x10_3).f3) true _ A100.out).mono ?_); rintro e w111 ⟨rfl, hb⟩; replace HO_8 := Aside0.mk (Kd.R_below b20 hb); replace HO_301001 := Aside0.mk (Kd.R_below b15 hb); replace BK300 := bB BK300 hb; replace BK301 := bB BK301 hb; replace BK302 := bB BK302 hb; replace BK316 := bB BK316 hb; replace HK := Aside0.mk (Kept.below (S := (fun k_ => P0_1_ k_)) b4 hb); replace HB := Aside0.mk (below_step b2 hb); (try clear hb); (try clear hb2); (try clear hk); (try clear hi); have ⟨_, _, _, _, _, _, _, _, _, _⟩ := cc5 BK301) | ((with_reducible refine gate_builtin (b := .append) (xs := #[.tmp 99, .tmp 101]) rfl ?_); (try (refine gate_guard (by rfl) ?_; dsimp only)); at_builtin; refine Kd.R_append k42 (w0 := w0) w0.heap.size rfl (.tmp 99) (.tmp 101) 31 42 (.agg #[(.string ⟨#[]⟩), (.int .i64 0), (.int .i64 0), (.int .i64 0), (.int .i64 0)]) 48 rfl Tryz.underlying31 info42 rfl (by decide) (by omega) u8 x8_3 (⟨a1_0, a1_1, (⟨a1_2, a1_3⟩ : S40), a1_4⟩ : S42) [.string a1_0, .int .i64 a1_1, .int .i64 a1_2, .int .i64 a1_3, .int .i64 a1_4] (fun k_ => (P0_1_ k_ ∨ w.heap.size ≤ k_) ∧ some k_ ≠ (.slice (some ad315) l0_1.length co5 : Value).ownBlock ∧ k_ ≠ gb301 ∧ k_ ≠ gb316) (fun _ => False) rfl rfl ?aP (fun _ hk => hk.elim) ?aF ?aO ?aB ?aS ?aL ?_; (case aP => exact k42_mkM _ _ _ (⟨a1_0, a1_1, (⟨a1_2, a1_3⟩ : S40), a1_4⟩ : S42)); (case aB => exact b2); (case aF => exact (fun k_ hk => ⟨(.inr (Nat.le_trans b16 hk)), Kd.fresh' (Kd.R_lt b15) k_ hk, Kd.freshB (g := gb301) (o := .cells #[.string a1_0, .int .i64 a1_1, .int .i64 a1_2, .int .i64 a1_3, .int .i64 a1_4] 42 (0, 0)) (by exact bS BK301) k_ hk, Kd.freshB (g := gb316) (o := .cells #[.string ((rd_T42 l0_1 x10_3).f0), .int .i64 ((rd_T42 l0_1 x10_3).f1), .int .i64 ((rd_T42 l0_1 x10_3).f2.f0), .int .i64 ((rd_T42 l0_1 x10_3).f2.f1), .int .i64 ((rd_T42 l0_1 x10_3).f3)] 42 (0, 0)) (by exact bS BK316) k_ hk⟩)); (case aO => exact b20); (case aS => exact (below_size b2)); (case aL => have := LMc102.out; omega); intro v322 w113 ho hb hg hat; rw [← Ny321.out] at ho; replace HO_301001 := Aside0.mk (Kd.R_after (ok := (fun k_ => (P0_1_ k_ ∨ w.heap.size ≤ k_) ∧ k_ ≠ gb301 ∧ k_ ≠ gb316)) b21 hg hat); replace BK300 := Aside0.mk (blk_grown (g := gb300) (o := .cells #[.int .i64 a0_0, .slice (some ad315) l0_1.length co5] 33 (0, 0)) (by exact bS BK300) hg (Kd.R_ne HO_8.out BK300.out (by decide))); replace BK301 := Aside0.mk (blk_grown (g := gb301) (o := .cells #[.string a1_0, .int .i64 a1_1, .int .i64 a1_2, .int .i64 a1_3, .int .i64 a1_4] 42 (0, 0)) (by exact bS BK301) hg (Kd.R_away HO_8.out (fun _ hk => hk.2.2.1))); replace BK302 := Aside0.mk (blk_grown (g := gb302) (o := .cells #[.int .i64 0, .slice none 0 0] 33 (0, 0)) (by exact bS BK302) hg (Kd.R_ne HO_8.out BK302.out (by decide))); replace BK316 := Aside0.mk (blk_grown (g := gb316) (o := .cells #[.string ((rd_T42 l0_1 x10_3).f0), .int .i64 ((rd_T42 l0_1 x10_3).f1), .int .i64 ((rd_T42 l0_1 x10_3).f2.f0), .int .i64 ((rd_T42 l0_1 x10_3).f2.f1), .int .i64 ((rd_T42 l0_1 x10_3).f3)] 42 (0, 0)) (by exact bS BK316) hg (Kd.R_away HO_8.out (fun _ hk => hk.2.2.2))); replace HB := Aside0.mk (hb); replace HK := Aside0.mk (Kept.of_grown (S := (fun k_ => P0_1_ k_)) hg b4 (fun k_ e_ => (HO_8.out.1 k_ e_).1)); have HO323 := Aside0.mk (ho); clear HO_8; clear ho hb hg hat; have hcz114_0 : w113.cell? ⟨gb316, 0, none⟩ = some (.string ((rd_T42 l0_1 x10_3).f0)) := (blk_cell BK316.out 0).trans rfl; have hcz114_1 : w113.cell? ⟨gb316, 1, none⟩ = some (.int .i64 ((rd_T42 l0_1 x10_3).f1)) := (blk_cell BK316.out 1).trans rfl; have hcz114_2 : w113.cell? ⟨gb316, 2, none⟩ = some (.int .i64 ((rd_T42 l0_1 x10_3).f2.f0)) := (blk_cell BK316.out 2).trans rfl; have hcz114_3 : w113.cell? ⟨gb316, 3, none⟩ = some (.int .i64 ((rd_T42 l0_1 x10_3).f2.f1)) := (blk_cell BK316.out 3).trans rfl; have hcz114_4 : w113.cell? ⟨gb316, 4, none⟩ = some (.int .i64 ((rd_T42 l0_1 x10_3).f3)) := (blk_cell BK316.out 4).trans rfl; have hfz114_0 := blk_frozen BK316.out 0; have hfz114_1 := blk_frozen BK316.out 1; have hfz114_2 := blk_frozen BK316.out 2; have hfz114_3 := blk_frozen BK316.out 3; have hfz114_4 := blk_frozen BK316.out 4) | ((with_reducible refine gate_builtin (b := .append) (xs := #[.tmp 103, .tmp 105]) rfl ?_); (try (refine gate_guard (by rfl) ?_; dsimp only)); at_builtin; refine Kd.R_append k42 (w0 := w0) w0.heap.size rfl (.tmp 103) (.tmp 105) 31 42 (.agg #[(.string ⟨#[]⟩), (.int .i64 0), (.int .i64 0), (.int .i64 0), (.int .i64 0)]) 48 rfl Tryz.underlying31 info42 rfl (by decide) (by omega) v322 y321 (⟨((rd_T42 l0_1 x10_3).f0), ((rd_T42 l0_1 x10_3).f1), (⟨((rd_T42 l0_1 x10_3).f2.f0), ((rd_T42 l0_1 x10_3).f2.f1)⟩ : S40), ((rd_T42 l0_1 x10_3).f3)⟩ : S42) [.string ((rd_T42 l0_1 x10_3).f0), .int .i64 ((rd_T42 l0_1 x10_3).f1), .int .i64 ((rd_T42 l0_1 x10_3).f2.f0), .int .i64 ((rd_T42 l0_1 x10_3).f2.f1), .int .i64 ((rd_T42 l0_1 x10_3).f3)] (fun k_ => (P0_1_ k_ ∨ w.heap.size ≤ k_) ∧ some k_ ≠ (.slice (some ad315) l0_1.length co5 : Value).ownBlock ∧ k_ ≠ gb301 ∧ k_ ≠ gb316) (fun _ => False) rfl rfl ?aP (fun _ hk => hk.elim) ?aF ?aO ?aB ?aS ?aL ?_; (case aP => exact k42_mkM _ _ _ (⟨((rd_T42 l0_1 x10_3).f0), ((rd_T42 l0_1 x10_3).f1), (⟨((rd_T42 l0_1 x10_3).f2.f0), ((rd_T42 l0_1 x10_3).f2.f1)⟩ : S40), ((rd_T42 l0_1 x10_3).f3)⟩ : S42)); (case aB => exact b2); (case aF => exact (fun k_ hk => ⟨(.inr (Nat.le_trans b16 hk)), Kd.fresh' (Kd.R_lt b15) k_ hk, Kd.freshB (g := gb301) (o := .cells #[.string a1_0, .int .i64 a1_1, .int .i64 a1_2, .int .i64 a1_3, .int .i64 a1_4] 42 (0, 0)) (by exact bS BK301) k_ hk, Kd.freshB (g := gb316) (o := .cells #[.string ((rd_T42 l0_1 x10_3).f0), .int .i64 ((rd_T42 l0_1 x10_3).f1), .int .i64 ((rd_T42 l0_1 x10_3).f2.f0), .int .i64 ((rd_T42 l0_1 x10_3).f2.f1), .int .i64 ((rd_T42 l0_1 x10_3).f3)] 42 (0, 0)) (by exact bS BK316) k_ hk⟩)); (case aO => exact (by (with_reducible repeat (first | apply Kd.R_alloc | apply Kd.R_drewN | apply Kd.R_drew)); exact HO323.out)); (case aS => exact (below_size b2)); (case aL => have := LMc103.out; omega); intro v325 w115 ho hb hg hat; rw [← Ny324.out] at ho; replace HO_301001 := Aside0.mk (Kd.R_after (ok := (fun k_ => (P0_1_ k_ ∨ w.heap.size ≤ k_) ∧ k_ ≠ gb301 ∧ k_ ≠ gb316)) b15 hg hat); replace BK300 := Aside0.mk (blk_grown (g := gb300) (o := .cells #[.int .i64 a0_0, .slice (some ad315) l0_1.length co5] 33 (0, 0)) (by exact bS BK300) hg (Kd.R_ne HO323.out BK300.out (by decide))); replace BK301 := Aside0.mk (blk_grown (g := gb301) (o := .cells #[.string a1_0, .int .i64 a1_1, .int .i64 a1_2, .int .i64 a1_3, .int .i64 a1_4] 42 (0, 0)) (by exact bS BK301) hg (Kd.R_away HO323.out (fun _ hk => hk.2.2.1))); replace BK302 := Aside0.mk (blk_grown (g := gb302) (o := .cells #[.int .i64 0, .slice none 0 0] 33 (0, 0)) (by exact bS BK302) hg (Kd.R_ne HO323.out BK302.out (by decide))); replace BK316 := Aside0.mk (blk_grown (g := gb316) (o := .cells #[.string ((rd_T42 l0_1 x10_3).f0), .int .i64 ((rd_T42 l0_1 x10_3).f1), .int .i64 ((rd_T42 l0_1 x10_3).f2.f0), .int .i64 ((rd_T42 l0_1 x10_3).f2.f1), .int .i64 ((rd_T42 l0_1 x10_3).f3)] 42 (0, 0)) (by exact bS BK316) hg (Kd.R_away HO323.out (fun _ hk => hk.2.2.2))); replace HB := Aside0.mk (hb); replace HK := Aside0.mk (Kept.of_grown (S := (fun k_ => P0_1_ k_)) hg b4 (fun k_ e_ => (HO323.out.1 k_ e_).1)); have HO326 := Aside0.mk (ho); clear HO323; clear ho hb hg hat))
               go_roundg kj62
               case measure => have := HJ3.out; have := HJ42.out; have := HK3.out; have := HJ62.out; omega
               case rel => exact ⟨(y324), (true), (wrap64 (x10_3 + 1)), b19, b19, H', ⟨b24⟩, ⟨by (with_reducible repeat (first | apply Kd.R_alloc | apply Kd.R_drewN | apply Kd.R_drew)); exact Kd.R_mono HO326.out (fun _ hk => ⟨hk.1, ⟨hk.2.1, hk.2.2.1⟩⟩)⟩, ⟨b22⟩, ⟨b12⟩, ⟨b13⟩, ⟨b14⟩, ⟨b4⟩, ⟨b2⟩⟩
              ·
               replace c101 := Bool.eq_false_iff.mpr c101
               subst c101
               rw [if_neg (show ¬ (false = true) by decide)] at H
               by_cases c116 : x8_3.length < 2932031007402
               rotate_left; · rw [if_neg c116] at H; exact absurd H (by simp)
               rw [if_pos c116] at H
               have LMc116 := Aside0.mk c116
               clear c116
               obtain ⟨y327, hy327⟩ : ∃ y_ : List (S42), y_ = (x8_3 ++ [(⟨((rd_T42 l0_1 x10_3).f0), ((rd_T42 l0_1 x10_3).f1), (⟨((rd_T42 l0_1 x10_3).f2.f0), ((rd_T42 l0_1 x10_3).f2.f1)⟩ : S40), ((rd_T42 l0_1 x10_3).f3)⟩ : S42)]) := ⟨_, rfl⟩
               replace H : (mosaicref31_Table_Announce.l0 kj62 a2 y327 false (wrap64 (x10_3 + 1)) a0_0 l0_1 a1_0 a1_1 a1_2 a1_3 a1_4) = some (r1, r2, r3) := by first | (rw [hy327]; with_reducible exact H) | (have H2_ := (Option.bind_some _ _).symm.trans H; rw [hy327]; with_reducible exact H2_) | (have H2_ := (Option.bind_some _ _).symm.trans H; with_reducible exact H2_) | with_reducible exact H | (rw [hy327]; exact H) | exact H
               have Ny327 := Aside0.mk hy327
               clear hy327
               have H' := Aside0.mk H
               clear H
               have hnb117 := NB301_300.out
               have hnc117 := NB300_301.out
               have hnb118 := NB301_302.out
               have hnc118 := NB302_301.out
               have hnb119 := NB301_316.out
               have hnc119 := NB316_301.out
               have ⟨_, _, _, _, _, _, _, _, _, _⟩ := cc5 BK301
               have hnb121 := NB316_300.out
               have hnc121 := NB300_316.out
               have hnb122 := NB316_302.out
               have hnc122 := NB302_316.out
               have hcz123_0 : wc.cell? ⟨gb316, 0, none⟩ = some (.string ((rd_T42 l0_1 x10_3).f0)) := (blk_cell BK316.out 0).trans rfl
               have hcz123_1 : wc.cell? ⟨gb316, 1, none⟩ = some (.int .i64 ((rd_T42 l0_1 x10_3).f1)) := (blk_cell BK316.out 1).trans rfl
               have hcz123_2 : wc.cell? ⟨gb316, 2, none⟩ = some (.int .i64 ((rd_T42 l0_1 x10_3).f2.f0)) := (blk_cell BK316.out 2).trans rfl
               have hcz123_3 : wc.cell? ⟨gb316, 3, none⟩ = some (.int .i64 ((rd_T42 l0_1 x10_3).f2.f1)) := (blk_cell BK316.out 3).trans rfl
               have hcz123_4 : wc.cell? ⟨gb316, 4, none⟩ = some (.int .i64 ((rd_T42 l0_1 x10_3).f3)) := (blk_cell BK316.out 4).trans rfl
               have hfz123_0 := blk_frozen BK316.out 0
               have hfz123_1 := blk_frozen BK316.out 1
               have hfz123_2 := blk_frozen BK316.out 2
               have hfz123_3 := blk_frozen BK316.out 3
               have hfz123_4 := blk_frozen BK316.out 4
               go_wp2_with (first | (go_at_call 32; (with_reducible refine (mosaicref31_before.calls a1_0 a1_1 a1_2 a1_3 a1_4 ((rd_T42 l0_1 x10_3).f0) ((rd_T42 l0_1 x10_3).f1) ((rd_T42 l0_1 x10_3).f2.f0) ((rd_T42 l0_1 x10_3).f2.f1) ((rd_T42 l0_1 x10_3).f3) false _ A100.out).mono ?_); rintro e w124 ⟨rfl, hb⟩; replace HO_8 := Aside0.mk (Kd.R_below b20 hb); replace HO_301001 := Aside0.mk (Kd.R_below b15 hb); replace BK300 := bB BK300 hb; replace BK301 := bB BK301 hb; replace BK302 := bB BK302 hb; replace BK316 := bB BK316 hb; replace HK := Aside0.mk (Kept.below (S := (fun k_ => P0_1_ k_)) b4 hb); replace HB := Aside0.mk (below_step b2 hb); (try clear hb); (try clear hb2); (try clear hk); (try clear hi); have hcz125_0 : w124.cell? ⟨gb316, 0, none⟩ = some (.string ((rd_T42 l0_1 x10_3).f0)) := (blk_cell BK316.out 0).trans rfl; have hcz125_1 : w124.cell? ⟨gb316, 1, none⟩ = some (.int .i64 ((rd_T42 l0_1 x10_3).f1)) := (blk_cell BK316.out 1).trans rfl; have hcz125_2 : w124.cell? ⟨gb316, 2, none⟩ = some (.int .i64 ((rd_T42 l0_1 x10_3).f2.f0)) := (blk_cell BK316.out 2).trans rfl; have hcz125_3 : w124.cell? ⟨gb316, 3, none⟩ = some (.int .i64 ((rd_T42 l0_1 x10_3).f2.f1)) := (blk_cell BK316.out 3).trans rfl; have hcz125_4 : w124.cell? ⟨gb316, 4, none⟩ = some (.int .i64 ((rd_T42 l0_1 x10_3).f3)) := (blk_cell BK316.out 4).trans rfl; have hfz125_0 := blk_frozen BK316.out 0; have hfz125_1 := blk_frozen BK316.out 1; have hfz125_2 := blk_frozen BK316.out 2; have hfz125_3 := blk_frozen BK316.out 3; have hfz125_4 := blk_frozen BK316.out 4) | ((with_reducible refine gate_builtin (b := .append) (xs := #[.tmp 103, .tmp 105]) rfl ?_); (try (refine gate_guard (by rfl) ?_; dsimp only)); at_builtin; refine Kd.R_append k42 (w0 := w0) w0.heap.size rfl (.tmp 103) (.tmp 105) 31 42 (.agg #[(.string ⟨#[]⟩), (.int .i64 0), (.int .i64 0), (.int .i64 0), (.int .i64 0)]) 48 rfl Tryz.underlying31 info42 rfl (by decide) (by omega) u8 x8_3 (⟨((rd_T42 l0_1 x10_3).f0), ((rd_T42 l0_1 x10_3).f1), (⟨((rd_T42 l0_1 x10_3).f2.f0), ((rd_T42 l0_1 x10_3).f2.f1)⟩ : S40), ((rd_T42 l0_1 x10_3).f3)⟩ : S42) [.string ((rd_T42 l0_1 x10_3).f0), .int .i64 ((rd_T42 l0_1 x10_3).f1), .int .i64 ((rd_T42 l0_1 x10_3).f2.f0), .int .i64 ((rd_T42 l0_1 x10_3).f2.f1), .int .i64 ((rd_T42 l0_1 x10_3).f3)] (fun k_ => (P0_1_ k_ ∨ w.heap.size ≤ k_) ∧ some k_ ≠ (.slice (some ad315) l0_1.length co5 : Value).ownBlock ∧ k_ ≠ gb301 ∧ k_ ≠ gb316) (fun _ => False) rfl rfl ?aP (fun _ hk => hk.elim) ?aF ?aO ?aB ?aS ?aL ?_; (case aP => exact k42_mkM _ _ _ (⟨((rd_T42 l0_1 x10_3).f0), ((rd_T42 l0_1 x10_3).f1), (⟨((rd_T42 l0_1 x10_3).f2.f0), ((rd_T42 l0_1 x10_3).f2.f1)⟩ : S40), ((rd_T42 l0_1 x10_3).f3)⟩ : S42)); (case aB => exact b2); (case aF => exact (fun k_ hk => ⟨(.inr (Nat.le_trans b16 hk)), Kd.fresh' (Kd.R_lt b15) k_ hk, Kd.freshB (g := gb301) (o := .cells #[.string a1_0, .int .i64 a1_1, .int .i64 a1_2, .int .i64 a1_3, .int .i64 a1_4] 42 (0, 0)) (by exact bS BK301) k_ hk, Kd.freshB (g := gb316) (o := .cells #[.string ((rd_T42 l0_1 x10_3).f0), .int .i64 ((rd_T42 l0_1 x10_3).f1), .int .i64 ((rd_T42 l0_1 x10_3).f2.f0), .int .i64 ((rd_T42 l0_1 x10_3).f2.f1), .int .i64 ((rd_T42 l0_1 x10_3).f3)] 42 (0, 0)) (by exact bS BK316) k_ hk⟩)); (case aO => exact b20); (case aS => exact (below_size b2)); (case aL => have := LMc116.out; omega); intro v328 w126 ho hb hg hat; rw [← Ny327.out] at ho; replace HO_301001 := Aside0.mk (Kd.R_after (ok := (fun k_ => (P0_1_ k_ ∨ w.heap.size ≤ k_) ∧ k_ ≠ gb301 ∧ k_ ≠ gb316)) b21 hg hat); replace BK300 := Aside0.mk (blk_grown (g := gb300) (o := .cells #[.int .i64 a0_0, .slice (some ad315) l0_1.length co5] 33 (0, 0)) (by exact bS BK300) hg (Kd.R_ne HO_8.out BK300.out (by decide))); replace BK301 := Aside0.mk (blk_grown (g := gb301) (o := .cells #[.string a1_0, .int .i64 a1_1, .int .i64 a1_2, .int .i64 a1_3, .int .i64 a1_4] 42 (0, 0)) (by exact bS BK301) hg (Kd.R_away HO_8.out (fun _ hk => hk.2.2.1))); replace BK302 := Aside0.mk (blk_grown (g := gb302) (o := .cells #[.int .i64 0, .slice none 0 0] 33 (0, 0)) (by exact bS BK302) hg (Kd.R_ne HO_8.out BK302.out (by decide))); replace BK316 := Aside0.mk (blk_grown (g := gb316) (o := .cells #[.string ((rd_T42 l0_1 x10_3).f0), .int .i64 ((rd_T42 l0_1 x10_3).f1), .int .i64 ((rd_T42 l0_1 x10_3).f2.f0), .int .i64 ((rd_T42 l0_1 x10_3).f2.f1), .int .i64 ((rd_T42 l0_1 x10_3).f3)] 42 (0, 0)) (by exact bS BK316) hg (Kd.R_away HO_8.out (fun _ hk => hk.2.2.2))); replace HB := Aside0.mk (hb); replace HK := Aside0.mk (Kept.of_grown (S := (fun k_ => P0_1_ k_)) hg b4 (fun k_ e_ => (HO_8.out.1 k_ e_).1)); have HO329 := Aside0.mk (ho); clear HO_8; clear ho hb hg hat))
               go_roundg kj62
               case measure => have := HJ3.out; have := HJ42.out; have := HK3.out; have := HJ62.out; omega
               case rel => exact ⟨(y327), (false), (wrap64 (x10_3 + 1)), b19, b19, H', ⟨b24⟩, ⟨by (with_reducible repeat (first | apply Kd.R_alloc | apply Kd.R_drewN | apply Kd.R_drew)); exact Kd.R_mono HO329.out (fun _ hk => ⟨hk.1, ⟨hk.2.1, hk.2.2.1⟩⟩)⟩, ⟨b22⟩, ⟨b12⟩, ⟨b13⟩, ⟨b14⟩, ⟨b4⟩, ⟨b2⟩⟩
         ·
          rw [if_neg c61] at H
          have c61b0 := decide_eq_false c61
          clear c61
          by_cases c127 : x9_3 = true
          ·
           subst c127
           rw [if_pos rfl] at H
           simp only [Option.some.injEq, Prod.mk.injEq] at H
           obtain ⟨rfl, rfl, rfl⟩ := H
           have hnb128 := NB300_301.out
           have hnc128 := NB301_300.out
           have hnb129 := NB300_302.out
           have hnc129 := NB302_300.out
           have ⟨_, _, _, _⟩ := cc2 BK300
           obtain ⟨Ao131, co131, eo131⟩ := Kd.R_slice HO_8.out
           subst eo131
           have hnb132 := NB302_301.out
           have hnc132 := NB301_302.out
           have ⟨_, _, _, _⟩ := cc2 BK302
           go_wp2
           refine bodyPost_ret (results_ct rfl _ _ gb302 33 #[.int .i64 a0_0, .slice Ao131 x8_3.length co131] (0, 0) _ rfl b10 Tryz.underlying33 rfl (by kernel_rfl)) rfl ?_
           exact ⟨_, b23, by (with_reducible repeat (first | apply Kd.R_alloc | apply Kd.R_drewN | apply Kd.R_drew)); exact Kd.R_mono (Kd.R_far (p := ⟨gb302, 1, none⟩) (Kd.R_far (p := ⟨gb302, 0, none⟩) (Kd.R_types HO_8.out BK302.out (by decide)) (fun _ hk => hk.2) (.int .i64 a0_0)) (fun _ hk => hk.2) (.slice Ao131 x8_3.length co131)) (fun _ hk => hk.1.1), b1, b0⟩
          ·
           replace c127 := Bool.eq_false_iff.mpr c127
           subst c127
           rw [if_neg (show ¬ (false = true) by decide)] at H
           by_cases c134 : x8_3.length < 2932031007402
           rotate_left; · rw [if_neg c134] at H; exact absurd H (by simp)
           rw [if_pos c134] at H
           have LMc134 := Aside0.mk c134
           clear c134
           obtain ⟨y312, hy312⟩ : ∃ y_ : List (S42), y_ = (x8_3 ++ [(⟨a1_0, a1_1, (⟨a1_2, a1_3⟩ : S40), a1_4⟩ : S42)]) := ⟨_, rfl⟩
           replace H : (some (a0_0, y312, 0)) = some (r1, r2, r3) := by first | (rw [hy312]; with_reducible exact H) | (have H2_ := (Option.bind_some _ _).symm.trans H; rw [hy312]; with_reducible exact H2_) | (have H2_ := (Option.bind_some _ _).symm.trans H; with_reducible exact H2_) | with_reducible exact H | (rw [hy312]; exact H) | exact H
           have Ny312 := Aside0.mk hy312
           clear hy312
           simp only [Option.some.injEq, Prod.mk.injEq] at H
           obtain ⟨rfl, rfl, rfl⟩ := H
           have hnb135 := NB300_301.out
           have hnc135 := NB301_300.out
           have hnb136 := NB300_302.out
           have hnc136 := NB302_300.out
           have ⟨_, _, _, _⟩ := cc2 BK300
           have hnb138 := NB301_302.out
           have hnc138 := NB302_301.out
           have ⟨_, _, _, _, _, _, _, _, _, _⟩ := cc5 BK301
           go_wp2_with (first | ((with_reducible refine gate_builtin (b := .append) (xs := #[.tmp 109, .tmp 111]) rfl ?_); (try (refine gate_guard (by rfl) ?_; dsimp only)); at_builtin; refine Kd.R_append k42 (w0 := w0) w0.heap.size rfl (.tmp 109) (.tmp 111) 31 42 (.agg #[(.string ⟨#[]⟩), (.int .i64 0), (.int .i64 0), (.int .i64 0), (.int .i64 0)]) 48 rfl Tryz.underlying31 info42 rfl (by decide) (by omega) u8 x8_3 (⟨a1_0, a1_1, (⟨a1_2, a1_3⟩ : S40), a1_4⟩ : S42) [.string a1_0, .int .i64 a1_1, .int .i64 a1_2, .int .i64 a1_3, .int .i64 a1_4] (fun k_ => (P0_1_ k_ ∨ w.heap.size ≤ k_) ∧ some k_ ≠ (.slice Ao5 l0_1.length co5 : Value).ownBlock ∧ k_ ≠ gb301) (fun _ => False) rfl rfl ?aP (fun _ hk => hk.elim) ?aF ?aO ?aB ?aS ?aL ?_; (case aP => exact k42_mkM _ _ _ (⟨a1_0, a1_1, (⟨a1_2, a1_3⟩ : S40), a1_4⟩ : S42)); (case aB => exact b1); (case aF => exact (fun k_ hk => ⟨(.inr (Nat.le_trans b11 hk)), Kd.fresh' (Kd.R_lt b15) k_ hk, Kd.freshB (g := gb301) (o := .cells #[.string a1_0, .int .i64 a1_1, .int .i64 a1_2, .int .i64 a1_3, .int .i64 a1_4] 42 (0, 0)) (by exact bS BK301) k_ hk⟩)); (case aO => exact b20); (case aS => exact (below_size b1)); (case aL => have := LMc134.out; omega); intro v313 w140 ho hb hg hat; rw [← Ny312.out] at ho; replace HO_301001 := Aside0.mk (Kd.R_after (ok := (fun k_ => (P0_1_ k_ ∨ w.heap.size ≤ k_) ∧ k_ ≠ gb301)) (by (with_reducible repeat (first | apply Kd.R_alloc | apply Kd.R_drewN | apply Kd.R_drew)); exact Kd.R_mono HO_301001.out (fun _ hk => ⟨⟨hk.1, hk.2.2⟩, hk.2.1⟩)) hg hat); replace BK300 := Aside0.mk (blk_grown (g := gb300) (o := .cells #[.int .i64 a0_0, .slice Ao5 l0_1.length co5] 33 (0, 0)) (by exact bS BK300) hg (Kd.R_ne HO_8.out BK300.out (by decide))); replace BK301 := Aside0.mk (blk_grown (g := gb301) (o := .cells #[.string a1_0, .int .i64 a1_1, .int .i64 a1_2, .int .i64 a1_3, .int .i64 a1_4] 42 (0, 0)) (by exact bS BK301) hg (Kd.R_away HO_8.out (fun _ hk => hk.2.2))); replace BK302 := Aside0.mk (blk_grown (g := gb302) (o := .cells #[.int .i64 0, .slice none 0 0] 33 (0, 0)) (by exact bS BK302) hg (Kd.R_ne HO_8.out BK302.out (by decide))); replace HB := Aside0.mk (hb); replace HK := Aside0.mk (Kept.of_grown (S := (fun k_ => P0_1_ k_)) hg b0 (fun k_ e_ => (HO_8.out.1 k_ e_).1)); have HO314 := Aside0.mk (ho); clear HO_8; clear ho hb hg hat; have ⟨_, _, _, _⟩ := cc2 BK300; obtain ⟨Ao142, co142, eo142⟩ := Kd.R_slice HO314.out; subst eo142; have ⟨_, _, _, _⟩ := cc2 BK302))
           refine bodyPost_ret (results_ct rfl _ _ gb302 33 #[.int .i64 a0_0, .slice Ao142 y312.length co142] (0, 0) _ rfl b10 Tryz.underlying33 rfl (by kernel_rfl)) rfl ?_
           exact ⟨_, b23, by (with_reducible repeat (first | apply Kd.R_alloc | apply Kd.R_drewN | apply Kd.R_drew)); exact Kd.R_mono (Kd.R_far (p := ⟨gb302, 1, none⟩) (Kd.R_far (p := ⟨gb302, 0, none⟩) (Kd.R_types HO314.out BK302.out (by decide)) (fun _ hk => hk.2) (.int .i64 a0_0)) (fun _ hk => hk.2) (.slice Ao142 y312.length co142)) (fun _ hk => hk.1.1), b1, b0⟩

end Go.Proofs.YtmimnlbkllgfpaaGreatDoor.A
