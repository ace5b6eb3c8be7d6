-- Written for this claim by the session's own turn of the kit's print program (wip/tools/xprint.py).
import Derived.Test.YtlpidjenifbjeaaPx0
import Derived.Test.YtlpidjenifbjeaaPx2
import Derived.Test.YtlpidjenifbjeaaPx3
import Derived.Test.YtlpidjenifbjeaaPx4
import Derived.Test.YtlpidjenifbjeaaPx6
import Derived.Test.YtlpidjenifbjeaaPx11
import Derived.Test.YtlpidjenifbjeaaPx14
namespace Go.Proofs.Ytlpidjenifbjeaa.P
open Go.RowKit Go.Proofs.Ytlpidjenifbjeaa.Fl Go.Proofs.Ytlpidjenifbjeaa.Sq Go.Proofs.YtlpidjenifbjeaaW.PrintWords Go.Proofs.YtlpidjenifbjeaaW.PrintLast Go.Proofs.YtlpidjenifbjeaaW.PrintMore
attribute [local go_sem] max2_int min2_int max_two min_two max_three min_three max_four min_four   -- for this text's walks alone
set_option linter.unusedVariables false
set_option linter.unusedSimpArgs false

attribute [local go_sem high] eqA27
/-! ### mosaiclaw17_PlaneReckons: function 7 -/
def mosaiclaw17_PlaneReckons.f (k : Nat) (a0_0 : Int) (a0_1 : Int) (a1_0 : Int) (a1_1 : Int) : Option (Bool) := (plane_Add.f a0_0 a0_1 a1_0 a1_1).bind fun bt349 => ((plane_Sub.f a0_0 a0_1 a1_0 a1_1).bind fun bt353 => ((plane_Mul.f a0_0 a0_1 a1_0 a1_1).bind fun bt357 => ((mosaiclaw17_Ref.f a0_0 a0_1).bind fun bt361 => ((mosaiclaw17_Ref.f a1_0 a1_1).bind fun bt363 => ((mosaicref17_Add.f bt361.1 bt361.2 bt363.1 bt363.2).bind fun bt365 => ((mosaiclaw17_Ref.f a0_0 a0_1).bind fun bt369 => ((mosaiclaw17_Ref.f a1_0 a1_1).bind fun bt371 => ((mosaicref17_Sub.f bt369.1 bt369.2 bt371.1 bt371.2).bind fun bt373 => ((mosaiclaw17_Ref.f a0_0 a0_1).bind fun bt377 => ((mosaiclaw17_Ref.f a1_0 a1_1).bind fun bt379 => ((mosaicref17_Mul.f bt377.1 bt377.2 bt379.1 bt379.2).bind fun bt381 => ((mosaiclaw17_Ref.f bt349.1 bt349.2.1).bind fun bt385 => (if (!(bt385.1 == bt365.1) || (!(bt385.2 == bt365.2.1))) = true then (none) else ((mosaiclaw17_Ref.f bt353.1 bt353.2.1).bind fun bt387 => (if (!(bt387.1 == bt373.1) || (!(bt387.2 == bt373.2.1))) = true then (none) else ((mosaiclaw17_Ref.f bt357.1 bt357.2.1).bind fun bt389 => (if (!(bt389.1 == bt381.1) || (!(bt389.2 == bt381.2.1))) = true then (none) else (if bt349.2.2 = bt365.2.2 then (if bt353.2.2 = bt373.2.2 then (if bt357.2.2 = bt381.2.2 then ((mosaiclaw17_awake.f k).bind fun t391 => (if t391 = true then ((plane_Check.f a0_0 a0_1).bind fun t392 => ((mosaiclaw17_Ref.f a0_0 a0_1).bind fun bt393 => ((mosaicref17_Check.f bt393.1 bt393.2).bind fun t395 => (if (t392 == t395) = true then ((plane_Norm.f a0_0 a0_1).bind fun t396 => ((mosaiclaw17_Ref.f a0_0 a0_1).bind fun bt397 => ((mosaicref17_Norm.f bt397.1 bt397.2).bind fun t399 => (if t396 = t399 then ((plane_Dist.f a0_0 a0_1 a1_0 a1_1).bind fun t400 => ((mosaiclaw17_Ref.f a0_0 a0_1).bind fun bt401 => ((mosaiclaw17_Ref.f a1_0 a1_1).bind fun bt403 => ((mosaicref17_Dist.f bt401.1 bt401.2 bt403.1 bt403.2).bind fun t405 => (some (t400 == t405)))))) else (none))))) else (none))))) else (none))) else (none)) else (none)) else (none)))))))))))))))))))
theorem mosaiclaw17_PlaneReckons.mono : ∀ a0 a1 a2 a3 k, LeO (mosaiclaw17_PlaneReckons.f k a0 a1 a2 a3) (mosaiclaw17_PlaneReckons.f (k + 1) a0 a1 a2 a3) := by
 intro a0 a1 a2 a3 k
 unfold mosaiclaw17_PlaneReckons.f
 repeat' first
   | (with_reducible exact mosaiclaw17_awake.mono _)
   | (with_reducible exact LeO.refl _)
   | (with_reducible exact LeO.none _)
   | (with_reducible refine LeO.ite ?_ ?_)
   | (with_reducible refine LeO.bind ?_ (fun _ => ?_))
   | exact mosaiclaw17_awake.mono _
   | exact LeO.none _
   | refine LeO.ite ?_ ?_
   | refine LeO.bind ?_ (fun _ => ?_)
def mosaiclaw17_PlaneReckons.T4 : Bool × List (List Nat × List Nat) := (true, [([], []), ([0], [0]), ([], []), ([2, 1], [2]), ([1, 3, 3], [1, 3]), ([4], [4]), ([5], [5]), ([5], [5]), ([], []), ([8, 6, 4, 0, 1, 2, 3, 4, 5, 6, 8], [6, 8]), ([7, 9, 0, 1, 2, 3, 4, 5, 6, 7, 8, 9], [7])])
def mosaiclaw17_PlaneReckons.B4 : List Nat := [0, 1, 0, 7, 15, 31, 63, 63, 0, 383, 1023]
theorem mosaiclaw17_PlaneReckons.tab4 : rtab .any (opsOf Try.f7 4) = mosaiclaw17_PlaneReckons.T4 := by kernel_rfl
theorem mosaiclaw17_PlaneReckons.bits4 : waitsOk mosaiclaw17_PlaneReckons.T4.2 mosaiclaw17_PlaneReckons.B4 = true := by kernel_rfl
def mosaiclaw17_PlaneReckons.T5 : Bool × List (List Nat × List Nat) := (true, [([], []), ([0], [0]), ([], []), ([2, 1], [2]), ([1, 3, 3], [1, 3]), ([4], [4]), ([5], [5]), ([5], [5]), ([], []), ([8, 6, 4, 0, 1, 2, 3, 4, 5, 6, 8], [6, 8]), ([7, 9, 0, 1, 2, 3, 4, 5, 6, 7, 8, 9], [7])])
def mosaiclaw17_PlaneReckons.B5 : List Nat := [0, 1, 0, 7, 15, 31, 63, 63, 0, 383, 1023]
theorem mosaiclaw17_PlaneReckons.tab5 : rtab .any (opsOf Try.f7 5) = mosaiclaw17_PlaneReckons.T5 := by kernel_rfl
theorem mosaiclaw17_PlaneReckons.bits5 : waitsOk mosaiclaw17_PlaneReckons.T5.2 mosaiclaw17_PlaneReckons.B5 = true := by kernel_rfl
def mosaiclaw17_PlaneReckons.T6 : Bool × List (List Nat × List Nat) := (true, [([], []), ([0], [0]), ([], []), ([2, 1], [2]), ([1, 3, 3], [1, 3]), ([4], [4]), ([5], [5]), ([5], [5]), ([], []), ([8, 6, 4, 0, 1, 2, 3, 4, 5, 6, 8], [6, 8]), ([7, 9, 0, 1, 2, 3, 4, 5, 6, 7, 8, 9], [7])])
def mosaiclaw17_PlaneReckons.B6 : List Nat := [0, 1, 0, 7, 15, 31, 63, 63, 0, 383, 1023]
theorem mosaiclaw17_PlaneReckons.tab6 : rtab .any (opsOf Try.f7 6) = mosaiclaw17_PlaneReckons.T6 := by kernel_rfl
theorem mosaiclaw17_PlaneReckons.bits6 : waitsOk mosaiclaw17_PlaneReckons.T6.2 mosaiclaw17_PlaneReckons.B6 = true := by kernel_rfl
def mosaiclaw17_PlaneReckons.T7 : Bool × List (List Nat × List Nat) := (true, [([], []), ([0], [0]), ([], []), ([1, 2], [1, 2]), ([3, 1], [3]), ([4], [4]), ([5, 4, 4], [4, 5]), ([4], [4]), ([6, 7, 4], [4, 6, 7]), ([4, 8], [4, 8]), ([9, 6], [9]), ([10], [10]), ([11, 10, 10], [10, 11]), ([10], [10]), ([12, 13, 10], [10, 12, 13]), ([10, 14], [10, 14]), ([15, 12], [15]), ([16], [16]), ([16], [16]), ([17, 18, 16], [16, 17, 18]), ([16, 19], [16, 19]), ([20, 16], [20]), ([21], [21]), ([21], [21]), ([22, 23, 21], [21, 22, 23]), ([21, 24], [21, 24]), ([25, 21], [25]), ([26], [26]), ([26], [26]), ([27, 28, 26], [26, 27, 28]), ([26, 29], [26, 29])])
def mosaiclaw17_PlaneReckons.B7 : List Nat := [0, 1, 0, 7, 15, 31, 63, 31, 255, 511, 1023, 2047, 4095, 2047, 16383, 32767, 65535, 131071, 131071, 524287, 1048575, 2097151, 4194303, 4194303, 16777215, 33554431, 67108863, 134217727, 134217727, 536870911, 1073741823]
theorem mosaiclaw17_PlaneReckons.tab7 : rtab .any (opsOf Try.f7 7) = mosaiclaw17_PlaneReckons.T7 := by kernel_rfl
theorem mosaiclaw17_PlaneReckons.bits7 : waitsOk mosaiclaw17_PlaneReckons.T7.2 mosaiclaw17_PlaneReckons.B7 = true := by kernel_rfl
def mosaiclaw17_PlaneReckons.T9 : Bool × List (List Nat × List Nat) := (true, [([], []), ([0, 0], [0]), ([1], [1]), ([2, 1, 1], [1, 2]), ([1], [1]), ([4, 3, 1], [1, 4]), ([5, 5, 1], [1, 5]), ([3, 6, 1], [1, 3, 6]), ([1, 7], [1, 7]), ([8, 6], [8]), ([9], [9]), ([10, 9, 9], [9, 10]), ([9], [9]), ([12, 11, 9], [9, 12]), ([13, 13, 9], [9, 13]), ([11, 14, 9], [9, 11, 14]), ([9, 15], [9, 15]), ([16, 14], [16]), ([17], [17]), ([17], [17]), ([18, 19, 17, 17], [17, 18, 19]), ([17], [17]), ([21, 20, 17], [17, 21]), ([17], [17]), ([23, 22, 17], [17, 23]), ([22, 24, 24, 17], [17, 22, 24]), ([20, 25, 17], [17, 20, 25]), ([17, 26], [17, 26]), ([27, 25, 0, 1, 2, 3, 4, 5, 6, 7, 8, 9, 10, 11, 12, 13, 14, 15, 16, 17, 18, 19, 20, 21, 22, 23, 24, 25, 26, 27], [27])])
def mosaiclaw17_PlaneReckons.B9 : List Nat := [0, 1, 3, 7, 3, 31, 63, 127, 255, 511, 1023, 2047, 1023, 8191, 16383, 32767, 65535, 131071, 262143, 262143, 1048575, 262143, 4194303, 262143, 16777215, 33554431, 67108863, 134217727, 268435455]
theorem mosaiclaw17_PlaneReckons.tab9 : rtab .any (opsOf Try.f7 9) = mosaiclaw17_PlaneReckons.T9 := by kernel_rfl
theorem mosaiclaw17_PlaneReckons.bits9 : waitsOk mosaiclaw17_PlaneReckons.T9.2 mosaiclaw17_PlaneReckons.B9 = true := by kernel_rfl
set_option maxHeartbeats 8000000 in
set_option maxRecDepth 100000 in
theorem mosaiclaw17_PlaneReckons.calls (k : Nat) (a0_0 : Int) (a0_1 : Int) (a1_0 : Int) (a1_1 : Int) (r : Bool) (w : World) (h : mosaiclaw17_PlaneReckons.f k a0_0 a0_1 a1_0 a1_1 = some r) :
  Calls Try.prog 7 #[.agg #[.int .i64 a0_0, .int .i64 a0_1], .agg #[.int .i64 a1_0, .int .i64 a1_1]] w fun e w' => e = .returned (.bool r) ∧ Below w.heap.size w w' := by
 have hu23 := Try.underlying23
 have hu27 := Try.underlying27
 have HB := Aside0.mk (Below.refl w.heap.size w)
 have H : ((plane_Add.f a0_0 a0_1 a1_0 a1_1).bind fun bt349 => ((plane_Sub.f a0_0 a0_1 a1_0 a1_1).bind fun bt353 => ((plane_Mul.f a0_0 a0_1 a1_0 a1_1).bind fun bt357 => ((mosaiclaw17_Ref.f a0_0 a0_1).bind fun bt361 => ((mosaiclaw17_Ref.f a1_0 a1_1).bind fun bt363 => ((mosaicref17_Add.f bt361.1 bt361.2 bt363.1 bt363.2).bind fun bt365 => ((mosaiclaw17_Ref.f a0_0 a0_1).bind fun bt369 => ((mosaiclaw17_Ref.f a1_0 a1_1).bind fun bt371 => ((mosaicref17_Sub.f bt369.1 bt369.2 bt371.1 bt371.2).bind fun bt373 => ((mosaiclaw17_Ref.f a0_0 a0_1).bind fun bt377 => ((mosaiclaw17_Ref.f a1_0 a1_1).bind fun bt379 => ((mosaicref17_Mul.f bt377.1 bt377.2 bt379.1 bt379.2).bind fun bt381 => ((mosaiclaw17_Ref.f bt349.1 bt349.2.1).bind fun bt385 => (if (!(bt385.1 == bt365.1) || (!(bt385.2 == bt365.2.1))) = true then (none) else ((mosaiclaw17_Ref.f bt353.1 bt353.2.1).bind fun bt387 => (if (!(bt387.1 == bt373.1) || (!(bt387.2 == bt373.2.1))) = true then (none) else ((mosaiclaw17_Ref.f bt357.1 bt357.2.1).bind fun bt389 => (if (!(bt389.1 == bt381.1) || (!(bt389.2 == bt381.2.1))) = true then (none) else (if bt349.2.2 = bt365.2.2 then (if bt353.2.2 = bt373.2.2 then (if bt357.2.2 = bt381.2.2 then ((mosaiclaw17_awake.f k).bind fun t391 => (if t391 = true then ((plane_Check.f a0_0 a0_1).bind fun t392 => ((mosaiclaw17_Ref.f a0_0 a0_1).bind fun bt393 => ((mosaicref17_Check.f bt393.1 bt393.2).bind fun t395 => (if (t392 == t395) = true then ((plane_Norm.f a0_0 a0_1).bind fun t396 => ((mosaiclaw17_Ref.f a0_0 a0_1).bind fun bt397 => ((mosaicref17_Norm.f bt397.1 bt397.2).bind fun t399 => (if t396 = t399 then ((plane_Dist.f a0_0 a0_1 a1_0 a1_1).bind fun t400 => ((mosaiclaw17_Ref.f a0_0 a0_1).bind fun bt401 => ((mosaiclaw17_Ref.f a1_0 a1_1).bind fun bt403 => ((mosaicref17_Dist.f bt401.1 bt401.2 bt403.1 bt403.2).bind fun t405 => (some (t400 == t405)))))) else (none))))) else (none))))) else (none))) else (none)) else (none)) else (none)))))))))))))))))))) = some r := h
 clear h
 replace H := Option.bind_eq_some_iff.mp H
 obtain ⟨⟨t349, t350, t351⟩, A30, H⟩ := H
 replace H : ((plane_Sub.f a0_0 a0_1 a1_0 a1_1).bind fun bt353 => ((plane_Mul.f a0_0 a0_1 a1_0 a1_1).bind fun bt357 => ((mosaiclaw17_Ref.f a0_0 a0_1).bind fun bt361 => ((mosaiclaw17_Ref.f a1_0 a1_1).bind fun bt363 => ((mosaicref17_Add.f bt361.1 bt361.2 bt363.1 bt363.2).bind fun bt365 => ((mosaiclaw17_Ref.f a0_0 a0_1).bind fun bt369 => ((mosaiclaw17_Ref.f a1_0 a1_1).bind fun bt371 => ((mosaicref17_Sub.f bt369.1 bt369.2 bt371.1 bt371.2).bind fun bt373 => ((mosaiclaw17_Ref.f a0_0 a0_1).bind fun bt377 => ((mosaiclaw17_Ref.f a1_0 a1_1).bind fun bt379 => ((mosaicref17_Mul.f bt377.1 bt377.2 bt379.1 bt379.2).bind fun bt381 => ((mosaiclaw17_Ref.f t349 t350).bind fun bt385 => (if (!(bt385.1 == bt365.1) || (!(bt385.2 == bt365.2.1))) = true then (none) else ((mosaiclaw17_Ref.f bt353.1 bt353.2.1).bind fun bt387 => (if (!(bt387.1 == bt373.1) || (!(bt387.2 == bt373.2.1))) = true then (none) else ((mosaiclaw17_Ref.f bt357.1 bt357.2.1).bind fun bt389 => (if (!(bt389.1 == bt381.1) || (!(bt389.2 == bt381.2.1))) = true then (none) else (if t351 = bt365.2.2 then (if bt353.2.2 = bt373.2.2 then (if bt357.2.2 = bt381.2.2 then ((mosaiclaw17_awake.f k).bind fun t391 => (if t391 = true then ((plane_Check.f a0_0 a0_1).bind fun t392 => ((mosaiclaw17_Ref.f a0_0 a0_1).bind fun bt393 => ((mosaicref17_Check.f bt393.1 bt393.2).bind fun t395 => (if (t392 == t395) = true then ((plane_Norm.f a0_0 a0_1).bind fun t396 => ((mosaiclaw17_Ref.f a0_0 a0_1).bind fun bt397 => ((mosaicref17_Norm.f bt397.1 bt397.2).bind fun t399 => (if t396 = t399 then ((plane_Dist.f a0_0 a0_1 a1_0 a1_1).bind fun t400 => ((mosaiclaw17_Ref.f a0_0 a0_1).bind fun bt401 => ((mosaiclaw17_Ref.f a1_0 a1_1).bind fun bt403 => ((mosaicref17_Dist.f bt401.1 bt401.2 bt403.1 bt403.2).bind fun t405 => (some (t400 == t405)))))) else (none))))) else (none))))) else (none))) else (none)) else (none)) else (none))))))))))))))))))) = some r := H
 have A3 := Aside0.mk A30
 clear A30
 replace H := Option.bind_eq_some_iff.mp H
 obtain ⟨⟨t353, t354, t355⟩, A40, H⟩ := H
 replace H : ((plane_Mul.f a0_0 a0_1 a1_0 a1_1).bind fun bt357 => ((mosaiclaw17_Ref.f a0_0 a0_1).bind fun bt361 => ((mosaiclaw17_Ref.f a1_0 a1_1).bind fun bt363 => ((mosaicref17_Add.f bt361.1 bt361.2 bt363.1 bt363.2).bind fun bt365 => ((mosaiclaw17_Ref.f a0_0 a0_1).bind fun bt369 => ((mosaiclaw17_Ref.f a1_0 a1_1).bind fun bt371 => ((mosaicref17_Sub.f bt369.1 bt369.2 bt371.1 bt371.2).bind fun bt373 => ((mosaiclaw17_Ref.f a0_0 a0_1).bind fun bt377 => ((mosaiclaw17_Ref.f a1_0 a1_1).bind fun bt379 => ((mosaicref17_Mul.f bt377.1 bt377.2 bt379.1 bt379.2).bind fun bt381 => ((mosaiclaw17_Ref.f t349 t350).bind fun bt385 => (if (!(bt385.1 == bt365.1) || (!(bt385.2 == bt365.2.1))) = true then (none) else ((mosaiclaw17_Ref.f t353 t354).bind fun bt387 => (if (!(bt387.1 == bt373.1) || (!(bt387.2 == bt373.2.1))) = true then (none) else ((mosaiclaw17_Ref.f bt357.1 bt357.2.1).bind fun bt389 => (if (!(bt389.1 == bt381.1) || (!(bt389.2 == bt381.2.1))) = true then (none) else (if t351 = bt365.2.2 then (if t355 = bt373.2.2 then (if bt357.2.2 = bt381.2.2 then ((mosaiclaw17_awake.f k).bind fun t391 => (if t391 = true then ((plane_Check.f a0_0 a0_1).bind fun t392 => ((mosaiclaw17_Ref.f a0_0 a0_1).bind fun bt393 => ((mosaicref17_Check.f bt393.1 bt393.2).bind fun t395 => (if (t392 == t395) = true then ((plane_Norm.f a0_0 a0_1).bind fun t396 => ((mosaiclaw17_Ref.f a0_0 a0_1).bind fun bt397 => ((mosaicref17_Norm.f bt397.1 bt397.2).bind fun t399 => (if t396 = t399 then ((plane_Dist.f a0_0 a0_1 a1_0 a1_1).bind fun t400 => ((mosaiclaw17_Ref.f a0_0 a0_1).bind fun bt401 => ((mosaiclaw17_Ref.f a1_0 a1_1).bind fun bt403 => ((mosaicref17_Dist.f bt401.1 bt401.2 bt403.1 bt403.2).bind fun t405 => (some (t400 == t405)))))) else (none))))) else (none))))) else (none))) else (none)) else (none)) else (none)))))))))))))))))) = some r := H
 have A4 := Aside0.mk A40
 clear A40
 replace H := Option.bind_eq_some_iff.mp H
 obtain ⟨⟨t357, t358, t359⟩, A50, H⟩ := H
 replace H : ((mosaiclaw17_Ref.f a0_0 a0_1).bind fun bt361 => ((mosaiclaw17_Ref.f a1_0 a1_1).bind fun bt363 => ((mosaicref17_Add.f bt361.1 bt361.2 bt363.1 bt363.2).bind fun bt365 => ((mosaiclaw17_Ref.f a0_0 a0_1).bind fun bt369 => ((mosaiclaw17_Ref.f a1_0 a1_1).bind fun bt371 => ((mosaicref17_Sub.f bt369.1 bt369.2 bt371.1 bt371.2).bind fun bt373 => ((mosaiclaw17_Ref.f a0_0 a0_1).bind fun bt377 => ((mosaiclaw17_Ref.f a1_0 a1_1).bind fun bt379 => ((mosaicref17_Mul.f bt377.1 bt377.2 bt379.1 bt379.2).bind fun bt381 => ((mosaiclaw17_Ref.f t349 t350).bind fun bt385 => (if (!(bt385.1 == bt365.1) || (!(bt385.2 == bt365.2.1))) = true then (none) else ((mosaiclaw17_Ref.f t353 t354).bind fun bt387 => (if (!(bt387.1 == bt373.1) || (!(bt387.2 == bt373.2.1))) = true then (none) else ((mosaiclaw17_Ref.f t357 t358).bind fun bt389 => (if (!(bt389.1 == bt381.1) || (!(bt389.2 == bt381.2.1))) = true then (none) else (if t351 = bt365.2.2 then (if t355 = bt373.2.2 then (if t359 = bt381.2.2 then ((mosaiclaw17_awake.f k).bind fun t391 => (if t391 = true then ((plane_Check.f a0_0 a0_1).bind fun t392 => ((mosaiclaw17_Ref.f a0_0 a0_1).bind fun bt393 => ((mosaicref17_Check.f bt393.1 bt393.2).bind fun t395 => (if (t392 == t395) = true then ((plane_Norm.f a0_0 a0_1).bind fun t396 => ((mosaiclaw17_Ref.f a0_0 a0_1).bind fun bt397 => ((mosaicref17_Norm.f bt397.1 bt397.2).bind fun t399 => (if t396 = t399 then ((plane_Dist.f a0_0 a0_1 a1_0 a1_1).bind fun t400 => ((mosaiclaw17_Ref.f a0_0 a0_1).bind fun bt401 => ((mosaiclaw17_Ref.f a1_0 a1_1).bind fun bt403 => ((mosaicref17_Dist.f bt401.1 bt401.2 bt403.1 bt403.2).bind fun t405 => (some (t400 == t405)))))) else (none))))) else (none))))) else (none))) else (none)) else (none)) else (none))))))))))))))))) = some r := H
 have A5 := Aside0.mk A50
 clear A50
 replace H := Option.bind_eq_some_iff.mp H
 obtain ⟨⟨t361, t362⟩, A60, H⟩ := H
 replace H : ((mosaiclaw17_Ref.f a1_0 a1_1).bind fun bt363 => ((mosaicref17_Add.f t361 t362 bt363.1 bt363.2).bind fun bt365 => ((mosaiclaw17_Ref.f a0_0 a0_1).bind fun bt369 => ((mosaiclaw17_Ref.f a1_0 a1_1).bind fun bt371 => ((mosaicref17_Sub.f bt369.1 bt369.2 bt371.1 bt371.2).bind fun bt373 => ((mosaiclaw17_Ref.f a0_0 a0_1).bind fun bt377 => ((mosaiclaw17_Ref.f a1_0 a1_1).bind fun bt379 => ((mosaicref17_Mul.f bt377.1 bt377.2 bt379.1 bt379.2).bind fun bt381 => ((mosaiclaw17_Ref.f t349 t350).bind fun bt385 => (if (!(bt385.1 == bt365.1) || (!(bt385.2 == bt365.2.1))) = true then (none) else ((mosaiclaw17_Ref.f t353 t354).bind fun bt387 => (if (!(bt387.1 == bt373.1) || (!(bt387.2 == bt373.2.1))) = true then (none) else ((mosaiclaw17_Ref.f t357 t358).bind fun bt389 => (if (!(bt389.1 == bt381.1) || (!(bt389.2 == bt381.2.1))) = true then (none) else (if t351 = bt365.2.2 then (if t355 = bt373.2.2 then (if t359 = bt381.2.2 then ((mosaiclaw17_awake.f k).bind fun t391 => (if t391 = true then ((plane_Check.f a0_0 a0_1).bind fun t392 => ((mosaiclaw17_Ref.f a0_0 a0_1).bind fun bt393 => ((mosaicref17_Check.f bt393.1 bt393.2).bind fun t395 => (if (t392 == t395) = true then ((plane_Norm.f a0_0 a0_1).bind fun t396 => ((mosaiclaw17_Ref.f a0_0 a0_1).bind fun bt397 => ((mosaicref17_Norm.f bt397.1 bt397.2).bind fun t399 => (if t396 = t399 then ((plane_Dist.f a0_0 a0_1 a1_0 a1_1).bind fun t400 => ((mosaiclaw17_Ref.f a0_0 a0_1).bind fun bt401 => ((mosaiclaw17_Ref.f a1_0 a1_1).bind fun bt403 => ((mosaicref17_Dist.f bt401.1 bt401.2 bt403.1 bt403.2).bind fun t405 => (some (t400 == t405)))))) else (none))))) else (none))))) else (none))) else (none)) else (none)) else (none)))))))))))))))) = some r := H
 have A6 := Aside0.mk A60
 clear A60
 replace H := Option.bind_eq_some_iff.mp H
 obtain ⟨⟨t363, t364⟩, A70, H⟩ := H
 replace H : ((mosaicref17_Add.f t361 t362 t363 t364).bind fun bt365 => ((mosaiclaw17_Ref.f a0_0 a0_1).bind fun bt369 => ((mosaiclaw17_Ref.f a1_0 a1_1).bind fun bt371 => ((mosaicref17_Sub.f bt369.1 bt369.2 bt371.1 bt371.2).bind fun bt373 => ((mosaiclaw17_Ref.f a0_0 a0_1).bind fun bt377 => ((mosaiclaw17_Ref.f a1_0 a1_1).bind fun bt379 => ((mosaicref17_Mul.f bt377.1 bt377.2 bt379.1 bt379.2).bind fun bt381 => ((mosaiclaw17_Ref.f t349 t350).bind fun bt385 => (if (!(bt385.1 == bt365.1) || (!(bt385.2 == bt365.2.1))) = true then (none) else ((mosaiclaw17_Ref.f t353 t354).bind fun bt387 => (if (!(bt387.1 == bt373.1) || (!(bt387.2 == bt373.2.1))) = true then (none) else ((mosaiclaw17_Ref.f t357 t358).bind fun bt389 => (if (!(bt389.1 == bt381.1) || (!(bt389.2 == bt381.2.1))) = true then (none) else (if t351 = bt365.2.2 then (if t355 = bt373.2.2 then (if t359 = bt381.2.2 then ((mosaiclaw17_awake.f k).bind fun t391 => (if t391 = true then ((plane_Check.f a0_0 a0_1).bind fun t392 => ((mosaiclaw17_Ref.f a0_0 a0_1).bind fun bt393 => ((mosaicref17_Check.f bt393.1 bt393.2).bind fun t395 => (if (t392 == t395) = true then ((plane_Norm.f a0_0 a0_1).bind fun t396 => ((mosaiclaw17_Ref.f a0_0 a0_1).bind fun bt397 => ((mosaicref17_Norm.f bt397.1 bt397.2).bind fun t399 => (if t396 = t399 then ((plane_Dist.f a0_0 a0_1 a1_0 a1_1).bind fun t400 => ((mosaiclaw17_Ref.f a0_0 a0_1).bind fun bt401 => ((mosaiclaw17_Ref.f a1_0 a1_1).bind fun bt403 => ((mosaicref17_Dist.f bt401.1 bt401.2 bt403.1 bt403.2).bind fun t405 => (some (t400 == t405)))))) else (none))))) else (none))))) else (none))) else (none)) else (none)) else (none))))))))))))))) = some r := H
 have A7 := Aside0.mk A70
 clear A70
 replace H := Option.bind_eq_some_iff.mp H
 obtain ⟨⟨t365, t366, t367⟩, A80, H⟩ := H
 replace H : ((mosaiclaw17_Ref.f a0_0 a0_1).bind fun bt369 => ((mosaiclaw17_Ref.f a1_0 a1_1).bind fun bt371 => ((mosaicref17_Sub.f bt369.1 bt369.2 bt371.1 bt371.2).bind fun bt373 => ((mosaiclaw17_Ref.f a0_0 a0_1).bind fun bt377 => ((mosaiclaw17_Ref.f a1_0 a1_1).bind fun bt379 => ((mosaicref17_Mul.f bt377.1 bt377.2 bt379.1 bt379.2).bind fun bt381 => ((mosaiclaw17_Ref.f t349 t350).bind fun bt385 => (if (!(bt385.1 == t365) || (!(bt385.2 == t366))) = true then (none) else ((mosaiclaw17_Ref.f t353 t354).bind fun bt387 => (if (!(bt387.1 == bt373.1) || (!(bt387.2 == bt373.2.1))) = true then (none) else ((mosaiclaw17_Ref.f t357 t358).bind fun bt389 => (if (!(bt389.1 == bt381.1) || (!(bt389.2 == bt381.2.1))) = true then (none) else (if t351 = t367 then (if t355 = bt373.2.2 then (if t359 = bt381.2.2 then ((mosaiclaw17_awake.f k).bind fun t391 => (if t391 = true then ((plane_Check.f a0_0 a0_1).bind fun t392 => ((mosaiclaw17_Ref.f a0_0 a0_1).bind fun bt393 => ((mosaicref17_Check.f bt393.1 bt393.2).bind fun t395 => (if (t392 == t395) = true then ((plane_Norm.f a0_0 a0_1).bind fun t396 => ((mosaiclaw17_Ref.f a0_0 a0_1).bind fun bt397 => ((mosaicref17_Norm.f bt397.1 bt397.2).bind fun t399 => (if t396 = t399 then ((plane_Dist.f a0_0 a0_1 a1_0 a1_1).bind fun t400 => ((mosaiclaw17_Ref.f a0_0 a0_1).bind fun bt401 => ((mosaiclaw17_Ref.f a1_0 a1_1).bind fun bt403 => ((mosaicref17_Dist.f bt401.1 bt401.2 bt403.1 bt403.2).bind fun t405 => (some (t400 == t405)))))) else (none))))) else (none))))) else (none))) else (none)) else (none)) else (none)))))))))))))) = some r := H
 have A8 := Aside0.mk A80
 clear A80
 replace H := Option.bind_eq_some_iff.mp H
 obtain ⟨⟨t369, t370⟩, A90, H⟩ := H
 replace H : ((mosaiclaw17_Ref.f a1_0 a1_1).bind fun bt371 => ((mosaicref17_Sub.f t369 t370 bt371.1 bt371.2).bind fun bt373 => ((mosaiclaw17_Ref.f a0_0 a0_1).bind fun bt377 => ((mosaiclaw17_Ref.f a1_0 a1_1).bind fun bt379 => ((mosaicref17_Mul.f bt377.1 bt377.2 bt379.1 bt379.2).bind fun bt381 => ((mosaiclaw17_Ref.f t349 t350).bind fun bt385 => (if (!(bt385.1 == t365) || (!(bt385.2 == t366))) = true then (none) else ((mosaiclaw17_Ref.f t353 t354).bind fun bt387 => (if (!(bt387.1 == bt373.1) || (!(bt387.2 == bt373.2.1))) = true then (none) else ((mosaiclaw17_Ref.f t357 t358).bind fun bt389 => (if (!(bt389.1 == bt381.1) || (!(bt389.2 == bt381.2.1))) = true then (none) else (if t351 = t367 then (if t355 = bt373.2.2 then (if t359 = bt381.2.2 then ((mosaiclaw17_awake.f k).bind fun t391 => (if t391 = true then ((plane_Check.f a0_0 a0_1).bind fun t392 => ((mosaiclaw17_Ref.f a0_0 a0_1).bind fun bt393 => ((mosaicref17_Check.f bt393.1 bt393.2).bind fun t395 => (if (t392 == t395) = true then ((plane_Norm.f a0_0 a0_1).bind fun t396 => ((mosaiclaw17_Ref.f a0_0 a0_1).bind fun bt397 => ((mosaicref17_Norm.f bt397.1 bt397.2).bind fun t399 => (if t396 = t399 then ((plane_Dist.f a0_0 a0_1 a1_0 a1_1).bind fun t400 => ((mosaiclaw17_Ref.f a0_0 a0_1).bind fun bt401 => ((mosaiclaw17_Ref.f a1_0 a1_1).bind fun bt403 => ((mosaicref17_Dist.f bt401.1 bt401.2 bt403.1 bt403.2).bind fun t405 => (some (t400 == t405)))))) else (none))))) else (none))))) else (none))) else (none)) else (none)) else (none))))))))))))) = some r := H
 have A9 := Aside0.mk A90
 clear A90
 replace H := Option.bind_eq_some_iff.mp H
 obtain ⟨⟨t371, t372⟩, A100, H⟩ := H
 replace H : ((mosaicref17_Sub.f t369 t370 t371 t372).bind fun bt373 => ((mosaiclaw17_Ref.f a0_0 a0_1).bind fun bt377 => ((mosaiclaw17_Ref.f a1_0 a1_1).bind fun bt379 => ((mosaicref17_Mul.f bt377.1 bt377.2 bt379.1 bt379.2).bind fun bt381 => ((mosaiclaw17_Ref.f t349 t350).bind fun bt385 => (if (!(bt385.1 == t365) || (!(bt385.2 == t366))) = true then (none) else ((mosaiclaw17_Ref.f t353 t354).bind fun bt387 => (if (!(bt387.1 == bt373.1) || (!(bt387.2 == bt373.2.1))) = true then (none) else ((mosaiclaw17_Ref.f t357 t358).bind fun bt389 => (if (!(bt389.1 == bt381.1) || (!(bt389.2 == bt381.2.1))) = true then (none) else (if t351 = t367 then (if t355 = bt373.2.2 then (if t359 = bt381.2.2 then ((mosaiclaw17_awake.f k).bind fun t391 => (if t391 = true then ((plane_Check.f a0_0 a0_1).bind fun t392 => ((mosaiclaw17_Ref.f a0_0 a0_1).bind fun bt393 => ((mosaicref17_Check.f bt393.1 bt393.2).bind fun t395 => (if (t392 == t395) = true then ((plane_Norm.f a0_0 a0_1).bind fun t396 => ((mosaiclaw17_Ref.f a0_0 a0_1).bind fun bt397 => ((mosaicref17_Norm.f bt397.1 bt397.2).bind fun t399 => (if t396 = t399 then ((plane_Dist.f a0_0 a0_1 a1_0 a1_1).bind fun t400 => ((mosaiclaw17_Ref.f a0_0 a0_1).bind fun bt401 => ((mosaiclaw17_Ref.f a1_0 a1_1).bind fun bt403 => ((mosaicref17_Dist.f bt401.1 bt401.2 bt403.1 bt403.2).bind fun t405 => (some (t400 == t405)))))) else (none))))) else (none))))) else (none))) else (none)) else (none)) else (none)))))))))))) = some r := H
 have A10 := Aside0.mk A100
 clear A100
 replace H := Option.bind_eq_some_iff.mp H
 obtain ⟨⟨t373, t374, t375⟩, A110, H⟩ := H
 replace H : ((mosaiclaw17_Ref.f a0_0 a0_1).bind fun bt377 => ((mosaiclaw17_Ref.f a1_0 a1_1).bind fun bt379 => ((mosaicref17_Mul.f bt377.1 bt377.2 bt379.1 bt379.2).bind fun bt381 => ((mosaiclaw17_Ref.f t349 t350).bind fun bt385 => (if (!(bt385.1 == t365) || (!(bt385.2 == t366))) = true then (none) else ((mosaiclaw17_Ref.f t353 t354).bind fun bt387 => (if (!(bt387.1 == t373) || (!(bt387.2 == t374))) = true then (none) else ((mosaiclaw17_Ref.f t357 t358).bind fun bt389 => (if (!(bt389.1 == bt381.1) || (!(bt389.2 == bt381.2.1))) = true then (none) else (if t351 = t367 then (if t355 = t375 then (if t359 = bt381.2.2 then ((mosaiclaw17_awake.f k).bind fun t391 => (if t391 = true then ((plane_Check.f a0_0 a0_1).bind fun t392 => ((mosaiclaw17_Ref.f a0_0 a0_1).bind fun bt393 => ((mosaicref17_Check.f bt393.1 bt393.2).bind fun t395 => (if (t392 == t395) = true then ((plane_Norm.f a0_0 a0_1).bind fun t396 => ((mosaiclaw17_Ref.f a0_0 a0_1).bind fun bt397 => ((mosaicref17_Norm.f bt397.1 bt397.2).bind fun t399 => (if t396 = t399 then ((plane_Dist.f a0_0 a0_1 a1_0 a1_1).bind fun t400 => ((mosaiclaw17_Ref.f a0_0 a0_1).bind fun bt401 => ((mosaiclaw17_Ref.f a1_0 a1_1).bind fun bt403 => ((mosaicref17_Dist.f bt401.1 bt401.2 bt403.1 bt403.2).bind fun t405 => (some (t400 == t405)))))) else (none))))) else (none))))) else (none))) else (none)) else (none)) else (none))))))))))) = some r := H
 have A11 := Aside0.mk A110
 clear A110
 replace H := Option.bind_eq_some_iff.mp H
 obtain ⟨⟨t377, t378⟩, A120, H⟩ := H
 replace H : ((mosaiclaw17_Ref.f a1_0 a1_1).bind fun bt379 => ((mosaicref17_Mul.f t377 t378 bt379.1 bt379.2).bind fun bt381 => ((mosaiclaw17_Ref.f t349 t350).bind fun bt385 => (if (!(bt385.1 == t365) || (!(bt385.2 == t366))) = true then (none) else ((mosaiclaw17_Ref.f t353 t354).bind fun bt387 => (if (!(bt387.1 == t373) || (!(bt387.2 == t374))) = true then (none) else ((mosaiclaw17_Ref.f t357 t358).bind fun bt389 => (if (!(bt389.1 == bt381.1) || (!(bt389.2 == bt381.2.1))) = true then (none) else (if t351 = t367 then (if t355 = t375 then (if t359 = bt381.2.2 then ((mosaiclaw17_awake.f k).bind fun t391 => (if t391 = true then ((plane_Check.f a0_0 a0_1).bind fun t392 => ((mosaiclaw17_Ref.f a0_0 a0_1).bind fun bt393 => ((mosaicref17_Check.f bt393.1 bt393.2).bind fun t395 => (if (t392 == t395) = true then ((plane_Norm.f a0_0 a0_1).bind fun t396 => ((mosaiclaw17_Ref.f a0_0 a0_1).bind fun bt397 => ((mosaicref17_Norm.f bt397.1 bt397.2).bind fun t399 => (if t396 = t399 then ((plane_Dist.f a0_0 a0_1 a1_0 a1_1).bind fun t400 => ((mosaiclaw17_Ref.f a0_0 a0_1).bind fun bt401 => ((mosaiclaw17_Ref.f a1_0 a1_1).bind fun bt403 => ((mosaicref17_Dist.f bt401.1 bt401.2 bt403.1 bt403.2).bind fun t405 => (some (t400 == t405)))))) else (none))))) else (none))))) else (none))) else (none)) else (none)) else (none)))))))))) = some r := H
 have A12 := Aside0.mk A120
 clear A120
 replace H := Option.bind_eq_some_iff.mp H
 obtain ⟨⟨t379, t380⟩, A130, H⟩ := H
 replace H : ((mosaicref17_Mul.f t377 t378 t379 t380).bind fun bt381 => ((mosaiclaw17_Ref.f t349 t350).bind fun bt385 => (if (!(bt385.1 == t365) || (!(bt385.2 == t366))) = true then (none) else ((mosaiclaw17_Ref.f t353 t354).bind fun bt387 => (if (!(bt387.1 == t373) || (!(bt387.2 == t374))) = true then (none) else ((mosaiclaw17_Ref.f t357 t358).bind fun bt389 => (if (!(bt389.1 == bt381.1) || (!(bt389.2 == bt381.2.1))) = true then (none) else (if t351 = t367 then (if t355 = t375 then (if t359 = bt381.2.2 then ((mosaiclaw17_awake.f k).bind fun t391 => (if t391 = true then ((plane_Check.f a0_0 a0_1).bind fun t392 => ((mosaiclaw17_Ref.f a0_0 a0_1).bind fun bt393 => ((mosaicref17_Check.f bt393.1 bt393.2).bind fun t395 => (if (t392 == t395) = true then ((plane_Norm.f a0_0 a0_1).bind fun t396 => ((mosaiclaw17_Ref.f a0_0 a0_1).bind fun bt397 => ((mosaicref17_Norm.f bt397.1 bt397.2).bind fun t399 => (if t396 = t399 then ((plane_Dist.f a0_0 a0_1 a1_0 a1_1).bind fun t400 => ((mosaiclaw17_Ref.f a0_0 a0_1).bind fun bt401 => ((mosaiclaw17_Ref.f a1_0 a1_1).bind fun bt403 => ((mosaicref17_Dist.f bt401.1 bt401.2 bt403.1 bt403.2).bind fun t405 => (some (t400 == t405)))))) else (none))))) else (none))))) else (none))) else (none)) else (none)) else (none))))))))) = some r := H
 have A13 := Aside0.mk A130
 clear A130
 replace H := Option.bind_eq_some_iff.mp H
 obtain ⟨⟨t381, t382, t383⟩, A140, H⟩ := H
 replace H : ((mosaiclaw17_Ref.f t349 t350).bind fun bt385 => (if (!(bt385.1 == t365) || (!(bt385.2 == t366))) = true then (none) else ((mosaiclaw17_Ref.f t353 t354).bind fun bt387 => (if (!(bt387.1 == t373) || (!(bt387.2 == t374))) = true then (none) else ((mosaiclaw17_Ref.f t357 t358).bind fun bt389 => (if (!(bt389.1 == t381) || (!(bt389.2 == t382))) = true then (none) else (if t351 = t367 then (if t355 = t375 then (if t359 = t383 then ((mosaiclaw17_awake.f k).bind fun t391 => (if t391 = true then ((plane_Check.f a0_0 a0_1).bind fun t392 => ((mosaiclaw17_Ref.f a0_0 a0_1).bind fun bt393 => ((mosaicref17_Check.f bt393.1 bt393.2).bind fun t395 => (if (t392 == t395) = true then ((plane_Norm.f a0_0 a0_1).bind fun t396 => ((mosaiclaw17_Ref.f a0_0 a0_1).bind fun bt397 => ((mosaicref17_Norm.f bt397.1 bt397.2).bind fun t399 => (if t396 = t399 then ((plane_Dist.f a0_0 a0_1 a1_0 a1_1).bind fun t400 => ((mosaiclaw17_Ref.f a0_0 a0_1).bind fun bt401 => ((mosaiclaw17_Ref.f a1_0 a1_1).bind fun bt403 => ((mosaicref17_Dist.f bt401.1 bt401.2 bt403.1 bt403.2).bind fun t405 => (some (t400 == t405)))))) else (none))))) else (none))))) else (none))) else (none)) else (none)) else (none)))))))) = some r := H
 have A14 := Aside0.mk A140
 clear A140
 replace H := Option.bind_eq_some_iff.mp H
 obtain ⟨⟨t385, t386⟩, A150, H⟩ := H
 replace H : (if (!(t385 == t365) || (!(t386 == t366))) = true then (none) else ((mosaiclaw17_Ref.f t353 t354).bind fun bt387 => (if (!(bt387.1 == t373) || (!(bt387.2 == t374))) = true then (none) else ((mosaiclaw17_Ref.f t357 t358).bind fun bt389 => (if (!(bt389.1 == t381) || (!(bt389.2 == t382))) = true then (none) else (if t351 = t367 then (if t355 = t375 then (if t359 = t383 then ((mosaiclaw17_awake.f k).bind fun t391 => (if t391 = true then ((plane_Check.f a0_0 a0_1).bind fun t392 => ((mosaiclaw17_Ref.f a0_0 a0_1).bind fun bt393 => ((mosaicref17_Check.f bt393.1 bt393.2).bind fun t395 => (if (t392 == t395) = true then ((plane_Norm.f a0_0 a0_1).bind fun t396 => ((mosaiclaw17_Ref.f a0_0 a0_1).bind fun bt397 => ((mosaicref17_Norm.f bt397.1 bt397.2).bind fun t399 => (if t396 = t399 then ((plane_Dist.f a0_0 a0_1 a1_0 a1_1).bind fun t400 => ((mosaiclaw17_Ref.f a0_0 a0_1).bind fun bt401 => ((mosaiclaw17_Ref.f a1_0 a1_1).bind fun bt403 => ((mosaicref17_Dist.f bt401.1 bt401.2 bt403.1 bt403.2).bind fun t405 => (some (t400 == t405)))))) else (none))))) else (none))))) else (none))) else (none)) else (none)) else (none))))))) = some r := H
 have A15 := Aside0.mk A150
 clear A150
 by_cases c16 : (!(t385 == t365) || (!(t386 == t366))) = true
 ·
  rw [if_pos c16] at H
  have c16b0 : (!(t385 == t365) || (!(t386 == t366))) = true := c16
  clear c16
  exact absurd H (by simp)
 ·
  rw [if_neg c16] at H
  have c16b0 : (!(t385 == t365) || (!(t386 == t366))) = false := by simpa using c16
  clear c16
  replace H := Option.bind_eq_some_iff.mp H
  obtain ⟨⟨t387, t388⟩, A170, H⟩ := H
  replace H : (if (!(t387 == t373) || (!(t388 == t374))) = true then (none) else ((mosaiclaw17_Ref.f t357 t358).bind fun bt389 => (if (!(bt389.1 == t381) || (!(bt389.2 == t382))) = true then (none) else (if t351 = t367 then (if t355 = t375 then (if t359 = t383 then ((mosaiclaw17_awake.f k).bind fun t391 => (if t391 = true then ((plane_Check.f a0_0 a0_1).bind fun t392 => ((mosaiclaw17_Ref.f a0_0 a0_1).bind fun bt393 => ((mosaicref17_Check.f bt393.1 bt393.2).bind fun t395 => (if (t392 == t395) = true then ((plane_Norm.f a0_0 a0_1).bind fun t396 => ((mosaiclaw17_Ref.f a0_0 a0_1).bind fun bt397 => ((mosaicref17_Norm.f bt397.1 bt397.2).bind fun t399 => (if t396 = t399 then ((plane_Dist.f a0_0 a0_1 a1_0 a1_1).bind fun t400 => ((mosaiclaw17_Ref.f a0_0 a0_1).bind fun bt401 => ((mosaiclaw17_Ref.f a1_0 a1_1).bind fun bt403 => ((mosaicref17_Dist.f bt401.1 bt401.2 bt403.1 bt403.2).bind fun t405 => (some (t400 == t405)))))) else (none))))) else (none))))) else (none))) else (none)) else (none)) else (none))))) = some r := H
  have A17 := Aside0.mk A170
  clear A170
  by_cases c18 : (!(t387 == t373) || (!(t388 == t374))) = true
  ·
   rw [if_pos c18] at H
   have c18b0 : (!(t387 == t373) || (!(t388 == t374))) = true := c18
   clear c18
   exact absurd H (by simp)
  ·
   rw [if_neg c18] at H
   have c18b0 : (!(t387 == t373) || (!(t388 == t374))) = false := by simpa using c18
   clear c18
   replace H := Option.bind_eq_some_iff.mp H
   obtain ⟨⟨t389, t390⟩, A190, H⟩ := H
   replace H : (if (!(t389 == t381) || (!(t390 == t382))) = true then (none) else (if t351 = t367 then (if t355 = t375 then (if t359 = t383 then ((mosaiclaw17_awake.f k).bind fun t391 => (if t391 = true then ((plane_Check.f a0_0 a0_1).bind fun t392 => ((mosaiclaw17_Ref.f a0_0 a0_1).bind fun bt393 => ((mosaicref17_Check.f bt393.1 bt393.2).bind fun t395 => (if (t392 == t395) = true then ((plane_Norm.f a0_0 a0_1).bind fun t396 => ((mosaiclaw17_Ref.f a0_0 a0_1).bind fun bt397 => ((mosaicref17_Norm.f bt397.1 bt397.2).bind fun t399 => (if t396 = t399 then ((plane_Dist.f a0_0 a0_1 a1_0 a1_1).bind fun t400 => ((mosaiclaw17_Ref.f a0_0 a0_1).bind fun bt401 => ((mosaiclaw17_Ref.f a1_0 a1_1).bind fun bt403 => ((mosaicref17_Dist.f bt401.1 bt401.2 bt403.1 bt403.2).bind fun t405 => (some (t400 == t405)))))) else (none))))) else (none))))) else (none))) else (none)) else (none)) else (none))) = some r := H
   have A19 := Aside0.mk A190
   clear A190
   by_cases c20 : (!(t389 == t381) || (!(t390 == t382))) = true
   ·
    rw [if_pos c20] at H
    have c20b0 : (!(t389 == t381) || (!(t390 == t382))) = true := c20
    clear c20
    exact absurd H (by simp)
   ·
    rw [if_neg c20] at H
    have c20b0 : (!(t389 == t381) || (!(t390 == t382))) = false := by simpa using c20
    clear c20
    by_cases c21 : t351 = t367
    ·
     rw [if_pos c21] at H
     have c21b0 : (t351 == t367) = true := beq_iff_eq.mpr c21
     have c21b1 : (t351 != t367) = false := bne_eq_false_iff_eq.mpr c21
     clear c21
     by_cases c22 : t355 = t375
     ·
      rw [if_pos c22] at H
      have c22b0 : (t355 == t375) = true := beq_iff_eq.mpr c22
      have c22b1 : (t355 != t375) = false := bne_eq_false_iff_eq.mpr c22
      clear c22
      by_cases c23 : t359 = t383
      ·
       rw [if_pos c23] at H
       have c23b0 : (t359 == t383) = true := beq_iff_eq.mpr c23
       have c23b1 : (t359 != t383) = false := bne_eq_false_iff_eq.mpr c23
       clear c23
       replace H := Option.bind_eq_some_iff.mp H
       obtain ⟨t391, A240, H⟩ := H
       replace H : (if t391 = true then ((plane_Check.f a0_0 a0_1).bind fun t392 => ((mosaiclaw17_Ref.f a0_0 a0_1).bind fun bt393 => ((mosaicref17_Check.f bt393.1 bt393.2).bind fun t395 => (if (t392 == t395) = true then ((plane_Norm.f a0_0 a0_1).bind fun t396 => ((mosaiclaw17_Ref.f a0_0 a0_1).bind fun bt397 => ((mosaicref17_Norm.f bt397.1 bt397.2).bind fun t399 => (if t396 = t399 then ((plane_Dist.f a0_0 a0_1 a1_0 a1_1).bind fun t400 => ((mosaiclaw17_Ref.f a0_0 a0_1).bind fun bt401 => ((mosaiclaw17_Ref.f a1_0 a1_1).bind fun bt403 => ((mosaicref17_Dist.f bt401.1 bt401.2 bt403.1 bt403.2).bind fun t405 => (some (t400 == t405)))))) else (none))))) else (none))))) else (none)) = some r := H
       have A24 := Aside0.mk A240
       clear A240
       by_cases c25 : t391 = true
       ·
        subst c25
        have H1 : ((plane_Check.f a0_0 a0_1).bind fun t392 => ((mosaiclaw17_Ref.f a0_0 a0_1).bind fun bt393 => ((mosaicref17_Check.f bt393.1 bt393.2).bind fun t395 => (if (t392 == t395) = true then ((plane_Norm.f a0_0 a0_1).bind fun t396 => ((mosaiclaw17_Ref.f a0_0 a0_1).bind fun bt397 => ((mosaicref17_Norm.f bt397.1 bt397.2).bind fun t399 => (if t396 = t399 then ((plane_Dist.f a0_0 a0_1 a1_0 a1_1).bind fun t400 => ((mosaiclaw17_Ref.f a0_0 a0_1).bind fun bt401 => ((mosaiclaw17_Ref.f a1_0 a1_1).bind fun bt403 => ((mosaicref17_Dist.f bt401.1 bt401.2 bt403.1 bt403.2).bind fun t405 => (some (t400 == t405)))))) else (none))))) else (none))))) = some r := by rw [if_pos rfl] at H; exact H
        clear H
        have H := H1
        clear H1
        replace H := Option.bind_eq_some_iff.mp H
        obtain ⟨t392, A260, H⟩ := H
        replace H : ((mosaiclaw17_Ref.f a0_0 a0_1).bind fun bt393 => ((mosaicref17_Check.f bt393.1 bt393.2).bind fun t395 => (if (t392 == t395) = true then ((plane_Norm.f a0_0 a0_1).bind fun t396 => ((mosaiclaw17_Ref.f a0_0 a0_1).bind fun bt397 => ((mosaicref17_Norm.f bt397.1 bt397.2).bind fun t399 => (if t396 = t399 then ((plane_Dist.f a0_0 a0_1 a1_0 a1_1).bind fun t400 => ((mosaiclaw17_Ref.f a0_0 a0_1).bind fun bt401 => ((mosaiclaw17_Ref.f a1_0 a1_1).bind fun bt403 => ((mosaicref17_Dist.f bt401.1 bt401.2 bt403.1 bt403.2).bind fun t405 => (some (t400 == t405)))))) else (none))))) else (none)))) = some r := H
        have A26 := Aside0.mk A260
        clear A260
        replace H := Option.bind_eq_some_iff.mp H
        obtain ⟨⟨t393, t394⟩, A270, H⟩ := H
        replace H : ((mosaicref17_Check.f t393 t394).bind fun t395 => (if (t392 == t395) = true then ((plane_Norm.f a0_0 a0_1).bind fun t396 => ((mosaiclaw17_Ref.f a0_0 a0_1).bind fun bt397 => ((mosaicref17_Norm.f bt397.1 bt397.2).bind fun t399 => (if t396 = t399 then ((plane_Dist.f a0_0 a0_1 a1_0 a1_1).bind fun t400 => ((mosaiclaw17_Ref.f a0_0 a0_1).bind fun bt401 => ((mosaiclaw17_Ref.f a1_0 a1_1).bind fun bt403 => ((mosaicref17_Dist.f bt401.1 bt401.2 bt403.1 bt403.2).bind fun t405 => (some (t400 == t405)))))) else (none))))) else (none))) = some r := H
        have A27 := Aside0.mk A270
        clear A270
        replace H := Option.bind_eq_some_iff.mp H
        obtain ⟨t395, A280, H⟩ := H
        replace H : (if (t392 == t395) = true then ((plane_Norm.f a0_0 a0_1).bind fun t396 => ((mosaiclaw17_Ref.f a0_0 a0_1).bind fun bt397 => ((mosaicref17_Norm.f bt397.1 bt397.2).bind fun t399 => (if t396 = t399 then ((plane_Dist.f a0_0 a0_1 a1_0 a1_1).bind fun t400 => ((mosaiclaw17_Ref.f a0_0 a0_1).bind fun bt401 => ((mosaiclaw17_Ref.f a1_0 a1_1).bind fun bt403 => ((mosaicref17_Dist.f bt401.1 bt401.2 bt403.1 bt403.2).bind fun t405 => (some (t400 == t405)))))) else (none))))) else (none)) = some r := H
        have A28 := Aside0.mk A280
        clear A280
        by_cases c29 : (t392 == t395) = true
        ·
         rw [if_pos c29] at H
         have c29b0 : (t392 == t395) = true := c29
         (try (have c29b1 : decide (t392 = t395) = true := by simpa using c29))
         (try (have c29b2 : (t392 == t395) = true := by simpa using c29))
         clear c29
         replace H := Option.bind_eq_some_iff.mp H
         obtain ⟨t396, A300, H⟩ := H
         replace H : ((mosaiclaw17_Ref.f a0_0 a0_1).bind fun bt397 => ((mosaicref17_Norm.f bt397.1 bt397.2).bind fun t399 => (if t396 = t399 then ((plane_Dist.f a0_0 a0_1 a1_0 a1_1).bind fun t400 => ((mosaiclaw17_Ref.f a0_0 a0_1).bind fun bt401 => ((mosaiclaw17_Ref.f a1_0 a1_1).bind fun bt403 => ((mosaicref17_Dist.f bt401.1 bt401.2 bt403.1 bt403.2).bind fun t405 => (some (t400 == t405)))))) else (none)))) = some r := H
         have A30 := Aside0.mk A300
         clear A300
         replace H := Option.bind_eq_some_iff.mp H
         obtain ⟨⟨t397, t398⟩, A310, H⟩ := H
         replace H : ((mosaicref17_Norm.f t397 t398).bind fun t399 => (if t396 = t399 then ((plane_Dist.f a0_0 a0_1 a1_0 a1_1).bind fun t400 => ((mosaiclaw17_Ref.f a0_0 a0_1).bind fun bt401 => ((mosaiclaw17_Ref.f a1_0 a1_1).bind fun bt403 => ((mosaicref17_Dist.f bt401.1 bt401.2 bt403.1 bt403.2).bind fun t405 => (some (t400 == t405)))))) else (none))) = some r := H
         have A31 := Aside0.mk A310
         clear A310
         replace H := Option.bind_eq_some_iff.mp H
         obtain ⟨t399, A320, H⟩ := H
         replace H : (if t396 = t399 then ((plane_Dist.f a0_0 a0_1 a1_0 a1_1).bind fun t400 => ((mosaiclaw17_Ref.f a0_0 a0_1).bind fun bt401 => ((mosaiclaw17_Ref.f a1_0 a1_1).bind fun bt403 => ((mosaicref17_Dist.f bt401.1 bt401.2 bt403.1 bt403.2).bind fun t405 => (some (t400 == t405)))))) else (none)) = some r := H
         have A32 := Aside0.mk A320
         clear A320
         by_cases c33 : t396 = t399
         ·
          rw [if_pos c33] at H
          have c33b0 : (t396 == t399) = true := beq_iff_eq.mpr c33
          have c33b1 : (t396 != t399) = false := bne_eq_false_iff_eq.mpr c33
          clear c33
          replace H := Option.bind_eq_some_iff.mp H
          obtain ⟨t400, A340, H⟩ := H
          replace H : ((mosaiclaw17_Ref.f a0_0 a0_1).bind fun bt401 => ((mosaiclaw17_Ref.f a1_0 a1_1).bind fun bt403 => ((mosaicref17_Dist.f bt401.1 bt401.2 bt403.1 bt403.2).bind fun t405 => (some (t400 == t405))))) = some r := H
          have A34 := Aside0.mk A340
          clear A340
          replace H := Option.bind_eq_some_iff.mp H
          obtain ⟨⟨t401, t402⟩, A350, H⟩ := H
          replace H : ((mosaiclaw17_Ref.f a1_0 a1_1).bind fun bt403 => ((mosaicref17_Dist.f t401 t402 bt403.1 bt403.2).bind fun t405 => (some (t400 == t405)))) = some r := H
          have A35 := Aside0.mk A350
          clear A350
          replace H := Option.bind_eq_some_iff.mp H
          obtain ⟨⟨t403, t404⟩, A360, H⟩ := H
          replace H : ((mosaicref17_Dist.f t401 t402 t403 t404).bind fun t405 => (some (t400 == t405))) = some r := H
          have A36 := Aside0.mk A360
          clear A360
          replace H := Option.bind_eq_some_iff.mp H
          obtain ⟨t405, A370, H⟩ := H
          replace H : (some (t400 == t405)) = some r := H
          have A37 := Aside0.mk A370
          clear A370
          obtain rfl := Option.some.inj H
          go_enter Try.func7, Try.ntmps7
          try go_wp2_with (first | ((with_reducible refine gate_dst (N := 2) rfl ?_); refine box_event ?hg (N := 2) ?hd (cs := #[.int .i64 a0_0, .int .i64 a0_1]) (t := 23) ?hr ?_; (case hd => rfl); (case hg => rfl); (case hr => first | (go_simp; done) | (go_simp; rfl)); intro gb347 hg w38 hbox hb; have n0_ := Aside0.mk (below_step (by repeat (first | (with_reducible first | exact HB.out | apply below_alloc | apply pw_below_drewN | apply below_drew1) | exact HB.out)) hb); have n1_ := Aside0.mk (hbox); have n2_ := Aside0.mk ((by rw [hg]; exact (below_size (by repeat (first | (with_reducible first | exact HB.out | apply below_alloc | apply pw_below_drewN | apply below_drew1) | exact HB.out))) : w.heap.size ≤ gb347)); have n3_ := Aside0.mk ((by rw [hg]; exact (below_size (by repeat (first | (with_reducible first | exact HB.out | apply below_alloc | apply pw_below_drewN | apply below_drew1) | exact HB.out))) : w.heap.size ≤ gb347)); clear HB; have HB := n0_; have BK347 := n1_; have GW347 := n2_; have GE347 := n3_; clear n0_ n1_ n2_ n3_; clear hb hbox hg) | ((with_reducible refine gate_dst (N := 3) rfl ?_); refine box_event ?hg (N := 3) ?hd (cs := #[.int .i64 a1_0, .int .i64 a1_1]) (t := 23) ?hr ?_; (case hd => rfl); (case hg => rfl); (case hr => first | (go_simp; done) | (go_simp; rfl)); intro gb348 hg w39 hbox hb; have n0_ := bB BK347 hb; have n1_ := Aside0.mk (below_step (by repeat (first | (with_reducible first | exact HB.out | apply below_alloc | apply pw_below_drewN | apply below_drew1 | refine below_set ?_ GE347.out) | exact HB.out)) hb); have n2_ := Aside0.mk (hbox); have n3_ := Aside0.mk ((by rw [hg]; exact (below_size (by repeat (first | (with_reducible first | exact HB.out | apply below_alloc | apply pw_below_drewN | apply below_drew1 | refine below_set ?_ GE347.out) | exact HB.out))) : w.heap.size ≤ gb348)); have n4_ := Aside0.mk ((by rw [hg]; exact (below_size (by repeat (first | (with_reducible first | exact HB.out | apply below_alloc | apply pw_below_drewN | apply below_drew1 | refine below_set ?_ GE347.out) | exact HB.out))) : w.heap.size ≤ gb348)); have n5_ := bNl BK347 hg; have n6_ := bNg BK347 hg; clear BK347; clear HB; have BK347 := n0_; have HB := n1_; have BK348 := n2_; have GW348 := n3_; have GE348 := n4_; have NB347_348 := n5_; have NB348_347 := n6_; clear n0_ n1_ n2_ n3_ n4_ n5_ n6_; clear hb hbox hg; have hnb40 := NB347_348.out; have hnc40 := NB348_347.out; have hcz41_0 : w39.cell? ⟨gb347, 0, none⟩ = some (.int .i64 a0_0) := (blk_cell BK347.out 0).trans rfl; have hcz41_1 : w39.cell? ⟨gb347, 1, none⟩ = some (.int .i64 a0_1) := (blk_cell BK347.out 1).trans rfl; have hfz41_0 := blk_frozen BK347.out 0; have hfz41_1 := blk_frozen BK347.out 1; have hcz42_0 : w39.cell? ⟨gb348, 0, none⟩ = some (.int .i64 a1_0) := (blk_cell BK348.out 0).trans rfl; have hcz42_1 : w39.cell? ⟨gb348, 1, none⟩ = some (.int .i64 a1_1) := (blk_cell BK348.out 1).trans rfl; have hfz42_0 := blk_frozen BK348.out 0; have hfz42_1 := blk_frozen BK348.out 1) | ((with_reducible refine gate_callee (f := 16) rfl ?_); refine goesL_ (some 20) rfl rfl Try.func16 (by kernel_rfl) rfl #[.agg #[.int .i64 a0_0, .int .i64 a0_1], .agg #[.int .i64 a1_0, .int .i64 a1_1]] rfl (by (try simp only [List.map_toArray, List.map_cons, List.map_nil]); first | done | rfl | (simp only [List.length_drop, List.length_take]; rfl)) ?_; (with_reducible refine (plane_Add.calls a0_0 a0_1 a1_0 a1_1 t349 t350 t351 _ A3.out).mono ?_); rintro e w43 ⟨rfl, hb⟩; refine ⟨_, rfl, ?_⟩; have n0_ := bB BK347 hb; have n1_ := bB BK348 hb; have n2_ := Aside0.mk (below_step (by repeat (first | (with_reducible first | exact HB.out | apply below_alloc | apply pw_below_drewN | apply below_drew1 | refine below_set ?_ GE347.out | refine below_set ?_ GE348.out) | exact HB.out)) hb); clear BK347; clear BK348; clear HB; have BK347 := n0_; have BK348 := n1_; have HB := n2_; clear n0_ n1_ n2_; (try clear hb); (try clear hb2); (try clear hk); (try clear hi)) | ((with_reducible refine gate_dst (N := 5) rfl ?_); refine box_event ?hg (N := 5) ?hd (cs := #[.int .i64 0, .int .i64 0]) (t := 23) ?hr ?_; (case hd => rfl); (case hg => rfl); (case hr => first | (go_simp; done) | (go_simp; rfl)); intro gb352 hg w44 hbox hb; have n0_ := bB BK347 hb; have n1_ := bB BK348 hb; have n2_ := Aside0.mk (below_step (by repeat (first | (with_reducible first | exact HB.out | apply below_alloc | apply pw_below_drewN | apply below_drew1 | refine below_set ?_ GE347.out | refine below_set ?_ GE348.out) | exact HB.out)) hb); have n3_ := Aside0.mk (hbox); have n4_ := Aside0.mk ((by rw [hg]; exact (below_size (by repeat (first | (with_reducible first | exact HB.out | apply below_alloc | apply pw_below_drewN | apply below_drew1 | refine below_set ?_ GE347.out | refine below_set ?_ GE348.out) | exact HB.out))) : w.heap.size ≤ gb352)); have n5_ := Aside0.mk ((by rw [hg]; exact (below_size (by repeat (first | (with_reducible first | exact HB.out | apply below_alloc | apply pw_below_drewN | apply below_drew1 | refine below_set ?_ GE347.out | refine below_set ?_ GE348.out) | exact HB.out))) : w.heap.size ≤ gb352)); have n6_ := bNl BK347 hg; have n7_ := bNg BK347 hg; have n8_ := bNl BK348 hg; have n9_ := bNg BK348 hg; clear BK347; clear BK348; clear HB; have BK347 := n0_; have BK348 := n1_; have HB := n2_; have BK352 := n3_; have GW352 := n4_; have GE352 := n5_; have NB347_352 := n6_; have NB352_347 := n7_; have NB348_352 := n8_; have NB352_348 := n9_; clear n0_ n1_ n2_ n3_ n4_ n5_ n6_ n7_ n8_ n9_; clear hb hbox hg; have hnb45 := NB352_347.out; have hnc45 := NB347_352.out; have hnb46 := NB352_348.out; have hnc46 := NB348_352.out; have hcz47_0 : w44.cell? ⟨gb352, 0, none⟩ = some (.int .i64 0) := (blk_cell BK352.out 0).trans rfl; have hcz47_1 : w44.cell? ⟨gb352, 1, none⟩ = some (.int .i64 0) := (blk_cell BK352.out 1).trans rfl; have hfz47_0 := blk_frozen BK352.out 0; have hfz47_1 := blk_frozen BK352.out 1; have hcz48_0 : w44.cell? ⟨gb347, 0, none⟩ = some (.int .i64 a0_0) := (blk_cell BK347.out 0).trans rfl; have hcz48_1 : w44.cell? ⟨gb347, 1, none⟩ = some (.int .i64 a0_1) := (blk_cell BK347.out 1).trans rfl; have hfz48_0 := blk_frozen BK347.out 0; have hfz48_1 := blk_frozen BK347.out 1; have hcz49_0 : w44.cell? ⟨gb348, 0, none⟩ = some (.int .i64 a1_0) := (blk_cell BK348.out 0).trans rfl; have hcz49_1 : w44.cell? ⟨gb348, 1, none⟩ = some (.int .i64 a1_1) := (blk_cell BK348.out 1).trans rfl; have hfz49_0 := blk_frozen BK348.out 0; have hfz49_1 := blk_frozen BK348.out 1) | ((with_reducible refine gate_callee (f := 24) rfl ?_); refine goesL_ (some 26) rfl rfl Try.func24 (by kernel_rfl) rfl #[.agg #[.int .i64 a0_0, .int .i64 a0_1], .agg #[.int .i64 a1_0, .int .i64 a1_1]] rfl (by (try simp only [List.map_toArray, List.map_cons, List.map_nil]); first | done | rfl | (simp only [List.length_drop, List.length_take]; rfl)) ?_; (with_reducible refine (plane_Sub.calls a0_0 a0_1 a1_0 a1_1 t353 t354 t355 _ A4.out).mono ?_); rintro e w50 ⟨rfl, hb⟩; refine ⟨_, rfl, ?_⟩; have n0_ := Aside0.mk (blk_below (g := gb347) (o := .cells #[.int .i64 a0_0, .int .i64 a0_1] 23 (0, 0)) (by (with_reducible repeat (first | refine blk_drewN ?_ _ | refine blk_drew ?_ | refine blk_alloc ?_ _)); refine blk_far ?_ NB347_352.out _; (with_reducible repeat (first | refine blk_drewN ?_ _ | refine blk_drew ?_ | refine blk_alloc ?_ _)); refine blk_far ?_ NB347_352.out _; (with_reducible repeat (first | refine blk_drewN ?_ _ | refine blk_drew ?_ | refine blk_alloc ?_ _)); exact BK347.out) hb); have n1_ := Aside0.mk (blk_below (g := gb348) (o := .cells #[.int .i64 a1_0, .int .i64 a1_1] 23 (0, 0)) (by (with_reducible repeat (first | refine blk_drewN ?_ _ | refine blk_drew ?_ | refine blk_alloc ?_ _)); refine blk_far ?_ NB348_352.out _; (with_reducible repeat (first | refine blk_drewN ?_ _ | refine blk_drew ?_ | refine blk_alloc ?_ _)); refine blk_far ?_ NB348_352.out _; (with_reducible repeat (first | refine blk_drewN ?_ _ | refine blk_drew ?_ | refine blk_alloc ?_ _)); exact BK348.out) hb); have n2_ := Aside0.mk (blk_below (g := gb352) (o := .cells #[.int .i64 t349, .int .i64 t350] 23 (0, 0)) (by (with_reducible repeat (first | refine blk_drewN ?_ _ | refine blk_drew ?_ | refine blk_alloc ?_ _)); refine blk_put (cs := #[.int .i64 t349, .int .i64 0]) ?_ 1 _ rfl; (with_reducible repeat (first | refine blk_drewN ?_ _ | refine blk_drew ?_ | refine blk_alloc ?_ _)); refine blk_put (cs := #[.int .i64 0, .int .i64 0]) ?_ 0 _ rfl; (with_reducible repeat (first | refine blk_drewN ?_ _ | refine blk_drew ?_ | refine blk_alloc ?_ _)); exact BK352.out) hb); have n3_ := Aside0.mk (below_step (by repeat (first | (with_reducible first | exact HB.out | apply below_alloc | apply pw_below_drewN | apply below_drew1 | refine below_set ?_ GE347.out | refine below_set ?_ GE348.out | refine below_set ?_ GE352.out) | exact HB.out)) hb); clear BK347; clear BK348; clear BK352; clear HB; have BK347 := n0_; have BK348 := n1_; have BK352 := n2_; have HB := n3_; clear n0_ n1_ n2_ n3_; (try clear hb); (try clear hb2); (try clear hk); (try clear hi)) | ((with_reducible refine gate_dst (N := 7) rfl ?_); refine box_event ?hg (N := 7) ?hd (cs := #[.int .i64 0, .int .i64 0]) (t := 23) ?hr ?_; (case hd => rfl); (case hg => rfl); (case hr => first | (go_simp; done) | (go_simp; rfl)); intro gb356 hg w51 hbox hb; have n0_ := bB BK347 hb; have n1_ := bB BK348 hb; have n2_ := bB BK352 hb; have n3_ := Aside0.mk (below_step (by repeat (first | (with_reducible first | exact HB.out | apply below_alloc | apply pw_below_drewN | apply below_drew1 | refine below_set ?_ GE347.out | refine below_set ?_ GE348.out | refine below_set ?_ GE352.out) | exact HB.out)) hb); have n4_ := Aside0.mk (hbox); have n5_ := Aside0.mk ((by rw [hg]; exact (below_size (by repeat (first | (with_reducible first | exact HB.out | apply below_alloc | apply pw_below_drewN | apply below_drew1 | refine below_set ?_ GE347.out | refine below_set ?_ GE348.out | refine below_set ?_ GE352.out) | exact HB.out))) : w.heap.size ≤ gb356)); have n6_ := Aside0.mk ((by rw [hg]; exact (below_size (by repeat (first | (with_reducible first | exact HB.out | apply below_alloc | apply pw_below_drewN | apply below_drew1 | refine below_set ?_ GE347.out | refine below_set ?_ GE348.out | refine below_set ?_ GE352.out) | exact HB.out))) : w.heap.size ≤ gb356)); have n7_ := bNl BK347 hg; have n8_ := bNg BK347 hg; have n9_ := bNl BK348 hg; have n10_ := bNg BK348 hg; have n11_ := bNl BK352 hg; have n12_ := bNg BK352 hg; clear BK347; clear BK348; clear BK352; clear HB; have BK347 := n0_; have BK348 := n1_; have BK352 := n2_; have HB := n3_; have BK356 := n4_; have GW356 := n5_; have GE356 := n6_; have NB347_356 := n7_; have NB356_347 := n8_; have NB348_356 := n9_; have NB356_348 := n10_; have NB352_356 := n11_; have NB356_352 := n12_; clear n0_ n1_ n2_ n3_ n4_ n5_ n6_ n7_ n8_ n9_ n10_ n11_ n12_; clear hb hbox hg; have hnb52 := NB356_347.out; have hnc52 := NB347_356.out; have hnb53 := NB356_348.out; have hnc53 := NB348_356.out; have hnb54 := NB356_352.out; have hnc54 := NB352_356.out; have hcz55_0 : w51.cell? ⟨gb356, 0, none⟩ = some (.int .i64 0) := (blk_cell BK356.out 0).trans rfl; have hcz55_1 : w51.cell? ⟨gb356, 1, none⟩ = some (.int .i64 0) := (blk_cell BK356.out 1).trans rfl; have hfz55_0 := blk_frozen BK356.out 0; have hfz55_1 := blk_frozen BK356.out 1; have hcz56_0 : w51.cell? ⟨gb347, 0, none⟩ = some (.int .i64 a0_0) := (blk_cell BK347.out 0).trans rfl; have hcz56_1 : w51.cell? ⟨gb347, 1, none⟩ = some (.int .i64 a0_1) := (blk_cell BK347.out 1).trans rfl; have hfz56_0 := blk_frozen BK347.out 0; have hfz56_1 := blk_frozen BK347.out 1; have hcz57_0 : w51.cell? ⟨gb348, 0, none⟩ = some (.int .i64 a1_0) := (blk_cell BK348.out 0).trans rfl; have hcz57_1 : w51.cell? ⟨gb348, 1, none⟩ = some (.int .i64 a1_1) := (blk_cell BK348.out 1).trans rfl; have hfz57_0 := blk_frozen BK348.out 0; have hfz57_1 := blk_frozen BK348.out 1) | ((with_reducible refine gate_callee (f := 15) rfl ?_); refine goesL_ (some 32) rfl rfl Try.func15 (by kernel_rfl) rfl #[.agg #[.int .i64 a0_0, .int .i64 a0_1], .agg #[.int .i64 a1_0, .int .i64 a1_1]] rfl (by (try simp only [List.map_toArray, List.map_cons, List.map_nil]); first | done | rfl | (simp only [List.length_drop, List.length_take]; rfl)) ?_; (with_reducible refine (plane_Mul.calls a0_0 a0_1 a1_0 a1_1 t357 t358 t359 _ A5.out).mono ?_); rintro e w58 ⟨rfl, hb⟩; refine ⟨_, rfl, ?_⟩; have n0_ := Aside0.mk (blk_below (g := gb347) (o := .cells #[.int .i64 a0_0, .int .i64 a0_1] 23 (0, 0)) (by (with_reducible repeat (first | refine blk_drewN ?_ _ | refine blk_drew ?_ | refine blk_alloc ?_ _)); refine blk_far ?_ NB347_356.out _; (with_reducible repeat (first | refine blk_drewN ?_ _ | refine blk_drew ?_ | refine blk_alloc ?_ _)); refine blk_far ?_ NB347_356.out _; (with_reducible repeat (first | refine blk_drewN ?_ _ | refine blk_drew ?_ | refine blk_alloc ?_ _)); exact BK347.out) hb); have n1_ := Aside0.mk (blk_below (g := gb348) (o := .cells #[.int .i64 a1_0, .int .i64 a1_1] 23 (0, 0)) (by (with_reducible repeat (first | refine blk_drewN ?_ _ | refine blk_drew ?_ | refine blk_alloc ?_ _)); refine blk_far ?_ NB348_356.out _; (with_reducible repeat (first | refine blk_drewN ?_ _ | refine blk_drew ?_ | refine blk_alloc ?_ _)); refine blk_far ?_ NB348_356.out _; (with_reducible repeat (first | refine blk_drewN ?_ _ | refine blk_drew ?_ | refine blk_alloc ?_ _)); exact BK348.out) hb); have n2_ := Aside0.mk (blk_below (g := gb352) (o := .cells #[.int .i64 t349, .int .i64 t350] 23 (0, 0)) (by (with_reducible repeat (first | refine blk_drewN ?_ _ | refine blk_drew ?_ | refine blk_alloc ?_ _)); refine blk_far ?_ NB352_356.out _; (with_reducible repeat (first | refine blk_drewN ?_ _ | refine blk_drew ?_ | refine blk_alloc ?_ _)); refine blk_far ?_ NB352_356.out _; (with_reducible repeat (first | refine blk_drewN ?_ _ | refine blk_drew ?_ | refine blk_alloc ?_ _)); exact BK352.out) hb); have n3_ := Aside0.mk (blk_below (g := gb356) (o := .cells #[.int .i64 t353, .int .i64 t354] 23 (0, 0)) (by (with_reducible repeat (first | refine blk_drewN ?_ _ | refine blk_drew ?_ | refine blk_alloc ?_ _)); refine blk_put (cs := #[.int .i64 t353, .int .i64 0]) ?_ 1 _ rfl; (with_reducible repeat (first | refine blk_drewN ?_ _ | refine blk_drew ?_ | refine blk_alloc ?_ _)); refine blk_put (cs := #[.int .i64 0, .int .i64 0]) ?_ 0 _ rfl; (with_reducible repeat (first | refine blk_drewN ?_ _ | refine blk_drew ?_ | refine blk_alloc ?_ _)); exact BK356.out) hb); have n4_ := Aside0.mk (below_step (by repeat (first | (with_reducible first | exact HB.out | apply below_alloc | apply pw_below_drewN | apply below_drew1 | refine below_set ?_ GE347.out | refine below_set ?_ GE348.out | refine below_set ?_ GE352.out | refine below_set ?_ GE356.out) | exact HB.out)) hb); clear BK347; clear BK348; clear BK352; clear BK356; clear HB; have BK347 := n0_; have BK348 := n1_; have BK352 := n2_; have BK356 := n3_; have HB := n4_; clear n0_ n1_ n2_ n3_ n4_; (try clear hb); (try clear hb2); (try clear hk); (try clear hi)) | ((with_reducible refine gate_dst (N := 9) rfl ?_); refine box_event ?hg (N := 9) ?hd (cs := #[.int .i64 0, .int .i64 0]) (t := 23) ?hr ?_; (case hd => rfl); (case hg => rfl); (case hr => first | (go_simp; done) | (go_simp; rfl)); intro gb360 hg w59 hbox hb; have n0_ := bB BK347 hb; have n1_ := bB BK348 hb; have n2_ := bB BK352 hb; have n3_ := bB BK356 hb; have n4_ := Aside0.mk (below_step (by repeat (first | (with_reducible first | exact HB.out | apply below_alloc | apply pw_below_drewN | apply below_drew1 | refine below_set ?_ GE347.out | refine below_set ?_ GE348.out | refine below_set ?_ GE352.out | refine below_set ?_ GE356.out) | exact HB.out)) hb); have n5_ := Aside0.mk (hbox); have n6_ := Aside0.mk ((by rw [hg]; exact (below_size (by repeat (first | (with_reducible first | exact HB.out | apply below_alloc | apply pw_below_drewN | apply below_drew1 | refine below_set ?_ GE347.out | refine below_set ?_ GE348.out | refine below_set ?_ GE352.out | refine below_set ?_ GE356.out) | exact HB.out))) : w.heap.size ≤ gb360)); have n7_ := Aside0.mk ((by rw [hg]; exact (below_size (by repeat (first | (with_reducible first | exact HB.out | apply below_alloc | apply pw_below_drewN | apply below_drew1 | refine below_set ?_ GE347.out | refine below_set ?_ GE348.out | refine below_set ?_ GE352.out | refine below_set ?_ GE356.out) | exact HB.out))) : w.heap.size ≤ gb360)); have n8_ := bNl BK347 hg; have n9_ := bNg BK347 hg; have n10_ := bNl BK348 hg; have n11_ := bNg BK348 hg; have n12_ := bNl BK352 hg; have n13_ := bNg BK352 hg; have n14_ := bNl BK356 hg; have n15_ := bNg BK356 hg; clear BK347; clear BK348; clear BK352; clear BK356; clear HB; have BK347 := n0_; have BK348 := n1_; have BK352 := n2_; have BK356 := n3_; have HB := n4_; have BK360 := n5_; have GW360 := n6_; have GE360 := n7_; have NB347_360 := n8_; have NB360_347 := n9_; have NB348_360 := n10_; have NB360_348 := n11_; have NB352_360 := n12_; have NB360_352 := n13_; have NB356_360 := n14_; have NB360_356 := n15_; clear n0_ n1_ n2_ n3_ n4_ n5_ n6_ n7_ n8_ n9_ n10_ n11_ n12_ n13_ n14_ n15_; clear hb hbox hg; have hnb60 := NB360_347.out; have hnc60 := NB347_360.out; have hnb61 := NB360_348.out; have hnc61 := NB348_360.out; have hnb62 := NB360_352.out; have hnc62 := NB352_360.out; have hnb63 := NB360_356.out; have hnc63 := NB356_360.out; have hcz64_0 : w59.cell? ⟨gb360, 0, none⟩ = some (.int .i64 0) := (blk_cell BK360.out 0).trans rfl; have hcz64_1 : w59.cell? ⟨gb360, 1, none⟩ = some (.int .i64 0) := (blk_cell BK360.out 1).trans rfl; have hfz64_0 := blk_frozen BK360.out 0; have hfz64_1 := blk_frozen BK360.out 1))
          have n0_ : Aside0 (((w59.setCell ⟨gb360, 0, none⟩ (.int .i64 t357)).setCell ⟨gb360, 1, none⟩ (.int .i64 t358)).heap[gb347]? = some (.cells #[.int .i64 a0_0, .int .i64 a0_1] 23 (0, 0))) := ⟨by (with_reducible repeat (first | refine blk_drewN ?_ _ | refine blk_drew ?_ | refine blk_alloc ?_ _)); refine blk_far ?_ NB347_360.out _; (with_reducible repeat (first | refine blk_drewN ?_ _ | refine blk_drew ?_ | refine blk_alloc ?_ _)); refine blk_far ?_ NB347_360.out _; (with_reducible repeat (first | refine blk_drewN ?_ _ | refine blk_drew ?_ | refine blk_alloc ?_ _)); exact BK347.out⟩
          have n1_ : Aside0 (((w59.setCell ⟨gb360, 0, none⟩ (.int .i64 t357)).setCell ⟨gb360, 1, none⟩ (.int .i64 t358)).heap[gb348]? = some (.cells #[.int .i64 a1_0, .int .i64 a1_1] 23 (0, 0))) := ⟨by (with_reducible repeat (first | refine blk_drewN ?_ _ | refine blk_drew ?_ | refine blk_alloc ?_ _)); refine blk_far ?_ NB348_360.out _; (with_reducible repeat (first | refine blk_drewN ?_ _ | refine blk_drew ?_ | refine blk_alloc ?_ _)); refine blk_far ?_ NB348_360.out _; (with_reducible repeat (first | refine blk_drewN ?_ _ | refine blk_drew ?_ | refine blk_alloc ?_ _)); exact BK348.out⟩
          have n2_ : Aside0 (((w59.setCell ⟨gb360, 0, none⟩ (.int .i64 t357)).setCell ⟨gb360, 1, none⟩ (.int .i64 t358)).heap[gb352]? = some (.cells #[.int .i64 t349, .int .i64 t350] 23 (0, 0))) := ⟨by (with_reducible repeat (first | refine blk_drewN ?_ _ | refine blk_drew ?_ | refine blk_alloc ?_ _)); refine blk_far ?_ NB352_360.out _; (with_reducible repeat (first | refine blk_drewN ?_ _ | refine blk_drew ?_ | refine blk_alloc ?_ _)); refine blk_far ?_ NB352_360.out _; (with_reducible repeat (first | refine blk_drewN ?_ _ | refine blk_drew ?_ | refine blk_alloc ?_ _)); exact BK352.out⟩
          have n3_ : Aside0 (((w59.setCell ⟨gb360, 0, none⟩ (.int .i64 t357)).setCell ⟨gb360, 1, none⟩ (.int .i64 t358)).heap[gb356]? = some (.cells #[.int .i64 t353, .int .i64 t354] 23 (0, 0))) := ⟨by (with_reducible repeat (first | refine blk_drewN ?_ _ | refine blk_drew ?_ | refine blk_alloc ?_ _)); refine blk_far ?_ NB356_360.out _; (with_reducible repeat (first | refine blk_drewN ?_ _ | refine blk_drew ?_ | refine blk_alloc ?_ _)); refine blk_far ?_ NB356_360.out _; (with_reducible repeat (first | refine blk_drewN ?_ _ | refine blk_drew ?_ | refine blk_alloc ?_ _)); exact BK356.out⟩
          have n4_ : Aside0 (((w59.setCell ⟨gb360, 0, none⟩ (.int .i64 t357)).setCell ⟨gb360, 1, none⟩ (.int .i64 t358)).heap[gb360]? = some (.cells #[.int .i64 t357, .int .i64 t358] 23 (0, 0))) := ⟨by (with_reducible repeat (first | refine blk_drewN ?_ _ | refine blk_drew ?_ | refine blk_alloc ?_ _)); refine blk_put (cs := #[.int .i64 t357, .int .i64 0]) ?_ 1 _ rfl; (with_reducible repeat (first | refine blk_drewN ?_ _ | refine blk_drew ?_ | refine blk_alloc ?_ _)); refine blk_put (cs := #[.int .i64 0, .int .i64 0]) ?_ 0 _ rfl; (with_reducible repeat (first | refine blk_drewN ?_ _ | refine blk_drew ?_ | refine blk_alloc ?_ _)); exact BK360.out⟩
          have n5_ : Aside0 (Below w.heap.size w ((w59.setCell ⟨gb360, 0, none⟩ (.int .i64 t357)).setCell ⟨gb360, 1, none⟩ (.int .i64 t358))) := ⟨by repeat (first | (with_reducible first | exact HB.out | apply below_alloc | apply pw_below_drewN | apply below_drew1 | refine below_set ?_ GE347.out | refine below_set ?_ GE348.out | refine below_set ?_ GE352.out | refine below_set ?_ GE356.out | refine below_set ?_ GE360.out) | exact HB.out)⟩
          (try clear BK347)
          (try clear BK348)
          (try clear BK352)
          (try clear BK356)
          (try clear BK360)
          (try clear HB)
          generalize ((w59.setCell ⟨gb360, 0, none⟩ (.int .i64 t357)).setCell ⟨gb360, 1, none⟩ (.int .i64 t358)) = w65 at n0_ n1_ n2_ n3_ n4_ n5_ ⊢
          have BK347 := n0_
          have BK348 := n1_
          have BK352 := n2_
          have BK356 := n3_
          have BK360 := n4_
          have HB := n5_
          clear n0_ n1_ n2_ n3_ n4_ n5_
          have n0_ := Aside0.mk (blk_drew BK347.out)
          have n1_ := Aside0.mk (blk_drew BK348.out)
          have n2_ := Aside0.mk (blk_drew BK352.out)
          have n3_ := Aside0.mk (blk_drew BK356.out)
          have n4_ := Aside0.mk (blk_drew BK360.out)
          have n5_ := Aside0.mk (below_drew1 HB.out)
          clear BK347
          clear BK348
          clear BK352
          clear BK356
          clear BK360
          clear HB
          have BK347 := n0_
          have BK348 := n1_
          have BK352 := n2_
          have BK356 := n3_
          have BK360 := n4_
          have HB := n5_
          clear n0_ n1_ n2_ n3_ n4_ n5_
          refine start_ (n := 11) (S := fun w' => w'.cell? ⟨gb347, 0, none⟩ = some (.int .i64 a0_0) ∧ w'.cell? ⟨gb347, 1, none⟩ = some (.int .i64 a0_1) ∧ w'.cell? ⟨gb348, 0, none⟩ = some (.int .i64 a1_0) ∧ w'.cell? ⟨gb348, 1, none⟩ = some (.int .i64 a1_1)) (ds := []) #[false, false, false, false, false, false, false, false, false, false, false] (by kernel_rfl) rfl rfl ⟨(blk_cell BK347.out 0).trans rfl, (blk_cell BK347.out 1).trans rfl, (blk_cell BK348.out 0).trans rfl, (blk_cell BK348.out 1).trans rfl⟩ (fun hHeld => ?_); refine with_tabW mosaiclaw17_PlaneReckons.tab4 mosaiclaw17_PlaneReckons.bits4 (fun HT_ HW_ => ?_)
          generalize w65.drew = w66 at BK347 BK348 BK352 BK356 BK360 HB hHeld ⊢
          refine take_ (i := 0) (N := some 36) (v := ?_) (a' := ?_) #[true, false, false, false, false, false, false, false, false, false, false] rfl rfl (take_ofW HT_.out HW_.out (by kernel_rfl)) (fun _ _ _ h => h) (Or.inl ⟨by rfl, ?_⟩) hHeld ?_ ?_
          rotate_left
          ·
           rintro w' ⟨s0, s1, s2, s3⟩
           go_simp
           with_reducible rfl
          rotate_left
          ·
           simp only [Act.put, List.setIfInBounds_toArray, List.set_cons_zero, List.set_cons_succ, i64_w, i32_w]
           rfl
          refine take_ (i := 2) (N := some 38) (v := ?_) (a' := ?_) #[true, false, true, false, false, false, false, false, false, false, false] rfl rfl (take_ofW HT_.out HW_.out (by kernel_rfl)) (fun _ _ _ h => h) (Or.inl ⟨by rfl, ?_⟩) hHeld ?_ ?_
          rotate_left
          ·
           rintro w' ⟨s0, s1, s2, s3⟩
           go_simp
           with_reducible rfl
          rotate_left
          ·
           simp only [Act.put, List.setIfInBounds_toArray, List.set_cons_zero, List.set_cons_succ, i64_w, i32_w]
           rfl
          refine join_ (σ := Nat) 2 #[true, true, true, true, true, true, true, true, true, false, false] (fun s_ => [(37, .agg #[.int .i64 t361, .int .i64 t362]), (39, .agg #[.int .i64 t363, .int .i64 t364]), (40, .tuple #[.agg #[.int .i64 t365, .int .i64 t366], .int .i64 t367]), (11, .pointer (some ⟨s_, 0, none⟩)), (35, .tuple #[.agg #[.int .i64 t365, .int .i64 t366], .int .i64 t367]), (41, .agg #[.int .i64 t365, .int .i64 t366]), (42, .int .i64 t367)]) (fun s_ w' => (w'.cell? ⟨gb347, 0, none⟩ = some (.int .i64 a0_0) ∧ w'.cell? ⟨gb347, 1, none⟩ = some (.int .i64 a0_1) ∧ w'.cell? ⟨gb348, 0, none⟩ = some (.int .i64 a1_0) ∧ w'.cell? ⟨gb348, 1, none⟩ = some (.int .i64 a1_1)) ∧ (w'.heap[gb347]? = some (.cells #[.int .i64 a0_0, .int .i64 a0_1] 23 (0, 0))) ∧ (w'.heap[gb348]? = some (.cells #[.int .i64 a1_0, .int .i64 a1_1] 23 (0, 0))) ∧ (w'.heap[gb352]? = some (.cells #[.int .i64 t349, .int .i64 t350] 23 (0, 0))) ∧ (w'.heap[gb356]? = some (.cells #[.int .i64 t353, .int .i64 t354] 23 (0, 0))) ∧ (w'.heap[gb360]? = some (.cells #[.int .i64 t357, .int .i64 t358] 23 (0, 0))) ∧ (w'.heap[s_]? = some (.cells #[.int .i64 0, .int .i64 0] 27 (0, 0))) ∧ (w.heap.size ≤ s_) ∧ (w.heap.size ≤ s_) ∧ (gb347 ≠ s_) ∧ (s_ ≠ gb347) ∧ (gb348 ≠ s_) ∧ (s_ ≠ gb348) ∧ (gb352 ≠ s_) ∧ (s_ ≠ gb352) ∧ (gb356 ≠ s_) ∧ (s_ ≠ gb356) ∧ (gb360 ≠ s_) ∧ (s_ ≠ gb360) ∧ (Below w.heap.size w w')) ?_ ?_
          rotate_left
          ·
           intro hCont
           refine two_ (i := 1) (j := 8) (Ni := some 37) (Nj := some 11) #[true, true, true, false, false, false, false, false, false, false, false] #[true, false, true, false, false, false, false, false, true, false, false] rfl rfl rfl rfl (two_of HT_.out (by kernel_rfl)) (by decide) (by decide) (fun K hK => ?_) (fun K hK => ?_)
           ·
            skip
            refine goes_ Try.func12 (by kernel_rfl) rfl #[.agg #[.int .i64 a0_0, .int .i64 a0_1]] (by rfl) rfl rfl (by (try simp only [List.map_toArray, List.map_cons, List.map_nil]); first | done | rfl | (simp only [List.length_drop, List.length_take]; rfl)) ?_
            with_reducible refine (mosaiclaw17_Ref.calls a0_0 a0_1 t361 t362 _ A6.out).mono ?_
            rintro e w67 ⟨rfl, hb⟩
            refine ⟨_, rfl, ?_⟩
            have n0_ := bB BK347 hb
            have n1_ := bB BK348 hb
            have n2_ := bB BK352 hb
            have n3_ := bB BK356 hb
            have n4_ := bB BK360 hb
            have n5_ := hS HB hb
            clear BK347
            clear BK348
            clear BK352
            clear BK356
            clear BK360
            clear HB
            have BK347 := n0_
            have BK348 := n1_
            have BK352 := n2_
            have BK356 := n3_
            have BK360 := n4_
            have HB := n5_
            clear n0_ n1_ n2_ n3_ n4_ n5_
            (try clear hb)
            (try clear hb2)
            (try clear hk)
            (try clear hi)
            refine hK.out _ _ ⟨(blk_cell BK347.out 0).trans rfl, (blk_cell BK347.out 1).trans rfl, (blk_cell BK348.out 0).trans rfl, (blk_cell BK348.out 1).trans rfl⟩ (fun hHeld => ?_)
            clear hK K
            refine norm_ (a' := ?_) ?_ ?_
            rotate_left
            ·
             show Act.put _ (some 37) _ = _
             simp only [Act.put, List.setIfInBounds_toArray, List.set_cons_zero, List.set_cons_succ, i64_w, i32_w]
             rfl
            refine two_ (i := 3) (j := 8) (Ni := some 39) (Nj := some 11) #[true, true, true, true, false, false, false, false, false, false, false] #[true, true, true, false, false, false, false, false, true, false, false] rfl rfl rfl rfl (two_of HT_.out (by kernel_rfl)) (by decide) (by decide) (fun K hK => ?_) (fun K hK => ?_)
            ·
             skip
             refine goes_ Try.func12 (by kernel_rfl) rfl #[.agg #[.int .i64 a1_0, .int .i64 a1_1]] (by rfl) rfl rfl (by (try simp only [List.map_toArray, List.map_cons, List.map_nil]); first | done | rfl | (simp only [List.length_drop, List.length_take]; rfl)) ?_
             with_reducible refine (mosaiclaw17_Ref.calls a1_0 a1_1 t363 t364 _ A7.out).mono ?_
             rintro e w68 ⟨rfl, hb⟩
             refine ⟨_, rfl, ?_⟩
             have n0_ := bB BK347 hb
             have n1_ := bB BK348 hb
             have n2_ := bB BK352 hb
             have n3_ := bB BK356 hb
             have n4_ := bB BK360 hb
             have n5_ := hS HB hb
             clear BK347
             clear BK348
             clear BK352
             clear BK356
             clear BK360
             clear HB
             have BK347 := n0_
             have BK348 := n1_
             have BK352 := n2_
             have BK356 := n3_
             have BK360 := n4_
             have HB := n5_
             clear n0_ n1_ n2_ n3_ n4_ n5_
             (try clear hb)
             (try clear hb2)
             (try clear hk)
             (try clear hi)
             refine hK.out _ _ ⟨(blk_cell BK347.out 0).trans rfl, (blk_cell BK347.out 1).trans rfl, (blk_cell BK348.out 0).trans rfl, (blk_cell BK348.out 1).trans rfl⟩ (fun hHeld => ?_)
             clear hK K
             refine norm_ (a' := ?_) ?_ ?_
             rotate_left
             ·
              show Act.put _ (some 39) _ = _
              simp only [Act.put, List.setIfInBounds_toArray, List.set_cons_zero, List.set_cons_succ, i64_w, i32_w]
              rfl
             refine two_ (i := 4) (j := 8) (Ni := some 40) (Nj := some 11) #[true, true, true, true, true, false, false, false, false, false, false] #[true, true, true, true, false, false, false, false, true, false, false] rfl rfl rfl rfl (two_of HT_.out (by kernel_rfl)) (by decide) (by decide) (fun K hK => ?_) (fun K hK => ?_)
             ·
              skip
              refine goes_ Try.func25 (by kernel_rfl) rfl #[.agg #[.int .i64 t361, .int .i64 t362], .agg #[.int .i64 t363, .int .i64 t364]] (by rfl) rfl rfl (by (try simp only [List.map_toArray, List.map_cons, List.map_nil]); first | done | rfl | (simp only [List.length_drop, List.length_take]; rfl)) ?_
              with_reducible refine (mosaicref17_Add.calls t361 t362 t363 t364 t365 t366 t367 _ A8.out).mono ?_
              rintro e w69 ⟨rfl, hb⟩
              refine ⟨_, rfl, ?_⟩
              have n0_ := bB BK347 hb
              have n1_ := bB BK348 hb
              have n2_ := bB BK352 hb
              have n3_ := bB BK356 hb
              have n4_ := bB BK360 hb
              have n5_ := hS HB hb
              clear BK347
              clear BK348
              clear BK352
              clear BK356
              clear BK360
              clear HB
              have BK347 := n0_
              have BK348 := n1_
              have BK352 := n2_
              have BK356 := n3_
              have BK360 := n4_
              have HB := n5_
              clear n0_ n1_ n2_ n3_ n4_ n5_
              (try clear hb)
              (try clear hb2)
              (try clear hk)
              (try clear hi)
              refine hK.out _ _ ⟨(blk_cell BK347.out 0).trans rfl, (blk_cell BK347.out 1).trans rfl, (blk_cell BK348.out 0).trans rfl, (blk_cell BK348.out 1).trans rfl⟩ (fun hHeld => ?_)
              clear hK K
              refine norm_ (a' := ?_) ?_ ?_
              rotate_left
              ·
               show Act.put _ (some 40) _ = _
               simp only [Act.put, List.setIfInBounds_toArray, List.set_cons_zero, List.set_cons_succ, i64_w, i32_w]
               rfl
              refine pure_ (i := 5) (N := some 35) (v := ?_) (a' := ?_) #[true, true, true, true, true, true, false, false, false, false, false] rfl rfl (any_of HT_.out (by kernel_rfl)) (fun _ _ _ h => h) (Or.inl ⟨by rfl, ?_⟩) ?_ ?_
              rotate_left
              ·
               intro w'
               go_simp
               with_reducible rfl
              rotate_left
              ·
               simp only [Act.put, List.setIfInBounds_toArray, List.set_cons_zero, List.set_cons_succ, i64_w, i32_w]
               rfl
              refine pure_ (i := 6) (N := some 41) (v := ?_) (a' := ?_) #[true, true, true, true, true, true, true, false, false, false, false] rfl rfl (any_of HT_.out (by kernel_rfl)) (fun _ _ _ h => h) (Or.inl ⟨by rfl, ?_⟩) ?_ ?_
              rotate_left
              ·
               intro w'
               go_simp
               with_reducible rfl
              rotate_left
              ·
               simp only [Act.put, List.setIfInBounds_toArray, List.set_cons_zero, List.set_cons_succ, i64_w, i32_w]
               rfl
              refine pure_ (i := 7) (N := some 42) (v := ?_) (a' := ?_) #[true, true, true, true, true, true, true, true, false, false, false] rfl rfl (any_of HT_.out (by kernel_rfl)) (fun _ _ _ h => h) (Or.inl ⟨by rfl, ?_⟩) ?_ ?_
              rotate_left
              ·
               intro w'
               go_simp
               with_reducible rfl
              rotate_left
              ·
               simp only [Act.put, List.setIfInBounds_toArray, List.set_cons_zero, List.set_cons_succ, i64_w, i32_w]
               rfl
              refine one_ (i := 8) (N := some 11) #[true, true, true, true, true, true, true, true, true, false, false] rfl rfl (one_of HT_.out (by kernel_rfl)) (by decide) (fun K hK => ?_)
              refine box_step ?hg (N := 11) ?hd (cs := #[.int .i64 0, .int .i64 0]) (t := 27) ?hr ?_; (case hd => rfl); (case hg => rfl); (case hr => first | (go_simp; done) | (go_simp; rfl))
              intro gb368 hg w70 hbox hb
              have n0_ := bB BK347 hb
              have n1_ := bB BK348 hb
              have n2_ := bB BK352 hb
              have n3_ := bB BK356 hb
              have n4_ := bB BK360 hb
              have n5_ := hS HB hb
              have n6_ := Aside0.mk (hbox)
              have n7_ := hG HB hg
              have n8_ := hG HB hg
              have n9_ := bNl BK347 hg
              have n10_ := bNg BK347 hg
              have n11_ := bNl BK348 hg
              have n12_ := bNg BK348 hg
              have n13_ := bNl BK352 hg
              have n14_ := bNg BK352 hg
              have n15_ := bNl BK356 hg
              have n16_ := bNg BK356 hg
              have n17_ := bNl BK360 hg
              have n18_ := bNg BK360 hg
              clear BK347
              clear BK348
              clear BK352
              clear BK356
              clear BK360
              clear HB
              have BK347 := n0_
              have BK348 := n1_
              have BK352 := n2_
              have BK356 := n3_
              have BK360 := n4_
              have HB := n5_
              have BK368 := n6_
              have GW368 := n7_
              have GE368 := n8_
              have NB347_368 := n9_
              have NB368_347 := n10_
              have NB348_368 := n11_
              have NB368_348 := n12_
              have NB352_368 := n13_
              have NB368_352 := n14_
              have NB356_368 := n15_
              have NB368_356 := n16_
              have NB360_368 := n17_
              have NB368_360 := n18_
              clear n0_ n1_ n2_ n3_ n4_ n5_ n6_ n7_ n8_ n9_ n10_ n11_ n12_ n13_ n14_ n15_ n16_ n17_ n18_
              clear hb hbox hg
              refine hK.out _ _ ⟨(blk_cell BK347.out 0).trans rfl, (blk_cell BK347.out 1).trans rfl, (blk_cell BK348.out 0).trans rfl, (blk_cell BK348.out 1).trans rfl⟩ (fun hHeld => ?_)
              clear hK K
              refine norm_ (a' := ?_) ?_ ?_
              rotate_left
              ·
               show Act.put _ (some 11) _ = _
               simp only [Act.put, List.setIfInBounds_toArray, List.set_cons_zero, List.set_cons_succ, i64_w, i32_w]
               rfl
              exact norm_ (by simp only [putAll, Act.put, List.setIfInBounds_toArray, List.set_cons_zero, List.set_cons_succ]) (hCont (gb368) _ ⟨hHeld, (by exact bS BK347), (by exact bS BK348), (by exact bS BK352), (by exact bS BK356), (by exact bS BK360), (by exact bS BK368), GW368.out, GE368.out, NB347_368.out, NB368_347.out, NB348_368.out, NB368_348.out, NB352_368.out, NB368_352.out, NB356_368.out, NB368_356.out, NB360_368.out, NB368_360.out, (by repeat (first | (with_reducible first | exact HB.out | apply below_alloc | apply pw_below_drewN | apply below_drew1 | refine below_set ?_ GE347.out | refine below_set ?_ GE348.out | refine below_set ?_ GE352.out | refine below_set ?_ GE356.out | refine below_set ?_ GE360.out | refine below_set ?_ GE368.out) | exact HB.out))⟩)
             ·
              skip
              refine box_step ?hg (N := 11) ?hd (cs := #[.int .i64 0, .int .i64 0]) (t := 27) ?hr ?_; (case hd => rfl); (case hg => rfl); (case hr => first | (go_simp; done) | (go_simp; rfl))
              intro gb368 hg w69 hbox hb
              have n0_ := bB BK347 hb
              have n1_ := bB BK348 hb
              have n2_ := bB BK352 hb
              have n3_ := bB BK356 hb
              have n4_ := bB BK360 hb
              have n5_ := hS HB hb
              have n6_ := Aside0.mk (hbox)
              have n7_ := hG HB hg
              have n8_ := hG HB hg
              have n9_ := bNl BK347 hg
              have n10_ := bNg BK347 hg
              have n11_ := bNl BK348 hg
              have n12_ := bNg BK348 hg
              have n13_ := bNl BK352 hg
              have n14_ := bNg BK352 hg
              have n15_ := bNl BK356 hg
              have n16_ := bNg BK356 hg
              have n17_ := bNl BK360 hg
              have n18_ := bNg BK360 hg
              clear BK347
              clear BK348
              clear BK352
              clear BK356
              clear BK360
              clear HB
              have BK347 := n0_
              have BK348 := n1_
              have BK352 := n2_
              have BK356 := n3_
              have BK360 := n4_
              have HB := n5_
              have BK368 := n6_
              have GW368 := n7_
              have GE368 := n8_
              have NB347_368 := n9_
              have NB368_347 := n10_
              have NB348_368 := n11_
              have NB368_348 := n12_
              have NB352_368 := n13_
              have NB368_352 := n14_
              have NB356_368 := n15_
              have NB368_356 := n16_
              have NB360_368 := n17_
              have NB368_360 := n18_
              clear n0_ n1_ n2_ n3_ n4_ n5_ n6_ n7_ n8_ n9_ n10_ n11_ n12_ n13_ n14_ n15_ n16_ n17_ n18_
              clear hb hbox hg
              refine hK.out _ _ ⟨(blk_cell BK347.out 0).trans rfl, (blk_cell BK347.out 1).trans rfl, (blk_cell BK348.out 0).trans rfl, (blk_cell BK348.out 1).trans rfl⟩ (fun hHeld => ?_)
              clear hK K
              refine norm_ (a' := ?_) ?_ ?_
              rotate_left
              ·
               show Act.put _ (some 11) _ = _
               simp only [Act.put, List.setIfInBounds_toArray, List.set_cons_zero, List.set_cons_succ, i64_w, i32_w]
               rfl
              refine one_ (i := 4) (N := some 40) #[true, true, true, true, true, false, false, false, true, false, false] rfl rfl (one_of HT_.out (by kernel_rfl)) (by decide) (fun K hK => ?_)
              refine goes_ Try.func25 (by kernel_rfl) rfl #[.agg #[.int .i64 t361, .int .i64 t362], .agg #[.int .i64 t363, .int .i64 t364]] (by rfl) rfl rfl (by (try simp only [List.map_toArray, List.map_cons, List.map_nil]); first | done | rfl | (simp only [List.length_drop, List.length_take]; rfl)) ?_
              with_reducible refine (mosaicref17_Add.calls t361 t362 t363 t364 t365 t366 t367 _ A8.out).mono ?_
              rintro e w70 ⟨rfl, hb⟩
              refine ⟨_, rfl, ?_⟩
              have n0_ := bB BK347 hb
              have n1_ := bB BK348 hb
              have n2_ := bB BK352 hb
              have n3_ := bB BK356 hb
              have n4_ := bB BK360 hb
              have n5_ := bB BK368 hb
              have n6_ := hS HB hb
              clear BK347
              clear BK348
              clear BK352
              clear BK356
              clear BK360
              clear BK368
              clear HB
              have BK347 := n0_
              have BK348 := n1_
              have BK352 := n2_
              have BK356 := n3_
              have BK360 := n4_
              have BK368 := n5_
              have HB := n6_
              clear n0_ n1_ n2_ n3_ n4_ n5_ n6_
              (try clear hb)
              (try clear hb2)
              (try clear hk)
              (try clear hi)
              refine hK.out _ _ ⟨(blk_cell BK347.out 0).trans rfl, (blk_cell BK347.out 1).trans rfl, (blk_cell BK348.out 0).trans rfl, (blk_cell BK348.out 1).trans rfl⟩ (fun hHeld => ?_)
              clear hK K
              refine norm_ (a' := ?_) ?_ ?_
              rotate_left
              ·
               show Act.put _ (some 40) _ = _
               simp only [Act.put, List.setIfInBounds_toArray, List.set_cons_zero, List.set_cons_succ, i64_w, i32_w]
               rfl
              refine pure_ (i := 5) (N := some 35) (v := ?_) (a' := ?_) #[true, true, true, true, true, true, false, false, true, false, false] rfl rfl (any_of HT_.out (by kernel_rfl)) (fun _ _ _ h => h) (Or.inl ⟨by rfl, ?_⟩) ?_ ?_
              rotate_left
              ·
               intro w'
               go_simp
               with_reducible rfl
              rotate_left
              ·
               simp only [Act.put, List.setIfInBounds_toArray, List.set_cons_zero, List.set_cons_succ, i64_w, i32_w]
               rfl
              refine pure_ (i := 6) (N := some 41) (v := ?_) (a' := ?_) #[true, true, true, true, true, true, true, false, true, false, false] rfl rfl (any_of HT_.out (by kernel_rfl)) (fun _ _ _ h => h) (Or.inl ⟨by rfl, ?_⟩) ?_ ?_
              rotate_left
              ·
               intro w'
               go_simp
               with_reducible rfl
              rotate_left
              ·
               simp only [Act.put, List.setIfInBounds_toArray, List.set_cons_zero, List.set_cons_succ, i64_w, i32_w]
               rfl
              refine pure_ (i := 7) (N := some 42) (v := ?_) (a' := ?_) #[true, true, true, true, true, true, true, true, true, false, false] rfl rfl (any_of HT_.out (by kernel_rfl)) (fun _ _ _ h => h) (Or.inl ⟨by rfl, ?_⟩) ?_ ?_
              rotate_left
              ·
               intro w'
               go_simp
               with_reducible rfl
              rotate_left
              ·
               simp only [Act.put, List.setIfInBounds_toArray, List.set_cons_zero, List.set_cons_succ, i64_w, i32_w]
               rfl
              exact norm_ (by simp only [putAll, Act.put, List.setIfInBounds_toArray, List.set_cons_zero, List.set_cons_succ]) (hCont (gb368) _ ⟨hHeld, (by exact bS BK347), (by exact bS BK348), (by exact bS BK352), (by exact bS BK356), (by exact bS BK360), (by exact bS BK368), GW368.out, GE368.out, NB347_368.out, NB368_347.out, NB348_368.out, NB368_348.out, NB352_368.out, NB368_352.out, NB356_368.out, NB368_356.out, NB360_368.out, NB368_360.out, (by repeat (first | (with_reducible first | exact HB.out | apply below_alloc | apply pw_below_drewN | apply below_drew1 | refine below_set ?_ GE347.out | refine below_set ?_ GE348.out | refine below_set ?_ GE352.out | refine below_set ?_ GE356.out | refine below_set ?_ GE360.out | refine below_set ?_ GE368.out) | exact HB.out))⟩)
            ·
             skip
             refine box_step ?hg (N := 11) ?hd (cs := #[.int .i64 0, .int .i64 0]) (t := 27) ?hr ?_; (case hd => rfl); (case hg => rfl); (case hr => first | (go_simp; done) | (go_simp; rfl))
             intro gb368 hg w68 hbox hb
             have n0_ := bB BK347 hb
             have n1_ := bB BK348 hb
             have n2_ := bB BK352 hb
             have n3_ := bB BK356 hb
             have n4_ := bB BK360 hb
             have n5_ := hS HB hb
             have n6_ := Aside0.mk (hbox)
             have n7_ := hG HB hg
             have n8_ := hG HB hg
             have n9_ := bNl BK347 hg
             have n10_ := bNg BK347 hg
             have n11_ := bNl BK348 hg
             have n12_ := bNg BK348 hg
             have n13_ := bNl BK352 hg
             have n14_ := bNg BK352 hg
             have n15_ := bNl BK356 hg
             have n16_ := bNg BK356 hg
             have n17_ := bNl BK360 hg
             have n18_ := bNg BK360 hg
             clear BK347
             clear BK348
             clear BK352
             clear BK356
             clear BK360
             clear HB
             have BK347 := n0_
             have BK348 := n1_
             have BK352 := n2_
             have BK356 := n3_
             have BK360 := n4_
             have HB := n5_
             have BK368 := n6_
             have GW368 := n7_
             have GE368 := n8_
             have NB347_368 := n9_
             have NB368_347 := n10_
             have NB348_368 := n11_
             have NB368_348 := n12_
             have NB352_368 := n13_
             have NB368_352 := n14_
             have NB356_368 := n15_
             have NB368_356 := n16_
             have NB360_368 := n17_
             have NB368_360 := n18_
             clear n0_ n1_ n2_ n3_ n4_ n5_ n6_ n7_ n8_ n9_ n10_ n11_ n12_ n13_ n14_ n15_ n16_ n17_ n18_
             clear hb hbox hg
             refine hK.out _ _ ⟨(blk_cell BK347.out 0).trans rfl, (blk_cell BK347.out 1).trans rfl, (blk_cell BK348.out 0).trans rfl, (blk_cell BK348.out 1).trans rfl⟩ (fun hHeld => ?_)
             clear hK K
             refine norm_ (a' := ?_) ?_ ?_
             rotate_left
             ·
              show Act.put _ (some 11) _ = _
              simp only [Act.put, List.setIfInBounds_toArray, List.set_cons_zero, List.set_cons_succ, i64_w, i32_w]
              rfl
             refine one_ (i := 3) (N := some 39) #[true, true, true, true, false, false, false, false, true, false, false] rfl rfl (one_of HT_.out (by kernel_rfl)) (by decide) (fun K hK => ?_)
             refine goes_ Try.func12 (by kernel_rfl) rfl #[.agg #[.int .i64 a1_0, .int .i64 a1_1]] (by rfl) rfl rfl (by (try simp only [List.map_toArray, List.map_cons, List.map_nil]); first | done | rfl | (simp only [List.length_drop, List.length_take]; rfl)) ?_
             with_reducible refine (mosaiclaw17_Ref.calls a1_0 a1_1 t363 t364 _ A7.out).mono ?_
             rintro e w69 ⟨rfl, hb⟩
             refine ⟨_, rfl, ?_⟩
             have n0_ := bB BK347 hb
             have n1_ := bB BK348 hb
             have n2_ := bB BK352 hb
             have n3_ := bB BK356 hb
             have n4_ := bB BK360 hb
             have n5_ := bB BK368 hb
             have n6_ := hS HB hb
             clear BK347
             clear BK348
             clear BK352
             clear BK356
             clear BK360
             clear BK368
             clear HB
             have BK347 := n0_
             have BK348 := n1_
             have BK352 := n2_
             have BK356 := n3_
             have BK360 := n4_
             have BK368 := n5_
             have HB := n6_
             clear n0_ n1_ n2_ n3_ n4_ n5_ n6_
             (try clear hb)
             (try clear hb2)
             (try clear hk)
             (try clear hi)
             refine hK.out _ _ ⟨(blk_cell BK347.out 0).trans rfl, (blk_cell BK347.out 1).trans rfl, (blk_cell BK348.out 0).trans rfl, (blk_cell BK348.out 1).trans rfl⟩ (fun hHeld => ?_)
             clear hK K
             refine norm_ (a' := ?_) ?_ ?_
             rotate_left
             ·
              show Act.put _ (some 39) _ = _
              simp only [Act.put, List.setIfInBounds_toArray, List.set_cons_zero, List.set_cons_succ, i64_w, i32_w]
              rfl
             refine one_ (i := 4) (N := some 40) #[true, true, true, true, true, false, false, false, true, false, false] rfl rfl (one_of HT_.out (by kernel_rfl)) (by decide) (fun K hK => ?_)
             refine goes_ Try.func25 (by kernel_rfl) rfl #[.agg #[.int .i64 t361, .int .i64 t362], .agg #[.int .i64 t363, .int .i64 t364]] (by rfl) rfl rfl (by (try simp only [List.map_toArray, List.map_cons, List.map_nil]); first | done | rfl | (simp only [List.length_drop, List.length_take]; rfl)) ?_
             with_reducible refine (mosaicref17_Add.calls t361 t362 t363 t364 t365 t366 t367 _ A8.out).mono ?_
             rintro e w70 ⟨rfl, hb⟩
             refine ⟨_, rfl, ?_⟩
             have n0_ := bB BK347 hb
             have n1_ := bB BK348 hb
             have n2_ := bB BK352 hb
             have n3_ := bB BK356 hb
             have n4_ := bB BK360 hb
             have n5_ := bB BK368 hb
             have n6_ := hS HB hb
             clear BK347
             clear BK348
             clear BK352
             clear BK356
             clear BK360
             clear BK368
             clear HB
             have BK347 := n0_
             have BK348 := n1_
             have BK352 := n2_
             have BK356 := n3_
             have BK360 := n4_
             have BK368 := n5_
             have HB := n6_
             clear n0_ n1_ n2_ n3_ n4_ n5_ n6_
             (try clear hb)
             (try clear hb2)
             (try clear hk)
             (try clear hi)
             refine hK.out _ _ ⟨(blk_cell BK347.out 0).trans rfl, (blk_cell BK347.out 1).trans rfl, (blk_cell BK348.out 0).trans rfl, (blk_cell BK348.out 1).trans rfl⟩ (fun hHeld => ?_)
             clear hK K
             refine norm_ (a' := ?_) ?_ ?_
             rotate_left
             ·
              show Act.put _ (some 40) _ = _
              simp only [Act.put, List.setIfInBounds_toArray, List.set_cons_zero, List.set_cons_succ, i64_w, i32_w]
              rfl
             refine pure_ (i := 5) (N := some 35) (v := ?_) (a' := ?_) #[true, true, true, true, true, true, false, false, true, false, false] rfl rfl (any_of HT_.out (by kernel_rfl)) (fun _ _ _ h => h) (Or.inl ⟨by rfl, ?_⟩) ?_ ?_
             rotate_left
             ·
              intro w'
              go_simp
              with_reducible rfl
             rotate_left
             ·
              simp only [Act.put, List.setIfInBounds_toArray, List.set_cons_zero, List.set_cons_succ, i64_w, i32_w]
              rfl
             refine pure_ (i := 6) (N := some 41) (v := ?_) (a' := ?_) #[true, true, true, true, true, true, true, false, true, false, false] rfl rfl (any_of HT_.out (by kernel_rfl)) (fun _ _ _ h => h) (Or.inl ⟨by rfl, ?_⟩) ?_ ?_
             rotate_left
             ·
              intro w'
              go_simp
              with_reducible rfl
             rotate_left
             ·
              simp only [Act.put, List.setIfInBounds_toArray, List.set_cons_zero, List.set_cons_succ, i64_w, i32_w]
              rfl
             refine pure_ (i := 7) (N := some 42) (v := ?_) (a' := ?_) #[true, true, true, true, true, true, true, true, true, false, false] rfl rfl (any_of HT_.out (by kernel_rfl)) (fun _ _ _ h => h) (Or.inl ⟨by rfl, ?_⟩) ?_ ?_
             rotate_left
             ·
              intro w'
              go_simp
              with_reducible rfl
             rotate_left
             ·
              simp only [Act.put, List.setIfInBounds_toArray, List.set_cons_zero, List.set_cons_succ, i64_w, i32_w]
              rfl
             exact norm_ (by simp only [putAll, Act.put, List.setIfInBounds_toArray, List.set_cons_zero, List.set_cons_succ]) (hCont (gb368) _ ⟨hHeld, (by exact bS BK347), (by exact bS BK348), (by exact bS BK352), (by exact bS BK356), (by exact bS BK360), (by exact bS BK368), GW368.out, GE368.out, NB347_368.out, NB368_347.out, NB348_368.out, NB368_348.out, NB352_368.out, NB368_352.out, NB356_368.out, NB368_356.out, NB360_368.out, NB368_360.out, (by repeat (first | (with_reducible first | exact HB.out | apply below_alloc | apply pw_below_drewN | apply below_drew1 | refine below_set ?_ GE347.out | refine below_set ?_ GE348.out | refine below_set ?_ GE352.out | refine below_set ?_ GE356.out | refine below_set ?_ GE360.out | refine below_set ?_ GE368.out) | exact HB.out))⟩)
           ·
            skip
            refine box_step ?hg (N := 11) ?hd (cs := #[.int .i64 0, .int .i64 0]) (t := 27) ?hr ?_; (case hd => rfl); (case hg => rfl); (case hr => first | (go_simp; done) | (go_simp; rfl))
            intro gb368 hg w67 hbox hb
            have n0_ := bB BK347 hb
            have n1_ := bB BK348 hb
            have n2_ := bB BK352 hb
            have n3_ := bB BK356 hb
            have n4_ := bB BK360 hb
            have n5_ := hS HB hb
            have n6_ := Aside0.mk (hbox)
            have n7_ := hG HB hg
            have n8_ := hG HB hg
            have n9_ := bNl BK347 hg
            have n10_ := bNg BK347 hg
            have n11_ := bNl BK348 hg
            have n12_ := bNg BK348 hg
            have n13_ := bNl BK352 hg
            have n14_ := bNg BK352 hg
            have n15_ := bNl BK356 hg
            have n16_ := bNg BK356 hg
            have n17_ := bNl BK360 hg
            have n18_ := bNg BK360 hg
            clear BK347
            clear BK348
            clear BK352
            clear BK356
            clear BK360
            clear HB
            have BK347 := n0_
            have BK348 := n1_
            have BK352 := n2_
            have BK356 := n3_
            have BK360 := n4_
            have HB := n5_
            have BK368 := n6_
            have GW368 := n7_
            have GE368 := n8_
            have NB347_368 := n9_
            have NB368_347 := n10_
            have NB348_368 := n11_
            have NB368_348 := n12_
            have NB352_368 := n13_
            have NB368_352 := n14_
            have NB356_368 := n15_
            have NB368_356 := n16_
            have NB360_368 := n17_
            have NB368_360 := n18_
            clear n0_ n1_ n2_ n3_ n4_ n5_ n6_ n7_ n8_ n9_ n10_ n11_ n12_ n13_ n14_ n15_ n16_ n17_ n18_
            clear hb hbox hg
            refine hK.out _ _ ⟨(blk_cell BK347.out 0).trans rfl, (blk_cell BK347.out 1).trans rfl, (blk_cell BK348.out 0).trans rfl, (blk_cell BK348.out 1).trans rfl⟩ (fun hHeld => ?_)
            clear hK K
            refine norm_ (a' := ?_) ?_ ?_
            rotate_left
            ·
             show Act.put _ (some 11) _ = _
             simp only [Act.put, List.setIfInBounds_toArray, List.set_cons_zero, List.set_cons_succ, i64_w, i32_w]
             rfl
            refine one_ (i := 1) (N := some 37) #[true, true, true, false, false, false, false, false, true, false, false] rfl rfl (one_of HT_.out (by kernel_rfl)) (by decide) (fun K hK => ?_)
            refine goes_ Try.func12 (by kernel_rfl) rfl #[.agg #[.int .i64 a0_0, .int .i64 a0_1]] (by rfl) rfl rfl (by (try simp only [List.map_toArray, List.map_cons, List.map_nil]); first | done | rfl | (simp only [List.length_drop, List.length_take]; rfl)) ?_
            with_reducible refine (mosaiclaw17_Ref.calls a0_0 a0_1 t361 t362 _ A6.out).mono ?_
            rintro e w68 ⟨rfl, hb⟩
            refine ⟨_, rfl, ?_⟩
            have n0_ := bB BK347 hb
            have n1_ := bB BK348 hb
            have n2_ := bB BK352 hb
            have n3_ := bB BK356 hb
            have n4_ := bB BK360 hb
            have n5_ := bB BK368 hb
            have n6_ := hS HB hb
            clear BK347
            clear BK348
            clear BK352
            clear BK356
            clear BK360
            clear BK368
            clear HB
            have BK347 := n0_
            have BK348 := n1_
            have BK352 := n2_
            have BK356 := n3_
            have BK360 := n4_
            have BK368 := n5_
            have HB := n6_
            clear n0_ n1_ n2_ n3_ n4_ n5_ n6_
            (try clear hb)
            (try clear hb2)
            (try clear hk)
            (try clear hi)
            refine hK.out _ _ ⟨(blk_cell BK347.out 0).trans rfl, (blk_cell BK347.out 1).trans rfl, (blk_cell BK348.out 0).trans rfl, (blk_cell BK348.out 1).trans rfl⟩ (fun hHeld => ?_)
            clear hK K
            refine norm_ (a' := ?_) ?_ ?_
            rotate_left
            ·
             show Act.put _ (some 37) _ = _
             simp only [Act.put, List.setIfInBounds_toArray, List.set_cons_zero, List.set_cons_succ, i64_w, i32_w]
             rfl
            refine one_ (i := 3) (N := some 39) #[true, true, true, true, false, false, false, false, true, false, false] rfl rfl (one_of HT_.out (by kernel_rfl)) (by decide) (fun K hK => ?_)
            refine goes_ Try.func12 (by kernel_rfl) rfl #[.agg #[.int .i64 a1_0, .int .i64 a1_1]] (by rfl) rfl rfl (by (try simp only [List.map_toArray, List.map_cons, List.map_nil]); first | done | rfl | (simp only [List.length_drop, List.length_take]; rfl)) ?_
            with_reducible refine (mosaiclaw17_Ref.calls a1_0 a1_1 t363 t364 _ A7.out).mono ?_
            rintro e w69 ⟨rfl, hb⟩
            refine ⟨_, rfl, ?_⟩
            have n0_ := bB BK347 hb
            have n1_ := bB BK348 hb
            have n2_ := bB BK352 hb
            have n3_ := bB BK356 hb
            have n4_ := bB BK360 hb
            have n5_ := bB BK368 hb
            have n6_ := hS HB hb
            clear BK347
            clear BK348
            clear BK352
            clear BK356
            clear BK360
            clear BK368
            clear HB
            have BK347 := n0_
            have BK348 := n1_
            have BK352 := n2_
            have BK356 := n3_
            have BK360 := n4_
            have BK368 := n5_
            have HB := n6_
            clear n0_ n1_ n2_ n3_ n4_ n5_ n6_
            (try clear hb)
            (try clear hb2)
            (try clear hk)
            (try clear hi)
            refine hK.out _ _ ⟨(blk_cell BK347.out 0).trans rfl, (blk_cell BK347.out 1).trans rfl, (blk_cell BK348.out 0).trans rfl, (blk_cell BK348.out 1).trans rfl⟩ (fun hHeld => ?_)
            clear hK K
            refine norm_ (a' := ?_) ?_ ?_
            rotate_left
            ·
             show Act.put _ (some 39) _ = _
             simp only [Act.put, List.setIfInBounds_toArray, List.set_cons_zero, List.set_cons_succ, i64_w, i32_w]
             rfl
            refine one_ (i := 4) (N := some 40) #[true, true, true, true, true, false, false, false, true, false, false] rfl rfl (one_of HT_.out (by kernel_rfl)) (by decide) (fun K hK => ?_)
            refine goes_ Try.func25 (by kernel_rfl) rfl #[.agg #[.int .i64 t361, .int .i64 t362], .agg #[.int .i64 t363, .int .i64 t364]] (by rfl) rfl rfl (by (try simp only [List.map_toArray, List.map_cons, List.map_nil]); first | done | rfl | (simp only [List.length_drop, List.length_take]; rfl)) ?_
            with_reducible refine (mosaicref17_Add.calls t361 t362 t363 t364 t365 t366 t367 _ A8.out).mono ?_
            rintro e w70 ⟨rfl, hb⟩
            refine ⟨_, rfl, ?_⟩
            have n0_ := bB BK347 hb
            have n1_ := bB BK348 hb
            have n2_ := bB BK352 hb
            have n3_ := bB BK356 hb
            have n4_ := bB BK360 hb
            have n5_ := bB BK368 hb
            have n6_ := hS HB hb
            clear BK347
            clear BK348
            clear BK352
            clear BK356
            clear BK360
            clear BK368
            clear HB
            have BK347 := n0_
            have BK348 := n1_
            have BK352 := n2_
            have BK356 := n3_
            have BK360 := n4_
            have BK368 := n5_
            have HB := n6_
            clear n0_ n1_ n2_ n3_ n4_ n5_ n6_
            (try clear hb)
            (try clear hb2)
            (try clear hk)
            (try clear hi)
            refine hK.out _ _ ⟨(blk_cell BK347.out 0).trans rfl, (blk_cell BK347.out 1).trans rfl, (blk_cell BK348.out 0).trans rfl, (blk_cell BK348.out 1).trans rfl⟩ (fun hHeld => ?_)
            clear hK K
            refine norm_ (a' := ?_) ?_ ?_
            rotate_left
            ·
             show Act.put _ (some 40) _ = _
             simp only [Act.put, List.setIfInBounds_toArray, List.set_cons_zero, List.set_cons_succ, i64_w, i32_w]
             rfl
            refine pure_ (i := 5) (N := some 35) (v := ?_) (a' := ?_) #[true, true, true, true, true, true, false, false, true, false, false] rfl rfl (any_of HT_.out (by kernel_rfl)) (fun _ _ _ h => h) (Or.inl ⟨by rfl, ?_⟩) ?_ ?_
            rotate_left
            ·
             intro w'
             go_simp
             with_reducible rfl
            rotate_left
            ·
             simp only [Act.put, List.setIfInBounds_toArray, List.set_cons_zero, List.set_cons_succ, i64_w, i32_w]
             rfl
            refine pure_ (i := 6) (N := some 41) (v := ?_) (a' := ?_) #[true, true, true, true, true, true, true, false, true, false, false] rfl rfl (any_of HT_.out (by kernel_rfl)) (fun _ _ _ h => h) (Or.inl ⟨by rfl, ?_⟩) ?_ ?_
            rotate_left
            ·
             intro w'
             go_simp
             with_reducible rfl
            rotate_left
            ·
             simp only [Act.put, List.setIfInBounds_toArray, List.set_cons_zero, List.set_cons_succ, i64_w, i32_w]
             rfl
            refine pure_ (i := 7) (N := some 42) (v := ?_) (a' := ?_) #[true, true, true, true, true, true, true, true, true, false, false] rfl rfl (any_of HT_.out (by kernel_rfl)) (fun _ _ _ h => h) (Or.inl ⟨by rfl, ?_⟩) ?_ ?_
            rotate_left
            ·
             intro w'
             go_simp
             with_reducible rfl
            rotate_left
            ·
             simp only [Act.put, List.setIfInBounds_toArray, List.set_cons_zero, List.set_cons_succ, i64_w, i32_w]
             rfl
            exact norm_ (by simp only [putAll, Act.put, List.setIfInBounds_toArray, List.set_cons_zero, List.set_cons_succ]) (hCont (gb368) _ ⟨hHeld, (by exact bS BK347), (by exact bS BK348), (by exact bS BK352), (by exact bS BK356), (by exact bS BK360), (by exact bS BK368), GW368.out, GE368.out, NB347_368.out, NB368_347.out, NB348_368.out, NB368_348.out, NB352_368.out, NB368_352.out, NB356_368.out, NB368_356.out, NB360_368.out, NB368_360.out, (by repeat (first | (with_reducible first | exact HB.out | apply below_alloc | apply pw_below_drewN | apply below_drew1 | refine below_set ?_ GE347.out | refine below_set ?_ GE348.out | refine below_set ?_ GE352.out | refine below_set ?_ GE356.out | refine below_set ?_ GE360.out | refine below_set ?_ GE368.out) | exact HB.out))⟩)
          rintro gb368 w71 ⟨hS_, h0_, h1_, h2_, h3_, h4_, h5_, h6_, h7_, h8_, h9_, h10_, h11_, h12_, h13_, h14_, h15_, h16_, h17_, h18_⟩
          have n0_ : Aside0 (w71.heap[gb347]? = some (.cells #[.int .i64 a0_0, .int .i64 a0_1] 23 (0, 0))) := ⟨h0_⟩
          have n1_ : Aside0 (w71.heap[gb348]? = some (.cells #[.int .i64 a1_0, .int .i64 a1_1] 23 (0, 0))) := ⟨h1_⟩
          have n2_ : Aside0 (w71.heap[gb352]? = some (.cells #[.int .i64 t349, .int .i64 t350] 23 (0, 0))) := ⟨h2_⟩
          have n3_ : Aside0 (w71.heap[gb356]? = some (.cells #[.int .i64 t353, .int .i64 t354] 23 (0, 0))) := ⟨h3_⟩
          have n4_ : Aside0 (w71.heap[gb360]? = some (.cells #[.int .i64 t357, .int .i64 t358] 23 (0, 0))) := ⟨h4_⟩
          have n5_ : Aside0 (w71.heap[gb368]? = some (.cells #[.int .i64 0, .int .i64 0] 27 (0, 0))) := ⟨h5_⟩
          have n6_ : Aside0 (w.heap.size ≤ gb368) := ⟨h6_⟩
          have n7_ : Aside0 (w.heap.size ≤ gb368) := ⟨h7_⟩
          have n8_ : Aside0 (gb347 ≠ gb368) := ⟨h8_⟩
          have n9_ : Aside0 (gb368 ≠ gb347) := ⟨h9_⟩
          have n10_ : Aside0 (gb348 ≠ gb368) := ⟨h10_⟩
          have n11_ : Aside0 (gb368 ≠ gb348) := ⟨h11_⟩
          have n12_ : Aside0 (gb352 ≠ gb368) := ⟨h12_⟩
          have n13_ : Aside0 (gb368 ≠ gb352) := ⟨h13_⟩
          have n14_ : Aside0 (gb356 ≠ gb368) := ⟨h14_⟩
          have n15_ : Aside0 (gb368 ≠ gb356) := ⟨h15_⟩
          have n16_ : Aside0 (gb360 ≠ gb368) := ⟨h16_⟩
          have n17_ : Aside0 (gb368 ≠ gb360) := ⟨h17_⟩
          have n18_ : Aside0 (Below w.heap.size w w71) := ⟨h18_⟩
          clear BK347
          clear BK348
          clear BK352
          clear BK356
          clear BK360
          clear HB
          clear h0_ h1_ h2_ h3_ h4_ h5_ h6_ h7_ h8_ h9_ h10_ h11_ h12_ h13_ h14_ h15_ h16_ h17_ h18_
          have BK347 := n0_
          have BK348 := n1_
          have BK352 := n2_
          have BK356 := n3_
          have BK360 := n4_
          have BK368 := n5_
          have GW368 := n6_
          have GE368 := n7_
          have NB347_368 := n8_
          have NB368_347 := n9_
          have NB348_368 := n10_
          have NB368_348 := n11_
          have NB352_368 := n12_
          have NB368_352 := n13_
          have NB356_368 := n14_
          have NB368_356 := n15_
          have NB360_368 := n16_
          have NB368_360 := n17_
          have HB := n18_
          clear n0_ n1_ n2_ n3_ n4_ n5_ n6_ n7_ n8_ n9_ n10_ n11_ n12_ n13_ n14_ n15_ n16_ n17_ n18_
          have hHeld : w71.cell? ⟨gb347, 0, none⟩ = some (.int .i64 a0_0) ∧ w71.cell? ⟨gb347, 1, none⟩ = some (.int .i64 a0_1) ∧ w71.cell? ⟨gb348, 0, none⟩ = some (.int .i64 a1_0) ∧ w71.cell? ⟨gb348, 1, none⟩ = some (.int .i64 a1_1) := hS_
          refine norm_ (a' := ?_) ?_ ?_
          rotate_left
          ·
           simp only [putAll, Act.put, List.setIfInBounds_toArray, List.set_cons_zero, List.set_cons_succ]
           rfl
          refine one_ (i := 9) (N := none) #[true, true, true, true, true, true, true, true, true, true, false] rfl rfl (one_of HT_.out (by kernel_rfl)) (by decide) (fun K hK => ?_)
          have hs72 : w71.cell? ⟨gb368, 0, none⟩ = some (.int .i64 0) := (blk_cell BK368.out 0).trans rfl
          have hfs72 := blk_frozen BK368.out 0
          have hns72_0 := NB347_368.out
          have hns72_1 := NB348_368.out
          have hns72_2 := NB352_368.out
          have hns72_3 := NB356_368.out
          have hns72_4 := NB360_368.out
          have hms72_0 := NB368_347.out
          have hms72_1 := NB368_348.out
          have hms72_2 := NB368_352.out
          have hms72_3 := NB368_356.out
          have hms72_4 := NB368_360.out
          have hs73 : w71.cell? ⟨gb368, 1, none⟩ = some (.int .i64 0) := (blk_cell BK368.out 1).trans rfl
          have hfs73 := blk_frozen BK368.out 1
          have hns73_0 := NB347_368.out
          have hns73_1 := NB348_368.out
          have hns73_2 := NB352_368.out
          have hns73_3 := NB356_368.out
          have hns73_4 := NB360_368.out
          have hms73_0 := NB368_347.out
          have hms73_1 := NB368_348.out
          have hms73_2 := NB368_352.out
          have hms73_3 := NB368_356.out
          have hms73_4 := NB368_360.out
          refine skip_ (w1 := ?_) (by rfl) rfl ?_ ?_
          rotate_left
          ·
           go_simp
           rfl
          refine hK.out _ _ ⟨((cell_far (p := ⟨gb368, _, none⟩) NB347_368.out _).trans (((cell_far (p := ⟨gb368, _, none⟩) NB347_368.out _).trans (hHeld.1)))), ((cell_far (p := ⟨gb368, _, none⟩) NB347_368.out _).trans (((cell_far (p := ⟨gb368, _, none⟩) NB347_368.out _).trans (hHeld.2.1)))), ((cell_far (p := ⟨gb368, _, none⟩) NB348_368.out _).trans (((cell_far (p := ⟨gb368, _, none⟩) NB348_368.out _).trans (hHeld.2.2.1)))), ((cell_far (p := ⟨gb368, _, none⟩) NB348_368.out _).trans (((cell_far (p := ⟨gb368, _, none⟩) NB348_368.out _).trans (hHeld.2.2.2))))⟩ (fun hHeld => ?_)
          clear hK K
          refine pure_ (i := 10) (N := some 12) (v := ?_) (a' := ?_) #[true, true, true, true, true, true, true, true, true, true, true] rfl rfl (any_of HT_.out (by kernel_rfl)) (fun _ _ _ h => h) (Or.inl ⟨by rfl, ?_⟩) ?_ ?_
          rotate_left
          ·
           intro w'
           go_simp
           with_reducible rfl
          rotate_left
          ·
           simp only [Act.put, List.setIfInBounds_toArray, List.set_cons_zero, List.set_cons_succ, i64_w, i32_w]
           rfl
          refine done_ (done_of HT_.out (by kernel_rfl)) ?_
          try go_wp2
          have n0_ : Aside0 (((w71.setCell ⟨gb368, 0, none⟩ (.int .i64 t365)).setCell ⟨gb368, 1, none⟩ (.int .i64 t366)).heap[gb347]? = some (.cells #[.int .i64 a0_0, .int .i64 a0_1] 23 (0, 0))) := ⟨by (with_reducible repeat (first | refine blk_drewN ?_ _ | refine blk_drew ?_ | refine blk_alloc ?_ _)); refine blk_far ?_ NB347_368.out _; (with_reducible repeat (first | refine blk_drewN ?_ _ | refine blk_drew ?_ | refine blk_alloc ?_ _)); refine blk_far ?_ NB347_368.out _; (with_reducible repeat (first | refine blk_drewN ?_ _ | refine blk_drew ?_ | refine blk_alloc ?_ _)); exact BK347.out⟩
          have n1_ : Aside0 (((w71.setCell ⟨gb368, 0, none⟩ (.int .i64 t365)).setCell ⟨gb368, 1, none⟩ (.int .i64 t366)).heap[gb348]? = some (.cells #[.int .i64 a1_0, .int .i64 a1_1] 23 (0, 0))) := ⟨by (with_reducible repeat (first | refine blk_drewN ?_ _ | refine blk_drew ?_ | refine blk_alloc ?_ _)); refine blk_far ?_ NB348_368.out _; (with_reducible repeat (first | refine blk_drewN ?_ _ | refine blk_drew ?_ | refine blk_alloc ?_ _)); refine blk_far ?_ NB348_368.out _; (with_reducible repeat (first | refine blk_drewN ?_ _ | refine blk_drew ?_ | refine blk_alloc ?_ _)); exact BK348.out⟩
          have n2_ : Aside0 (((w71.setCell ⟨gb368, 0, none⟩ (.int .i64 t365)).setCell ⟨gb368, 1, none⟩ (.int .i64 t366)).heap[gb352]? = some (.cells #[.int .i64 t349, .int .i64 t350] 23 (0, 0))) := ⟨by (with_reducible repeat (first | refine blk_drewN ?_ _ | refine blk_drew ?_ | refine blk_alloc ?_ _)); refine blk_far ?_ NB352_368.out _; (with_reducible repeat (first | refine blk_drewN ?_ _ | refine blk_drew ?_ | refine blk_alloc ?_ _)); refine blk_far ?_ NB352_368.out _; (with_reducible repeat (first | refine blk_drewN ?_ _ | refine blk_drew ?_ | refine blk_alloc ?_ _)); exact BK352.out⟩
          have n3_ : Aside0 (((w71.setCell ⟨gb368, 0, none⟩ (.int .i64 t365)).setCell ⟨gb368, 1, none⟩ (.int .i64 t366)).heap[gb356]? = some (.cells #[.int .i64 t353, .int .i64 t354] 23 (0, 0))) := ⟨by (with_reducible repeat (first | refine blk_drewN ?_ _ | refine blk_drew ?_ | refine blk_alloc ?_ _)); refine blk_far ?_ NB356_368.out _; (with_reducible repeat (first | refine blk_drewN ?_ _ | refine blk_drew ?_ | refine blk_alloc ?_ _)); refine blk_far ?_ NB356_368.out _; (with_reducible repeat (first | refine blk_drewN ?_ _ | refine blk_drew ?_ | refine blk_alloc ?_ _)); exact BK356.out⟩
          have n4_ : Aside0 (((w71.setCell ⟨gb368, 0, none⟩ (.int .i64 t365)).setCell ⟨gb368, 1, none⟩ (.int .i64 t366)).heap[gb360]? = some (.cells #[.int .i64 t357, .int .i64 t358] 23 (0, 0))) := ⟨by (with_reducible repeat (first | refine blk_drewN ?_ _ | refine blk_drew ?_ | refine blk_alloc ?_ _)); refine blk_far ?_ NB360_368.out _; (with_reducible repeat (first | refine blk_drewN ?_ _ | refine blk_drew ?_ | refine blk_alloc ?_ _)); refine blk_far ?_ NB360_368.out _; (with_reducible repeat (first | refine blk_drewN ?_ _ | refine blk_drew ?_ | refine blk_alloc ?_ _)); exact BK360.out⟩
          have n5_ : Aside0 (((w71.setCell ⟨gb368, 0, none⟩ (.int .i64 t365)).setCell ⟨gb368, 1, none⟩ (.int .i64 t366)).heap[gb368]? = some (.cells #[.int .i64 t365, .int .i64 t366] 27 (0, 0))) := ⟨by (with_reducible repeat (first | refine blk_drewN ?_ _ | refine blk_drew ?_ | refine blk_alloc ?_ _)); refine blk_put (cs := #[.int .i64 t365, .int .i64 0]) ?_ 1 _ rfl; (with_reducible repeat (first | refine blk_drewN ?_ _ | refine blk_drew ?_ | refine blk_alloc ?_ _)); refine blk_put (cs := #[.int .i64 0, .int .i64 0]) ?_ 0 _ rfl; (with_reducible repeat (first | refine blk_drewN ?_ _ | refine blk_drew ?_ | refine blk_alloc ?_ _)); exact BK368.out⟩
          have n6_ : Aside0 (Below w.heap.size w ((w71.setCell ⟨gb368, 0, none⟩ (.int .i64 t365)).setCell ⟨gb368, 1, none⟩ (.int .i64 t366))) := ⟨by repeat (first | (with_reducible first | exact HB.out | apply below_alloc | apply pw_below_drewN | apply below_drew1 | refine below_set ?_ GE347.out | refine below_set ?_ GE348.out | refine below_set ?_ GE352.out | refine below_set ?_ GE356.out | refine below_set ?_ GE360.out | refine below_set ?_ GE368.out) | exact HB.out)⟩
          (try clear BK347)
          (try clear BK348)
          (try clear BK352)
          (try clear BK356)
          (try clear BK360)
          (try clear BK368)
          (try clear HB)
          generalize ((w71.setCell ⟨gb368, 0, none⟩ (.int .i64 t365)).setCell ⟨gb368, 1, none⟩ (.int .i64 t366)) = w74 at n0_ n1_ n2_ n3_ n4_ n5_ n6_ ⊢
          have BK347 := n0_
          have BK348 := n1_
          have BK352 := n2_
          have BK356 := n3_
          have BK360 := n4_
          have BK368 := n5_
          have HB := n6_
          clear n0_ n1_ n2_ n3_ n4_ n5_ n6_
          have n0_ := Aside0.mk (blk_drew BK347.out)
          have n1_ := Aside0.mk (blk_drew BK348.out)
          have n2_ := Aside0.mk (blk_drew BK352.out)
          have n3_ := Aside0.mk (blk_drew BK356.out)
          have n4_ := Aside0.mk (blk_drew BK360.out)
          have n5_ := Aside0.mk (blk_drew BK368.out)
          have n6_ := Aside0.mk (below_drew1 HB.out)
          clear BK347
          clear BK348
          clear BK352
          clear BK356
          clear BK360
          clear BK368
          clear HB
          have BK347 := n0_
          have BK348 := n1_
          have BK352 := n2_
          have BK356 := n3_
          have BK360 := n4_
          have BK368 := n5_
          have HB := n6_
          clear n0_ n1_ n2_ n3_ n4_ n5_ n6_
          refine start_ (n := 11) (S := fun w' => w'.cell? ⟨gb347, 0, none⟩ = some (.int .i64 a0_0) ∧ w'.cell? ⟨gb347, 1, none⟩ = some (.int .i64 a0_1) ∧ w'.cell? ⟨gb348, 0, none⟩ = some (.int .i64 a1_0) ∧ w'.cell? ⟨gb348, 1, none⟩ = some (.int .i64 a1_1)) (ds := []) #[false, false, false, false, false, false, false, false, false, false, false] (by kernel_rfl) rfl rfl ⟨(blk_cell BK347.out 0).trans rfl, (blk_cell BK347.out 1).trans rfl, (blk_cell BK348.out 0).trans rfl, (blk_cell BK348.out 1).trans rfl⟩ (fun hHeld => ?_); refine with_tabW mosaiclaw17_PlaneReckons.tab5 mosaiclaw17_PlaneReckons.bits5 (fun HT_ HW_ => ?_)
          generalize w74.drew = w75 at BK347 BK348 BK352 BK356 BK360 BK368 HB hHeld ⊢
          refine take_ (i := 0) (N := some 44) (v := ?_) (a' := ?_) #[true, false, false, false, false, false, false, false, false, false, false] rfl rfl (take_ofW HT_.out HW_.out (by kernel_rfl)) (fun _ _ _ h => h) (Or.inl ⟨by rfl, ?_⟩) hHeld ?_ ?_
          rotate_left
          ·
           rintro w' ⟨s0, s1, s2, s3⟩
           go_simp
           with_reducible rfl
          rotate_left
          ·
           simp only [Act.put, List.setIfInBounds_toArray, List.set_cons_zero, List.set_cons_succ, i64_w, i32_w]
           rfl
          refine take_ (i := 2) (N := some 46) (v := ?_) (a' := ?_) #[true, false, true, false, false, false, false, false, false, false, false] rfl rfl (take_ofW HT_.out HW_.out (by kernel_rfl)) (fun _ _ _ h => h) (Or.inl ⟨by rfl, ?_⟩) hHeld ?_ ?_
          rotate_left
          ·
           rintro w' ⟨s0, s1, s2, s3⟩
           go_simp
           with_reducible rfl
          rotate_left
          ·
           simp only [Act.put, List.setIfInBounds_toArray, List.set_cons_zero, List.set_cons_succ, i64_w, i32_w]
           rfl
          refine join_ (σ := Nat) 2 #[true, true, true, true, true, true, true, true, true, false, false] (fun s_ => [(45, .agg #[.int .i64 t369, .int .i64 t370]), (47, .agg #[.int .i64 t371, .int .i64 t372]), (48, .tuple #[.agg #[.int .i64 t373, .int .i64 t374], .int .i64 t375]), (13, .pointer (some ⟨s_, 0, none⟩)), (43, .tuple #[.agg #[.int .i64 t373, .int .i64 t374], .int .i64 t375]), (49, .agg #[.int .i64 t373, .int .i64 t374]), (50, .int .i64 t375)]) (fun s_ w' => (w'.cell? ⟨gb347, 0, none⟩ = some (.int .i64 a0_0) ∧ w'.cell? ⟨gb347, 1, none⟩ = some (.int .i64 a0_1) ∧ w'.cell? ⟨gb348, 0, none⟩ = some (.int .i64 a1_0) ∧ w'.cell? ⟨gb348, 1, none⟩ = some (.int .i64 a1_1)) ∧ (w'.heap[gb347]? = some (.cells #[.int .i64 a0_0, .int .i64 a0_1] 23 (0, 0))) ∧ (w'.heap[gb348]? = some (.cells #[.int .i64 a1_0, .int .i64 a1_1] 23 (0, 0))) ∧ (w'.heap[gb352]? = some (.cells #[.int .i64 t349, .int .i64 t350] 23 (0, 0))) ∧ (w'.heap[gb356]? = some (.cells #[.int .i64 t353, .int .i64 t354] 23 (0, 0))) ∧ (w'.heap[gb360]? = some (.cells #[.int .i64 t357, .int .i64 t358] 23 (0, 0))) ∧ (w'.heap[gb368]? = some (.cells #[.int .i64 t365, .int .i64 t366] 27 (0, 0))) ∧ (w'.heap[s_]? = some (.cells #[.int .i64 0, .int .i64 0] 27 (0, 0))) ∧ (w.heap.size ≤ s_) ∧ (w.heap.size ≤ s_) ∧ (gb347 ≠ s_) ∧ (s_ ≠ gb347) ∧ (gb348 ≠ s_) ∧ (s_ ≠ gb348) ∧ (gb352 ≠ s_) ∧ (s_ ≠ gb352) ∧ (gb356 ≠ s_) ∧ (s_ ≠ gb356) ∧ (gb360 ≠ s_) ∧ (s_ ≠ gb360) ∧ (gb368 ≠ s_) ∧ (s_ ≠ gb368) ∧ (Below w.heap.size w w')) ?_ ?_
          rotate_left
          ·
           intro hCont
           refine two_ (i := 1) (j := 8) (Ni := some 45) (Nj := some 13) #[true, true, true, false, false, false, false, false, false, false, false] #[true, false, true, false, false, false, false, false, true, false, false] rfl rfl rfl rfl (two_of HT_.out (by kernel_rfl)) (by decide) (by decide) (fun K hK => ?_) (fun K hK => ?_)
           ·
            skip
            refine goes_ Try.func12 (by kernel_rfl) rfl #[.agg #[.int .i64 a0_0, .int .i64 a0_1]] (by rfl) rfl rfl (by (try simp only [List.map_toArray, List.map_cons, List.map_nil]); first | done | rfl | (simp only [List.length_drop, List.length_take]; rfl)) ?_
            with_reducible refine (mosaiclaw17_Ref.calls a0_0 a0_1 t369 t370 _ A9.out).mono ?_
            rintro e w76 ⟨rfl, hb⟩
            refine ⟨_, rfl, ?_⟩
            have n0_ := bB BK347 hb
            have n1_ := bB BK348 hb
            have n2_ := bB BK352 hb
            have n3_ := bB BK356 hb
            have n4_ := bB BK360 hb
            have n5_ := bB BK368 hb
            have n6_ := hS HB hb
            clear BK347
            clear BK348
            clear BK352
            clear BK356
            clear BK360
            clear BK368
            clear HB
            have BK347 := n0_
            have BK348 := n1_
            have BK352 := n2_
            have BK356 := n3_
            have BK360 := n4_
            have BK368 := n5_
            have HB := n6_
            clear n0_ n1_ n2_ n3_ n4_ n5_ n6_
            (try clear hb)
            (try clear hb2)
            (try clear hk)
            (try clear hi)
            refine hK.out _ _ ⟨(blk_cell BK347.out 0).trans rfl, (blk_cell BK347.out 1).trans rfl, (blk_cell BK348.out 0).trans rfl, (blk_cell BK348.out 1).trans rfl⟩ (fun hHeld => ?_)
            clear hK K
            refine norm_ (a' := ?_) ?_ ?_
            rotate_left
            ·
             show Act.put _ (some 45) _ = _
             simp only [Act.put, List.setIfInBounds_toArray, List.set_cons_zero, List.set_cons_succ, i64_w, i32_w]
             rfl
            refine two_ (i := 3) (j := 8) (Ni := some 47) (Nj := some 13) #[true, true, true, true, false, false, false, false, false, false, false] #[true, true, true, false, false, false, false, false, true, false, false] rfl rfl rfl rfl (two_of HT_.out (by kernel_rfl)) (by decide) (by decide) (fun K hK => ?_) (fun K hK => ?_)
            ·
             skip
             refine goes_ Try.func12 (by kernel_rfl) rfl #[.agg #[.int .i64 a1_0, .int .i64 a1_1]] (by rfl) rfl rfl (by (try simp only [List.map_toArray, List.map_cons, List.map_nil]); first | done | rfl | (simp only [List.length_drop, List.length_take]; rfl)) ?_
             with_reducible refine (mosaiclaw17_Ref.calls a1_0 a1_1 t371 t372 _ A10.out).mono ?_
             rintro e w77 ⟨rfl, hb⟩
             refine ⟨_, rfl, ?_⟩
             have n0_ := bB BK347 hb
             have n1_ := bB BK348 hb
             have n2_ := bB BK352 hb
             have n3_ := bB BK356 hb
             have n4_ := bB BK360 hb
             have n5_ := bB BK368 hb
             have n6_ := hS HB hb
             clear BK347
             clear BK348
             clear BK352
             clear BK356
             clear BK360
             clear BK368
             clear HB
             have BK347 := n0_
             have BK348 := n1_
             have BK352 := n2_
             have BK356 := n3_
             have BK360 := n4_
             have BK368 := n5_
             have HB := n6_
             clear n0_ n1_ n2_ n3_ n4_ n5_ n6_
             (try clear hb)
             (try clear hb2)
             (try clear hk)
             (try clear hi)
             refine hK.out _ _ ⟨(blk_cell BK347.out 0).trans rfl, (blk_cell BK347.out 1).trans rfl, (blk_cell BK348.out 0).trans rfl, (blk_cell BK348.out 1).trans rfl⟩ (fun hHeld => ?_)
             clear hK K
             refine norm_ (a' := ?_) ?_ ?_
             rotate_left
             ·
              show Act.put _ (some 47) _ = _
              simp only [Act.put, List.setIfInBounds_toArray, List.set_cons_zero, List.set_cons_succ, i64_w, i32_w]
              rfl
             refine two_ (i := 4) (j := 8) (Ni := some 48) (Nj := some 13) #[true, true, true, true, true, false, false, false, false, false, false] #[true, true, true, true, false, false, false, false, true, false, false] rfl rfl rfl rfl (two_of HT_.out (by kernel_rfl)) (by decide) (by decide) (fun K hK => ?_) (fun K hK => ?_)
             ·
              skip
              refine goes_ Try.func26 (by kernel_rfl) rfl #[.agg #[.int .i64 t369, .int .i64 t370], .agg #[.int .i64 t371, .int .i64 t372]] (by rfl) rfl rfl (by (try simp only [List.map_toArray, List.map_cons, List.map_nil]); first | done | rfl | (simp only [List.length_drop, List.length_take]; rfl)) ?_
              with_reducible refine (mosaicref17_Sub.calls t369 t370 t371 t372 t373 t374 t375 _ A11.out).mono ?_
              rintro e w78 ⟨rfl, hb⟩
              refine ⟨_, rfl, ?_⟩
              have n0_ := bB BK347 hb
              have n1_ := bB BK348 hb
              have n2_ := bB BK352 hb
              have n3_ := bB BK356 hb
              have n4_ := bB BK360 hb
              have n5_ := bB BK368 hb
              have n6_ := hS HB hb
              clear BK347
              clear BK348
              clear BK352
              clear BK356
              clear BK360
              clear BK368
              clear HB
              have BK347 := n0_
              have BK348 := n1_
              have BK352 := n2_
              have BK356 := n3_
              have BK360 := n4_
              have BK368 := n5_
              have HB := n6_
              clear n0_ n1_ n2_ n3_ n4_ n5_ n6_
              (try clear hb)
              (try clear hb2)
              (try clear hk)
              (try clear hi)
              refine hK.out _ _ ⟨(blk_cell BK347.out 0).trans rfl, (blk_cell BK347.out 1).trans rfl, (blk_cell BK348.out 0).trans rfl, (blk_cell BK348.out 1).trans rfl⟩ (fun hHeld => ?_)
              clear hK K
              refine norm_ (a' := ?_) ?_ ?_
              rotate_left
              ·
               show Act.put _ (some 48) _ = _
               simp only [Act.put, List.setIfInBounds_toArray, List.set_cons_zero, List.set_cons_succ, i64_w, i32_w]
               rfl
              refine pure_ (i := 5) (N := some 43) (v := ?_) (a' := ?_) #[true, true, true, true, true, true, false, false, false, false, false] rfl rfl (any_of HT_.out (by kernel_rfl)) (fun _ _ _ h => h) (Or.inl ⟨by rfl, ?_⟩) ?_ ?_
              rotate_left
              ·
               intro w'
               go_simp
               with_reducible rfl
              rotate_left
              ·
               simp only [Act.put, List.setIfInBounds_toArray, List.set_cons_zero, List.set_cons_succ, i64_w, i32_w]
               rfl
              refine pure_ (i := 6) (N := some 49) (v := ?_) (a' := ?_) #[true, true, true, true, true, true, true, false, false, false, false] rfl rfl (any_of HT_.out (by kernel_rfl)) (fun _ _ _ h => h) (Or.inl ⟨by rfl, ?_⟩) ?_ ?_
              rotate_left
              ·
               intro w'
               go_simp
               with_reducible rfl
              rotate_left
              ·
               simp only [Act.put, List.setIfInBounds_toArray, List.set_cons_zero, List.set_cons_succ, i64_w, i32_w]
               rfl
              refine pure_ (i := 7) (N := some 50) (v := ?_) (a' := ?_) #[true, true, true, true, true, true, true, true, false, false, false] rfl rfl (any_of HT_.out (by kernel_rfl)) (fun _ _ _ h => h) (Or.inl ⟨by rfl, ?_⟩) ?_ ?_
              rotate_left
              ·
               intro w'
               go_simp
               with_reducible rfl
              rotate_left
              ·
               simp only [Act.put, List.setIfInBounds_toArray, List.set_cons_zero, List.set_cons_succ, i64_w, i32_w]
               rfl
              refine one_ (i := 8) (N := some 13) #[true, true, true, true, true, true, true, true, true, false, false] rfl rfl (one_of HT_.out (by kernel_rfl)) (by decide) (fun K hK => ?_)
              refine box_step ?hg (N := 13) ?hd (cs := #[.int .i64 0, .int .i64 0]) (t := 27) ?hr ?_; (case hd => rfl); (case hg => rfl); (case hr => first | (go_simp; done) | (go_simp; rfl))
              intro gb376 hg w79 hbox hb
              have n0_ := bB BK347 hb
              have n1_ := bB BK348 hb
              have n2_ := bB BK352 hb
              have n3_ := bB BK356 hb
              have n4_ := bB BK360 hb
              have n5_ := bB BK368 hb
              have n6_ := hS HB hb
              have n7_ := Aside0.mk (hbox)
              have n8_ := hG HB hg
              have n9_ := hG HB hg
              have n10_ := bNl BK347 hg
              have n11_ := bNg BK347 hg
              have n12_ := bNl BK348 hg
              have n13_ := bNg BK348 hg
              have n14_ := bNl BK352 hg
              have n15_ := bNg BK352 hg
              have n16_ := bNl BK356 hg
              have n17_ := bNg BK356 hg
              have n18_ := bNl BK360 hg
              have n19_ := bNg BK360 hg
              have n20_ := bNl BK368 hg
              have n21_ := bNg BK368 hg
              clear BK347
              clear BK348
              clear BK352
              clear BK356
              clear BK360
              clear BK368
              clear HB
              have BK347 := n0_
              have BK348 := n1_
              have BK352 := n2_
              have BK356 := n3_
              have BK360 := n4_
              have BK368 := n5_
              have HB := n6_
              have BK376 := n7_
              have GW376 := n8_
              have GE376 := n9_
              have NB347_376 := n10_
              have NB376_347 := n11_
              have NB348_376 := n12_
              have NB376_348 := n13_
              have NB352_376 := n14_
              have NB376_352 := n15_
              have NB356_376 := n16_
              have NB376_356 := n17_
              have NB360_376 := n18_
              have NB376_360 := n19_
              have NB368_376 := n20_
              have NB376_368 := n21_
              clear n0_ n1_ n2_ n3_ n4_ n5_ n6_ n7_ n8_ n9_ n10_ n11_ n12_ n13_ n14_ n15_ n16_ n17_ n18_ n19_ n20_ n21_
              clear hb hbox hg
              refine hK.out _ _ ⟨(blk_cell BK347.out 0).trans rfl, (blk_cell BK347.out 1).trans rfl, (blk_cell BK348.out 0).trans rfl, (blk_cell BK348.out 1).trans rfl⟩ (fun hHeld => ?_)
              clear hK K
              refine norm_ (a' := ?_) ?_ ?_
              rotate_left
              ·
               show Act.put _ (some 13) _ = _
               simp only [Act.put, List.setIfInBounds_toArray, List.set_cons_zero, List.set_cons_succ, i64_w, i32_w]
               rfl
              exact norm_ (by simp only [putAll, Act.put, List.setIfInBounds_toArray, List.set_cons_zero, List.set_cons_succ]) (hCont (gb376) _ ⟨hHeld, (by exact bS BK347), (by exact bS BK348), (by exact bS BK352), (by exact bS BK356), (by exact bS BK360), (by exact bS BK368), (by exact bS BK376), GW376.out, GE376.out, NB347_376.out, NB376_347.out, NB348_376.out, NB376_348.out, NB352_376.out, NB376_352.out, NB356_376.out, NB376_356.out, NB360_376.out, NB376_360.out, NB368_376.out, NB376_368.out, (by repeat (first | (with_reducible first | exact HB.out | apply below_alloc | apply pw_below_drewN | apply below_drew1 | refine below_set ?_ GE347.out | refine below_set ?_ GE348.out | refine below_set ?_ GE352.out | refine below_set ?_ GE356.out | refine below_set ?_ GE360.out | refine below_set ?_ GE368.out | refine below_set ?_ GE376.out) | exact HB.out))⟩)
             ·
              skip
              refine box_step ?hg (N := 13) ?hd (cs := #[.int .i64 0, .int .i64 0]) (t := 27) ?hr ?_; (case hd => rfl); (case hg => rfl); (case hr => first | (go_simp; done) | (go_simp; rfl))
              intro gb376 hg w78 hbox hb
              have n0_ := bB BK347 hb
              have n1_ := bB BK348 hb
              have n2_ := bB BK352 hb
              have n3_ := bB BK356 hb
              have n4_ := bB BK360 hb
              have n5_ := bB BK368 hb
              have n6_ := hS HB hb
              have n7_ := Aside0.mk (hbox)
              have n8_ := hG HB hg
              have n9_ := hG HB hg
              have n10_ := bNl BK347 hg
              have n11_ := bNg BK347 hg
              have n12_ := bNl BK348 hg
              have n13_ := bNg BK348 hg
              have n14_ := bNl BK352 hg
              have n15_ := bNg BK352 hg
              have n16_ := bNl BK356 hg
              have n17_ := bNg BK356 hg
              have n18_ := bNl BK360 hg
              have n19_ := bNg BK360 hg
              have n20_ := bNl BK368 hg
              have n21_ := bNg BK368 hg
              clear BK347
              clear BK348
              clear BK352
              clear BK356
              clear BK360
              clear BK368
              clear HB
              have BK347 := n0_
              have BK348 := n1_
              have BK352 := n2_
              have BK356 := n3_
              have BK360 := n4_
              have BK368 := n5_
              have HB := n6_
              have BK376 := n7_
              have GW376 := n8_
              have GE376 := n9_
              have NB347_376 := n10_
              have NB376_347 := n11_
              have NB348_376 := n12_
              have NB376_348 := n13_
              have NB352_376 := n14_
              have NB376_352 := n15_
              have NB356_376 := n16_
              have NB376_356 := n17_
              have NB360_376 := n18_
              have NB376_360 := n19_
              have NB368_376 := n20_
              have NB376_368 := n21_
              clear n0_ n1_ n2_ n3_ n4_ n5_ n6_ n7_ n8_ n9_ n10_ n11_ n12_ n13_ n14_ n15_ n16_ n17_ n18_ n19_ n20_ n21_
              clear hb hbox hg
              refine hK.out _ _ ⟨(blk_cell BK347.out 0).trans rfl, (blk_cell BK347.out 1).trans rfl, (blk_cell BK348.out 0).trans rfl, (blk_cell BK348.out 1).trans rfl⟩ (fun hHeld => ?_)
              clear hK K
              refine norm_ (a' := ?_) ?_ ?_
              rotate_left
              ·
               show Act.put _ (some 13) _ = _
               simp only [Act.put, List.setIfInBounds_toArray, List.set_cons_zero, List.set_cons_succ, i64_w, i32_w]
               rfl
              refine one_ (i := 4) (N := some 48) #[true, true, true, true, true, false, false, false, true, false, false] rfl rfl (one_of HT_.out (by kernel_rfl)) (by decide) (fun K hK => ?_)
              refine goes_ Try.func26 (by kernel_rfl) rfl #[.agg #[.int .i64 t369, .int .i64 t370], .agg #[.int .i64 t371, .int .i64 t372]] (by rfl) rfl rfl (by (try simp only [List.map_toArray, List.map_cons, List.map_nil]); first | done | rfl | (simp only [List.length_drop, List.length_take]; rfl)) ?_
              with_reducible refine (mosaicref17_Sub.calls t369 t370 t371 t372 t373 t374 t375 _ A11.out).mono ?_
              rintro e w79 ⟨rfl, hb⟩
              refine ⟨_, rfl, ?_⟩
              have n0_ := bB BK347 hb
              have n1_ := bB BK348 hb
              have n2_ := bB BK352 hb
              have n3_ := bB BK356 hb
              have n4_ := bB BK360 hb
              have n5_ := bB BK368 hb
              have n6_ := bB BK376 hb
              have n7_ := hS HB hb
              clear BK347
              clear BK348
              clear BK352
              clear BK356
              clear BK360
              clear BK368
              clear BK376
              clear HB
              have BK347 := n0_
              have BK348 := n1_
              have BK352 := n2_
              have BK356 := n3_
              have BK360 := n4_
              have BK368 := n5_
              have BK376 := n6_
              have HB := n7_
              clear n0_ n1_ n2_ n3_ n4_ n5_ n6_ n7_
              (try clear hb)
              (try clear hb2)
              (try clear hk)
              (try clear hi)
              refine hK.out _ _ ⟨(blk_cell BK347.out 0).trans rfl, (blk_cell BK347.out 1).trans rfl, (blk_cell BK348.out 0).trans rfl, (blk_cell BK348.out 1).trans rfl⟩ (fun hHeld => ?_)
              clear hK K
              refine norm_ (a' := ?_) ?_ ?_
              rotate_left
              ·
               show Act.put _ (some 48) _ = _
               simp only [Act.put, List.setIfInBounds_toArray, List.set_cons_zero, List.set_cons_succ, i64_w, i32_w]
               rfl
              refine pure_ (i := 5) (N := some 43) (v := ?_) (a' := ?_) #[true, true, true, true, true, true, false, false, true, false, false] rfl rfl (any_of HT_.out (by kernel_rfl)) (fun _ _ _ h => h) (Or.inl ⟨by rfl, ?_⟩) ?_ ?_
              rotate_left
              ·
               intro w'
               go_simp
               with_reducible rfl
              rotate_left
              ·
               simp only [Act.put, List.setIfInBounds_toArray, List.set_cons_zero, List.set_cons_succ, i64_w, i32_w]
               rfl
              refine pure_ (i := 6) (N := some 49) (v := ?_) (a' := ?_) #[true, true, true, true, true, true, true, false, true, false, false] rfl rfl (any_of HT_.out (by kernel_rfl)) (fun _ _ _ h => h) (Or.inl ⟨by rfl, ?_⟩) ?_ ?_
              rotate_left
              ·
               intro w'
               go_simp
               with_reducible rfl
              rotate_left
              ·
               simp only [Act.put, List.setIfInBounds_toArray, List.set_cons_zero, List.set_cons_succ, i64_w, i32_w]
               rfl
              refine pure_ (i := 7) (N := some 50) (v := ?_) (a' := ?_) #[true, true, true, true, true, true, true, true, true, false, false] rfl rfl (any_of HT_.out (by kernel_rfl)) (fun _ _ _ h => h) (Or.inl ⟨by rfl, ?_⟩) ?_ ?_
              rotate_left
              ·
               intro w'
               go_simp
               with_reducible rfl
              rotate_left
              ·
               simp only [Act.put, List.setIfInBounds_toArray, List.set_cons_zero, List.set_cons_succ, i64_w, i32_w]
               rfl
              exact norm_ (by simp only [putAll, Act.put, List.setIfInBounds_toArray, List.set_cons_zero, List.set_cons_succ]) (hCont (gb376) _ ⟨hHeld, (by exact bS BK347), (by exact bS BK348), (by exact bS BK352), (by exact bS BK356), (by exact bS BK360), (by exact bS BK368), (by exact bS BK376), GW376.out, GE376.out, NB347_376.out, NB376_347.out, NB348_376.out, NB376_348.out, NB352_376.out, NB376_352.out, NB356_376.out, NB376_356.out, NB360_376.out, NB376_360.out, NB368_376.out, NB376_368.out, (by repeat (first | (with_reducible first | exact HB.out | apply below_alloc | apply pw_below_drewN | apply below_drew1 | refine below_set ?_ GE347.out | refine below_set ?_ GE348.out | refine below_set ?_ GE352.out | refine below_set ?_ GE356.out | refine below_set ?_ GE360.out | refine below_set ?_ GE368.out | refine below_set ?_ GE376.out) | exact HB.out))⟩)
            ·
             skip
             refine box_step ?hg (N := 13) ?hd (cs := #[.int .i64 0, .int .i64 0]) (t := 27) ?hr ?_; (case hd => rfl); (case hg => rfl); (case hr => first | (go_simp; done) | (go_simp; rfl))
             intro gb376 hg w77 hbox hb
             have n0_ := bB BK347 hb
             have n1_ := bB BK348 hb
             have n2_ := bB BK352 hb
             have n3_ := bB BK356 hb
             have n4_ := bB BK360 hb
             have n5_ := bB BK368 hb
             have n6_ := hS HB hb
             have n7_ := Aside0.mk (hbox)
             have n8_ := hG HB hg
             have n9_ := hG HB hg
             have n10_ := bNl BK347 hg
             have n11_ := bNg BK347 hg
             have n12_ := bNl BK348 hg
             have n13_ := bNg BK348 hg
             have n14_ := bNl BK352 hg
             have n15_ := bNg BK352 hg
             have n16_ := bNl BK356 hg
             have n17_ := bNg BK356 hg
             have n18_ := bNl BK360 hg
             have n19_ := bNg BK360 hg
             have n20_ := bNl BK368 hg
             have n21_ := bNg BK368 hg
             clear BK347
             clear BK348
             clear BK352
             clear BK356
             clear BK360
             clear BK368
             clear HB
             have BK347 := n0_
             have BK348 := n1_
             have BK352 := n2_
             have BK356 := n3_
             have BK360 := n4_
             have BK368 := n5_
             have HB := n6_
             have BK376 := n7_
             have GW376 := n8_
             have GE376 := n9_
             have NB347_376 := n10_
             have NB376_347 := n11_
             have NB348_376 := n12_
             have NB376_348 := n13_
             have NB352_376 := n14_
             have NB376_352 := n15_
             have NB356_376 := n16_
             have NB376_356 := n17_
             have NB360_376 := n18_
             have NB376_360 := n19_
             have NB368_376 := n20_
             have NB376_368 := n21_
             clear n0_ n1_ n2_ n3_ n4_ n5_ n6_ n7_ n8_ n9_ n10_ n11_ n12_ n13_ n14_ n15_ n16_ n17_ n18_ n19_ n20_ n21_
             clear hb hbox hg
             refine hK.out _ _ ⟨(blk_cell BK347.out 0).trans rfl, (blk_cell BK347.out 1).trans rfl, (blk_cell BK348.out 0).trans rfl, (blk_cell BK348.out 1).trans rfl⟩ (fun hHeld => ?_)
             clear hK K
             refine norm_ (a' := ?_) ?_ ?_
             rotate_left
             ·
              show Act.put _ (some 13) _ = _
              simp only [Act.put, List.setIfInBounds_toArray, List.set_cons_zero, List.set_cons_succ, i64_w, i32_w]
              rfl
             refine one_ (i := 3) (N := some 47) #[true, true, true, true, false, false, false, false, true, false, false] rfl rfl (one_of HT_.out (by kernel_rfl)) (by decide) (fun K hK => ?_)
             refine goes_ Try.func12 (by kernel_rfl) rfl #[.agg #[.int .i64 a1_0, .int .i64 a1_1]] (by rfl) rfl rfl (by (try simp only [List.map_toArray, List.map_cons, List.map_nil]); first | done | rfl | (simp only [List.length_drop, List.length_take]; rfl)) ?_
             with_reducible refine (mosaiclaw17_Ref.calls a1_0 a1_1 t371 t372 _ A10.out).mono ?_
             rintro e w78 ⟨rfl, hb⟩
             refine ⟨_, rfl, ?_⟩
             have n0_ := bB BK347 hb
             have n1_ := bB BK348 hb
             have n2_ := bB BK352 hb
             have n3_ := bB BK356 hb
             have n4_ := bB BK360 hb
             have n5_ := bB BK368 hb
             have n6_ := bB BK376 hb
             have n7_ := hS HB hb
             clear BK347
             clear BK348
             clear BK352
             clear BK356
             clear BK360
             clear BK368
             clear BK376
             clear HB
             have BK347 := n0_
             have BK348 := n1_
             have BK352 := n2_
             have BK356 := n3_
             have BK360 := n4_
             have BK368 := n5_
             have BK376 := n6_
             have HB := n7_
             clear n0_ n1_ n2_ n3_ n4_ n5_ n6_ n7_
             (try clear hb)
             (try clear hb2)
             (try clear hk)
             (try clear hi)
             refine hK.out _ _ ⟨(blk_cell BK347.out 0).trans rfl, (blk_cell BK347.out 1).trans rfl, (blk_cell BK348.out 0).trans rfl, (blk_cell BK348.out 1).trans rfl⟩ (fun hHeld => ?_)
             clear hK K
             refine norm_ (a' := ?_) ?_ ?_
             rotate_left
             ·
              show Act.put _ (some 47) _ = _
              simp only [Act.put, List.setIfInBounds_toArray, List.set_cons_zero, List.set_cons_succ, i64_w, i32_w]
              rfl
             refine one_ (i := 4) (N := some 48) #[true, true, true, true, true, false, false, false, true, false, false] rfl rfl (one_of HT_.out (by kernel_rfl)) (by decide) (fun K hK => ?_)
             refine goes_ Try.func26 (by kernel_rfl) rfl #[.agg #[.int .i64 t369, .int .i64 t370], .agg #[.int .i64 t371, .int .i64 t372]] (by rfl) rfl rfl (by (try simp only [List.map_toArray, List.map_cons, List.map_nil]); first | done | rfl | (simp only [List.length_drop, List.length_take]; rfl)) ?_
             with_reducible refine (mosaicref17_Sub.calls t369 t370 t371 t372 t373 t374 t375 _ A11.out).mono ?_
             rintro e w79 ⟨rfl, hb⟩
             refine ⟨_, rfl, ?_⟩
             have n0_ := bB BK347 hb
             have n1_ := bB BK348 hb
             have n2_ := bB BK352 hb
             have n3_ := bB BK356 hb
             have n4_ := bB BK360 hb
             have n5_ := bB BK368 hb
             have n6_ := bB BK376 hb
             have n7_ := hS HB hb
             clear BK347
             clear BK348
             clear BK352
             clear BK356
             clear BK360
             clear BK368
             clear BK376
             clear HB
             have BK347 := n0_
             have BK348 := n1_
             have BK352 := n2_
             have BK356 := n3_
             have BK360 := n4_
             have BK368 := n5_
             have BK376 := n6_
             have HB := n7_
             clear n0_ n1_ n2_ n3_ n4_ n5_ n6_ n7_
             (try clear hb)
             (try clear hb2)
             (try clear hk)
             (try clear hi)
             refine hK.out _ _ ⟨(blk_cell BK347.out 0).trans rfl, (blk_cell BK347.out 1).trans rfl, (blk_cell BK348.out 0).trans rfl, (blk_cell BK348.out 1).trans rfl⟩ (fun hHeld => ?_)
             clear hK K
             refine norm_ (a' := ?_) ?_ ?_
             rotate_left
             ·
              show Act.put _ (some 48) _ = _
              simp only [Act.put, List.setIfInBounds_toArray, List.set_cons_zero, List.set_cons_succ, i64_w, i32_w]
              rfl
             refine pure_ (i := 5) (N := some 43) (v := ?_) (a' := ?_) #[true, true, true, true, true, true, false, false, true, false, false] rfl rfl (any_of HT_.out (by kernel_rfl)) (fun _ _ _ h => h) (Or.inl ⟨by rfl, ?_⟩) ?_ ?_
             rotate_left
             ·
              intro w'
              go_simp
              with_reducible rfl
             rotate_left
             ·
              simp only [Act.put, List.setIfInBounds_toArray, List.set_cons_zero, List.set_cons_succ, i64_w, i32_w]
              rfl
             refine pure_ (i := 6) (N := some 49) (v := ?_) (a' := ?_) #[true, true, true, true, true, true, true, false, true, false, false] rfl rfl (any_of HT_.out (by kernel_rfl)) (fun _ _ _ h => h) (Or.inl ⟨by rfl, ?_⟩) ?_ ?_
             rotate_left
             ·
              intro w'
              go_simp
              with_reducible rfl
             rotate_left
             ·
              simp only [Act.put, List.setIfInBounds_toArray, List.set_cons_zero, List.set_cons_succ, i64_w, i32_w]
              rfl
             refine pure_ (i := 7) (N := some 50) (v := ?_) (a' := ?_) #[true, true, true, true, true, true, true, true, true, false, false] rfl rfl (any_of HT_.out (by kernel_rfl)) (fun _ _ _ h => h) (Or.inl ⟨by rfl, ?_⟩) ?_ ?_
             rotate_left
             ·
              intro w'
              go_simp
              with_reducible rfl
             rotate_left
             ·
              simp only [Act.put, List.setIfInBounds_toArray, List.set_cons_zero, List.set_cons_succ, i64_w, i32_w]
              rfl
             exact norm_ (by simp only [putAll, Act.put, List.setIfInBounds_toArray, List.set_cons_zero, List.set_cons_succ]) (hCont (gb376) _ ⟨hHeld, (by exact bS BK347), (by exact bS BK348), (by exact bS BK352), (by exact bS BK356), (by exact bS BK360), (by exact bS BK368), (by exact bS BK376), GW376.out, GE376.out, NB347_376.out, NB376_347.out, NB348_376.out, NB376_348.out, NB352_376.out, NB376_352.out, NB356_376.out, NB376_356.out, NB360_376.out, NB376_360.out, NB368_376.out, NB376_368.out, (by repeat (first | (with_reducible first | exact HB.out | apply below_alloc | apply pw_below_drewN | apply below_drew1 | refine below_set ?_ GE347.out | refine below_set ?_ GE348.out | refine below_set ?_ GE352.out | refine below_set ?_ GE356.out | refine below_set ?_ GE360.out | refine below_set ?_ GE368.out | refine below_set ?_ GE376.out) | exact HB.out))⟩)
           ·
            skip
            refine box_step ?hg (N := 13) ?hd (cs := #[.int .i64 0, .int .i64 0]) (t := 27) ?hr ?_; (case hd => rfl); (case hg => rfl); (case hr => first | (go_simp; done) | (go_simp; rfl))
            intro gb376 hg w76 hbox hb
            have n0_ := bB BK347 hb
            have n1_ := bB BK348 hb
            have n2_ := bB BK352 hb
            have n3_ := bB BK356 hb
            have n4_ := bB BK360 hb
            have n5_ := bB BK368 hb
            have n6_ := hS HB hb
            have n7_ := Aside0.mk (hbox)
            have n8_ := hG HB hg
            have n9_ := hG HB hg
            have n10_ := bNl BK347 hg
            have n11_ := bNg BK347 hg
            have n12_ := bNl BK348 hg
            have n13_ := bNg BK348 hg
            have n14_ := bNl BK352 hg
            have n15_ := bNg BK352 hg
            have n16_ := bNl BK356 hg
            have n17_ := bNg BK356 hg
            have n18_ := bNl BK360 hg
            have n19_ := bNg BK360 hg
            have n20_ := bNl BK368 hg
            have n21_ := bNg BK368 hg
            clear BK347
            clear BK348
            clear BK352
            clear BK356
            clear BK360
            clear BK368
            clear HB
            have BK347 := n0_
            have BK348 := n1_
            have BK352 := n2_
            have BK356 := n3_
            have BK360 := n4_
            have BK368 := n5_
            have HB := n6_
            have BK376 := n7_
            have GW376 := n8_
            have GE376 := n9_
            have NB347_376 := n10_
            have NB376_347 := n11_
            have NB348_376 := n12_
            have NB376_348 := n13_
            have NB352_376 := n14_
            have NB376_352 := n15_
            have NB356_376 := n16_
            have NB376_356 := n17_
            have NB360_376 := n18_
            have NB376_360 := n19_
            have NB368_376 := n20_
            have NB376_368 := n21_
            clear n0_ n1_ n2_ n3_ n4_ n5_ n6_ n7_ n8_ n9_ n10_ n11_ n12_ n13_ n14_ n15_ n16_ n17_ n18_ n19_ n20_ n21_
            clear hb hbox hg
            refine hK.out _ _ ⟨(blk_cell BK347.out 0).trans rfl, (blk_cell BK347.out 1).trans rfl, (blk_cell BK348.out 0).trans rfl, (blk_cell BK348.out 1).trans rfl⟩ (fun hHeld => ?_)
            clear hK K
            refine norm_ (a' := ?_) ?_ ?_
            rotate_left
            ·
             show Act.put _ (some 13) _ = _
             simp only [Act.put, List.setIfInBounds_toArray, List.set_cons_zero, List.set_cons_succ, i64_w, i32_w]
             rfl
            refine one_ (i := 1) (N := some 45) #[true, true, true, false, false, false, false, false, true, false, false] rfl rfl (one_of HT_.out (by kernel_rfl)) (by decide) (fun K hK => ?_)
            refine goes_ Try.func12 (by kernel_rfl) rfl #[.agg #[.int .i64 a0_0, .int .i64 a0_1]] (by rfl) rfl rfl (by (try simp only [List.map_toArray, List.map_cons, List.map_nil]); first | done | rfl | (simp only [List.length_drop, List.length_take]; rfl)) ?_
            with_reducible refine (mosaiclaw17_Ref.calls a0_0 a0_1 t369 t370 _ A9.out).mono ?_
            rintro e w77 ⟨rfl, hb⟩
            refine ⟨_, rfl, ?_⟩
            have n0_ := bB BK347 hb
            have n1_ := bB BK348 hb
            have n2_ := bB BK352 hb
            have n3_ := bB BK356 hb
            have n4_ := bB BK360 hb
            have n5_ := bB BK368 hb
            have n6_ := bB BK376 hb
            have n7_ := hS HB hb
            clear BK347
            clear BK348
            clear BK352
            clear BK356
            clear BK360
            clear BK368
            clear BK376
            clear HB
            have BK347 := n0_
            have BK348 := n1_
            have BK352 := n2_
            have BK356 := n3_
            have BK360 := n4_
            have BK368 := n5_
            have BK376 := n6_
            have HB := n7_
            clear n0_ n1_ n2_ n3_ n4_ n5_ n6_ n7_
            (try clear hb)
            (try clear hb2)
            (try clear hk)
            (try clear hi)
            refine hK.out _ _ ⟨(blk_cell BK347.out 0).trans rfl, (blk_cell BK347.out 1).trans rfl, (blk_cell BK348.out 0).trans rfl, (blk_cell BK348.out 1).trans rfl⟩ (fun hHeld => ?_)
            clear hK K
            refine norm_ (a' := ?_) ?_ ?_
            rotate_left
            ·
             show Act.put _ (some 45) _ = _
             simp only [Act.put, List.setIfInBounds_toArray, List.set_cons_zero, List.set_cons_succ, i64_w, i32_w]
             rfl
            refine one_ (i := 3) (N := some 47) #[true, true, true, true, false, false, false, false, true, false, false] rfl rfl (one_of HT_.out (by kernel_rfl)) (by decide) (fun K hK => ?_)
            refine goes_ Try.func12 (by kernel_rfl) rfl #[.agg #[.int .i64 a1_0, .int .i64 a1_1]] (by rfl) rfl rfl (by (try simp only [List.map_toArray, List.map_cons, List.map_nil]); first | done | rfl | (simp only [List.length_drop, List.length_take]; rfl)) ?_
            with_reducible refine (mosaiclaw17_Ref.calls a1_0 a1_1 t371 t372 _ A10.out).mono ?_
            rintro e w78 ⟨rfl, hb⟩
            refine ⟨_, rfl, ?_⟩
            have n0_ := bB BK347 hb
            have n1_ := bB BK348 hb
            have n2_ := bB BK352 hb
            have n3_ := bB BK356 hb
            have n4_ := bB BK360 hb
            have n5_ := bB BK368 hb
            have n6_ := bB BK376 hb
            have n7_ := hS HB hb
            clear BK347
            clear BK348
            clear BK352
            clear BK356
            clear BK360
            clear BK368
            clear BK376
            clear HB
            have BK347 := n0_
            have BK348 := n1_
            have BK352 := n2_
            have BK356 := n3_
            have BK360 := n4_
            have BK368 := n5_
            have BK376 := n6_
            have HB := n7_
            clear n0_ n1_ n2_ n3_ n4_ n5_ n6_ n7_
            (try clear hb)
            (try clear hb2)
            (try clear hk)
            (try clear hi)
            refine hK.out _ _ ⟨(blk_cell BK347.out 0).trans rfl, (blk_cell BK347.out 1).trans rfl, (blk_cell BK348.out 0).trans rfl, (blk_cell BK348.out 1).trans rfl⟩ (fun hHeld => ?_)
            clear hK K
            refine norm_ (a' := ?_) ?_ ?_
            rotate_left
            ·
             show Act.put _ (some 47) _ = _
             simp only [Act.put, List.setIfInBounds_toArray, List.set_cons_zero, List.set_cons_succ, i64_w, i32_w]
             rfl
            refine one_ (i := 4) (N := some 48) #[true, true, true, true, true, false, false, false, true, false, false] rfl rfl (one_of HT_.out (by kernel_rfl)) (by decide) (fun K hK => ?_)
            refine goes_ Try.func26 (by kernel_rfl) rfl #[.agg #[.int .i64 t369, .int .i64 t370], .agg #[.int .i64 t371, .int .i64 t372]] (by rfl) rfl rfl (by (try simp only [List.map_toArray, List.map_cons, List.map_nil]); first | done | rfl | (simp only [List.length_drop, List.length_take]; rfl)) ?_
            with_reducible refine (mosaicref17_Sub.calls t369 t370 t371 t372 t373 t374 t375 _ A11.out).mono ?_
            rintro e w79 ⟨rfl, hb⟩
            refine ⟨_, rfl, ?_⟩
            have n0_ := bB BK347 hb
            have n1_ := bB BK348 hb
            have n2_ := bB BK352 hb
            have n3_ := bB BK356 hb
            have n4_ := bB BK360 hb
            have n5_ := bB BK368 hb
            have n6_ := bB BK376 hb
            have n7_ := hS HB hb
            clear BK347
            clear BK348
            clear BK352
            clear BK356
            clear BK360
            clear BK368
            clear BK376
            clear HB
            have BK347 := n0_
            have BK348 := n1_
            have BK352 := n2_
            have BK356 := n3_
            have BK360 := n4_
            have BK368 := n5_
            have BK376 := n6_
            have HB := n7_
            clear n0_ n1_ n2_ n3_ n4_ n5_ n6_ n7_
            (try clear hb)
            (try clear hb2)
            (try clear hk)
            (try clear hi)
            refine hK.out _ _ ⟨(blk_cell BK347.out 0).trans rfl, (blk_cell BK347.out 1).trans rfl, (blk_cell BK348.out 0).trans rfl, (blk_cell BK348.out 1).trans rfl⟩ (fun hHeld => ?_)
            clear hK K
            refine norm_ (a' := ?_) ?_ ?_
            rotate_left
            ·
             show Act.put _ (some 48) _ = _
             simp only [Act.put, List.setIfInBounds_toArray, List.set_cons_zero, List.set_cons_succ, i64_w, i32_w]
             rfl
            refine pure_ (i := 5) (N := some 43) (v := ?_) (a' := ?_) #[true, true, true, true, true, true, false, false, true, false, false] rfl rfl (any_of HT_.out (by kernel_rfl)) (fun _ _ _ h => h) (Or.inl ⟨by rfl, ?_⟩) ?_ ?_
            rotate_left
            ·
             intro w'
             go_simp
             with_reducible rfl
            rotate_left
            ·
             simp only [Act.put, List.setIfInBounds_toArray, List.set_cons_zero, List.set_cons_succ, i64_w, i32_w]
             rfl
            refine pure_ (i := 6) (N := some 49) (v := ?_) (a' := ?_) #[true, true, true, true, true, true, true, false, true, false, false] rfl rfl (any_of HT_.out (by kernel_rfl)) (fun _ _ _ h => h) (Or.inl ⟨by rfl, ?_⟩) ?_ ?_
            rotate_left
            ·
             intro w'
             go_simp
             with_reducible rfl
            rotate_left
            ·
             simp only [Act.put, List.setIfInBounds_toArray, List.set_cons_zero, List.set_cons_succ, i64_w, i32_w]
             rfl
            refine pure_ (i := 7) (N := some 50) (v := ?_) (a' := ?_) #[true, true, true, true, true, true, true, true, true, false, false] rfl rfl (any_of HT_.out (by kernel_rfl)) (fun _ _ _ h => h) (Or.inl ⟨by rfl, ?_⟩) ?_ ?_
            rotate_left
            ·
             intro w'
             go_simp
             with_reducible rfl
            rotate_left
            ·
             simp only [Act.put, List.setIfInBounds_toArray, List.set_cons_zero, List.set_cons_succ, i64_w, i32_w]
             rfl
            exact norm_ (by simp only [putAll, Act.put, List.setIfInBounds_toArray, List.set_cons_zero, List.set_cons_succ]) (hCont (gb376) _ ⟨hHeld, (by exact bS BK347), (by exact bS BK348), (by exact bS BK352), (by exact bS BK356), (by exact bS BK360), (by exact bS BK368), (by exact bS BK376), GW376.out, GE376.out, NB347_376.out, NB376_347.out, NB348_376.out, NB376_348.out, NB352_376.out, NB376_352.out, NB356_376.out, NB376_356.out, NB360_376.out, NB376_360.out, NB368_376.out, NB376_368.out, (by repeat (first | (with_reducible first | exact HB.out | apply below_alloc | apply pw_below_drewN | apply below_drew1 | refine below_set ?_ GE347.out | refine below_set ?_ GE348.out | refine below_set ?_ GE352.out | refine below_set ?_ GE356.out | refine below_set ?_ GE360.out | refine below_set ?_ GE368.out | refine below_set ?_ GE376.out) | exact HB.out))⟩)
          rintro gb376 w80 ⟨hS_, h0_, h1_, h2_, h3_, h4_, h5_, h6_, h7_, h8_, h9_, h10_, h11_, h12_, h13_, h14_, h15_, h16_, h17_, h18_, h19_, h20_, h21_⟩
          have n0_ : Aside0 (w80.heap[gb347]? = some (.cells #[.int .i64 a0_0, .int .i64 a0_1] 23 (0, 0))) := ⟨h0_⟩
          have n1_ : Aside0 (w80.heap[gb348]? = some (.cells #[.int .i64 a1_0, .int .i64 a1_1] 23 (0, 0))) := ⟨h1_⟩
          have n2_ : Aside0 (w80.heap[gb352]? = some (.cells #[.int .i64 t349, .int .i64 t350] 23 (0, 0))) := ⟨h2_⟩
          have n3_ : Aside0 (w80.heap[gb356]? = some (.cells #[.int .i64 t353, .int .i64 t354] 23 (0, 0))) := ⟨h3_⟩
          have n4_ : Aside0 (w80.heap[gb360]? = some (.cells #[.int .i64 t357, .int .i64 t358] 23 (0, 0))) := ⟨h4_⟩
          have n5_ : Aside0 (w80.heap[gb368]? = some (.cells #[.int .i64 t365, .int .i64 t366] 27 (0, 0))) := ⟨h5_⟩
          have n6_ : Aside0 (w80.heap[gb376]? = some (.cells #[.int .i64 0, .int .i64 0] 27 (0, 0))) := ⟨h6_⟩
          have n7_ : Aside0 (w.heap.size ≤ gb376) := ⟨h7_⟩
          have n8_ : Aside0 (w.heap.size ≤ gb376) := ⟨h8_⟩
          have n9_ : Aside0 (gb347 ≠ gb376) := ⟨h9_⟩
          have n10_ : Aside0 (gb376 ≠ gb347) := ⟨h10_⟩
          have n11_ : Aside0 (gb348 ≠ gb376) := ⟨h11_⟩
          have n12_ : Aside0 (gb376 ≠ gb348) := ⟨h12_⟩
          have n13_ : Aside0 (gb352 ≠ gb376) := ⟨h13_⟩
          have n14_ : Aside0 (gb376 ≠ gb352) := ⟨h14_⟩
          have n15_ : Aside0 (gb356 ≠ gb376) := ⟨h15_⟩
          have n16_ : Aside0 (gb376 ≠ gb356) := ⟨h16_⟩
          have n17_ : Aside0 (gb360 ≠ gb376) := ⟨h17_⟩
          have n18_ : Aside0 (gb376 ≠ gb360) := ⟨h18_⟩
          have n19_ : Aside0 (gb368 ≠ gb376) := ⟨h19_⟩
          have n20_ : Aside0 (gb376 ≠ gb368) := ⟨h20_⟩
          have n21_ : Aside0 (Below w.heap.size w w80) := ⟨h21_⟩
          clear BK347
          clear BK348
          clear BK352
          clear BK356
          clear BK360
          clear BK368
          clear HB
          clear h0_ h1_ h2_ h3_ h4_ h5_ h6_ h7_ h8_ h9_ h10_ h11_ h12_ h13_ h14_ h15_ h16_ h17_ h18_ h19_ h20_ h21_
          have BK347 := n0_
          have BK348 := n1_
          have BK352 := n2_
          have BK356 := n3_
          have BK360 := n4_
          have BK368 := n5_
          have BK376 := n6_
          have GW376 := n7_
          have GE376 := n8_
          have NB347_376 := n9_
          have NB376_347 := n10_
          have NB348_376 := n11_
          have NB376_348 := n12_
          have NB352_376 := n13_
          have NB376_352 := n14_
          have NB356_376 := n15_
          have NB376_356 := n16_
          have NB360_376 := n17_
          have NB376_360 := n18_
          have NB368_376 := n19_
          have NB376_368 := n20_
          have HB := n21_
          clear n0_ n1_ n2_ n3_ n4_ n5_ n6_ n7_ n8_ n9_ n10_ n11_ n12_ n13_ n14_ n15_ n16_ n17_ n18_ n19_ n20_ n21_
          have hHeld : w80.cell? ⟨gb347, 0, none⟩ = some (.int .i64 a0_0) ∧ w80.cell? ⟨gb347, 1, none⟩ = some (.int .i64 a0_1) ∧ w80.cell? ⟨gb348, 0, none⟩ = some (.int .i64 a1_0) ∧ w80.cell? ⟨gb348, 1, none⟩ = some (.int .i64 a1_1) := hS_
          refine norm_ (a' := ?_) ?_ ?_
          rotate_left
          ·
           simp only [putAll, Act.put, List.setIfInBounds_toArray, List.set_cons_zero, List.set_cons_succ]
           rfl
          refine one_ (i := 9) (N := none) #[true, true, true, true, true, true, true, true, true, true, false] rfl rfl (one_of HT_.out (by kernel_rfl)) (by decide) (fun K hK => ?_)
          have hs81 : w80.cell? ⟨gb376, 0, none⟩ = some (.int .i64 0) := (blk_cell BK376.out 0).trans rfl
          have hfs81 := blk_frozen BK376.out 0
          have hns81_0 := NB347_376.out
          have hns81_1 := NB348_376.out
          have hns81_2 := NB352_376.out
          have hns81_3 := NB356_376.out
          have hns81_4 := NB360_376.out
          have hns81_5 := NB368_376.out
          have hms81_0 := NB376_347.out
          have hms81_1 := NB376_348.out
          have hms81_2 := NB376_352.out
          have hms81_3 := NB376_356.out
          have hms81_4 := NB376_360.out
          have hms81_5 := NB376_368.out
          have hs82 : w80.cell? ⟨gb376, 1, none⟩ = some (.int .i64 0) := (blk_cell BK376.out 1).trans rfl
          have hfs82 := blk_frozen BK376.out 1
          have hns82_0 := NB347_376.out
          have hns82_1 := NB348_376.out
          have hns82_2 := NB352_376.out
          have hns82_3 := NB356_376.out
          have hns82_4 := NB360_376.out
          have hns82_5 := NB368_376.out
          have hms82_0 := NB376_347.out
          have hms82_1 := NB376_348.out
          have hms82_2 := NB376_352.out
          have hms82_3 := NB376_356.out
          have hms82_4 := NB376_360.out
          have hms82_5 := NB376_368.out
          refine skip_ (w1 := ?_) (by rfl) rfl ?_ ?_
          rotate_left
          ·
           go_simp
           rfl
          refine hK.out _ _ ⟨((cell_far (p := ⟨gb376, _, none⟩) NB347_376.out _).trans (((cell_far (p := ⟨gb376, _, none⟩) NB347_376.out _).trans (hHeld.1)))), ((cell_far (p := ⟨gb376, _, none⟩) NB347_376.out _).trans (((cell_far (p := ⟨gb376, _, none⟩) NB347_376.out _).trans (hHeld.2.1)))), ((cell_far (p := ⟨gb376, _, none⟩) NB348_376.out _).trans (((cell_far (p := ⟨gb376, _, none⟩) NB348_376.out _).trans (hHeld.2.2.1)))), ((cell_far (p := ⟨gb376, _, none⟩) NB348_376.out _).trans (((cell_far (p := ⟨gb376, _, none⟩) NB348_376.out _).trans (hHeld.2.2.2))))⟩ (fun hHeld => ?_)
          clear hK K
          refine pure_ (i := 10) (N := some 14) (v := ?_) (a' := ?_) #[true, true, true, true, true, true, true, true, true, true, true] rfl rfl (any_of HT_.out (by kernel_rfl)) (fun _ _ _ h => h) (Or.inl ⟨by rfl, ?_⟩) ?_ ?_
          rotate_left
          ·
           intro w'
           go_simp
           with_reducible rfl
          rotate_left
          ·
           simp only [Act.put, List.setIfInBounds_toArray, List.set_cons_zero, List.set_cons_succ, i64_w, i32_w]
           rfl
          refine done_ (done_of HT_.out (by kernel_rfl)) ?_
          try go_wp2
          have n0_ : Aside0 (((w80.setCell ⟨gb376, 0, none⟩ (.int .i64 t373)).setCell ⟨gb376, 1, none⟩ (.int .i64 t374)).heap[gb347]? = some (.cells #[.int .i64 a0_0, .int .i64 a0_1] 23 (0, 0))) := ⟨by (with_reducible repeat (first | refine blk_drewN ?_ _ | refine blk_drew ?_ | refine blk_alloc ?_ _)); refine blk_far ?_ NB347_376.out _; (with_reducible repeat (first | refine blk_drewN ?_ _ | refine blk_drew ?_ | refine blk_alloc ?_ _)); refine blk_far ?_ NB347_376.out _; (with_reducible repeat (first | refine blk_drewN ?_ _ | refine blk_drew ?_ | refine blk_alloc ?_ _)); exact BK347.out⟩
          have n1_ : Aside0 (((w80.setCell ⟨gb376, 0, none⟩ (.int .i64 t373)).setCell ⟨gb376, 1, none⟩ (.int .i64 t374)).heap[gb348]? = some (.cells #[.int .i64 a1_0, .int .i64 a1_1] 23 (0, 0))) := ⟨by (with_reducible repeat (first | refine blk_drewN ?_ _ | refine blk_drew ?_ | refine blk_alloc ?_ _)); refine blk_far ?_ NB348_376.out _; (with_reducible repeat (first | refine blk_drewN ?_ _ | refine blk_drew ?_ | refine blk_alloc ?_ _)); refine blk_far ?_ NB348_376.out _; (with_reducible repeat (first | refine blk_drewN ?_ _ | refine blk_drew ?_ | refine blk_alloc ?_ _)); exact BK348.out⟩
          have n2_ : Aside0 (((w80.setCell ⟨gb376, 0, none⟩ (.int .i64 t373)).setCell ⟨gb376, 1, none⟩ (.int .i64 t374)).heap[gb352]? = some (.cells #[.int .i64 t349, .int .i64 t350] 23 (0, 0))) := ⟨by (with_reducible repeat (first | refine blk_drewN ?_ _ | refine blk_drew ?_ | refine blk_alloc ?_ _)); refine blk_far ?_ NB352_376.out _; (with_reducible repeat (first | refine blk_drewN ?_ _ | refine blk_drew ?_ | refine blk_alloc ?_ _)); refine blk_far ?_ NB352_376.out _; (with_reducible repeat (first | refine blk_drewN ?_ _ | refine blk_drew ?_ | refine blk_alloc ?_ _)); exact BK352.out⟩
          have n3_ : Aside0 (((w80.setCell ⟨gb376, 0, none⟩ (.int .i64 t373)).setCell ⟨gb376, 1, none⟩ (.int .i64 t374)).heap[gb356]? = some (.cells #[.int .i64 t353, .int .i64 t354] 23 (0, 0))) := ⟨by (with_reducible repeat (first | refine blk_drewN ?_ _ | refine blk_drew ?_ | refine blk_alloc ?_ _)); refine blk_far ?_ NB356_376.out _; (with_reducible repeat (first | refine blk_drewN ?_ _ | refine blk_drew ?_ | refine blk_alloc ?_ _)); refine blk_far ?_ NB356_376.out _; (with_reducible repeat (first | refine blk_drewN ?_ _ | refine blk_drew ?_ | refine blk_alloc ?_ _)); exact BK356.out⟩
          have n4_ : Aside0 (((w80.setCell ⟨gb376, 0, none⟩ (.int .i64 t373)).setCell ⟨gb376, 1, none⟩ (.int .i64 t374)).heap[gb360]? = some (.cells #[.int .i64 t357, .int .i64 t358] 23 (0, 0))) := ⟨by (with_reducible repeat (first | refine blk_drewN ?_ _ | refine blk_drew ?_ | refine blk_alloc ?_ _)); refine blk_far ?_ NB360_376.out _; (with_reducible repeat (first | refine blk_drewN ?_ _ | refine blk_drew ?_ | refine blk_alloc ?_ _)); refine blk_far ?_ NB360_376.out _; (with_reducible repeat (first | refine blk_drewN ?_ _ | refine blk_drew ?_ | refine blk_alloc ?_ _)); exact BK360.out⟩
          have n5_ : Aside0 (((w80.setCell ⟨gb376, 0, none⟩ (.int .i64 t373)).setCell ⟨gb376, 1, none⟩ (.int .i64 t374)).heap[gb368]? = some (.cells #[.int .i64 t365, .int .i64 t366] 27 (0, 0))) := ⟨by (with_reducible repeat (first | refine blk_drewN ?_ _ | refine blk_drew ?_ | refine blk_alloc ?_ _)); refine blk_far ?_ NB368_376.out _; (with_reducible repeat (first | refine blk_drewN ?_ _ | refine blk_drew ?_ | refine blk_alloc ?_ _)); refine blk_far ?_ NB368_376.out _; (with_reducible repeat (first | refine blk_drewN ?_ _ | refine blk_drew ?_ | refine blk_alloc ?_ _)); exact BK368.out⟩
          have n6_ : Aside0 (((w80.setCell ⟨gb376, 0, none⟩ (.int .i64 t373)).setCell ⟨gb376, 1, none⟩ (.int .i64 t374)).heap[gb376]? = some (.cells #[.int .i64 t373, .int .i64 t374] 27 (0, 0))) := ⟨by (with_reducible repeat (first | refine blk_drewN ?_ _ | refine blk_drew ?_ | refine blk_alloc ?_ _)); refine blk_put (cs := #[.int .i64 t373, .int .i64 0]) ?_ 1 _ rfl; (with_reducible repeat (first | refine blk_drewN ?_ _ | refine blk_drew ?_ | refine blk_alloc ?_ _)); refine blk_put (cs := #[.int .i64 0, .int .i64 0]) ?_ 0 _ rfl; (with_reducible repeat (first | refine blk_drewN ?_ _ | refine blk_drew ?_ | refine blk_alloc ?_ _)); exact BK376.out⟩
          have n7_ : Aside0 (Below w.heap.size w ((w80.setCell ⟨gb376, 0, none⟩ (.int .i64 t373)).setCell ⟨gb376, 1, none⟩ (.int .i64 t374))) := ⟨by repeat (first | (with_reducible first | exact HB.out | apply below_alloc | apply pw_below_drewN | apply below_drew1 | refine below_set ?_ GE347.out | refine below_set ?_ GE348.out | refine below_set ?_ GE352.out | refine below_set ?_ GE356.out | refine below_set ?_ GE360.out | refine below_set ?_ GE368.out | refine below_set ?_ GE376.out) | exact HB.out)⟩
          (try clear BK347)
          (try clear BK348)
          (try clear BK352)
          (try clear BK356)
          (try clear BK360)
          (try clear BK368)
          (try clear BK376)
          (try clear HB)
          generalize ((w80.setCell ⟨gb376, 0, none⟩ (.int .i64 t373)).setCell ⟨gb376, 1, none⟩ (.int .i64 t374)) = w83 at n0_ n1_ n2_ n3_ n4_ n5_ n6_ n7_ ⊢
          have BK347 := n0_
          have BK348 := n1_
          have BK352 := n2_
          have BK356 := n3_
          have BK360 := n4_
          have BK368 := n5_
          have BK376 := n6_
          have HB := n7_
          clear n0_ n1_ n2_ n3_ n4_ n5_ n6_ n7_
          have n0_ := Aside0.mk (blk_drew BK347.out)
          have n1_ := Aside0.mk (blk_drew BK348.out)
          have n2_ := Aside0.mk (blk_drew BK352.out)
          have n3_ := Aside0.mk (blk_drew BK356.out)
          have n4_ := Aside0.mk (blk_drew BK360.out)
          have n5_ := Aside0.mk (blk_drew BK368.out)
          have n6_ := Aside0.mk (blk_drew BK376.out)
          have n7_ := Aside0.mk (below_drew1 HB.out)
          clear BK347
          clear BK348
          clear BK352
          clear BK356
          clear BK360
          clear BK368
          clear BK376
          clear HB
          have BK347 := n0_
          have BK348 := n1_
          have BK352 := n2_
          have BK356 := n3_
          have BK360 := n4_
          have BK368 := n5_
          have BK376 := n6_
          have HB := n7_
          clear n0_ n1_ n2_ n3_ n4_ n5_ n6_ n7_
          refine start_ (n := 11) (S := fun w' => w'.cell? ⟨gb347, 0, none⟩ = some (.int .i64 a0_0) ∧ w'.cell? ⟨gb347, 1, none⟩ = some (.int .i64 a0_1) ∧ w'.cell? ⟨gb348, 0, none⟩ = some (.int .i64 a1_0) ∧ w'.cell? ⟨gb348, 1, none⟩ = some (.int .i64 a1_1)) (ds := []) #[false, false, false, false, false, false, false, false, false, false, false] (by kernel_rfl) rfl rfl ⟨(blk_cell BK347.out 0).trans rfl, (blk_cell BK347.out 1).trans rfl, (blk_cell BK348.out 0).trans rfl, (blk_cell BK348.out 1).trans rfl⟩ (fun hHeld => ?_); refine with_tabW mosaiclaw17_PlaneReckons.tab6 mosaiclaw17_PlaneReckons.bits6 (fun HT_ HW_ => ?_)
          generalize w83.drew = w84 at BK347 BK348 BK352 BK356 BK360 BK368 BK376 HB hHeld ⊢
          refine take_ (i := 0) (N := some 52) (v := ?_) (a' := ?_) #[true, false, false, false, false, false, false, false, false, false, false] rfl rfl (take_ofW HT_.out HW_.out (by kernel_rfl)) (fun _ _ _ h => h) (Or.inl ⟨by rfl, ?_⟩) hHeld ?_ ?_
          rotate_left
          ·
           rintro w' ⟨s0, s1, s2, s3⟩
           go_simp
           with_reducible rfl
          rotate_left
          ·
           simp only [Act.put, List.setIfInBounds_toArray, List.set_cons_zero, List.set_cons_succ, i64_w, i32_w]
           rfl
          refine take_ (i := 2) (N := some 54) (v := ?_) (a' := ?_) #[true, false, true, false, false, false, false, false, false, false, false] rfl rfl (take_ofW HT_.out HW_.out (by kernel_rfl)) (fun _ _ _ h => h) (Or.inl ⟨by rfl, ?_⟩) hHeld ?_ ?_
          rotate_left
          ·
           rintro w' ⟨s0, s1, s2, s3⟩
           go_simp
           with_reducible rfl
          rotate_left
          ·
           simp only [Act.put, List.setIfInBounds_toArray, List.set_cons_zero, List.set_cons_succ, i64_w, i32_w]
           rfl
          refine join_ (σ := Nat) 2 #[true, true, true, true, true, true, true, true, true, false, false] (fun s_ => [(53, .agg #[.int .i64 t377, .int .i64 t378]), (55, .agg #[.int .i64 t379, .int .i64 t380]), (56, .tuple #[.agg #[.int .i64 t381, .int .i64 t382], .int .i64 t383]), (15, .pointer (some ⟨s_, 0, none⟩)), (51, .tuple #[.agg #[.int .i64 t381, .int .i64 t382], .int .i64 t383]), (57, .agg #[.int .i64 t381, .int .i64 t382]), (58, .int .i64 t383)]) (fun s_ w' => (w'.cell? ⟨gb347, 0, none⟩ = some (.int .i64 a0_0) ∧ w'.cell? ⟨gb347, 1, none⟩ = some (.int .i64 a0_1) ∧ w'.cell? ⟨gb348, 0, none⟩ = some (.int .i64 a1_0) ∧ w'.cell? ⟨gb348, 1, none⟩ = some (.int .i64 a1_1)) ∧ (w'.heap[gb347]? = some (.cells #[.int .i64 a0_0, .int .i64 a0_1] 23 (0, 0))) ∧ (w'.heap[gb348]? = some (.cells #[.int .i64 a1_0, .int .i64 a1_1] 23 (0, 0))) ∧ (w'.heap[gb352]? = some (.cells #[.int .i64 t349, .int .i64 t350] 23 (0, 0))) ∧ (w'.heap[gb356]? = some (.cells #[.int .i64 t353, .int .i64 t354] 23 (0, 0))) ∧ (w'.heap[gb360]? = some (.cells #[.int .i64 t357, .int .i64 t358] 23 (0, 0))) ∧ (w'.heap[gb368]? = some (.cells #[.int .i64 t365, .int .i64 t366] 27 (0, 0))) ∧ (w'.heap[gb376]? = some (.cells #[.int .i64 t373, .int .i64 t374] 27 (0, 0))) ∧ (w'.heap[s_]? = some (.cells #[.int .i64 0, .int .i64 0] 27 (0, 0))) ∧ (w.heap.size ≤ s_) ∧ (w.heap.size ≤ s_) ∧ (gb347 ≠ s_) ∧ (s_ ≠ gb347) ∧ (gb348 ≠ s_) ∧ (s_ ≠ gb348) ∧ (gb352 ≠ s_) ∧ (s_ ≠ gb352) ∧ (gb356 ≠ s_) ∧ (s_ ≠ gb356) ∧ (gb360 ≠ s_) ∧ (s_ ≠ gb360) ∧ (gb368 ≠ s_) ∧ (s_ ≠ gb368) ∧ (gb376 ≠ s_) ∧ (s_ ≠ gb376) ∧ (Below w.heap.size w w')) ?_ ?_
          rotate_left
          ·
           intro hCont
           refine two_ (i := 1) (j := 8) (Ni := some 53) (Nj := some 15) #[true, true, true, false, false, false, false, false, false, false, false] #[true, false, true, false, false, false, false, false, true, false, false] rfl rfl rfl rfl (two_of HT_.out (by kernel_rfl)) (by decide) (by decide) (fun K hK => ?_) (fun K hK => ?_)
           ·
            skip
            refine goes_ Try.func12 (by kernel_rfl) rfl #[.agg #[.int .i64 a0_0, .int .i64 a0_1]] (by rfl) rfl rfl (by (try simp only [List.map_toArray, List.map_cons, List.map_nil]); first | done | rfl | (simp only [List.length_drop, List.length_take]; rfl)) ?_
            with_reducible refine (mosaiclaw17_Ref.calls a0_0 a0_1 t377 t378 _ A12.out).mono ?_
            rintro e w85 ⟨rfl, hb⟩
            refine ⟨_, rfl, ?_⟩
            have n0_ := bB BK347 hb
            have n1_ := bB BK348 hb
            have n2_ := bB BK352 hb
            have n3_ := bB BK356 hb
            have n4_ := bB BK360 hb
            have n5_ := bB BK368 hb
            have n6_ := bB BK376 hb
            have n7_ := hS HB hb
            clear BK347
            clear BK348
            clear BK352
            clear BK356
            clear BK360
            clear BK368
            clear BK376
            clear HB
            have BK347 := n0_
            have BK348 := n1_
            have BK352 := n2_
            have BK356 := n3_
            have BK360 := n4_
            have BK368 := n5_
            have BK376 := n6_
            have HB := n7_
            clear n0_ n1_ n2_ n3_ n4_ n5_ n6_ n7_
            (try clear hb)
            (try clear hb2)
            (try clear hk)
            (try clear hi)
            refine hK.out _ _ ⟨(blk_cell BK347.out 0).trans rfl, (blk_cell BK347.out 1).trans rfl, (blk_cell BK348.out 0).trans rfl, (blk_cell BK348.out 1).trans rfl⟩ (fun hHeld => ?_)
            clear hK K
            refine norm_ (a' := ?_) ?_ ?_
            rotate_left
            ·
             show Act.put _ (some 53) _ = _
             simp only [Act.put, List.setIfInBounds_toArray, List.set_cons_zero, List.set_cons_succ, i64_w, i32_w]
             rfl
            refine two_ (i := 3) (j := 8) (Ni := some 55) (Nj := some 15) #[true, true, true, true, false, false, false, false, false, false, false] #[true, true, true, false, false, false, false, false, true, false, false] rfl rfl rfl rfl (two_of HT_.out (by kernel_rfl)) (by decide) (by decide) (fun K hK => ?_) (fun K hK => ?_)
            ·
             skip
             refine goes_ Try.func12 (by kernel_rfl) rfl #[.agg #[.int .i64 a1_0, .int .i64 a1_1]] (by rfl) rfl rfl (by (try simp only [List.map_toArray, List.map_cons, List.map_nil]); first | done | rfl | (simp only [List.length_drop, List.length_take]; rfl)) ?_
             with_reducible refine (mosaiclaw17_Ref.calls a1_0 a1_1 t379 t380 _ A13.out).mono ?_
             rintro e w86 ⟨rfl, hb⟩
             refine ⟨_, rfl, ?_⟩
             have n0_ := bB BK347 hb
             have n1_ := bB BK348 hb
             have n2_ := bB BK352 hb
             have n3_ := bB BK356 hb
             have n4_ := bB BK360 hb
             have n5_ := bB BK368 hb
             have n6_ := bB BK376 hb
             have n7_ := hS HB hb
             clear BK347
             clear BK348
             clear BK352
             clear BK356
             clear BK360
             clear BK368
             clear BK376
             clear HB
             have BK347 := n0_
             have BK348 := n1_
             have BK352 := n2_
             have BK356 := n3_
             have BK360 := n4_
             have BK368 := n5_
             have BK376 := n6_
             have HB := n7_
             clear n0_ n1_ n2_ n3_ n4_ n5_ n6_ n7_
             (try clear hb)
             (try clear hb2)
             (try clear hk)
             (try clear hi)
             refine hK.out _ _ ⟨(blk_cell BK347.out 0).trans rfl, (blk_cell BK347.out 1).trans rfl, (blk_cell BK348.out 0).trans rfl, (blk_cell BK348.out 1).trans rfl⟩ (fun hHeld => ?_)
             clear hK K
             refine norm_ (a' := ?_) ?_ ?_
             rotate_left
             ·
              show Act.put _ (some 55) _ = _
              simp only [Act.put, List.setIfInBounds_toArray, List.set_cons_zero, List.set_cons_succ, i64_w, i32_w]
              rfl
             refine two_ (i := 4) (j := 8) (Ni := some 56) (Nj := some 15) #[true, true, true, true, true, false, false, false, false, false, false] #[true, true, true, true, false, false, false, false, true, false, false] rfl rfl rfl rfl (two_of HT_.out (by kernel_rfl)) (by decide) (by decide) (fun K hK => ?_) (fun K hK => ?_)
             ·
              skip
              refine goes_ Try.func27 (by kernel_rfl) rfl #[.agg #[.int .i64 t377, .int .i64 t378], .agg #[.int .i64 t379, .int .i64 t380]] (by rfl) rfl rfl (by (try simp only [List.map_toArray, List.map_cons, List.map_nil]); first | done | rfl | (simp only [List.length_drop, List.length_take]; rfl)) ?_
              with_reducible refine (mosaicref17_Mul.calls t377 t378 t379 t380 t381 t382 t383 _ A14.out).mono ?_
              rintro e w87 ⟨rfl, hb⟩
              refine ⟨_, rfl, ?_⟩
              have n0_ := bB BK347 hb
              have n1_ := bB BK348 hb
              have n2_ := bB BK352 hb
              have n3_ := bB BK356 hb
              have n4_ := bB BK360 hb
              have n5_ := bB BK368 hb
              have n6_ := bB BK376 hb
              have n7_ := hS HB hb
              clear BK347
              clear BK348
              clear BK352
              clear BK356
              clear BK360
              clear BK368
              clear BK376
              clear HB
              have BK347 := n0_
              have BK348 := n1_
              have BK352 := n2_
              have BK356 := n3_
              have BK360 := n4_
              have BK368 := n5_
              have BK376 := n6_
              have HB := n7_
              clear n0_ n1_ n2_ n3_ n4_ n5_ n6_ n7_
              (try clear hb)
              (try clear hb2)
              (try clear hk)
              (try clear hi)
              refine hK.out _ _ ⟨(blk_cell BK347.out 0).trans rfl, (blk_cell BK347.out 1).trans rfl, (blk_cell BK348.out 0).trans rfl, (blk_cell BK348.out 1).trans rfl⟩ (fun hHeld => ?_)
              clear hK K
              refine norm_ (a' := ?_) ?_ ?_
              rotate_left
              ·
               show Act.put _ (some 56) _ = _
               simp only [Act.put, List.setIfInBounds_toArray, List.set_cons_zero, List.set_cons_succ, i64_w, i32_w]
               rfl
              refine pure_ (i := 5) (N := some 51) (v := ?_) (a' := ?_) #[true, true, true, true, true, true, false, false, false, false, false] rfl rfl (any_of HT_.out (by kernel_rfl)) (fun _ _ _ h => h) (Or.inl ⟨by rfl, ?_⟩) ?_ ?_
              rotate_left
              ·
               intro w'
               go_simp
               with_reducible rfl
              rotate_left
              ·
               simp only [Act.put, List.setIfInBounds_toArray, List.set_cons_zero, List.set_cons_succ, i64_w, i32_w]
               rfl
              refine pure_ (i := 6) (N := some 57) (v := ?_) (a' := ?_) #[true, true, true, true, true, true, true, false, false, false, false] rfl rfl (any_of HT_.out (by kernel_rfl)) (fun _ _ _ h => h) (Or.inl ⟨by rfl, ?_⟩) ?_ ?_
              rotate_left
              ·
               intro w'
               go_simp
               with_reducible rfl
              rotate_left
              ·
               simp only [Act.put, List.setIfInBounds_toArray, List.set_cons_zero, List.set_cons_succ, i64_w, i32_w]
               rfl
              refine pure_ (i := 7) (N := some 58) (v := ?_) (a' := ?_) #[true, true, true, true, true, true, true, true, false, false, false] rfl rfl (any_of HT_.out (by kernel_rfl)) (fun _ _ _ h => h) (Or.inl ⟨by rfl, ?_⟩) ?_ ?_
              rotate_left
              ·
               intro w'
               go_simp
               with_reducible rfl
              rotate_left
              ·
               simp only [Act.put, List.setIfInBounds_toArray, List.set_cons_zero, List.set_cons_succ, i64_w, i32_w]
               rfl
              refine one_ (i := 8) (N := some 15) #[true, true, true, true, true, true, true, true, true, false, false] rfl rfl (one_of HT_.out (by kernel_rfl)) (by decide) (fun K hK => ?_)
              refine box_step ?hg (N := 15) ?hd (cs := #[.int .i64 0, .int .i64 0]) (t := 27) ?hr ?_; (case hd => rfl); (case hg => rfl); (case hr => first | (go_simp; done) | (go_simp; rfl))
              intro gb384 hg w88 hbox hb
              have n0_ := bB BK347 hb
              have n1_ := bB BK348 hb
              have n2_ := bB BK352 hb
              have n3_ := bB BK356 hb
              have n4_ := bB BK360 hb
              have n5_ := bB BK368 hb
              have n6_ := bB BK376 hb
              have n7_ := hS HB hb
              have n8_ := Aside0.mk (hbox)
              have n9_ := hG HB hg
              have n10_ := hG HB hg
              have n11_ := bNl BK347 hg
              have n12_ := bNg BK347 hg
              have n13_ := bNl BK348 hg
              have n14_ := bNg BK348 hg
              have n15_ := bNl BK352 hg
              have n16_ := bNg BK352 hg
              have n17_ := bNl BK356 hg
              have n18_ := bNg BK356 hg
              have n19_ := bNl BK360 hg
              have n20_ := bNg BK360 hg
              have n21_ := bNl BK368 hg
              have n22_ := bNg BK368 hg
              have n23_ := bNl BK376 hg
              have n24_ := bNg BK376 hg
              clear BK347
              clear BK348
              clear BK352
              clear BK356
              clear BK360
              clear BK368
              clear BK376
              clear HB
              have BK347 := n0_
              have BK348 := n1_
              have BK352 := n2_
              have BK356 := n3_
              have BK360 := n4_
              have BK368 := n5_
              have BK376 := n6_
              have HB := n7_
              have BK384 := n8_
              have GW384 := n9_
              have GE384 := n10_
              have NB347_384 := n11_
              have NB384_347 := n12_
              have NB348_384 := n13_
              have NB384_348 := n14_
              have NB352_384 := n15_
              have NB384_352 := n16_
              have NB356_384 := n17_
              have NB384_356 := n18_
              have NB360_384 := n19_
              have NB384_360 := n20_
              have NB368_384 := n21_
              have NB384_368 := n22_
              have NB376_384 := n23_
              have NB384_376 := n24_
              clear n0_ n1_ n2_ n3_ n4_ n5_ n6_ n7_ n8_ n9_ n10_ n11_ n12_ n13_ n14_ n15_ n16_ n17_ n18_ n19_ n20_ n21_ n22_ n23_ n24_
              clear hb hbox hg
              refine hK.out _ _ ⟨(blk_cell BK347.out 0).trans rfl, (blk_cell BK347.out 1).trans rfl, (blk_cell BK348.out 0).trans rfl, (blk_cell BK348.out 1).trans rfl⟩ (fun hHeld => ?_)
              clear hK K
              refine norm_ (a' := ?_) ?_ ?_
              rotate_left
              ·
               show Act.put _ (some 15) _ = _
               simp only [Act.put, List.setIfInBounds_toArray, List.set_cons_zero, List.set_cons_succ, i64_w, i32_w]
               rfl
              exact norm_ (by simp only [putAll, Act.put, List.setIfInBounds_toArray, List.set_cons_zero, List.set_cons_succ]) (hCont (gb384) _ ⟨hHeld, (by exact bS BK347), (by exact bS BK348), (by exact bS BK352), (by exact bS BK356), (by exact bS BK360), (by exact bS BK368), (by exact bS BK376), (by exact bS BK384), GW384.out, GE384.out, NB347_384.out, NB384_347.out, NB348_384.out, NB384_348.out, NB352_384.out, NB384_352.out, NB356_384.out, NB384_356.out, NB360_384.out, NB384_360.out, NB368_384.out, NB384_368.out, NB376_384.out, NB384_376.out, (by repeat (first | (with_reducible first | exact HB.out | apply below_alloc | apply pw_below_drewN | apply below_drew1 | refine below_set ?_ GE347.out | refine below_set ?_ GE348.out | refine below_set ?_ GE352.out | refine below_set ?_ GE356.out | refine below_set ?_ GE360.out | refine below_set ?_ GE368.out | refine below_set ?_ GE376.out | refine below_set ?_ GE384.out) | exact HB.out))⟩)
             ·
              skip
              refine box_step ?hg (N := 15) ?hd (cs := #[.int .i64 0, .int .i64 0]) (t := 27) ?hr ?_; (case hd => rfl); (case hg => rfl); (case hr => first | (go_simp; done) | (go_simp; rfl))
              intro gb384 hg w87 hbox hb
              have n0_ := bB BK347 hb
              have n1_ := bB BK348 hb
              have n2_ := bB BK352 hb
              have n3_ := bB BK356 hb
              have n4_ := bB BK360 hb
              have n5_ := bB BK368 hb
              have n6_ := bB BK376 hb
              have n7_ := hS HB hb
              have n8_ := Aside0.mk (hbox)
              have n9_ := hG HB hg
              have n10_ := hG HB hg
              have n11_ := bNl BK347 hg
              have n12_ := bNg BK347 hg
              have n13_ := bNl BK348 hg
              have n14_ := bNg BK348 hg
              have n15_ := bNl BK352 hg
              have n16_ := bNg BK352 hg
              have n17_ := bNl BK356 hg
              have n18_ := bNg BK356 hg
              have n19_ := bNl BK360 hg
              have n20_ := bNg BK360 hg
              have n21_ := bNl BK368 hg
              have n22_ := bNg BK368 hg
              have n23_ := bNl BK376 hg
              have n24_ := bNg BK376 hg
              clear BK347
              clear BK348
              clear BK352
              clear BK356
              clear BK360
              clear BK368
              clear BK376
              clear HB
              have BK347 := n0_
              have BK348 := n1_
              have BK352 := n2_
              have BK356 := n3_
              have BK360 := n4_
              have BK368 := n5_
              have BK376 := n6_
              have HB := n7_
              have BK384 := n8_
              have GW384 := n9_
              have GE384 := n10_
              have NB347_384 := n11_
              have NB384_347 := n12_
              have NB348_384 := n13_
              have NB384_348 := n14_
              have NB352_384 := n15_
              have NB384_352 := n16_
              have NB356_384 := n17_
              have NB384_356 := n18_
              have NB360_384 := n19_
              have NB384_360 := n20_
              have NB368_384 := n21_
              have NB384_368 := n22_
              have NB376_384 := n23_
              have NB384_376 := n24_
              clear n0_ n1_ n2_ n3_ n4_ n5_ n6_ n7_ n8_ n9_ n10_ n11_ n12_ n13_ n14_ n15_ n16_ n17_ n18_ n19_ n20_ n21_ n22_ n23_ n24_
              clear hb hbox hg
              refine hK.out _ _ ⟨(blk_cell BK347.out 0).trans rfl, (blk_cell BK347.out 1).trans rfl, (blk_cell BK348.out 0).trans rfl, (blk_cell BK348.out 1).trans rfl⟩ (fun hHeld => ?_)
              clear hK K
              refine norm_ (a' := ?_) ?_ ?_
              rotate_left
              ·
               show Act.put _ (some 15) _ = _
               simp only [Act.put, List.setIfInBounds_toArray, List.set_cons_zero, List.set_cons_succ, i64_w, i32_w]
               rfl
              refine one_ (i := 4) (N := some 56) #[true, true, true, true, true, false, false, false, true, false, false] rfl rfl (one_of HT_.out (by kernel_rfl)) (by decide) (fun K hK => ?_)
              refine goes_ Try.func27 (by kernel_rfl) rfl #[.agg #[.int .i64 t377, .int .i64 t378], .agg #[.int .i64 t379, .int .i64 t380]] (by rfl) rfl rfl (by (try simp only [List.map_toArray, List.map_cons, List.map_nil]); first | done | rfl | (simp only [List.length_drop, List.length_take]; rfl)) ?_
              with_reducible refine (mosaicref17_Mul.calls t377 t378 t379 t380 t381 t382 t383 _ A14.out).mono ?_
              rintro e w88 ⟨rfl, hb⟩
              refine ⟨_, rfl, ?_⟩
              have n0_ := bB BK347 hb
              have n1_ := bB BK348 hb
              have n2_ := bB BK352 hb
              have n3_ := bB BK356 hb
              have n4_ := bB BK360 hb
              have n5_ := bB BK368 hb
              have n6_ := bB BK376 hb
              have n7_ := bB BK384 hb
              have n8_ := hS HB hb
              clear BK347
              clear BK348
              clear BK352
              clear BK356
              clear BK360
              clear BK368
              clear BK376
              clear BK384
              clear HB
              have BK347 := n0_
              have BK348 := n1_
              have BK352 := n2_
              have BK356 := n3_
              have BK360 := n4_
              have BK368 := n5_
              have BK376 := n6_
              have BK384 := n7_
              have HB := n8_
              clear n0_ n1_ n2_ n3_ n4_ n5_ n6_ n7_ n8_
              (try clear hb)
              (try clear hb2)
              (try clear hk)
              (try clear hi)
              refine hK.out _ _ ⟨(blk_cell BK347.out 0).trans rfl, (blk_cell BK347.out 1).trans rfl, (blk_cell BK348.out 0).trans rfl, (blk_cell BK348.out 1).trans rfl⟩ (fun hHeld => ?_)
              clear hK K
              refine norm_ (a' := ?_) ?_ ?_
              rotate_left
              ·
               show Act.put _ (some 56) _ = _
               simp only [Act.put, List.setIfInBounds_toArray, List.set_cons_zero, List.set_cons_succ, i64_w, i32_w]
               rfl
              refine pure_ (i := 5) (N := some 51) (v := ?_) (a' := ?_) #[true, true, true, true, true, true, false, false, true, false, false] rfl rfl (any_of HT_.out (by kernel_rfl)) (fun _ _ _ h => h) (Or.inl ⟨by rfl, ?_⟩) ?_ ?_
              rotate_left
              ·
               intro w'
               go_simp
               with_reducible rfl
              rotate_left
              ·
               simp only [Act.put, List.setIfInBounds_toArray, List.set_cons_zero, List.set_cons_succ, i64_w, i32_w]
               rfl
              refine pure_ (i := 6) (N := some 57) (v := ?_) (a' := ?_) #[true, true, true, true, true, true, true, false, true, false, false] rfl rfl (any_of HT_.out (by kernel_rfl)) (fun _ _ _ h => h) (Or.inl ⟨by rfl, ?_⟩) ?_ ?_
              rotate_left
              ·
               intro w'
               go_simp
               with_reducible rfl
              rotate_left
              ·
               simp only [Act.put, List.setIfInBounds_toArray, List.set_cons_zero, List.set_cons_succ, i64_w, i32_w]
               rfl
              refine pure_ (i := 7) (N := some 58) (v := ?_) (a' := ?_) #[true, true, true, true, true, true, true, true, true, false, false] rfl rfl (any_of HT_.out (by kernel_rfl)) (fun _ _ _ h => h) (Or.inl ⟨by rfl, ?_⟩) ?_ ?_
              rotate_left
              ·
               intro w'
               go_simp
               with_reducible rfl
              rotate_left
              ·
               simp only [Act.put, List.setIfInBounds_toArray, List.set_cons_zero, List.set_cons_succ, i64_w, i32_w]
               rfl
              exact norm_ (by simp only [putAll, Act.put, List.setIfInBounds_toArray, List.set_cons_zero, List.set_cons_succ]) (hCont (gb384) _ ⟨hHeld, (by exact bS BK347), (by exact bS BK348), (by exact bS BK352), (by exact bS BK356), (by exact bS BK360), (by exact bS BK368), (by exact bS BK376), (by exact bS BK384), GW384.out, GE384.out, NB347_384.out, NB384_347.out, NB348_384.out, NB384_348.out, NB352_384.out, NB384_352.out, NB356_384.out, NB384_356.out, NB360_384.out, NB384_360.out, NB368_384.out, NB384_368.out, NB376_384.out, NB384_376.out, (by repeat (first | (with_reducible first | exact HB.out | apply below_alloc | apply pw_below_drewN | apply below_drew1 | refine below_set ?_ GE347.out | refine below_set ?_ GE348.out | refine below_set ?_ GE352.out | refine below_set ?_ GE356.out | refine below_set ?_ GE360.out | refine below_set ?_ GE368.out | refine below_set ?_ GE376.out | refine below_set ?_ GE384.out) | exact HB.out))⟩)
            ·
             skip
             refine box_step ?hg (N := 15) ?hd (cs := #[.int .i64 0, .int .i64 0]) (t := 27) ?hr ?_; (case hd => rfl); (case hg => rfl); (case hr => first | (go_simp; done) | (go_simp; rfl))
             intro gb384 hg w86 hbox hb
             have n0_ := bB BK347 hb
             have n1_ := bB BK348 hb
             have n2_ := bB BK352 hb
             have n3_ := bB BK356 hb
             have n4_ := bB BK360 hb
             have n5_ := bB BK368 hb
             have n6_ := bB BK376 hb
             have n7_ := hS HB hb
             have n8_ := Aside0.mk (hbox)
             have n9_ := hG HB hg
             have n10_ := hG HB hg
             have n11_ := bNl BK347 hg
             have n12_ := bNg BK347 hg
             have n13_ := bNl BK348 hg
             have n14_ := bNg BK348 hg
             have n15_ := bNl BK352 hg
             have n16_ := bNg BK352 hg
             have n17_ := bNl BK356 hg
             have n18_ := bNg BK356 hg
             have n19_ := bNl BK360 hg
             have n20_ := bNg BK360 hg
             have n21_ := bNl BK368 hg
             have n22_ := bNg BK368 hg
             have n23_ := bNl BK376 hg
             have n24_ := bNg BK376 hg
             clear BK347
             clear BK348
             clear BK352
             clear BK356
             clear BK360
             clear BK368
             clear BK376
             clear HB
             have BK347 := n0_
             have BK348 := n1_
             have BK352 := n2_
             have BK356 := n3_
             have BK360 := n4_
             have BK368 := n5_
             have BK376 := n6_
             have HB := n7_
             have BK384 := n8_
             have GW384 := n9_
             have GE384 := n10_
             have NB347_384 := n11_
             have NB384_347 := n12_
             have NB348_384 := n13_
             have NB384_348 := n14_
             have NB352_384 := n15_
             have NB384_352 := n16_
             have NB356_384 := n17_
             have NB384_356 := n18_
             have NB360_384 := n19_
             have NB384_360 := n20_
             have NB368_384 := n21_
             have NB384_368 := n22_
             have NB376_384 := n23_
             have NB384_376 := n24_
             clear n0_ n1_ n2_ n3_ n4_ n5_ n6_ n7_ n8_ n9_ n10_ n11_ n12_ n13_ n14_ n15_ n16_ n17_ n18_ n19_ n20_ n21_ n22_ n23_ n24_
             clear hb hbox hg
             refine hK.out _ _ ⟨(blk_cell BK347.out 0).trans rfl, (blk_cell BK347.out 1).trans rfl, (blk_cell BK348.out 0).trans rfl, (blk_cell BK348.out 1).trans rfl⟩ (fun hHeld => ?_)
             clear hK K
             refine norm_ (a' := ?_) ?_ ?_
             rotate_left
             ·
              show Act.put _ (some 15) _ = _
              simp only [Act.put, List.setIfInBounds_toArray, List.set_cons_zero, List.set_cons_succ, i64_w, i32_w]
              rfl
             refine one_ (i := 3) (N := some 55) #[true, true, true, true, false, false, false, false, true, false, false] rfl rfl (one_of HT_.out (by kernel_rfl)) (by decide) (fun K hK => ?_)
             refine goes_ Try.func12 (by kernel_rfl) rfl #[.agg #[.int .i64 a1_0, .int .i64 a1_1]] (by rfl) rfl rfl (by (try simp only [List.map_toArray, List.map_cons, List.map_nil]); first | done | rfl | (simp only [List.length_drop, List.length_take]; rfl)) ?_
             with_reducible refine (mosaiclaw17_Ref.calls a1_0 a1_1 t379 t380 _ A13.out).mono ?_
             rintro e w87 ⟨rfl, hb⟩
             refine ⟨_, rfl, ?_⟩
             have n0_ := bB BK347 hb
             have n1_ := bB BK348 hb
             have n2_ := bB BK352 hb
             have n3_ := bB BK356 hb
             have n4_ := bB BK360 hb
             have n5_ := bB BK368 hb
             have n6_ := bB BK376 hb
             have n7_ := bB BK384 hb
             have n8_ := hS HB hb
             clear BK347
             clear BK348
             clear BK352
             clear BK356
             clear BK360
             clear BK368
             clear BK376
             clear BK384
             clear HB
             have BK347 := n0_
             have BK348 := n1_
             have BK352 := n2_
             have BK356 := n3_
             have BK360 := n4_
             have BK368 := n5_
             have BK376 := n6_
             have BK384 := n7_
             have HB := n8_
             clear n0_ n1_ n2_ n3_ n4_ n5_ n6_ n7_ n8_
             (try clear hb)
             (try clear hb2)
             (try clear hk)
             (try clear hi)
             refine hK.out _ _ ⟨(blk_cell BK347.out 0).trans rfl, (blk_cell BK347.out 1).trans rfl, (blk_cell BK348.out 0).trans rfl, (blk_cell BK348.out 1).trans rfl⟩ (fun hHeld => ?_)
             clear hK K
             refine norm_ (a' := ?_) ?_ ?_
             rotate_left
             ·
              show Act.put _ (some 55) _ = _
              simp only [Act.put, List.setIfInBounds_toArray, List.set_cons_zero, List.set_cons_succ, i64_w, i32_w]
              rfl
             refine one_ (i := 4) (N := some 56) #[true, true, true, true, true, false, false, false, true, false, false] rfl rfl (one_of HT_.out (by kernel_rfl)) (by decide) (fun K hK => ?_)
             refine goes_ Try.func27 (by kernel_rfl) rfl #[.agg #[.int .i64 t377, .int .i64 t378], .agg #[.int .i64 t379, .int .i64 t380]] (by rfl) rfl rfl (by (try simp only [List.map_toArray, List.map_cons, List.map_nil]); first | done | rfl | (simp only [List.length_drop, List.length_take]; rfl)) ?_
             with_reducible refine (mosaicref17_Mul.calls t377 t378 t379 t380 t381 t382 t383 _ A14.out).mono ?_
             rintro e w88 ⟨rfl, hb⟩
             refine ⟨_, rfl, ?_⟩
             have n0_ := bB BK347 hb
             have n1_ := bB BK348 hb
             have n2_ := bB BK352 hb
             have n3_ := bB BK356 hb
             have n4_ := bB BK360 hb
             have n5_ := bB BK368 hb
             have n6_ := bB BK376 hb
             have n7_ := bB BK384 hb
             have n8_ := hS HB hb
             clear BK347
             clear BK348
             clear BK352
             clear BK356
             clear BK360
             clear BK368
             clear BK376
             clear BK384
             clear HB
             have BK347 := n0_
             have BK348 := n1_
             have BK352 := n2_
             have BK356 := n3_
             have BK360 := n4_
             have BK368 := n5_
             have BK376 := n6_
             have BK384 := n7_
             have HB := n8_
             clear n0_ n1_ n2_ n3_ n4_ n5_ n6_ n7_ n8_
             (try clear hb)
             (try clear hb2)
             (try clear hk)
             (try clear hi)
             refine hK.out _ _ ⟨(blk_cell BK347.out 0).trans rfl, (blk_cell BK347.out 1).trans rfl, (blk_cell BK348.out 0).trans rfl, (blk_cell BK348.out 1).trans rfl⟩ (fun hHeld => ?_)
             clear hK K
             refine norm_ (a' := ?_) ?_ ?_
             rotate_left
             ·
              show Act.put _ (some 56) _ = _
              simp only [Act.put, List.setIfInBounds_toArray, List.set_cons_zero, List.set_cons_succ, i64_w, i32_w]
              rfl
             refine pure_ (i := 5) (N := some 51) (v := ?_) (a' := ?_) #[true, true, true, true, true, true, false, false, true, false, false] rfl rfl (any_of HT_.out (by kernel_rfl)) (fun _ _ _ h => h) (Or.inl ⟨by rfl, ?_⟩) ?_ ?_
             rotate_left
             ·
              intro w'
              go_simp
              with_reducible rfl
             rotate_left
             ·
              simp only [Act.put, List.setIfInBounds_toArray, List.set_cons_zero, List.set_cons_succ, i64_w, i32_w]
              rfl
             refine pure_ (i := 6) (N := some 57) (v := ?_) (a' := ?_) #[true, true, true, true, true, true, true, false, true, false, false] rfl rfl (any_of HT_.out (by kernel_rfl)) (fun _ _ _ h => h) (Or.inl ⟨by rfl, ?_⟩) ?_ ?_
             rotate_left
             ·
              intro w'
              go_simp
              with_reducible rfl
             rotate_left
             ·
              simp only [Act.put, List.setIfInBounds_toArray, List.set_cons_zero, List.set_cons_succ, i64_w, i32_w]
              rfl
             refine pure_ (i := 7) (N := some 58) (v := ?_) (a' := ?_) #[true, true, true, true, true, true, true, true, true, false, false] rfl rfl (any_of HT_.out (by kernel_rfl)) (fun _ _ _ h => h) (Or.inl ⟨by rfl, ?_⟩) ?_ ?_
             rotate_left
             ·
              intro w'
              go_simp
              with_reducible rfl
             rotate_left
             ·
              simp only [Act.put, List.setIfInBounds_toArray, List.set_cons_zero, List.set_cons_succ, i64_w, i32_w]
              rfl
             exact norm_ (by simp only [putAll, Act.put, List.setIfInBounds_toArray, List.set_cons_zero, List.set_cons_succ]) (hCont (gb384) _ ⟨hHeld, (by exact bS BK347), (by exact bS BK348), (by exact bS BK352), (by exact bS BK356), (by exact bS BK360), (by exact bS BK368), (by exact bS BK376), (by exact bS BK384), GW384.out, GE384.out, NB347_384.out, NB384_347.out, NB348_384.out, NB384_348.out, NB352_384.out, NB384_352.out, NB356_384.out, NB384_356.out, NB360_384.out, NB384_360.out, NB368_384.out, NB384_368.out, NB376_384.out, NB384_376.out, (by repeat (first | (with_reducible first | exact HB.out | apply below_alloc | apply pw_below_drewN | apply below_drew1 | refine below_set ?_ GE347.out | refine below_set ?_ GE348.out | refine below_set ?_ GE352.out | refine below_set ?_ GE356.out | refine below_set ?_ GE360.out | refine below_set ?_ GE368.out | refine below_set ?_ GE376.out | refine below_set ?_ GE384.out) | exact HB.out))⟩)
           ·
            skip
            refine box_step ?hg (N := 15) ?hd (cs := #[.int .i64 0, .int .i64 0]) (t := 27) ?hr ?_; (case hd => rfl); (case hg => rfl); (case hr => first | (go_simp; done) | (go_simp; rfl))
            intro gb384 hg w85 hbox hb
            have n0_ := bB BK347 hb
            have n1_ := bB BK348 hb
            have n2_ := bB BK352 hb
            have n3_ := bB BK356 hb
            have n4_ := bB BK360 hb
            have n5_ := bB BK368 hb
            have n6_ := bB BK376 hb
            have n7_ := hS HB hb
            have n8_ := Aside0.mk (hbox)
            have n9_ := hG HB hg
            have n10_ := hG HB hg
            have n11_ := bNl BK347 hg
            have n12_ := bNg BK347 hg
            have n13_ := bNl BK348 hg
            have n14_ := bNg BK348 hg
            have n15_ := bNl BK352 hg
            have n16_ := bNg BK352 hg
            have n17_ := bNl BK356 hg
            have n18_ := bNg BK356 hg
            have n19_ := bNl BK360 hg
            have n20_ := bNg BK360 hg
            have n21_ := bNl BK368 hg
            have n22_ := bNg BK368 hg
            have n23_ := bNl BK376 hg
            have n24_ := bNg BK376 hg
            clear BK347
            clear BK348
            clear BK352
            clear BK356
            clear BK360
            clear BK368
            clear BK376
            clear HB
            have BK347 := n0_
            have BK348 := n1_
            have BK352 := n2_
            have BK356 := n3_
            have BK360 := n4_
            have BK368 := n5_
            have BK376 := n6_
            have HB := n7_
            have BK384 := n8_
            have GW384 := n9_
            have GE384 := n10_
            have NB347_384 := n11_
            have NB384_347 := n12_
            have NB348_384 := n13_
            have NB384_348 := n14_
            have NB352_384 := n15_
            have NB384_352 := n16_
            have NB356_384 := n17_
            have NB384_356 := n18_
            have NB360_384 := n19_
            have NB384_360 := n20_
            have NB368_384 := n21_
            have NB384_368 := n22_
            have NB376_384 := n23_
            have NB384_376 := n24_
            clear n0_ n1_ n2_ n3_ n4_ n5_ n6_ n7_ n8_ n9_ n10_ n11_ n12_ n13_ n14_ n15_ n16_ n17_ n18_ n19_ n20_ n21_ n22_ n23_ n24_
            clear hb hbox hg
            refine hK.out _ _ ⟨(blk_cell BK347.out 0).trans rfl, (blk_cell BK347.out 1).trans rfl, (blk_cell BK348.out 0).trans rfl, (blk_cell BK348.out 1).trans rfl⟩ (fun hHeld => ?_)
            clear hK K
            refine norm_ (a' := ?_) ?_ ?_
            rotate_left
            ·
             show Act.put _ (some 15) _ = _
             simp only [Act.put, List.setIfInBounds_toArray, List.set_cons_zero, List.set_cons_succ, i64_w, i32_w]
             rfl
            refine one_ (i := 1) (N := some 53) #[true, true, true, false, false, false, false, false, true, false, false] rfl rfl (one_of HT_.out (by kernel_rfl)) (by decide) (fun K hK => ?_)
            refine goes_ Try.func12 (by kernel_rfl) rfl #[.agg #[.int .i64 a0_0, .int .i64 a0_1]] (by rfl) rfl rfl (by (try simp only [List.map_toArray, List.map_cons, List.map_nil]); first | done | rfl | (simp only [List.length_drop, List.length_take]; rfl)) ?_
            with_reducible refine (mosaiclaw17_Ref.calls a0_0 a0_1 t377 t378 _ A12.out).mono ?_
            rintro e w86 ⟨rfl, hb⟩
            refine ⟨_, rfl, ?_⟩
            have n0_ := bB BK347 hb
            have n1_ := bB BK348 hb
            have n2_ := bB BK352 hb
            have n3_ := bB BK356 hb
            have n4_ := bB BK360 hb
            have n5_ := bB BK368 hb
            have n6_ := bB BK376 hb
            have n7_ := bB BK384 hb
            have n8_ := hS HB hb
            clear BK347
            clear BK348
            clear BK352
            clear BK356
            clear BK360
            clear BK368
            clear BK376
            clear BK384
            clear HB
            have BK347 := n0_
            have BK348 := n1_
            have BK352 := n2_
            have BK356 := n3_
            have BK360 := n4_
            have BK368 := n5_
            have BK376 := n6_
            have BK384 := n7_
            have HB := n8_
            clear n0_ n1_ n2_ n3_ n4_ n5_ n6_ n7_ n8_
            (try clear hb)
            (try clear hb2)
            (try clear hk)
            (try clear hi)
            refine hK.out _ _ ⟨(blk_cell BK347.out 0).trans rfl, (blk_cell BK347.out 1).trans rfl, (blk_cell BK348.out 0).trans rfl, (blk_cell BK348.out 1).trans rfl⟩ (fun hHeld => ?_)
            clear hK K
            refine norm_ (a' := ?_) ?_ ?_
            rotate_left
            ·
             show Act.put _ (some 53) _ = _
             simp only [Act.put, List.setIfInBounds_toArray, List.set_cons_zero, List.set_cons_succ, i64_w, i32_w]
             rfl
            refine one_ (i := 3) (N := some 55) #[true, true, true, true, false, false, false, false, true, false, false] rfl rfl (one_of HT_.out (by kernel_rfl)) (by decide) (fun K hK => ?_)
            refine goes_ Try.func12 (by kernel_rfl) rfl #[.agg #[.int .i64 a1_0, .int .i64 a1_1]] (by rfl) rfl rfl (by (try simp only [List.map_toArray, List.map_cons, List.map_nil]); first | done | rfl | (simp only [List.length_drop, List.length_take]; rfl)) ?_
            with_reducible refine (mosaiclaw17_Ref.calls a1_0 a1_1 t379 t380 _ A13.out).mono ?_
            rintro e w87 ⟨rfl, hb⟩
            refine ⟨_, rfl, ?_⟩
            have n0_ := bB BK347 hb
            have n1_ := bB BK348 hb
            have n2_ := bB BK352 hb
            have n3_ := bB BK356 hb
            have n4_ := bB BK360 hb
            have n5_ := bB BK368 hb
            have n6_ := bB BK376 hb
            have n7_ := bB BK384 hb
            have n8_ := hS HB hb
            clear BK347
            clear BK348
            clear BK352
            clear BK356
            clear BK360
            clear BK368
            clear BK376
            clear BK384
            clear HB
            have BK347 := n0_
            have BK348 := n1_
            have BK352 := n2_
            have BK356 := n3_
            have BK360 := n4_
            have BK368 := n5_
            have BK376 := n6_
            have BK384 := n7_
            have HB := n8_
            clear n0_ n1_ n2_ n3_ n4_ n5_ n6_ n7_ n8_
            (try clear hb)
            (try clear hb2)
            (try clear hk)
            (try clear hi)
            refine hK.out _ _ ⟨(blk_cell BK347.out 0).trans rfl, (blk_cell BK347.out 1).trans rfl, (blk_cell BK348.out 0).trans rfl, (blk_cell BK348.out 1).trans rfl⟩ (fun hHeld => ?_)
            clear hK K
            refine norm_ (a' := ?_) ?_ ?_
            rotate_left
            ·
             show Act.put _ (some 55) _ = _
             simp only [Act.put, List.setIfInBounds_toArray, List.set_cons_zero, List.set_cons_succ, i64_w, i32_w]
             rfl
            refine one_ (i := 4) (N := some 56) #[true, true, true, true, true, false, false, false, true, false, false] rfl rfl (one_of HT_.out (by kernel_rfl)) (by decide) (fun K hK => ?_)
            refine goes_ Try.func27 (by kernel_rfl) rfl #[.agg #[.int .i64 t377, .int .i64 t378], .agg #[.int .i64 t379, .int .i64 t380]] (by rfl) rfl rfl (by (try simp only [List.map_toArray, List.map_cons, List.map_nil]); first | done | rfl | (simp only [List.length_drop, List.length_take]; rfl)) ?_
            with_reducible refine (mosaicref17_Mul.calls t377 t378 t379 t380 t381 t382 t383 _ A14.out).mono ?_
            rintro e w88 ⟨rfl, hb⟩
            refine ⟨_, rfl, ?_⟩
            have n0_ := bB BK347 hb
            have n1_ := bB BK348 hb
            have n2_ := bB BK352 hb
            have n3_ := bB BK356 hb
            have n4_ := bB BK360 hb
            have n5_ := bB BK368 hb
            have n6_ := bB BK376 hb
            have n7_ := bB BK384 hb
            have n8_ := hS HB hb
            clear BK347
            clear BK348
            clear BK352
            clear BK356
            clear BK360
            clear BK368
            clear BK376
            clear BK384
            clear HB
            have BK347 := n0_
            have BK348 := n1_
            have BK352 := n2_
            have BK356 := n3_
            have BK360 := n4_
            have BK368 := n5_
            have BK376 := n6_
            have BK384 := n7_
            have HB := n8_
            clear n0_ n1_ n2_ n3_ n4_ n5_ n6_ n7_ n8_
            (try clear hb)
            (try clear hb2)
            (try clear hk)
            (try clear hi)
            refine hK.out _ _ ⟨(blk_cell BK347.out 0).trans rfl, (blk_cell BK347.out 1).trans rfl, (blk_cell BK348.out 0).trans rfl, (blk_cell BK348.out 1).trans rfl⟩ (fun hHeld => ?_)
            clear hK K
            refine norm_ (a' := ?_) ?_ ?_
            rotate_left
            ·
             show Act.put _ (some 56) _ = _
             simp only [Act.put, List.setIfInBounds_toArray, List.set_cons_zero, List.set_cons_succ, i64_w, i32_w]
             rfl
            refine pure_ (i := 5) (N := some 51) (v := ?_) (a' := ?_) #[true, true, true, true, true, true, false, false, true, false, false] rfl rfl (any_of HT_.out (by kernel_rfl)) (fun _ _ _ h => h) (Or.inl ⟨by rfl, ?_⟩) ?_ ?_
            rotate_left
            ·
             intro w'
             go_simp
             with_reducible rfl
            rotate_left
            ·
             simp only [Act.put, List.setIfInBounds_toArray, List.set_cons_zero, List.set_cons_succ, i64_w, i32_w]
             rfl
            refine pure_ (i := 6) (N := some 57) (v := ?_) (a' := ?_) #[true, true, true, true, true, true, true, false, true, false, false] rfl rfl (any_of HT_.out (by kernel_rfl)) (fun _ _ _ h => h) (Or.inl ⟨by rfl, ?_⟩) ?_ ?_
            rotate_left
            ·
             intro w'
             go_simp
             with_reducible rfl
            rotate_left
            ·
             simp only [Act.put, List.setIfInBounds_toArray, List.set_cons_zero, List.set_cons_succ, i64_w, i32_w]
             rfl
            refine pure_ (i := 7) (N := some 58) (v := ?_) (a' := ?_) #[true, true, true, true, true, true, true, true, true, false, false] rfl rfl (any_of HT_.out (by kernel_rfl)) (fun _ _ _ h => h) (Or.inl ⟨by rfl, ?_⟩) ?_ ?_
            rotate_left
            ·
             intro w'
             go_simp
             with_reducible rfl
            rotate_left
            ·
             simp only [Act.put, List.setIfInBounds_toArray, List.set_cons_zero, List.set_cons_succ, i64_w, i32_w]
             rfl
            exact norm_ (by simp only [putAll, Act.put, List.setIfInBounds_toArray, List.set_cons_zero, List.set_cons_succ]) (hCont (gb384) _ ⟨hHeld, (by exact bS BK347), (by exact bS BK348), (by exact bS BK352), (by exact bS BK356), (by exact bS BK360), (by exact bS BK368), (by exact bS BK376), (by exact bS BK384), GW384.out, GE384.out, NB347_384.out, NB384_347.out, NB348_384.out, NB384_348.out, NB352_384.out, NB384_352.out, NB356_384.out, NB384_356.out, NB360_384.out, NB384_360.out, NB368_384.out, NB384_368.out, NB376_384.out, NB384_376.out, (by repeat (first | (with_reducible first | exact HB.out | apply below_alloc | apply pw_below_drewN | apply below_drew1 | refine below_set ?_ GE347.out | refine below_set ?_ GE348.out | refine below_set ?_ GE352.out | refine below_set ?_ GE356.out | refine below_set ?_ GE360.out | refine below_set ?_ GE368.out | refine below_set ?_ GE376.out | refine below_set ?_ GE384.out) | exact HB.out))⟩)
          rintro gb384 w89 ⟨hS_, h0_, h1_, h2_, h3_, h4_, h5_, h6_, h7_, h8_, h9_, h10_, h11_, h12_, h13_, h14_, h15_, h16_, h17_, h18_, h19_, h20_, h21_, h22_, h23_, h24_⟩
          have n0_ : Aside0 (w89.heap[gb347]? = some (.cells #[.int .i64 a0_0, .int .i64 a0_1] 23 (0, 0))) := ⟨h0_⟩
          have n1_ : Aside0 (w89.heap[gb348]? = some (.cells #[.int .i64 a1_0, .int .i64 a1_1] 23 (0, 0))) := ⟨h1_⟩
          have n2_ : Aside0 (w89.heap[gb352]? = some (.cells #[.int .i64 t349, .int .i64 t350] 23 (0, 0))) := ⟨h2_⟩
          have n3_ : Aside0 (w89.heap[gb356]? = some (.cells #[.int .i64 t353, .int .i64 t354] 23 (0, 0))) := ⟨h3_⟩
          have n4_ : Aside0 (w89.heap[gb360]? = some (.cells #[.int .i64 t357, .int .i64 t358] 23 (0, 0))) := ⟨h4_⟩
          have n5_ : Aside0 (w89.heap[gb368]? = some (.cells #[.int .i64 t365, .int .i64 t366] 27 (0, 0))) := ⟨h5_⟩
          have n6_ : Aside0 (w89.heap[gb376]? = some (.cells #[.int .i64 t373, .int .i64 t374] 27 (0, 0))) := ⟨h6_⟩
          have n7_ : Aside0 (w89.heap[gb384]? = some (.cells #[.int .i64 0, .int .i64 0] 27 (0, 0))) := ⟨h7_⟩
          have n8_ : Aside0 (w.heap.size ≤ gb384) := ⟨h8_⟩
          have n9_ : Aside0 (w.heap.size ≤ gb384) := ⟨h9_⟩
          have n10_ : Aside0 (gb347 ≠ gb384) := ⟨h10_⟩
          have n11_ : Aside0 (gb384 ≠ gb347) := ⟨h11_⟩
          have n12_ : Aside0 (gb348 ≠ gb384) := ⟨h12_⟩
          have n13_ : Aside0 (gb384 ≠ gb348) := ⟨h13_⟩
          have n14_ : Aside0 (gb352 ≠ gb384) := ⟨h14_⟩
          have n15_ : Aside0 (gb384 ≠ gb352) := ⟨h15_⟩
          have n16_ : Aside0 (gb356 ≠ gb384) := ⟨h16_⟩
          have n17_ : Aside0 (gb384 ≠ gb356) := ⟨h17_⟩
          have n18_ : Aside0 (gb360 ≠ gb384) := ⟨h18_⟩
          have n19_ : Aside0 (gb384 ≠ gb360) := ⟨h19_⟩
          have n20_ : Aside0 (gb368 ≠ gb384) := ⟨h20_⟩
          have n21_ : Aside0 (gb384 ≠ gb368) := ⟨h21_⟩
          have n22_ : Aside0 (gb376 ≠ gb384) := ⟨h22_⟩
          have n23_ : Aside0 (gb384 ≠ gb376) := ⟨h23_⟩
          have n24_ : Aside0 (Below w.heap.size w w89) := ⟨h24_⟩
          clear BK347
          clear BK348
          clear BK352
          clear BK356
          clear BK360
          clear BK368
          clear BK376
          clear HB
          clear h0_ h1_ h2_ h3_ h4_ h5_ h6_ h7_ h8_ h9_ h10_ h11_ h12_ h13_ h14_ h15_ h16_ h17_ h18_ h19_ h20_ h21_ h22_ h23_ h24_
          have BK347 := n0_
          have BK348 := n1_
          have BK352 := n2_
          have BK356 := n3_
          have BK360 := n4_
          have BK368 := n5_
          have BK376 := n6_
          have BK384 := n7_
          have GW384 := n8_
          have GE384 := n9_
          have NB347_384 := n10_
          have NB384_347 := n11_
          have NB348_384 := n12_
          have NB384_348 := n13_
          have NB352_384 := n14_
          have NB384_352 := n15_
          have NB356_384 := n16_
          have NB384_356 := n17_
          have NB360_384 := n18_
          have NB384_360 := n19_
          have NB368_384 := n20_
          have NB384_368 := n21_
          have NB376_384 := n22_
          have NB384_376 := n23_
          have HB := n24_
          clear n0_ n1_ n2_ n3_ n4_ n5_ n6_ n7_ n8_ n9_ n10_ n11_ n12_ n13_ n14_ n15_ n16_ n17_ n18_ n19_ n20_ n21_ n22_ n23_ n24_
          have hHeld : w89.cell? ⟨gb347, 0, none⟩ = some (.int .i64 a0_0) ∧ w89.cell? ⟨gb347, 1, none⟩ = some (.int .i64 a0_1) ∧ w89.cell? ⟨gb348, 0, none⟩ = some (.int .i64 a1_0) ∧ w89.cell? ⟨gb348, 1, none⟩ = some (.int .i64 a1_1) := hS_
          refine norm_ (a' := ?_) ?_ ?_
          rotate_left
          ·
           simp only [putAll, Act.put, List.setIfInBounds_toArray, List.set_cons_zero, List.set_cons_succ]
           rfl
          refine one_ (i := 9) (N := none) #[true, true, true, true, true, true, true, true, true, true, false] rfl rfl (one_of HT_.out (by kernel_rfl)) (by decide) (fun K hK => ?_)
          have hs90 : w89.cell? ⟨gb384, 0, none⟩ = some (.int .i64 0) := (blk_cell BK384.out 0).trans rfl
          have hfs90 := blk_frozen BK384.out 0
          have hns90_0 := NB347_384.out
          have hns90_1 := NB348_384.out
          have hns90_2 := NB352_384.out
          have hns90_3 := NB356_384.out
          have hns90_4 := NB360_384.out
          have hns90_5 := NB368_384.out
          have hns90_6 := NB376_384.out
          have hms90_0 := NB384_347.out
          have hms90_1 := NB384_348.out
          have hms90_2 := NB384_352.out
          have hms90_3 := NB384_356.out
          have hms90_4 := NB384_360.out
          have hms90_5 := NB384_368.out
          have hms90_6 := NB384_376.out
          have hs91 : w89.cell? ⟨gb384, 1, none⟩ = some (.int .i64 0) := (blk_cell BK384.out 1).trans rfl
          have hfs91 := blk_frozen BK384.out 1
          have hns91_0 := NB347_384.out
          have hns91_1 := NB348_384.out
          have hns91_2 := NB352_384.out
          have hns91_3 := NB356_384.out
          have hns91_4 := NB360_384.out
          have hns91_5 := NB368_384.out
          have hns91_6 := NB376_384.out
          have hms91_0 := NB384_347.out
          have hms91_1 := NB384_348.out
          have hms91_2 := NB384_352.out
          have hms91_3 := NB384_356.out
          have hms91_4 := NB384_360.out
          have hms91_5 := NB384_368.out
          have hms91_6 := NB384_376.out
          refine skip_ (w1 := ?_) (by rfl) rfl ?_ ?_
          rotate_left
          ·
           go_simp
           rfl
          refine hK.out _ _ ⟨((cell_far (p := ⟨gb384, _, none⟩) NB347_384.out _).trans (((cell_far (p := ⟨gb384, _, none⟩) NB347_384.out _).trans (hHeld.1)))), ((cell_far (p := ⟨gb384, _, none⟩) NB347_384.out _).trans (((cell_far (p := ⟨gb384, _, none⟩) NB347_384.out _).trans (hHeld.2.1)))), ((cell_far (p := ⟨gb384, _, none⟩) NB348_384.out _).trans (((cell_far (p := ⟨gb384, _, none⟩) NB348_384.out _).trans (hHeld.2.2.1)))), ((cell_far (p := ⟨gb384, _, none⟩) NB348_384.out _).trans (((cell_far (p := ⟨gb384, _, none⟩) NB348_384.out _).trans (hHeld.2.2.2))))⟩ (fun hHeld => ?_)
          clear hK K
          refine pure_ (i := 10) (N := some 16) (v := ?_) (a' := ?_) #[true, true, true, true, true, true, true, true, true, true, true] rfl rfl (any_of HT_.out (by kernel_rfl)) (fun _ _ _ h => h) (Or.inl ⟨by rfl, ?_⟩) ?_ ?_
          rotate_left
          ·
           intro w'
           go_simp
           with_reducible rfl
          rotate_left
          ·
           simp only [Act.put, List.setIfInBounds_toArray, List.set_cons_zero, List.set_cons_succ, i64_w, i32_w]
           rfl
          refine done_ (done_of HT_.out (by kernel_rfl)) ?_
          try go_wp2
          have n0_ : Aside0 (((w89.setCell ⟨gb384, 0, none⟩ (.int .i64 t381)).setCell ⟨gb384, 1, none⟩ (.int .i64 t382)).heap[gb347]? = some (.cells #[.int .i64 a0_0, .int .i64 a0_1] 23 (0, 0))) := ⟨by (with_reducible repeat (first | refine blk_drewN ?_ _ | refine blk_drew ?_ | refine blk_alloc ?_ _)); refine blk_far ?_ NB347_384.out _; (with_reducible repeat (first | refine blk_drewN ?_ _ | refine blk_drew ?_ | refine blk_alloc ?_ _)); refine blk_far ?_ NB347_384.out _; (with_reducible repeat (first | refine blk_drewN ?_ _ | refine blk_drew ?_ | refine blk_alloc ?_ _)); exact BK347.out⟩
          have n1_ : Aside0 (((w89.setCell ⟨gb384, 0, none⟩ (.int .i64 t381)).setCell ⟨gb384, 1, none⟩ (.int .i64 t382)).heap[gb348]? = some (.cells #[.int .i64 a1_0, .int .i64 a1_1] 23 (0, 0))) := ⟨by (with_reducible repeat (first | refine blk_drewN ?_ _ | refine blk_drew ?_ | refine blk_alloc ?_ _)); refine blk_far ?_ NB348_384.out _; (with_reducible repeat (first | refine blk_drewN ?_ _ | refine blk_drew ?_ | refine blk_alloc ?_ _)); refine blk_far ?_ NB348_384.out _; (with_reducible repeat (first | refine blk_drewN ?_ _ | refine blk_drew ?_ | refine blk_alloc ?_ _)); exact BK348.out⟩
          have n2_ : Aside0 (((w89.setCell ⟨gb384, 0, none⟩ (.int .i64 t381)).setCell ⟨gb384, 1, none⟩ (.int .i64 t382)).heap[gb352]? = some (.cells #[.int .i64 t349, .int .i64 t350] 23 (0, 0))) := ⟨by (with_reducible repeat (first | refine blk_drewN ?_ _ | refine blk_drew ?_ | refine blk_alloc ?_ _)); refine blk_far ?_ NB352_384.out _; (with_reducible repeat (first | refine blk_drewN ?_ _ | refine blk_drew ?_ | refine blk_alloc ?_ _)); refine blk_far ?_ NB352_384.out _; (with_reducible repeat (first | refine blk_drewN ?_ _ | refine blk_drew ?_ | refine blk_alloc ?_ _)); exact BK352.out⟩
          have n3_ : Aside0 (((w89.setCell ⟨gb384, 0, none⟩ (.int .i64 t381)).setCell ⟨gb384, 1, none⟩ (.int .i64 t382)).heap[gb356]? = some (.cells #[.int .i64 t353, .int .i64 t354] 23 (0, 0))) := ⟨by (with_reducible repeat (first | refine blk_drewN ?_ _ | refine blk_drew ?_ | refine blk_alloc ?_ _)); refine blk_far ?_ NB356_384.out _; (with_reducible repeat (first | refine blk_drewN ?_ _ | refine blk_drew ?_ | refine blk_alloc ?_ _)); refine blk_far ?_ NB356_384.out _; (with_reducible repeat (first | refine blk_drewN ?_ _ | refine blk_drew ?_ | refine blk_alloc ?_ _)); exact BK356.out⟩
          have n4_ : Aside0 (((w89.setCell ⟨gb384, 0, none⟩ (.int .i64 t381)).setCell ⟨gb384, 1, none⟩ (.int .i64 t382)).heap[gb360]? = some (.cells #[.int .i64 t357, .int .i64 t358] 23 (0, 0))) := ⟨by (with_reducible repeat (first | refine blk_drewN ?_ _ | refine blk_drew ?_ | refine blk_alloc ?_ _)); refine blk_far ?_ NB360_384.out _; (with_reducible repeat (first | refine blk_drewN ?_ _ | refine blk_drew ?_ | refine blk_alloc ?_ _)); refine blk_far ?_ NB360_384.out _; (with_reducible repeat (first | refine blk_drewN ?_ _ | refine blk_drew ?_ | refine blk_alloc ?_ _)); exact BK360.out⟩
          have n5_ : Aside0 (((w89.setCell ⟨gb384, 0, none⟩ (.int .i64 t381)).setCell ⟨gb384, 1, none⟩ (.int .i64 t382)).heap[gb368]? = some (.cells #[.int .i64 t365, .int .i64 t366] 27 (0, 0))) := ⟨by (with_reducible repeat (first | refine blk_drewN ?_ _ | refine blk_drew ?_ | refine blk_alloc ?_ _)); refine blk_far ?_ NB368_384.out _; (with_reducible repeat (first | refine blk_drewN ?_ _ | refine blk_drew ?_ | refine blk_alloc ?_ _)); refine blk_far ?_ NB368_384.out _; (with_reducible repeat (first | refine blk_drewN ?_ _ | refine blk_drew ?_ | refine blk_alloc ?_ _)); exact BK368.out⟩
          have n6_ : Aside0 (((w89.setCell ⟨gb384, 0, none⟩ (.int .i64 t381)).setCell ⟨gb384, 1, none⟩ (.int .i64 t382)).heap[gb376]? = some (.cells #[.int .i64 t373, .int .i64 t374] 27 (0, 0))) := ⟨by (with_reducible repeat (first | refine blk_drewN ?_ _ | refine blk_drew ?_ | refine blk_alloc ?_ _)); refine blk_far ?_ NB376_384.out _; (with_reducible repeat (first | refine blk_drewN ?_ _ | refine blk_drew ?_ | refine blk_alloc ?_ _)); refine blk_far ?_ NB376_384.out _; (with_reducible repeat (first | refine blk_drewN ?_ _ | refine blk_drew ?_ | refine blk_alloc ?_ _)); exact BK376.out⟩
          have n7_ : Aside0 (((w89.setCell ⟨gb384, 0, none⟩ (.int .i64 t381)).setCell ⟨gb384, 1, none⟩ (.int .i64 t382)).heap[gb384]? = some (.cells #[.int .i64 t381, .int .i64 t382] 27 (0, 0))) := ⟨by (with_reducible repeat (first | refine blk_drewN ?_ _ | refine blk_drew ?_ | refine blk_alloc ?_ _)); refine blk_put (cs := #[.int .i64 t381, .int .i64 0]) ?_ 1 _ rfl; (with_reducible repeat (first | refine blk_drewN ?_ _ | refine blk_drew ?_ | refine blk_alloc ?_ _)); refine blk_put (cs := #[.int .i64 0, .int .i64 0]) ?_ 0 _ rfl; (with_reducible repeat (first | refine blk_drewN ?_ _ | refine blk_drew ?_ | refine blk_alloc ?_ _)); exact BK384.out⟩
          have n8_ : Aside0 (Below w.heap.size w ((w89.setCell ⟨gb384, 0, none⟩ (.int .i64 t381)).setCell ⟨gb384, 1, none⟩ (.int .i64 t382))) := ⟨by repeat (first | (with_reducible first | exact HB.out | apply below_alloc | apply pw_below_drewN | apply below_drew1 | refine below_set ?_ GE347.out | refine below_set ?_ GE348.out | refine below_set ?_ GE352.out | refine below_set ?_ GE356.out | refine below_set ?_ GE360.out | refine below_set ?_ GE368.out | refine below_set ?_ GE376.out | refine below_set ?_ GE384.out) | exact HB.out)⟩
          (try clear BK347)
          (try clear BK348)
          (try clear BK352)
          (try clear BK356)
          (try clear BK360)
          (try clear BK368)
          (try clear BK376)
          (try clear BK384)
          (try clear HB)
          generalize ((w89.setCell ⟨gb384, 0, none⟩ (.int .i64 t381)).setCell ⟨gb384, 1, none⟩ (.int .i64 t382)) = w92 at n0_ n1_ n2_ n3_ n4_ n5_ n6_ n7_ n8_ ⊢
          have BK347 := n0_
          have BK348 := n1_
          have BK352 := n2_
          have BK356 := n3_
          have BK360 := n4_
          have BK368 := n5_
          have BK376 := n6_
          have BK384 := n7_
          have HB := n8_
          clear n0_ n1_ n2_ n3_ n4_ n5_ n6_ n7_ n8_
          have n0_ := Aside0.mk (blk_drew BK347.out)
          have n1_ := Aside0.mk (blk_drew BK348.out)
          have n2_ := Aside0.mk (blk_drew BK352.out)
          have n3_ := Aside0.mk (blk_drew BK356.out)
          have n4_ := Aside0.mk (blk_drew BK360.out)
          have n5_ := Aside0.mk (blk_drew BK368.out)
          have n6_ := Aside0.mk (blk_drew BK376.out)
          have n7_ := Aside0.mk (blk_drew BK384.out)
          have n8_ := Aside0.mk (below_drew1 HB.out)
          clear BK347
          clear BK348
          clear BK352
          clear BK356
          clear BK360
          clear BK368
          clear BK376
          clear BK384
          clear HB
          have BK347 := n0_
          have BK348 := n1_
          have BK352 := n2_
          have BK356 := n3_
          have BK360 := n4_
          have BK368 := n5_
          have BK376 := n6_
          have BK384 := n7_
          have HB := n8_
          clear n0_ n1_ n2_ n3_ n4_ n5_ n6_ n7_ n8_
          refine start_ (n := 31) (S := fun w' => w'.cell? ⟨gb352, 0, none⟩ = some (.int .i64 t349) ∧ w'.cell? ⟨gb352, 1, none⟩ = some (.int .i64 t350) ∧ w'.cell? ⟨gb368, 0, none⟩ = some (.int .i64 t365) ∧ w'.cell? ⟨gb368, 1, none⟩ = some (.int .i64 t366) ∧ w'.cell? ⟨gb356, 0, none⟩ = some (.int .i64 t353) ∧ w'.cell? ⟨gb356, 1, none⟩ = some (.int .i64 t354) ∧ w'.cell? ⟨gb376, 0, none⟩ = some (.int .i64 t373) ∧ w'.cell? ⟨gb376, 1, none⟩ = some (.int .i64 t374) ∧ w'.cell? ⟨gb360, 0, none⟩ = some (.int .i64 t357) ∧ w'.cell? ⟨gb360, 1, none⟩ = some (.int .i64 t358) ∧ w'.cell? ⟨gb384, 0, none⟩ = some (.int .i64 t381) ∧ w'.cell? ⟨gb384, 1, none⟩ = some (.int .i64 t382)) (ds := []) #[false, false, false, false, false, false, false, false, false, false, false, false, false, false, false, false, false, false, false, false, false, false, false, false, false, false, false, false, false, false, false] (by kernel_rfl) rfl rfl ⟨(blk_cell BK352.out 0).trans rfl, (blk_cell BK352.out 1).trans rfl, (blk_cell BK368.out 0).trans rfl, (blk_cell BK368.out 1).trans rfl, (blk_cell BK356.out 0).trans rfl, (blk_cell BK356.out 1).trans rfl, (blk_cell BK376.out 0).trans rfl, (blk_cell BK376.out 1).trans rfl, (blk_cell BK360.out 0).trans rfl, (blk_cell BK360.out 1).trans rfl, (blk_cell BK384.out 0).trans rfl, (blk_cell BK384.out 1).trans rfl⟩ (fun hHeld => ?_); refine with_tabW mosaiclaw17_PlaneReckons.tab7 mosaiclaw17_PlaneReckons.bits7 (fun HT_ HW_ => ?_)
          generalize w92.drew = w93 at BK347 BK348 BK352 BK356 BK360 BK368 BK376 BK384 HB hHeld ⊢
          refine take_ (i := 0) (N := some 59) (v := ?_) (a' := ?_) #[true, false, false, false, false, false, false, false, false, false, false, false, false, false, false, false, false, false, false, false, false, false, false, false, false, false, false, false, false, false, false] rfl rfl (take_ofW HT_.out HW_.out (by kernel_rfl)) (fun _ _ _ h => h) (Or.inl ⟨by rfl, ?_⟩) hHeld ?_ ?_
          rotate_left
          ·
           rintro w' ⟨s0, s1, s2, s3, s4, s5, s6, s7, s8, s9, s10, s11⟩
           go_simp
           with_reducible rfl
          rotate_left
          ·
           simp only [Act.put, List.setIfInBounds_toArray, List.set_cons_zero, List.set_cons_succ, i64_w, i32_w]
           rfl
          refine take_ (i := 2) (N := some 61) (v := ?_) (a' := ?_) #[true, false, true, false, false, false, false, false, false, false, false, false, false, false, false, false, false, false, false, false, false, false, false, false, false, false, false, false, false, false, false] rfl rfl (take_ofW HT_.out HW_.out (by kernel_rfl)) (fun _ _ _ h => h) (Or.inl ⟨by rfl, ?_⟩) hHeld ?_ ?_
          rotate_left
          ·
           rintro w' ⟨s0, s1, s2, s3, s4, s5, s6, s7, s8, s9, s10, s11⟩
           go_simp
           with_reducible rfl
          rotate_left
          ·
           simp only [Act.put, List.setIfInBounds_toArray, List.set_cons_zero, List.set_cons_succ, i64_w, i32_w]
           rfl
          refine one_ (i := 1) (N := some 60) #[true, true, true, false, false, false, false, false, false, false, false, false, false, false, false, false, false, false, false, false, false, false, false, false, false, false, false, false, false, false, false] rfl rfl (one_of HT_.out (by kernel_rfl)) (by decide) (fun K hK => ?_)
          refine goes_ Try.func12 (by kernel_rfl) rfl #[.agg #[.int .i64 t349, .int .i64 t350]] (by rfl) rfl rfl (by (try simp only [List.map_toArray, List.map_cons, List.map_nil]); first | done | rfl | (simp only [List.length_drop, List.length_take]; rfl)) ?_
          with_reducible refine (mosaiclaw17_Ref.calls t349 t350 t385 t386 _ A15.out).mono ?_
          rintro e w94 ⟨rfl, hb⟩
          refine ⟨_, rfl, ?_⟩
          have n0_ := bB BK347 hb
          have n1_ := bB BK348 hb
          have n2_ := bB BK352 hb
          have n3_ := bB BK356 hb
          have n4_ := bB BK360 hb
          have n5_ := bB BK368 hb
          have n6_ := bB BK376 hb
          have n7_ := bB BK384 hb
          have n8_ := hS HB hb
          clear BK347
          clear BK348
          clear BK352
          clear BK356
          clear BK360
          clear BK368
          clear BK376
          clear BK384
          clear HB
          have BK347 := n0_
          have BK348 := n1_
          have BK352 := n2_
          have BK356 := n3_
          have BK360 := n4_
          have BK368 := n5_
          have BK376 := n6_
          have BK384 := n7_
          have HB := n8_
          clear n0_ n1_ n2_ n3_ n4_ n5_ n6_ n7_ n8_
          (try clear hb)
          (try clear hb2)
          (try clear hk)
          (try clear hi)
          refine hK.out _ _ ⟨(blk_cell BK352.out 0).trans rfl, (blk_cell BK352.out 1).trans rfl, (blk_cell BK368.out 0).trans rfl, (blk_cell BK368.out 1).trans rfl, (blk_cell BK356.out 0).trans rfl, (blk_cell BK356.out 1).trans rfl, (blk_cell BK376.out 0).trans rfl, (blk_cell BK376.out 1).trans rfl, (blk_cell BK360.out 0).trans rfl, (blk_cell BK360.out 1).trans rfl, (blk_cell BK384.out 0).trans rfl, (blk_cell BK384.out 1).trans rfl⟩ (fun hHeld => ?_)
          clear hK K
          refine norm_ (a' := ?_) ?_ ?_
          rotate_left
          ·
           show Act.put _ (some 60) _ = _
           simp only [Act.put, List.setIfInBounds_toArray, List.set_cons_zero, List.set_cons_succ, i64_w, i32_w]
           rfl
          refine pure_ (i := 3) (N := some 62) (v := ?_) (a' := ?_) #[true, true, true, true, false, false, false, false, false, false, false, false, false, false, false, false, false, false, false, false, false, false, false, false, false, false, false, false, false, false, false] rfl rfl (any_of HT_.out (by kernel_rfl)) (fun _ _ _ h => h) (Or.inl ⟨by rfl, ?_⟩) ?_ ?_
          rotate_left
          ·
           intro w'
           go_simp
           with_reducible rfl
          rotate_left
          ·
           simp only [Act.put, List.setIfInBounds_toArray, List.set_cons_zero, List.set_cons_succ, i64_w, i32_w]
           rfl
          refine pure_ (i := 4) (N := some 63) (v := ?_) (a' := ?_) #[true, true, true, true, true, false, false, false, false, false, false, false, false, false, false, false, false, false, false, false, false, false, false, false, false, false, false, false, false, false, false] rfl rfl (any_of HT_.out (by kernel_rfl)) (fun _ _ _ h => h) (Or.inl ⟨by rfl, ?_⟩) ?_ ?_
          rotate_left
          ·
           intro w'
           go_simp
           with_reducible rfl
          rotate_left
          ·
           simp only [Act.put, List.setIfInBounds_toArray, List.set_cons_zero, List.set_cons_succ, i64_w, i32_w]
           rfl
          refine take_ (i := 5) (N := some 64) (v := ?_) (a' := ?_) #[true, true, true, true, true, true, false, false, false, false, false, false, false, false, false, false, false, false, false, false, false, false, false, false, false, false, false, false, false, false, false] rfl rfl (take_ofW HT_.out HW_.out (by kernel_rfl)) (fun _ _ _ h => h) (Or.inl ⟨by rfl, ?_⟩) hHeld ?_ ?_
          rotate_left
          ·
           rintro w' ⟨s0, s1, s2, s3, s4, s5, s6, s7, s8, s9, s10, s11⟩
           go_simp
           with_reducible rfl
          rotate_left
          ·
           simp only [Act.put, List.setIfInBounds_toArray, List.set_cons_zero, List.set_cons_succ, i64_w, i32_w]
           rfl
          refine take_ (i := 7) (N := some 66) (v := ?_) (a' := ?_) #[true, true, true, true, true, true, false, true, false, false, false, false, false, false, false, false, false, false, false, false, false, false, false, false, false, false, false, false, false, false, false] rfl rfl (take_ofW HT_.out HW_.out (by kernel_rfl)) (fun _ _ _ h => h) (Or.inl ⟨by rfl, ?_⟩) hHeld ?_ ?_
          rotate_left
          ·
           rintro w' ⟨s0, s1, s2, s3, s4, s5, s6, s7, s8, s9, s10, s11⟩
           go_simp
           with_reducible rfl
          rotate_left
          ·
           simp only [Act.put, List.setIfInBounds_toArray, List.set_cons_zero, List.set_cons_succ, i64_w, i32_w]
           rfl
          refine one_ (i := 6) (N := some 65) #[true, true, true, true, true, true, true, true, false, false, false, false, false, false, false, false, false, false, false, false, false, false, false, false, false, false, false, false, false, false, false] rfl rfl (one_of HT_.out (by kernel_rfl)) (by decide) (fun K hK => ?_)
          refine goes_ Try.func12 (by kernel_rfl) rfl #[.agg #[.int .i64 t353, .int .i64 t354]] (by rfl) rfl rfl (by (try simp only [List.map_toArray, List.map_cons, List.map_nil]); first | done | rfl | (simp only [List.length_drop, List.length_take]; rfl)) ?_
          with_reducible refine (mosaiclaw17_Ref.calls t353 t354 t387 t388 _ A17.out).mono ?_
          rintro e w95 ⟨rfl, hb⟩
          refine ⟨_, rfl, ?_⟩
          have n0_ := bB BK347 hb
          have n1_ := bB BK348 hb
          have n2_ := bB BK352 hb
          have n3_ := bB BK356 hb
          have n4_ := bB BK360 hb
          have n5_ := bB BK368 hb
          have n6_ := bB BK376 hb
          have n7_ := bB BK384 hb
          have n8_ := hS HB hb
          clear BK347
          clear BK348
          clear BK352
          clear BK356
          clear BK360
          clear BK368
          clear BK376
          clear BK384
          clear HB
          have BK347 := n0_
          have BK348 := n1_
          have BK352 := n2_
          have BK356 := n3_
          have BK360 := n4_
          have BK368 := n5_
          have BK376 := n6_
          have BK384 := n7_
          have HB := n8_
          clear n0_ n1_ n2_ n3_ n4_ n5_ n6_ n7_ n8_
          (try clear hb)
          (try clear hb2)
          (try clear hk)
          (try clear hi)
          refine hK.out _ _ ⟨(blk_cell BK352.out 0).trans rfl, (blk_cell BK352.out 1).trans rfl, (blk_cell BK368.out 0).trans rfl, (blk_cell BK368.out 1).trans rfl, (blk_cell BK356.out 0).trans rfl, (blk_cell BK356.out 1).trans rfl, (blk_cell BK376.out 0).trans rfl, (blk_cell BK376.out 1).trans rfl, (blk_cell BK360.out 0).trans rfl, (blk_cell BK360.out 1).trans rfl, (blk_cell BK384.out 0).trans rfl, (blk_cell BK384.out 1).trans rfl⟩ (fun hHeld => ?_)
          clear hK K
          refine norm_ (a' := ?_) ?_ ?_
          rotate_left
          ·
           show Act.put _ (some 65) _ = _
           simp only [Act.put, List.setIfInBounds_toArray, List.set_cons_zero, List.set_cons_succ, i64_w, i32_w]
           rfl
          refine pure_ (i := 8) (N := some 67) (v := ?_) (a' := ?_) #[true, true, true, true, true, true, true, true, true, false, false, false, false, false, false, false, false, false, false, false, false, false, false, false, false, false, false, false, false, false, false] rfl rfl (any_of HT_.out (by kernel_rfl)) (fun _ _ _ h => h) (Or.inl ⟨by rfl, ?_⟩) ?_ ?_
          rotate_left
          ·
           intro w'
           go_simp
           with_reducible rfl
          rotate_left
          ·
           simp only [Act.put, List.setIfInBounds_toArray, List.set_cons_zero, List.set_cons_succ, i64_w, i32_w]
           rfl
          refine pure_ (i := 9) (N := some 68) (v := ?_) (a' := ?_) #[true, true, true, true, true, true, true, true, true, true, false, false, false, false, false, false, false, false, false, false, false, false, false, false, false, false, false, false, false, false, false] rfl rfl (any_of HT_.out (by kernel_rfl)) (fun _ _ _ h => h) (Or.inl ⟨by rfl, ?_⟩) ?_ ?_
          rotate_left
          ·
           intro w'
           go_simp
           with_reducible rfl
          rotate_left
          ·
           simp only [Act.put, List.setIfInBounds_toArray, List.set_cons_zero, List.set_cons_succ, i64_w, i32_w]
           rfl
          refine pure_ (i := 10) (N := some 69) (v := ?_) (a' := ?_) #[true, true, true, true, true, true, true, true, true, true, true, false, false, false, false, false, false, false, false, false, false, false, false, false, false, false, false, false, false, false, false] rfl rfl (any_of HT_.out (by kernel_rfl)) (fun _ _ _ h => h) (Or.inl ⟨by rfl, ?_⟩) ?_ ?_
          rotate_left
          ·
           intro w'
           go_simp
           with_reducible rfl
          rotate_left
          ·
           simp only [Act.put, List.setIfInBounds_toArray, List.set_cons_zero, List.set_cons_succ, i64_w, i32_w]
           rfl
          refine take_ (i := 11) (N := some 70) (v := ?_) (a' := ?_) #[true, true, true, true, true, true, true, true, true, true, true, true, false, false, false, false, false, false, false, false, false, false, false, false, false, false, false, false, false, false, false] rfl rfl (take_ofW HT_.out HW_.out (by kernel_rfl)) (fun _ _ _ h => h) (Or.inl ⟨by rfl, ?_⟩) hHeld ?_ ?_
          rotate_left
          ·
           rintro w' ⟨s0, s1, s2, s3, s4, s5, s6, s7, s8, s9, s10, s11⟩
           go_simp
           with_reducible rfl
          rotate_left
          ·
           simp only [Act.put, List.setIfInBounds_toArray, List.set_cons_zero, List.set_cons_succ, i64_w, i32_w]
           rfl
          refine take_ (i := 13) (N := some 72) (v := ?_) (a' := ?_) #[true, true, true, true, true, true, true, true, true, true, true, true, false, true, false, false, false, false, false, false, false, false, false, false, false, false, false, false, false, false, false] rfl rfl (take_ofW HT_.out HW_.out (by kernel_rfl)) (fun _ _ _ h => h) (Or.inl ⟨by rfl, ?_⟩) hHeld ?_ ?_
          rotate_left
          ·
           rintro w' ⟨s0, s1, s2, s3, s4, s5, s6, s7, s8, s9, s10, s11⟩
           go_simp
           with_reducible rfl
          rotate_left
          ·
           simp only [Act.put, List.setIfInBounds_toArray, List.set_cons_zero, List.set_cons_succ, i64_w, i32_w]
           rfl
          refine one_ (i := 12) (N := some 71) #[true, true, true, true, true, true, true, true, true, true, true, true, true, true, false, false, false, false, false, false, false, false, false, false, false, false, false, false, false, false, false] rfl rfl (one_of HT_.out (by kernel_rfl)) (by decide) (fun K hK => ?_)
          refine goes_ Try.func12 (by kernel_rfl) rfl #[.agg #[.int .i64 t357, .int .i64 t358]] (by rfl) rfl rfl (by (try simp only [List.map_toArray, List.map_cons, List.map_nil]); first | done | rfl | (simp only [List.length_drop, List.length_take]; rfl)) ?_
          with_reducible refine (mosaiclaw17_Ref.calls t357 t358 t389 t390 _ A19.out).mono ?_
          rintro e w96 ⟨rfl, hb⟩
          refine ⟨_, rfl, ?_⟩
          have n0_ := bB BK347 hb
          have n1_ := bB BK348 hb
          have n2_ := bB BK352 hb
          have n3_ := bB BK356 hb
          have n4_ := bB BK360 hb
          have n5_ := bB BK368 hb
          have n6_ := bB BK376 hb
          have n7_ := bB BK384 hb
          have n8_ := hS HB hb
          clear BK347
          clear BK348
          clear BK352
          clear BK356
          clear BK360
          clear BK368
          clear BK376
          clear BK384
          clear HB
          have BK347 := n0_
          have BK348 := n1_
          have BK352 := n2_
          have BK356 := n3_
          have BK360 := n4_
          have BK368 := n5_
          have BK376 := n6_
          have BK384 := n7_
          have HB := n8_
          clear n0_ n1_ n2_ n3_ n4_ n5_ n6_ n7_ n8_
          (try clear hb)
          (try clear hb2)
          (try clear hk)
          (try clear hi)
          refine hK.out _ _ ⟨(blk_cell BK352.out 0).trans rfl, (blk_cell BK352.out 1).trans rfl, (blk_cell BK368.out 0).trans rfl, (blk_cell BK368.out 1).trans rfl, (blk_cell BK356.out 0).trans rfl, (blk_cell BK356.out 1).trans rfl, (blk_cell BK376.out 0).trans rfl, (blk_cell BK376.out 1).trans rfl, (blk_cell BK360.out 0).trans rfl, (blk_cell BK360.out 1).trans rfl, (blk_cell BK384.out 0).trans rfl, (blk_cell BK384.out 1).trans rfl⟩ (fun hHeld => ?_)
          clear hK K
          refine norm_ (a' := ?_) ?_ ?_
          rotate_left
          ·
           show Act.put _ (some 71) _ = _
           simp only [Act.put, List.setIfInBounds_toArray, List.set_cons_zero, List.set_cons_succ, i64_w, i32_w]
           rfl
          refine pure_ (i := 14) (N := some 73) (v := ?_) (a' := ?_) #[true, true, true, true, true, true, true, true, true, true, true, true, true, true, true, false, false, false, false, false, false, false, false, false, false, false, false, false, false, false, false] rfl rfl (any_of HT_.out (by kernel_rfl)) (fun _ _ _ h => h) (Or.inl ⟨by rfl, ?_⟩) ?_ ?_
          rotate_left
          ·
           intro w'
           go_simp
           with_reducible rfl
          rotate_left
          ·
           simp only [Act.put, List.setIfInBounds_toArray, List.set_cons_zero, List.set_cons_succ, i64_w, i32_w]
           rfl
          refine pure_ (i := 15) (N := some 74) (v := ?_) (a' := ?_) #[true, true, true, true, true, true, true, true, true, true, true, true, true, true, true, true, false, false, false, false, false, false, false, false, false, false, false, false, false, false, false] rfl rfl (any_of HT_.out (by kernel_rfl)) (fun _ _ _ h => h) (Or.inl ⟨by rfl, ?_⟩) ?_ ?_
          rotate_left
          ·
           intro w'
           go_simp
           with_reducible rfl
          rotate_left
          ·
           simp only [Act.put, List.setIfInBounds_toArray, List.set_cons_zero, List.set_cons_succ, i64_w, i32_w]
           rfl
          refine pure_ (i := 16) (N := some 75) (v := ?_) (a' := ?_) #[true, true, true, true, true, true, true, true, true, true, true, true, true, true, true, true, true, false, false, false, false, false, false, false, false, false, false, false, false, false, false] rfl rfl (any_of HT_.out (by kernel_rfl)) (fun _ _ _ h => h) (Or.inl ⟨by rfl, ?_⟩) ?_ ?_
          rotate_left
          ·
           intro w'
           go_simp
           with_reducible rfl
          rotate_left
          ·
           simp only [Act.put, List.setIfInBounds_toArray, List.set_cons_zero, List.set_cons_succ, i64_w, i32_w]
           rfl
          refine pure_ (i := 17) (N := some 76) (v := ?_) (a' := ?_) #[true, true, true, true, true, true, true, true, true, true, true, true, true, true, true, true, true, true, false, false, false, false, false, false, false, false, false, false, false, false, false] rfl rfl (any_of HT_.out (by kernel_rfl)) (fun _ _ _ h => h) (Or.inl ⟨by rfl, ?_⟩) ?_ ?_
          rotate_left
          ·
           intro w'
           go_simp
           with_reducible rfl
          rotate_left
          ·
           simp only [Act.put, List.setIfInBounds_toArray, List.set_cons_zero, List.set_cons_succ, i64_w, i32_w]
           rfl
          refine pure_ (i := 18) (N := some 77) (v := ?_) (a' := ?_) #[true, true, true, true, true, true, true, true, true, true, true, true, true, true, true, true, true, true, true, false, false, false, false, false, false, false, false, false, false, false, false] rfl rfl (any_of HT_.out (by kernel_rfl)) (fun _ _ _ h => h) (Or.inl ⟨by rfl, ?_⟩) ?_ ?_
          rotate_left
          ·
           intro w'
           go_simp
           with_reducible rfl
          rotate_left
          ·
           simp only [Act.put, List.setIfInBounds_toArray, List.set_cons_zero, List.set_cons_succ, i64_w, i32_w]
           rfl
          refine pure_ (i := 19) (N := some 78) (v := ?_) (a' := ?_) #[true, true, true, true, true, true, true, true, true, true, true, true, true, true, true, true, true, true, true, true, false, false, false, false, false, false, false, false, false, false, false] rfl rfl (any_of HT_.out (by kernel_rfl)) (fun _ _ _ h => h) (Or.inl ⟨by rfl, ?_⟩) ?_ ?_
          rotate_left
          ·
           intro w'
           go_simp
           with_reducible rfl
          rotate_left
          ·
           simp only [Act.put, List.setIfInBounds_toArray, List.set_cons_zero, List.set_cons_succ, i64_w, i32_w]
           rfl
          refine pure_ (i := 20) (N := some 79) (v := ?_) (a' := ?_) #[true, true, true, true, true, true, true, true, true, true, true, true, true, true, true, true, true, true, true, true, true, false, false, false, false, false, false, false, false, false, false] rfl rfl (any_of HT_.out (by kernel_rfl)) (fun _ _ _ h => h) (Or.inl ⟨by rfl, ?_⟩) ?_ ?_
          rotate_left
          ·
           intro w'
           go_simp
           with_reducible rfl
          rotate_left
          ·
           simp only [Act.put, List.setIfInBounds_toArray, List.set_cons_zero, List.set_cons_succ, i64_w, i32_w]
           rfl
          refine pure_ (i := 21) (N := some 80) (v := ?_) (a' := ?_) #[true, true, true, true, true, true, true, true, true, true, true, true, true, true, true, true, true, true, true, true, true, true, false, false, false, false, false, false, false, false, false] rfl rfl (any_of HT_.out (by kernel_rfl)) (fun _ _ _ h => h) (Or.inl ⟨by rfl, ?_⟩) ?_ ?_
          rotate_left
          ·
           intro w'
           go_simp
           with_reducible rfl
          rotate_left
          ·
           simp only [Act.put, List.setIfInBounds_toArray, List.set_cons_zero, List.set_cons_succ, i64_w, i32_w]
           rfl
          refine pure_ (i := 22) (N := some 81) (v := ?_) (a' := ?_) #[true, true, true, true, true, true, true, true, true, true, true, true, true, true, true, true, true, true, true, true, true, true, true, false, false, false, false, false, false, false, false] rfl rfl (any_of HT_.out (by kernel_rfl)) (fun _ _ _ h => h) (Or.inl ⟨by rfl, ?_⟩) ?_ ?_
          rotate_left
          ·
           intro w'
           go_simp
           with_reducible rfl
          rotate_left
          ·
           simp only [Act.put, List.setIfInBounds_toArray, List.set_cons_zero, List.set_cons_succ, i64_w, i32_w]
           rfl
          refine pure_ (i := 23) (N := some 82) (v := ?_) (a' := ?_) #[true, true, true, true, true, true, true, true, true, true, true, true, true, true, true, true, true, true, true, true, true, true, true, true, false, false, false, false, false, false, false] rfl rfl (any_of HT_.out (by kernel_rfl)) (fun _ _ _ h => h) (Or.inl ⟨by rfl, ?_⟩) ?_ ?_
          rotate_left
          ·
           intro w'
           go_simp
           with_reducible rfl
          rotate_left
          ·
           simp only [Act.put, List.setIfInBounds_toArray, List.set_cons_zero, List.set_cons_succ, i64_w, i32_w]
           rfl
          refine pure_ (i := 24) (N := some 83) (v := ?_) (a' := ?_) #[true, true, true, true, true, true, true, true, true, true, true, true, true, true, true, true, true, true, true, true, true, true, true, true, true, false, false, false, false, false, false] rfl rfl (any_of HT_.out (by kernel_rfl)) (fun _ _ _ h => h) (Or.inl ⟨by rfl, ?_⟩) ?_ ?_
          rotate_left
          ·
           intro w'
           go_simp
           with_reducible rfl
          rotate_left
          ·
           simp only [Act.put, List.setIfInBounds_toArray, List.set_cons_zero, List.set_cons_succ, i64_w, i32_w]
           rfl
          refine pure_ (i := 25) (N := some 84) (v := ?_) (a' := ?_) #[true, true, true, true, true, true, true, true, true, true, true, true, true, true, true, true, true, true, true, true, true, true, true, true, true, true, false, false, false, false, false] rfl rfl (any_of HT_.out (by kernel_rfl)) (fun _ _ _ h => h) (Or.inl ⟨by rfl, ?_⟩) ?_ ?_
          rotate_left
          ·
           intro w'
           go_simp
           with_reducible rfl
          rotate_left
          ·
           simp only [Act.put, List.setIfInBounds_toArray, List.set_cons_zero, List.set_cons_succ, i64_w, i32_w]
           rfl
          refine pure_ (i := 26) (N := some 85) (v := ?_) (a' := ?_) #[true, true, true, true, true, true, true, true, true, true, true, true, true, true, true, true, true, true, true, true, true, true, true, true, true, true, true, false, false, false, false] rfl rfl (any_of HT_.out (by kernel_rfl)) (fun _ _ _ h => h) (Or.inl ⟨by rfl, ?_⟩) ?_ ?_
          rotate_left
          ·
           intro w'
           go_simp
           with_reducible rfl
          rotate_left
          ·
           simp only [Act.put, List.setIfInBounds_toArray, List.set_cons_zero, List.set_cons_succ, i64_w, i32_w]
           rfl
          refine pure_ (i := 27) (N := some 86) (v := ?_) (a' := ?_) #[true, true, true, true, true, true, true, true, true, true, true, true, true, true, true, true, true, true, true, true, true, true, true, true, true, true, true, true, false, false, false] rfl rfl (any_of HT_.out (by kernel_rfl)) (fun _ _ _ h => h) (Or.inl ⟨by rfl, ?_⟩) ?_ ?_
          rotate_left
          ·
           intro w'
           go_simp
           with_reducible rfl
          rotate_left
          ·
           simp only [Act.put, List.setIfInBounds_toArray, List.set_cons_zero, List.set_cons_succ, i64_w, i32_w]
           rfl
          refine pure_ (i := 28) (N := some 87) (v := ?_) (a' := ?_) #[true, true, true, true, true, true, true, true, true, true, true, true, true, true, true, true, true, true, true, true, true, true, true, true, true, true, true, true, true, false, false] rfl rfl (any_of HT_.out (by kernel_rfl)) (fun _ _ _ h => h) (Or.inl ⟨by rfl, ?_⟩) ?_ ?_
          rotate_left
          ·
           intro w'
           go_simp
           with_reducible rfl
          rotate_left
          ·
           simp only [Act.put, List.setIfInBounds_toArray, List.set_cons_zero, List.set_cons_succ, i64_w, i32_w]
           rfl
          refine pure_ (i := 29) (N := some 88) (v := ?_) (a' := ?_) #[true, true, true, true, true, true, true, true, true, true, true, true, true, true, true, true, true, true, true, true, true, true, true, true, true, true, true, true, true, true, false] rfl rfl (any_of HT_.out (by kernel_rfl)) (fun _ _ _ h => h) (Or.inl ⟨by rfl, ?_⟩) ?_ ?_
          rotate_left
          ·
           intro w'
           go_simp
           with_reducible rfl
          rotate_left
          ·
           simp only [Act.put, List.setIfInBounds_toArray, List.set_cons_zero, List.set_cons_succ, i64_w, i32_w]
           rfl
          refine pure_ (i := 30) (N := some 89) (v := ?_) (a' := ?_) #[true, true, true, true, true, true, true, true, true, true, true, true, true, true, true, true, true, true, true, true, true, true, true, true, true, true, true, true, true, true, true] rfl rfl (any_of HT_.out (by kernel_rfl)) (fun _ _ _ h => h) (Or.inl ⟨by rfl, ?_⟩) ?_ ?_
          rotate_left
          ·
           intro w'
           go_simp
           with_reducible rfl
          rotate_left
          ·
           simp only [Act.put, List.setIfInBounds_toArray, List.set_cons_zero, List.set_cons_succ, i64_w, i32_w]
           rfl
          refine done_ (done_of HT_.out (by kernel_rfl)) ?_
          try go_wp2
          have n0_ := Aside0.mk (blk_drew BK347.out)
          have n1_ := Aside0.mk (blk_drew BK348.out)
          have n2_ := Aside0.mk (blk_drew BK352.out)
          have n3_ := Aside0.mk (blk_drew BK356.out)
          have n4_ := Aside0.mk (blk_drew BK360.out)
          have n5_ := Aside0.mk (blk_drew BK368.out)
          have n6_ := Aside0.mk (blk_drew BK376.out)
          have n7_ := Aside0.mk (blk_drew BK384.out)
          have n8_ := Aside0.mk (below_drew1 HB.out)
          clear BK347
          clear BK348
          clear BK352
          clear BK356
          clear BK360
          clear BK368
          clear BK376
          clear BK384
          clear HB
          have BK347 := n0_
          have BK348 := n1_
          have BK352 := n2_
          have BK356 := n3_
          have BK360 := n4_
          have BK368 := n5_
          have BK376 := n6_
          have BK384 := n7_
          have HB := n8_
          clear n0_ n1_ n2_ n3_ n4_ n5_ n6_ n7_ n8_
          refine start_ (n := 29) (S := fun w' => w'.cell? ⟨gb347, 0, none⟩ = some (.int .i64 a0_0) ∧ w'.cell? ⟨gb347, 1, none⟩ = some (.int .i64 a0_1) ∧ w'.cell? ⟨gb348, 0, none⟩ = some (.int .i64 a1_0) ∧ w'.cell? ⟨gb348, 1, none⟩ = some (.int .i64 a1_1)) (ds := []) #[false, false, false, false, false, false, false, false, false, false, false, false, false, false, false, false, false, false, false, false, false, false, false, false, false, false, false, false, false] (by kernel_rfl) rfl rfl ⟨(blk_cell BK347.out 0).trans rfl, (blk_cell BK347.out 1).trans rfl, (blk_cell BK348.out 0).trans rfl, (blk_cell BK348.out 1).trans rfl⟩ (fun hHeld => ?_); refine with_tabW mosaiclaw17_PlaneReckons.tab9 mosaiclaw17_PlaneReckons.bits9 (fun HT_ HW_ => ?_)
          generalize w96.drew = w97 at BK347 BK348 BK352 BK356 BK360 BK368 BK376 BK384 HB hHeld ⊢
          refine one_ (i := 0) (N := some 90) #[true, false, false, false, false, false, false, false, false, false, false, false, false, false, false, false, false, false, false, false, false, false, false, false, false, false, false, false, false] rfl rfl (one_of HT_.out (by kernel_rfl)) (by decide) (fun K hK => ?_)
          refine goes_ Try.func14 (by kernel_rfl) rfl #[] (by rfl) rfl rfl (by (try simp only [List.map_toArray, List.map_cons, List.map_nil]); first | done | rfl | (simp only [List.length_drop, List.length_take]; rfl)) ?_
          with_reducible refine (mosaiclaw17_awake.calls k  true _ A24.out).mono ?_
          rintro e w98 ⟨rfl, hb⟩
          refine ⟨_, rfl, ?_⟩
          have n0_ := bB BK347 hb
          have n1_ := bB BK348 hb
          have n2_ := bB BK352 hb
          have n3_ := bB BK356 hb
          have n4_ := bB BK360 hb
          have n5_ := bB BK368 hb
          have n6_ := bB BK376 hb
          have n7_ := bB BK384 hb
          have n8_ := hS HB hb
          clear BK347
          clear BK348
          clear BK352
          clear BK356
          clear BK360
          clear BK368
          clear BK376
          clear BK384
          clear HB
          have BK347 := n0_
          have BK348 := n1_
          have BK352 := n2_
          have BK356 := n3_
          have BK360 := n4_
          have BK368 := n5_
          have BK376 := n6_
          have BK384 := n7_
          have HB := n8_
          clear n0_ n1_ n2_ n3_ n4_ n5_ n6_ n7_ n8_
          (try clear hb)
          (try clear hb2)
          (try clear hk)
          (try clear hi)
          refine hK.out _ _ ⟨(blk_cell BK347.out 0).trans rfl, (blk_cell BK347.out 1).trans rfl, (blk_cell BK348.out 0).trans rfl, (blk_cell BK348.out 1).trans rfl⟩ (fun hHeld => ?_)
          clear hK K
          refine norm_ (a' := ?_) ?_ ?_
          rotate_left
          ·
           show Act.put _ (some 90) _ = _
           simp only [Act.put, List.setIfInBounds_toArray, List.set_cons_zero, List.set_cons_succ, i64_w, i32_w]
           rfl
          refine pure_ (i := 1) (N := some 91) (v := ?_) (a' := ?_) #[true, true, false, false, false, false, false, false, false, false, false, false, false, false, false, false, false, false, false, false, false, false, false, false, false, false, false, false, false] rfl rfl (any_of HT_.out (by kernel_rfl)) (fun _ _ _ h => h) (Or.inl ⟨by rfl, ?_⟩) ?_ ?_
          rotate_left
          ·
           intro w'
           go_simp
           with_reducible rfl
          rotate_left
          ·
           simp only [Act.put, List.setIfInBounds_toArray, List.set_cons_zero, List.set_cons_succ, i64_w, i32_w]
           rfl
          refine take_ (i := 2) (N := some 92) (v := ?_) (a' := ?_) #[true, true, true, false, false, false, false, false, false, false, false, false, false, false, false, false, false, false, false, false, false, false, false, false, false, false, false, false, false] rfl rfl (take_ofW HT_.out HW_.out (by kernel_rfl)) (fun _ _ _ h => h) (Or.inl ⟨by rfl, ?_⟩) hHeld ?_ ?_
          rotate_left
          ·
           rintro w' ⟨s0, s1, s2, s3⟩
           go_simp
           with_reducible rfl
          rotate_left
          ·
           simp only [Act.put, List.setIfInBounds_toArray, List.set_cons_zero, List.set_cons_succ, i64_w, i32_w]
           rfl
          refine take_ (i := 4) (N := some 94) (v := ?_) (a' := ?_) #[true, true, true, false, true, false, false, false, false, false, false, false, false, false, false, false, false, false, false, false, false, false, false, false, false, false, false, false, false] rfl rfl (take_ofW HT_.out HW_.out (by kernel_rfl)) (fun _ _ _ h => h) (Or.inl ⟨by rfl, ?_⟩) hHeld ?_ ?_
          rotate_left
          ·
           rintro w' ⟨s0, s1, s2, s3⟩
           go_simp
           with_reducible rfl
          rotate_left
          ·
           simp only [Act.put, List.setIfInBounds_toArray, List.set_cons_zero, List.set_cons_succ, i64_w, i32_w]
           rfl
          refine one_ (i := 3) (N := some 93) #[true, true, true, true, true, false, false, false, false, false, false, false, false, false, false, false, false, false, false, false, false, false, false, false, false, false, false, false, false] rfl rfl (one_of HT_.out (by kernel_rfl)) (by decide) (fun K hK => ?_)
          refine goes_ Try.func17 (by kernel_rfl) rfl #[.agg #[.int .i64 a0_0, .int .i64 a0_1]] (by rfl) rfl rfl (by (try simp only [List.map_toArray, List.map_cons, List.map_nil]); first | done | rfl | (simp only [List.length_drop, List.length_take]; rfl)) ?_
          with_reducible refine (plane_Check.calls a0_0 a0_1 t392 _ A26.out).mono ?_
          rintro e w99 ⟨rfl, hb⟩
          refine ⟨_, rfl, ?_⟩
          have n0_ := bB BK347 hb
          have n1_ := bB BK348 hb
          have n2_ := bB BK352 hb
          have n3_ := bB BK356 hb
          have n4_ := bB BK360 hb
          have n5_ := bB BK368 hb
          have n6_ := bB BK376 hb
          have n7_ := bB BK384 hb
          have n8_ := hS HB hb
          clear BK347
          clear BK348
          clear BK352
          clear BK356
          clear BK360
          clear BK368
          clear BK376
          clear BK384
          clear HB
          have BK347 := n0_
          have BK348 := n1_
          have BK352 := n2_
          have BK356 := n3_
          have BK360 := n4_
          have BK368 := n5_
          have BK376 := n6_
          have BK384 := n7_
          have HB := n8_
          clear n0_ n1_ n2_ n3_ n4_ n5_ n6_ n7_ n8_
          (try clear hb)
          (try clear hb2)
          (try clear hk)
          (try clear hi)
          refine hK.out _ _ ⟨(blk_cell BK347.out 0).trans rfl, (blk_cell BK347.out 1).trans rfl, (blk_cell BK348.out 0).trans rfl, (blk_cell BK348.out 1).trans rfl⟩ (fun hHeld => ?_)
          clear hK K
          refine norm_ (a' := ?_) ?_ ?_
          rotate_left
          ·
           show Act.put _ (some 93) _ = _
           simp only [Act.put, List.setIfInBounds_toArray, List.set_cons_zero, List.set_cons_succ, i64_w, i32_w]
           rfl
          refine one_ (i := 5) (N := some 95) #[true, true, true, true, true, true, false, false, false, false, false, false, false, false, false, false, false, false, false, false, false, false, false, false, false, false, false, false, false] rfl rfl (one_of HT_.out (by kernel_rfl)) (by decide) (fun K hK => ?_)
          refine goes_ Try.func12 (by kernel_rfl) rfl #[.agg #[.int .i64 a0_0, .int .i64 a0_1]] (by rfl) rfl rfl (by (try simp only [List.map_toArray, List.map_cons, List.map_nil]); first | done | rfl | (simp only [List.length_drop, List.length_take]; rfl)) ?_
          with_reducible refine (mosaiclaw17_Ref.calls a0_0 a0_1 t393 t394 _ A27.out).mono ?_
          rintro e w100 ⟨rfl, hb⟩
          refine ⟨_, rfl, ?_⟩
          have n0_ := bB BK347 hb
          have n1_ := bB BK348 hb
          have n2_ := bB BK352 hb
          have n3_ := bB BK356 hb
          have n4_ := bB BK360 hb
          have n5_ := bB BK368 hb
          have n6_ := bB BK376 hb
          have n7_ := bB BK384 hb
          have n8_ := hS HB hb
          clear BK347
          clear BK348
          clear BK352
          clear BK356
          clear BK360
          clear BK368
          clear BK376
          clear BK384
          clear HB
          have BK347 := n0_
          have BK348 := n1_
          have BK352 := n2_
          have BK356 := n3_
          have BK360 := n4_
          have BK368 := n5_
          have BK376 := n6_
          have BK384 := n7_
          have HB := n8_
          clear n0_ n1_ n2_ n3_ n4_ n5_ n6_ n7_ n8_
          (try clear hb)
          (try clear hb2)
          (try clear hk)
          (try clear hi)
          refine hK.out _ _ ⟨(blk_cell BK347.out 0).trans rfl, (blk_cell BK347.out 1).trans rfl, (blk_cell BK348.out 0).trans rfl, (blk_cell BK348.out 1).trans rfl⟩ (fun hHeld => ?_)
          clear hK K
          refine norm_ (a' := ?_) ?_ ?_
          rotate_left
          ·
           show Act.put _ (some 95) _ = _
           simp only [Act.put, List.setIfInBounds_toArray, List.set_cons_zero, List.set_cons_succ, i64_w, i32_w]
           rfl
          refine one_ (i := 6) (N := some 96) #[true, true, true, true, true, true, true, false, false, false, false, false, false, false, false, false, false, false, false, false, false, false, false, false, false, false, false, false, false] rfl rfl (one_of HT_.out (by kernel_rfl)) (by decide) (fun K hK => ?_)
          refine goes_ Try.func28 (by kernel_rfl) rfl #[.agg #[.int .i64 t393, .int .i64 t394]] (by rfl) rfl rfl (by (try simp only [List.map_toArray, List.map_cons, List.map_nil]); first | done | rfl | (simp only [List.length_drop, List.length_take]; rfl)) ?_
          with_reducible refine (mosaicref17_Check.calls t393 t394 t395 _ A28.out).mono ?_
          rintro e w101 ⟨rfl, hb⟩
          refine ⟨_, rfl, ?_⟩
          have n0_ := bB BK347 hb
          have n1_ := bB BK348 hb
          have n2_ := bB BK352 hb
          have n3_ := bB BK356 hb
          have n4_ := bB BK360 hb
          have n5_ := bB BK368 hb
          have n6_ := bB BK376 hb
          have n7_ := bB BK384 hb
          have n8_ := hS HB hb
          clear BK347
          clear BK348
          clear BK352
          clear BK356
          clear BK360
          clear BK368
          clear BK376
          clear BK384
          clear HB
          have BK347 := n0_
          have BK348 := n1_
          have BK352 := n2_
          have BK356 := n3_
          have BK360 := n4_
          have BK368 := n5_
          have BK376 := n6_
          have BK384 := n7_
          have HB := n8_
          clear n0_ n1_ n2_ n3_ n4_ n5_ n6_ n7_ n8_
          (try clear hb)
          (try clear hb2)
          (try clear hk)
          (try clear hi)
          refine hK.out _ _ ⟨(blk_cell BK347.out 0).trans rfl, (blk_cell BK347.out 1).trans rfl, (blk_cell BK348.out 0).trans rfl, (blk_cell BK348.out 1).trans rfl⟩ (fun hHeld => ?_)
          clear hK K
          refine norm_ (a' := ?_) ?_ ?_
          rotate_left
          ·
           show Act.put _ (some 96) _ = _
           simp only [Act.put, List.setIfInBounds_toArray, List.set_cons_zero, List.set_cons_succ, i64_w, i32_w]
           rfl
          refine pure_ (i := 7) (N := some 97) (v := ?_) (a' := ?_) #[true, true, true, true, true, true, true, true, false, false, false, false, false, false, false, false, false, false, false, false, false, false, false, false, false, false, false, false, false] rfl rfl (any_of HT_.out (by kernel_rfl)) (fun _ _ _ h => h) (Or.inl ⟨by rfl, ?_⟩) ?_ ?_
          rotate_left
          ·
           intro w'
           go_simp
           with_reducible rfl
          rotate_left
          ·
           simp only [Act.put, List.setIfInBounds_toArray, List.set_cons_zero, List.set_cons_succ, i64_w, i32_w]
           rfl
          refine pure_ (i := 8) (N := some 98) (v := ?_) (a' := ?_) #[true, true, true, true, true, true, true, true, true, false, false, false, false, false, false, false, false, false, false, false, false, false, false, false, false, false, false, false, false] rfl rfl (any_of HT_.out (by kernel_rfl)) (fun _ _ _ h => h) (Or.inl ⟨by rfl, ?_⟩) ?_ ?_
          rotate_left
          ·
           intro w'
           go_simp
           with_reducible rfl
          rotate_left
          ·
           simp only [Act.put, List.setIfInBounds_toArray, List.set_cons_zero, List.set_cons_succ, i64_w, i32_w]
           rfl
          refine pure_ (i := 9) (N := some 99) (v := ?_) (a' := ?_) #[true, true, true, true, true, true, true, true, true, true, false, false, false, false, false, false, false, false, false, false, false, false, false, false, false, false, false, false, false] rfl rfl (any_of HT_.out (by kernel_rfl)) (fun _ _ _ h => h) (Or.inl ⟨by rfl, ?_⟩) ?_ ?_
          rotate_left
          ·
           intro w'
           go_simp
           with_reducible rfl
          rotate_left
          ·
           simp only [Act.put, List.setIfInBounds_toArray, List.set_cons_zero, List.set_cons_succ, i64_w, i32_w]
           rfl
          refine take_ (i := 10) (N := some 100) (v := ?_) (a' := ?_) #[true, true, true, true, true, true, true, true, true, true, true, false, false, false, false, false, false, false, false, false, false, false, false, false, false, false, false, false, false] rfl rfl (take_ofW HT_.out HW_.out (by kernel_rfl)) (fun _ _ _ h => h) (Or.inl ⟨by rfl, ?_⟩) hHeld ?_ ?_
          rotate_left
          ·
           rintro w' ⟨s0, s1, s2, s3⟩
           go_simp
           with_reducible rfl
          rotate_left
          ·
           simp only [Act.put, List.setIfInBounds_toArray, List.set_cons_zero, List.set_cons_succ, i64_w, i32_w]
           rfl
          refine take_ (i := 12) (N := some 102) (v := ?_) (a' := ?_) #[true, true, true, true, true, true, true, true, true, true, true, false, true, false, false, false, false, false, false, false, false, false, false, false, false, false, false, false, false] rfl rfl (take_ofW HT_.out HW_.out (by kernel_rfl)) (fun _ _ _ h => h) (Or.inl ⟨by rfl, ?_⟩) hHeld ?_ ?_
          rotate_left
          ·
           rintro w' ⟨s0, s1, s2, s3⟩
           go_simp
           with_reducible rfl
          rotate_left
          ·
           simp only [Act.put, List.setIfInBounds_toArray, List.set_cons_zero, List.set_cons_succ, i64_w, i32_w]
           rfl
          refine one_ (i := 11) (N := some 101) #[true, true, true, true, true, true, true, true, true, true, true, true, true, false, false, false, false, false, false, false, false, false, false, false, false, false, false, false, false] rfl rfl (one_of HT_.out (by kernel_rfl)) (by decide) (fun K hK => ?_)
          refine goes_ Try.func13 (by kernel_rfl) rfl #[.agg #[.int .i64 a0_0, .int .i64 a0_1]] (by rfl) rfl rfl (by (try simp only [List.map_toArray, List.map_cons, List.map_nil]); first | done | rfl | (simp only [List.length_drop, List.length_take]; rfl)) ?_
          with_reducible refine (plane_Norm.calls a0_0 a0_1 t396 _ A30.out).mono ?_
          rintro e w102 ⟨rfl, hb⟩
          refine ⟨_, rfl, ?_⟩
          have n0_ := bB BK347 hb
          have n1_ := bB BK348 hb
          have n2_ := bB BK352 hb
          have n3_ := bB BK356 hb
          have n4_ := bB BK360 hb
          have n5_ := bB BK368 hb
          have n6_ := bB BK376 hb
          have n7_ := bB BK384 hb
          have n8_ := hS HB hb
          clear BK347
          clear BK348
          clear BK352
          clear BK356
          clear BK360
          clear BK368
          clear BK376
          clear BK384
          clear HB
          have BK347 := n0_
          have BK348 := n1_
          have BK352 := n2_
          have BK356 := n3_
          have BK360 := n4_
          have BK368 := n5_
          have BK376 := n6_
          have BK384 := n7_
          have HB := n8_
          clear n0_ n1_ n2_ n3_ n4_ n5_ n6_ n7_ n8_
          (try clear hb)
          (try clear hb2)
          (try clear hk)
          (try clear hi)
          refine hK.out _ _ ⟨(blk_cell BK347.out 0).trans rfl, (blk_cell BK347.out 1).trans rfl, (blk_cell BK348.out 0).trans rfl, (blk_cell BK348.out 1).trans rfl⟩ (fun hHeld => ?_)
          clear hK K
          refine norm_ (a' := ?_) ?_ ?_
          rotate_left
          ·
           show Act.put _ (some 101) _ = _
           simp only [Act.put, List.setIfInBounds_toArray, List.set_cons_zero, List.set_cons_succ, i64_w, i32_w]
           rfl
          refine one_ (i := 13) (N := some 103) #[true, true, true, true, true, true, true, true, true, true, true, true, true, true, false, false, false, false, false, false, false, false, false, false, false, false, false, false, false] rfl rfl (one_of HT_.out (by kernel_rfl)) (by decide) (fun K hK => ?_)
          refine goes_ Try.func12 (by kernel_rfl) rfl #[.agg #[.int .i64 a0_0, .int .i64 a0_1]] (by rfl) rfl rfl (by (try simp only [List.map_toArray, List.map_cons, List.map_nil]); first | done | rfl | (simp only [List.length_drop, List.length_take]; rfl)) ?_
          with_reducible refine (mosaiclaw17_Ref.calls a0_0 a0_1 t397 t398 _ A31.out).mono ?_
          rintro e w103 ⟨rfl, hb⟩
          refine ⟨_, rfl, ?_⟩
          have n0_ := bB BK347 hb
          have n1_ := bB BK348 hb
          have n2_ := bB BK352 hb
          have n3_ := bB BK356 hb
          have n4_ := bB BK360 hb
          have n5_ := bB BK368 hb
          have n6_ := bB BK376 hb
          have n7_ := bB BK384 hb
          have n8_ := hS HB hb
          clear BK347
          clear BK348
          clear BK352
          clear BK356
          clear BK360
          clear BK368
          clear BK376
          clear BK384
          clear HB
          have BK347 := n0_
          have BK348 := n1_
          have BK352 := n2_
          have BK356 := n3_
          have BK360 := n4_
          have BK368 := n5_
          have BK376 := n6_
          have BK384 := n7_
          have HB := n8_
          clear n0_ n1_ n2_ n3_ n4_ n5_ n6_ n7_ n8_
          (try clear hb)
          (try clear hb2)
          (try clear hk)
          (try clear hi)
          refine hK.out _ _ ⟨(blk_cell BK347.out 0).trans rfl, (blk_cell BK347.out 1).trans rfl, (blk_cell BK348.out 0).trans rfl, (blk_cell BK348.out 1).trans rfl⟩ (fun hHeld => ?_)
          clear hK K
          refine norm_ (a' := ?_) ?_ ?_
          rotate_left
          ·
           show Act.put _ (some 103) _ = _
           simp only [Act.put, List.setIfInBounds_toArray, List.set_cons_zero, List.set_cons_succ, i64_w, i32_w]
           rfl
          refine one_ (i := 14) (N := some 104) #[true, true, true, true, true, true, true, true, true, true, true, true, true, true, true, false, false, false, false, false, false, false, false, false, false, false, false, false, false] rfl rfl (one_of HT_.out (by kernel_rfl)) (by decide) (fun K hK => ?_)
          refine goes_ Try.func29 (by kernel_rfl) rfl #[.agg #[.int .i64 t397, .int .i64 t398]] (by rfl) rfl rfl (by (try simp only [List.map_toArray, List.map_cons, List.map_nil]); first | done | rfl | (simp only [List.length_drop, List.length_take]; rfl)) ?_
          with_reducible refine (mosaicref17_Norm.calls t397 t398 t399 _ A32.out).mono ?_
          rintro e w104 ⟨rfl, hb⟩
          refine ⟨_, rfl, ?_⟩
          have n0_ := bB BK347 hb
          have n1_ := bB BK348 hb
          have n2_ := bB BK352 hb
          have n3_ := bB BK356 hb
          have n4_ := bB BK360 hb
          have n5_ := bB BK368 hb
          have n6_ := bB BK376 hb
          have n7_ := bB BK384 hb
          have n8_ := hS HB hb
          clear BK347
          clear BK348
          clear BK352
          clear BK356
          clear BK360
          clear BK368
          clear BK376
          clear BK384
          clear HB
          have BK347 := n0_
          have BK348 := n1_
          have BK352 := n2_
          have BK356 := n3_
          have BK360 := n4_
          have BK368 := n5_
          have BK376 := n6_
          have BK384 := n7_
          have HB := n8_
          clear n0_ n1_ n2_ n3_ n4_ n5_ n6_ n7_ n8_
          (try clear hb)
          (try clear hb2)
          (try clear hk)
          (try clear hi)
          refine hK.out _ _ ⟨(blk_cell BK347.out 0).trans rfl, (blk_cell BK347.out 1).trans rfl, (blk_cell BK348.out 0).trans rfl, (blk_cell BK348.out 1).trans rfl⟩ (fun hHeld => ?_)
          clear hK K
          refine norm_ (a' := ?_) ?_ ?_
          rotate_left
          ·
           show Act.put _ (some 104) _ = _
           simp only [Act.put, List.setIfInBounds_toArray, List.set_cons_zero, List.set_cons_succ, i64_w, i32_w]
           rfl
          refine pure_ (i := 15) (N := some 105) (v := ?_) (a' := ?_) #[true, true, true, true, true, true, true, true, true, true, true, true, true, true, true, true, false, false, false, false, false, false, false, false, false, false, false, false, false] rfl rfl (any_of HT_.out (by kernel_rfl)) (fun _ _ _ h => h) (Or.inl ⟨by rfl, ?_⟩) ?_ ?_
          rotate_left
          ·
           intro w'
           go_simp
           with_reducible rfl
          rotate_left
          ·
           simp only [Act.put, List.setIfInBounds_toArray, List.set_cons_zero, List.set_cons_succ, i64_w, i32_w]
           rfl
          refine pure_ (i := 16) (N := some 106) (v := ?_) (a' := ?_) #[true, true, true, true, true, true, true, true, true, true, true, true, true, true, true, true, true, false, false, false, false, false, false, false, false, false, false, false, false] rfl rfl (any_of HT_.out (by kernel_rfl)) (fun _ _ _ h => h) (Or.inl ⟨by rfl, ?_⟩) ?_ ?_
          rotate_left
          ·
           intro w'
           go_simp
           with_reducible rfl
          rotate_left
          ·
           simp only [Act.put, List.setIfInBounds_toArray, List.set_cons_zero, List.set_cons_succ, i64_w, i32_w]
           rfl
          refine pure_ (i := 17) (N := some 107) (v := ?_) (a' := ?_) #[true, true, true, true, true, true, true, true, true, true, true, true, true, true, true, true, true, true, false, false, false, false, false, false, false, false, false, false, false] rfl rfl (any_of HT_.out (by kernel_rfl)) (fun _ _ _ h => h) (Or.inl ⟨by rfl, ?_⟩) ?_ ?_
          rotate_left
          ·
           intro w'
           go_simp
           with_reducible rfl
          rotate_left
          ·
           simp only [Act.put, List.setIfInBounds_toArray, List.set_cons_zero, List.set_cons_succ, i64_w, i32_w]
           rfl
          refine take_ (i := 18) (N := some 108) (v := ?_) (a' := ?_) #[true, true, true, true, true, true, true, true, true, true, true, true, true, true, true, true, true, true, true, false, false, false, false, false, false, false, false, false, false] rfl rfl (take_ofW HT_.out HW_.out (by kernel_rfl)) (fun _ _ _ h => h) (Or.inl ⟨by rfl, ?_⟩) hHeld ?_ ?_
          rotate_left
          ·
           rintro w' ⟨s0, s1, s2, s3⟩
           go_simp
           with_reducible rfl
          rotate_left
          ·
           simp only [Act.put, List.setIfInBounds_toArray, List.set_cons_zero, List.set_cons_succ, i64_w, i32_w]
           rfl
          refine take_ (i := 19) (N := some 109) (v := ?_) (a' := ?_) #[true, true, true, true, true, true, true, true, true, true, true, true, true, true, true, true, true, true, true, true, false, false, false, false, false, false, false, false, false] rfl rfl (take_ofW HT_.out HW_.out (by kernel_rfl)) (fun _ _ _ h => h) (Or.inl ⟨by rfl, ?_⟩) hHeld ?_ ?_
          rotate_left
          ·
           rintro w' ⟨s0, s1, s2, s3⟩
           go_simp
           with_reducible rfl
          rotate_left
          ·
           simp only [Act.put, List.setIfInBounds_toArray, List.set_cons_zero, List.set_cons_succ, i64_w, i32_w]
           rfl
          refine take_ (i := 21) (N := some 111) (v := ?_) (a' := ?_) #[true, true, true, true, true, true, true, true, true, true, true, true, true, true, true, true, true, true, true, true, false, true, false, false, false, false, false, false, false] rfl rfl (take_ofW HT_.out HW_.out (by kernel_rfl)) (fun _ _ _ h => h) (Or.inl ⟨by rfl, ?_⟩) hHeld ?_ ?_
          rotate_left
          ·
           rintro w' ⟨s0, s1, s2, s3⟩
           go_simp
           with_reducible rfl
          rotate_left
          ·
           simp only [Act.put, List.setIfInBounds_toArray, List.set_cons_zero, List.set_cons_succ, i64_w, i32_w]
           rfl
          refine take_ (i := 23) (N := some 113) (v := ?_) (a' := ?_) #[true, true, true, true, true, true, true, true, true, true, true, true, true, true, true, true, true, true, true, true, false, true, false, true, false, false, false, false, false] rfl rfl (take_ofW HT_.out HW_.out (by kernel_rfl)) (fun _ _ _ h => h) (Or.inl ⟨by rfl, ?_⟩) hHeld ?_ ?_
          rotate_left
          ·
           rintro w' ⟨s0, s1, s2, s3⟩
           go_simp
           with_reducible rfl
          rotate_left
          ·
           simp only [Act.put, List.setIfInBounds_toArray, List.set_cons_zero, List.set_cons_succ, i64_w, i32_w]
           rfl
          refine one_ (i := 20) (N := some 110) #[true, true, true, true, true, true, true, true, true, true, true, true, true, true, true, true, true, true, true, true, true, true, false, true, false, false, false, false, false] rfl rfl (one_of HT_.out (by kernel_rfl)) (by decide) (fun K hK => ?_)
          refine goes_ Try.func30 (by kernel_rfl) rfl #[.agg #[.int .i64 a0_0, .int .i64 a0_1], .agg #[.int .i64 a1_0, .int .i64 a1_1]] (by rfl) rfl rfl (by (try simp only [List.map_toArray, List.map_cons, List.map_nil]); first | done | rfl | (simp only [List.length_drop, List.length_take]; rfl)) ?_
          with_reducible refine (plane_Dist.calls a0_0 a0_1 a1_0 a1_1 t400 _ A34.out).mono ?_
          rintro e w105 ⟨rfl, hb⟩
          refine ⟨_, rfl, ?_⟩
          have n0_ := bB BK347 hb
          have n1_ := bB BK348 hb
          have n2_ := bB BK352 hb
          have n3_ := bB BK356 hb
          have n4_ := bB BK360 hb
          have n5_ := bB BK368 hb
          have n6_ := bB BK376 hb
          have n7_ := bB BK384 hb
          have n8_ := hS HB hb
          clear BK347
          clear BK348
          clear BK352
          clear BK356
          clear BK360
          clear BK368
          clear BK376
          clear BK384
          clear HB
          have BK347 := n0_
          have BK348 := n1_
          have BK352 := n2_
          have BK356 := n3_
          have BK360 := n4_
          have BK368 := n5_
          have BK376 := n6_
          have BK384 := n7_
          have HB := n8_
          clear n0_ n1_ n2_ n3_ n4_ n5_ n6_ n7_ n8_
          (try clear hb)
          (try clear hb2)
          (try clear hk)
          (try clear hi)
          refine hK.out _ _ ⟨(blk_cell BK347.out 0).trans rfl, (blk_cell BK347.out 1).trans rfl, (blk_cell BK348.out 0).trans rfl, (blk_cell BK348.out 1).trans rfl⟩ (fun hHeld => ?_)
          clear hK K
          refine norm_ (a' := ?_) ?_ ?_
          rotate_left
          ·
           show Act.put _ (some 110) _ = _
           simp only [Act.put, List.setIfInBounds_toArray, List.set_cons_zero, List.set_cons_succ, i64_w, i32_w]
           rfl
          refine one_ (i := 22) (N := some 112) #[true, true, true, true, true, true, true, true, true, true, true, true, true, true, true, true, true, true, true, true, true, true, true, true, false, false, false, false, false] rfl rfl (one_of HT_.out (by kernel_rfl)) (by decide) (fun K hK => ?_)
          refine goes_ Try.func12 (by kernel_rfl) rfl #[.agg #[.int .i64 a0_0, .int .i64 a0_1]] (by rfl) rfl rfl (by (try simp only [List.map_toArray, List.map_cons, List.map_nil]); first | done | rfl | (simp only [List.length_drop, List.length_take]; rfl)) ?_
          with_reducible refine (mosaiclaw17_Ref.calls a0_0 a0_1 t401 t402 _ A35.out).mono ?_
          rintro e w106 ⟨rfl, hb⟩
          refine ⟨_, rfl, ?_⟩
          have n0_ := bB BK347 hb
          have n1_ := bB BK348 hb
          have n2_ := bB BK352 hb
          have n3_ := bB BK356 hb
          have n4_ := bB BK360 hb
          have n5_ := bB BK368 hb
          have n6_ := bB BK376 hb
          have n7_ := bB BK384 hb
          have n8_ := hS HB hb
          clear BK347
          clear BK348
          clear BK352
          clear BK356
          clear BK360
          clear BK368
          clear BK376
          clear BK384
          clear HB
          have BK347 := n0_
          have BK348 := n1_
          have BK352 := n2_
          have BK356 := n3_
          have BK360 := n4_
          have BK368 := n5_
          have BK376 := n6_
          have BK384 := n7_
          have HB := n8_
          clear n0_ n1_ n2_ n3_ n4_ n5_ n6_ n7_ n8_
          (try clear hb)
          (try clear hb2)
          (try clear hk)
          (try clear hi)
          refine hK.out _ _ ⟨(blk_cell BK347.out 0).trans rfl, (blk_cell BK347.out 1).trans rfl, (blk_cell BK348.out 0).trans rfl, (blk_cell BK348.out 1).trans rfl⟩ (fun hHeld => ?_)
          clear hK K
          refine norm_ (a' := ?_) ?_ ?_
          rotate_left
          ·
           show Act.put _ (some 112) _ = _
           simp only [Act.put, List.setIfInBounds_toArray, List.set_cons_zero, List.set_cons_succ, i64_w, i32_w]
           rfl
          refine one_ (i := 24) (N := some 114) #[true, true, true, true, true, true, true, true, true, true, true, true, true, true, true, true, true, true, true, true, true, true, true, true, true, false, false, false, false] rfl rfl (one_of HT_.out (by kernel_rfl)) (by decide) (fun K hK => ?_)
          refine goes_ Try.func12 (by kernel_rfl) rfl #[.agg #[.int .i64 a1_0, .int .i64 a1_1]] (by rfl) rfl rfl (by (try simp only [List.map_toArray, List.map_cons, List.map_nil]); first | done | rfl | (simp only [List.length_drop, List.length_take]; rfl)) ?_
          with_reducible refine (mosaiclaw17_Ref.calls a1_0 a1_1 t403 t404 _ A36.out).mono ?_
          rintro e w107 ⟨rfl, hb⟩
          refine ⟨_, rfl, ?_⟩
          have n0_ := bB BK347 hb
          have n1_ := bB BK348 hb
          have n2_ := bB BK352 hb
          have n3_ := bB BK356 hb
          have n4_ := bB BK360 hb
          have n5_ := bB BK368 hb
          have n6_ := bB BK376 hb
          have n7_ := bB BK384 hb
          have n8_ := hS HB hb
          clear BK347
          clear BK348
          clear BK352
          clear BK356
          clear BK360
          clear BK368
          clear BK376
          clear BK384
          clear HB
          have BK347 := n0_
          have BK348 := n1_
          have BK352 := n2_
          have BK356 := n3_
          have BK360 := n4_
          have BK368 := n5_
          have BK376 := n6_
          have BK384 := n7_
          have HB := n8_
          clear n0_ n1_ n2_ n3_ n4_ n5_ n6_ n7_ n8_
          (try clear hb)
          (try clear hb2)
          (try clear hk)
          (try clear hi)
          refine hK.out _ _ ⟨(blk_cell BK347.out 0).trans rfl, (blk_cell BK347.out 1).trans rfl, (blk_cell BK348.out 0).trans rfl, (blk_cell BK348.out 1).trans rfl⟩ (fun hHeld => ?_)
          clear hK K
          refine norm_ (a' := ?_) ?_ ?_
          rotate_left
          ·
           show Act.put _ (some 114) _ = _
           simp only [Act.put, List.setIfInBounds_toArray, List.set_cons_zero, List.set_cons_succ, i64_w, i32_w]
           rfl
          refine one_ (i := 25) (N := some 115) #[true, true, true, true, true, true, true, true, true, true, true, true, true, true, true, true, true, true, true, true, true, true, true, true, true, true, false, false, false] rfl rfl (one_of HT_.out (by kernel_rfl)) (by decide) (fun K hK => ?_)
          refine goes_ Try.func31 (by kernel_rfl) rfl #[.agg #[.int .i64 t401, .int .i64 t402], .agg #[.int .i64 t403, .int .i64 t404]] (by rfl) rfl rfl (by (try simp only [List.map_toArray, List.map_cons, List.map_nil]); first | done | rfl | (simp only [List.length_drop, List.length_take]; rfl)) ?_
          with_reducible refine (mosaicref17_Dist.calls t401 t402 t403 t404 t405 _ A37.out).mono ?_
          rintro e w108 ⟨rfl, hb⟩
          refine ⟨_, rfl, ?_⟩
          have n0_ := bB BK347 hb
          have n1_ := bB BK348 hb
          have n2_ := bB BK352 hb
          have n3_ := bB BK356 hb
          have n4_ := bB BK360 hb
          have n5_ := bB BK368 hb
          have n6_ := bB BK376 hb
          have n7_ := bB BK384 hb
          have n8_ := hS HB hb
          clear BK347
          clear BK348
          clear BK352
          clear BK356
          clear BK360
          clear BK368
          clear BK376
          clear BK384
          clear HB
          have BK347 := n0_
          have BK348 := n1_
          have BK352 := n2_
          have BK356 := n3_
          have BK360 := n4_
          have BK368 := n5_
          have BK376 := n6_
          have BK384 := n7_
          have HB := n8_
          clear n0_ n1_ n2_ n3_ n4_ n5_ n6_ n7_ n8_
          (try clear hb)
          (try clear hb2)
          (try clear hk)
          (try clear hi)
          refine hK.out _ _ ⟨(blk_cell BK347.out 0).trans rfl, (blk_cell BK347.out 1).trans rfl, (blk_cell BK348.out 0).trans rfl, (blk_cell BK348.out 1).trans rfl⟩ (fun hHeld => ?_)
          clear hK K
          refine norm_ (a' := ?_) ?_ ?_
          rotate_left
          ·
           show Act.put _ (some 115) _ = _
           simp only [Act.put, List.setIfInBounds_toArray, List.set_cons_zero, List.set_cons_succ, i64_w, i32_w]
           rfl
          refine pure_ (i := 26) (N := some 116) (v := ?_) (a' := ?_) #[true, true, true, true, true, true, true, true, true, true, true, true, true, true, true, true, true, true, true, true, true, true, true, true, true, true, true, false, false] rfl rfl (any_of HT_.out (by kernel_rfl)) (fun _ _ _ h => h) (Or.inl ⟨by rfl, ?_⟩) ?_ ?_
          rotate_left
          ·
           intro w'
           go_simp
           with_reducible rfl
          rotate_left
          ·
           simp only [Act.put, List.setIfInBounds_toArray, List.set_cons_zero, List.set_cons_succ, i64_w, i32_w]
           rfl
          refine pure_ (i := 27) (N := some 117) (v := ?_) (a' := ?_) #[true, true, true, true, true, true, true, true, true, true, true, true, true, true, true, true, true, true, true, true, true, true, true, true, true, true, true, true, false] rfl rfl (any_of HT_.out (by kernel_rfl)) (fun _ _ _ h => h) (Or.inl ⟨by rfl, ?_⟩) ?_ ?_
          rotate_left
          ·
           intro w'
           go_simp
           with_reducible rfl
          rotate_left
          ·
           simp only [Act.put, List.setIfInBounds_toArray, List.set_cons_zero, List.set_cons_succ, i64_w, i32_w]
           rfl
          refine pure_ (i := 28) (N := some 4) (v := ?_) (a' := ?_) #[true, true, true, true, true, true, true, true, true, true, true, true, true, true, true, true, true, true, true, true, true, true, true, true, true, true, true, true, true] rfl rfl (any_of HT_.out (by kernel_rfl)) (fun _ _ _ h => h) (Or.inl ⟨by rfl, ?_⟩) ?_ ?_
          rotate_left
          ·
           intro w'
           go_simp
           with_reducible rfl
          rotate_left
          ·
           simp only [Act.put, List.setIfInBounds_toArray, List.set_cons_zero, List.set_cons_succ, i64_w, i32_w]
           rfl
          refine done_ (done_of HT_.out (by kernel_rfl)) ?_
          try go_wp2
          go_ret
          exact ⟨by first | rfl | (simp [errW_none, errW_some] <;> rfl) | (simp [*, errW_none, errW_some] <;> rfl), by repeat (first | (with_reducible first | exact HB.out | apply below_alloc | apply pw_below_drewN | apply below_drew1 | refine below_set ?_ GE347.out | refine below_set ?_ GE348.out | refine below_set ?_ GE352.out | refine below_set ?_ GE356.out | refine below_set ?_ GE360.out | refine below_set ?_ GE368.out | refine below_set ?_ GE376.out | refine below_set ?_ GE384.out) | exact HB.out)⟩
         ·
          rw [if_neg c33] at H
          have c33b0 : (t396 == t399) = false := beq_eq_false_iff_ne.mpr c33
          have c33b1 : (t396 != t399) = true := bne_iff_ne.mpr c33
          exact absurd H (by simp)
        ·
         rw [if_neg c29] at H
         have c29b0 : (t392 == t395) = false := by simpa using c29
         (try (have c29b1 : decide (t392 = t395) = false := by simpa using c29))
         (try (have c29b2 : (t392 == t395) = false := by simpa using c29))
         (try (have c29b3 : ¬ (t392 = t395) := by simpa using c29))
         clear c29
         exact absurd H (by simp)
       ·
        replace c25 := Bool.eq_false_iff.mpr c25
        subst c25
        have H1 : (none) = some r := by rw [if_neg (show ¬ (false = true) by decide)] at H; exact H
        clear H
        have H := H1
        clear H1
        exact absurd H (by simp)
      ·
       rw [if_neg c23] at H
       exact absurd H (by simp)
     ·
      rw [if_neg c22] at H
      have c22b0 : (t355 == t375) = false := beq_eq_false_iff_ne.mpr c22
      have c22b1 : (t355 != t375) = true := bne_iff_ne.mpr c22
      exact absurd H (by simp)
    ·
     rw [if_neg c21] at H
     have c21b0 : (t351 == t367) = false := beq_eq_false_iff_ne.mpr c21
     have c21b1 : (t351 != t367) = true := bne_iff_ne.mpr c21
     exact absurd H (by simp)

/-- THE ONE PURE STATEMENT of mosaiclaw17_PlaneReckons: yours. -/
def mosaiclaw17_PlaneReckons.Pure : Prop := ∀ (a0_0 : Int) (a0_1 : Int) (a1_0 : Int) (a1_1 : Int), Q23 (⟨a0_0, a0_1⟩ : S23) → Q23 (⟨a1_0, a1_1⟩ : S23) → ∃ k, mosaiclaw17_PlaneReckons.f k a0_0 a0_1 a1_0 a1_1 = some true

end Go.Proofs.Ytlpidjenifbjeaa.P
