/- TrackerNil answers true, whatever it is given, and leaves it as it was. (The join of the walk, and the tied card.) -/
import Derived.Test.YtmimnlbkllgfpaaDoorRows
import Derived.Test.YtmimnlbkllgfpaaDoorNw
import Derived.Test.YtmimnlbkllgfpaaDoorOp
import Derived.WalkKit
import Derived.ProofKit
import Derived.OpenShut
import Derived.ShutString
import Derived.ChangeOld
import Derived.Below
import Derived.SizedLaws
import Derived.Lib.LaidTab
import Derived.LaidMore
import Derived.Stop.Joined
import Derived.Stop.LaidErr
import Derived.SevenTiedAt
import Derived.Test.YtmimnlbkllgfpaaDoorCards
import Derived.Test.YtmimnlbkllgfpaaDoorTie
namespace Go.Proofs.YtmimnlbkllgfpaaDoor.trackerNil
open Go.ChangeShapes Go.WideShapes Go.ChangeAt Go.RowKit Go.Proofs.YtmimnlbkllgfpaaDoor.A Go.Proofs.YtmimnlbkllgfpaaDoor.Tb Go.Proofs.YtmimnlbkllgfpaaDoor.Op Go.Proofs.YtmimnlbkllgfpaaDoorW.PrintWords
open Go.ChangeMaps (open_string shut_string)
theorem own : ownKnob Tryd.prog.godebug = none := by kernel_rfl
theorem laidOut : laidOutB Tryd.prog = true := by kernel_rfl
/-- What is asked: a name, a title, a place, a time and how many. -/
structure Q29 where
  f0 : ByteArray
  f1 : ByteArray
  f2 : S23
  f3 : Int
  f4 : Int
def k29 : Kd Q29 := Kd.iso (Kd.pair Kd.string (Kd.pair Kd.string (Kd.pair k23 (Kd.pair (Kd.int .i64) (Kd.int .i64))))) (fun x : Q29 => (x.f0, x.f1, x.f2, x.f3, x.f4))
theorem k29_open {w : World} {x : Q29} {cs : List Value} (h : k29.K w x cs) : cs = [.string x.f0, .string x.f1, .int .i64 x.f2.f0, .int .i64 x.f2.f1, .int .i64 x.f3, .int .i64 x.f4] := by
  obtain ⟨c0, r0, rfl, s0, h⟩ := h
  obtain ⟨c1, r1, rfl, s1, h⟩ := h
  obtain ⟨c2, r2, rfl, s2, h⟩ := h
  obtain ⟨c3, r3, rfl, s3, h⟩ := h
  obtain rfl := k23_open s2
  obtain rfl := s0
  obtain rfl := s1
  obtain rfl := s3
  obtain rfl := h
  rfl
theorem op23 : Opens Tryd.prog 23 k23 (fun _ => True) := opens_struct rfl (fun x => ⟨x.1, x.2⟩) Tryd.underlying23 (by kernel_rfl) (fun _ => rfl) (opensL_cons rfl (by kernel_rfl) (opens_int Tryd.underlying3) (opensL_one rfl (by kernel_rfl) (opens_int Tryd.underlying3))) (fun _ _ => trivial)
theorem op25 : Opens Tryd.prog 25 k25 (fun _ => True) := opens_struct rfl (fun x => ⟨x.1, x.2.1, x.2.2.1, x.2.2.2⟩) Tryd.underlying25 (by kernel_rfl) (fun _ => rfl) (opensL_cons rfl (by kernel_rfl) (opens_string Tryd.underlying9) (opensL_cons rfl (by kernel_rfl) (opens_int Tryd.underlying3) (opensL_cons rfl (by kernel_rfl) op23 (opensL_one rfl (by kernel_rfl) (opens_int Tryd.underlying3))))) (fun _ _ => trivial)
theorem op27 : Opens Tryd.prog 27 k27 (fun _ => True) := opens_struct rfl (fun x => ⟨x.1, x.2.1, x.2.2⟩) Tryd.underlying27 (by kernel_rfl) (fun _ => rfl) (opensL_cons rfl (by kernel_rfl) (opens_int Tryd.underlying3) (opensL_cons rfl (by kernel_rfl) (opens_int Tryd.underlying3) (opensL_one rfl (by kernel_rfl) op25))) (fun _ _ => trivial)
theorem op29 : Opens Tryd.prog 29 k29 (fun _ => True) := opens_struct rfl (fun x => ⟨x.1, x.2.1, x.2.2.1, x.2.2.2.1, x.2.2.2.2⟩) Tryd.underlying29 (by kernel_rfl) (fun _ => rfl) (opensL_cons rfl (by kernel_rfl) (opens_string Tryd.underlying9) (opensL_cons rfl (by kernel_rfl) (opens_string Tryd.underlying9) (opensL_cons rfl (by kernel_rfl) op23 (opensL_cons rfl (by kernel_rfl) (opens_int Tryd.underlying3) (opensL_one rfl (by kernel_rfl) (opens_int Tryd.underlying3)))))) (fun _ _ => trivial)
set_option maxRecDepth 100000 in
/-- The door's own heap meets the condition: closed facts. -/
theorem door_met (os : Os) (args : Array Value) : laidMetH Tryd.prog Rows.trackerNilRow.laid ((World.doorLaid Tryd.prog 400 os).forCall (fun _ _ => 0) ⟨#[], args, []⟩).memory :=
  laidMetH_of_parts3 (fuel := 8) (laidMet_of_run' 8 (by kernel_rfl) (by kernel_rfl)) (by kernel_rfl) (by kernel_rfl)
set_option maxRecDepth 100000 in
theorem lifted (os : Os) (started : os.Started) (H : Type) (enc : TypeId × Value → H) :
    ReturnsInHanded {} Tryd.checked os 3 .any (fun w args => (Rows.trackerNilSpec.pre enc Tryd.prog Tryd.f3 [] false w args ∧ laidMetH Tryd.prog Rows.trackerNilRow.laid w) ∧ sizedMet enc Tryd.prog Tryd.f3 (OpenSpec.ofChange Rows.trackerNilSpec) false w args) (Rows.trackerNilSpec.post enc Tryd.prog Tryd.f3 false true false false) := by
  refine returnsInHanded_of_change_and (C := Tryd.checked) (X := fun w _ => laidMetH Tryd.prog Rows.trackerNilRow.laid w) (fun _ _ _ hh h => h.of_heap hh) own started (by kernel_rfl) Tryd.func3
    (ChangeSpec.witness_shaped (enc := enc) (C := Tryd.checked) (os := os) (X := fun w _ => laidMetH Tryd.prog Rows.trackerNilRow.laid w) false (World.doorLaid Tryd.prog 400 os) #[.agg #[.int .i64 0, .int .i64 0, .string ByteArray.empty, .int .i64 0, .int .i64 0, .int .i64 0, .int .i64 0], .agg #[.string ByteArray.empty, .string ByteArray.empty, .int .i64 0, .int .i64 0, .int .i64 0, .int .i64 0]] 8 rfl (World.shaped_of_RefB (by kernel_rfl) (by kernel_rfl)) (by kernel_rfl) (by kernel_rfl) (by kernel_rfl) (door_met os _)) ?_
  intro W base args ds gs before hval0 hW _ hsz0 _ _
  have hval : ∀ (j : Nat) t v, Tryd.f3.params[j]? = some t → args[j]? = some v → Value.okWide Tryd.prog W .any base t v := hval0
  have hW' := hW
  obtain ⟨p, q, hA0, hV, rfl, hfz, hnd⟩ := hW
  have hA : DataW.TrodAll enc Tryd.prog W 0 (fun _ => true) true Tryd.f3.params.toList args.toList ds p := hA0
  rw [Tryd.params3] at hA hval
  obtain ⟨v0, vs0, d0, ds0, p0, q0, hargs, rfl, rfl, h0, r0⟩ := trodAll_cons hA
  obtain ⟨v1, vs1, d1, ds1, p1, q1, rfl, rfl, rfl, h1, r1⟩ := trodAll_cons r0
  obtain ⟨rfl, rfl, rfl⟩ := trodAll_nil r1
  obtain rfl : args = #[v0, v1] := by cases args; simp_all
  obtain ⟨rfl, rfl⟩ := trodVars_none hV
  have k0 := h0
  have lt0 : ∀ x ∈ p0, x.block < W.heap.size := by obtain ⟨m, hm⟩ := k0; exact DataW.trod_lt m _ _ _ hm
  obtain ⟨X0, cs0, rfl, hK0, w0⟩ := open_arg_struct Tryd.underlying27 op27 (hval 0 27 v0 rfl rfl) h0
  obtain ⟨CS0⟩ := cs0
  obtain rfl := k27_open (cs := CS0) hK0
  have k1 := h1
  have lt1 : ∀ x ∈ p1, x.block < W.heap.size := by obtain ⟨m, hm⟩ := k1; exact DataW.trod_lt m _ _ _ hm
  obtain ⟨X1, cs1, rfl, hK1, w1⟩ := open_arg_struct Tryd.underlying29 op29 (hval 1 29 v1 rfl rfl) h1
  obtain ⟨CS1⟩ := cs1
  obtain rfl := k29_open (cs := CS1) hK1
  clear hA0 hval0 hsz0
  refine (nil_law X0 X1.f0 X1.f1 X1.f2.f0 X1.f2.f1 X1.f3 X1.f4 W).mono fun e W' ⟨he, bel0⟩ => ?_
  have bel : Below W.heap.size W W' := bel0
  subst he
  exact ⟨_, rfl, _, _, _, [], _, [], hW', trodAll_mk1 (shut_bool Tryd.underlying4 _), (trodAll_cons_mk (Below.trod laidOut (by kernel_rfl) (of_decide_eq_true (by kernel_rfl)) k0 bel lt0) (trodAll_cons_mk (Below.trod laidOut (by kernel_rfl) (of_decide_eq_true (by kernel_rfl)) k1 bel lt1) trodAll_mk0)), rfl, bel.frame _, fun h => by cases h⟩
theorem over : Rows.trackerNilRow.holds Tryd.pinned (OpenSpec.ofChange Rows.trackerNilSpec) :=
  OpenClaim.holds_of_wide 3 Tryd.f3 rfl rfl rfl rfl rfl rfl rfl ⟨rfl, rfl, rfl, rfl, rfl⟩ rfl rfl rfl rfl rfl (by kernel_rfl) Tryd.func3 (by kernel_rfl)
    (of_decide_eq_true (by kernel_rfl)) (by unfold Func.isWrapper; first | (rw [if_pos (by decide +kernel)]; kernel_rfl) | (rw [if_neg (by decide +kernel)]; exact ⟨rfl, rfl⟩))
    (fun os started H enc _ => lifted os started H enc)
theorem card_holds : Claim7.holds Tryd.pinned (.plain (OpenSpec.ofChange Rows.trackerNilSpec)) Rows.trackerNilCard :=
  Claim7.holds_tied_plain_at .later [] [.data, .data, .data] true (true, "1c3c8576f30cd64727e32a40889ad0a2d0bca4c8a954d58089ef32a68c177917") false
    over (fun _ h => by cases h) (by kernel_rfl) (fun _ h => by cases h) trackerNil_row_tie rfl ⟨rfl, rfl⟩ (by kernel_rfl) rfl
    (fun f fn hf hfn => by
      obtain rfl : f = 3 := Option.some.inj ((show Tryd.prog.funcNamed "mosaic/mosaiclaw31.TrackerNil" = some 3 by kernel_rfl).symm.trans hf) |>.symm
      obtain rfl : fn = Tryd.f3 := (Option.some.inj (Tryd.func3.symm.trans hfn)).symm
      exact ⟨by kernel_rfl, fun j t ht => by
        rw [Tryd.params3] at ht
        have hm : t ∈ [27, 29] := by simpa using Array.mem_of_getElem? ht
        have hall : ([27, 29].all fun u => !Tryd.prog.wantsStandIn u) = true := by kernel_rfl
        exact (show Tryd.prog.wantsStandIn t = false by simpa using List.all_eq_true.1 hall t hm)⟩)
    (by kernel_rfl)
theorem proved : Rows.TrackerNilCardSaid := card_holds
#print axioms proved
end Go.Proofs.YtmimnlbkllgfpaaDoor.trackerNil
namespace Go.Proofs.YtmimnlbkllgfpaaDoor
/-- The card, under a short name, for the claim. -/
theorem trackerNil_holds : Rows.TrackerNilCardSaid := trackerNil.proved
end Go.Proofs.YtmimnlbkllgfpaaDoor
