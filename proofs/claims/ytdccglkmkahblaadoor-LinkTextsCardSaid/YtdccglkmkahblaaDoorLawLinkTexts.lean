/- LinkTexts answers true, whatever comes in, and leaves it as it was, where the library's tables hold what its text lays in them. (The join of the walk, and the tied card; written by wip/tools/xprint.py and tie.py.) -/
import Derived.Test.YtdccglkmkahblaaDoorRows
import Derived.Test.YtdccglkmkahblaaDoorPx11
import Derived.Test.YtdccglkmkahblaaDoorPureLinkTexts
import Derived.Test.YtdccglkmkahblaaDoorOp
import Derived.WalkKit
import Derived.ProofKit
import Derived.OpenShut
import Derived.ShutString
import Derived.ChangeOld
import Derived.Below
import Derived.SizedLaws
import Derived.Lib.LaidTab
import Derived.LaidMore
import Derived.Stop.Joined
import Derived.Stop.LaidErr
import Derived.SevenTiedAt
import Derived.Test.YtdccglkmkahblaaDoorCards
import Derived.Test.YtdccglkmkahblaaDoorTie
namespace Go.Proofs.YtdccglkmkahblaaDoor.linkTexts
open Go.ChangeShapes Go.WideShapes Go.ChangeAt Go.RowKit Go.Proofs.YtdccglkmkahblaaDoor.P Go.Proofs.YtdccglkmkahblaaDoor.Op Go.Proofs.YtdccglkmkahblaaDoorW.PrintWords
open Go.ChangeMaps (open_string shut_string)
theorem own : ownKnob Tryd.prog.godebug = none := by kernel_rfl
theorem laidOut : laidOutB Tryd.prog = true := by kernel_rfl
theorem op34 : Opens Tryd.prog 34 k34 Q34 := opens_struct rfl (fun x => ⟨x.1, x.2⟩) Tryd.underlying34 (by kernel_rfl) (fun _ => rfl) (opensL_cons rfl (by kernel_rfl) (opens_int Tryd.underlying3) (opensL_one rfl (by kernel_rfl) (opens_int Tryd.underlying3))) (fun _ h => h)
theorem op25 : Opens Tryd.prog 25 k25 Q25 := opens_struct rfl (fun x => ⟨x.1, x.2.1, x.2.2.1, x.2.2.2⟩) Tryd.underlying25 (by kernel_rfl) (fun _ => rfl) (opensL_cons rfl (by kernel_rfl) (opens_string Tryd.underlying9) (opensL_cons rfl (by kernel_rfl) (opens_string Tryd.underlying9) (opensL_cons rfl (by kernel_rfl) (opens_slice Tryd.underlying22 (by kernel_rfl) (opens_int Tryd.underlying3)) (opensL_one rfl (by kernel_rfl) (opens_slice Tryd.underlying23 (by kernel_rfl) op34))))) (fun _ h => h)
set_option maxRecDepth 100000 in
/-- The door's own heap meets the condition: closed facts. -/
theorem door_met (os : Os) (args : Array Value) : laidMetH Tryd.prog Rows.linkTextsRow.laid ((World.doorLaid Tryd.prog 400 os).forCall (fun _ _ => 0) ⟨#[], args, []⟩).memory :=
  laidMetH_of_parts3 (fuel := 8) (laidMet_of_run' 8 (by kernel_rfl) (by kernel_rfl)) (by kernel_rfl) (by kernel_rfl)
/-- What the condition gives the walks: the table. -/
theorem tab_of {W : World} (h : laidMetH Tryd.prog Rows.linkTextsRow.laid W) : Hand.TabW W := by
  rw [MakeChecks.laidMetH_plain _ _ _ (by kernel_rfl)] at h
  have h3 := h.tail.tail
  have e : (Rows.laid_internal_strconv_uint64pow10 : DataW Unit) = Lib.tabData .u64 Lib.pow10Tab := by kernel_rfl
  have h4 : laidMet Tryd.prog (("internal/strconv.uint64pow10", Lib.tabData .u64 Lib.pow10Tab) :: Rows.linkTextsRow.laid.drop 3) W := by rw [← e]; exact h3
  exact Lib.tabIs_of_head (g := 1) (t := 128) (e := 114) (n := 20) (by kernel_rfl) (by kernel_rfl) (by kernel_rfl) (by kernel_rfl) (by kernel_rfl) (by kernel_rfl) h4
set_option maxRecDepth 100000 in
theorem lifted (os : Os) (started : os.Started) (H : Type) (enc : TypeId × Value → H) :
    ReturnsInHanded {} Tryd.checked os 4 .any (fun w args => (Rows.linkTextsSpec.pre enc Tryd.prog Tryd.f4 [] false w args ∧ laidMetH Tryd.prog Rows.linkTextsRow.laid w) ∧ sizedMet enc Tryd.prog Tryd.f4 (OpenSpec.ofChange Rows.linkTextsSpec) false w args) (Rows.linkTextsSpec.post enc Tryd.prog Tryd.f4 false true false false) := by
  refine returnsInHanded_of_change_and (C := Tryd.checked) (X := fun w _ => laidMetH Tryd.prog Rows.linkTextsRow.laid w) (fun _ _ _ hh h => h.of_heap hh) own started (by kernel_rfl) Tryd.func4
    (ChangeSpec.witness_shaped (enc := enc) (C := Tryd.checked) (os := os) (X := fun w _ => laidMetH Tryd.prog Rows.linkTextsRow.laid w) false (World.doorLaid Tryd.prog 400 os) #[.agg #[.string ByteArray.empty, .string ByteArray.empty, .slice none 0 0, .slice none 0 0], .agg #[.int .i64 0, .int .i64 0]] 8 rfl (World.shaped_of_RefB (by kernel_rfl) (by kernel_rfl)) (by kernel_rfl) (by kernel_rfl) (by kernel_rfl) (door_met os _)) ?_
  intro W base args ds gs before hval0 hW _ hsz0 hL _
  have hsz : (DataW.weightsEach Tryd.prog (Tryd.f4.params.toList ++ Rows.linkTextsSpec.plain.varTypes Tryd.prog) (ds ++ gs)).all (· ≤ reachBytes) = true := hsz0
  have hval : ∀ (j : Nat) t v, Tryd.f4.params[j]? = some t → args[j]? = some v → Value.okWide Tryd.prog W .any base t v := hval0
  have hW' := hW
  obtain ⟨p, q, hA0, hV, rfl, hfz, hnd⟩ := hW
  have hA : DataW.TrodAll enc Tryd.prog W 0 (fun _ => true) true Tryd.f4.params.toList args.toList ds p := hA0
  rw [Tryd.params4] at hA hval hsz
  obtain ⟨v0, vs0, d0, ds0, p0, q0, hargs, rfl, rfl, h0, r0⟩ := trodAll_cons hA
  obtain ⟨v1, vs1, d1, ds1, p1, q1, rfl, rfl, rfl, h1, r1⟩ := trodAll_cons r0
  obtain ⟨rfl, rfl, rfl⟩ := trodAll_nil r1
  obtain rfl : args = #[v0, v1] := by cases args; simp_all
  obtain ⟨rfl, rfl⟩ := trodVars_none hV
  have k0 := h0
  have lt0 : ∀ x ∈ p0, x.block < W.heap.size := by obtain ⟨m, hm⟩ := k0; exact DataW.trod_lt m _ _ _ hm
  obtain ⟨X0, cs0, rfl, hK0, w0⟩ := open_arg_struct Tryd.underlying25 op25 (hval 0 25 v0 rfl rfl) h0
  obtain ⟨CS0⟩ := cs0
  obtain ⟨A2, c2, A3, c3, e0, l2, g2, l3, g3⟩ := k25_open (cs := CS0) hK0
  subst e0
  have k1 := h1
  have lt1 : ∀ x ∈ p1, x.block < W.heap.size := by obtain ⟨m, hm⟩ := k1; exact DataW.trod_lt m _ _ _ hm
  obtain ⟨X1, cs1, rfl, hK1, w1⟩ := open_arg_struct Tryd.underlying34 op34 (hval 1 34 v1 rfl rfl) h1
  obtain ⟨CS1⟩ := cs1
  obtain rfl := k34_open (cs := CS1) hK1
  clear hA0 hval0 hsz0 hsz
  obtain ⟨k, h⟩ := Pure.LinkTexts X0.f0 X0.f1 X0.f2 X0.f3 X1.f0 X1.f1 w0 w1
  refine (mosaiclaw29_LinkTexts.calls k X0.f0 X0.f1 A2 c2 X0.f2 A3 c3 X0.f3 X1.f0 X1.f1 true W g2 l2 g3 l3 h (tab_of hL)).mono fun e W' ⟨he, bel0⟩ => ?_
  have bel : Below W.heap.size W W' := bel0
  subst he
  exact ⟨_, rfl, _, _, _, [], _, [], hW', trodAll_mk1 (shut_bool Tryd.underlying4 _), (trodAll_cons_mk (Below.trod laidOut (by kernel_rfl) (of_decide_eq_true (by kernel_rfl)) k0 bel lt0) (trodAll_cons_mk (Below.trod laidOut (by kernel_rfl) (of_decide_eq_true (by kernel_rfl)) k1 bel lt1) trodAll_mk0)), rfl, bel.frame _, fun h => by cases h⟩
theorem over : Rows.linkTextsRow.holds Tryd.pinned (OpenSpec.ofChange Rows.linkTextsSpec) :=
  OpenClaim.holds_of_wide 4 Tryd.f4 rfl rfl rfl rfl rfl rfl rfl ⟨rfl, rfl, rfl, rfl, rfl⟩ rfl rfl rfl rfl rfl (by kernel_rfl) Tryd.func4 (by kernel_rfl)
    (of_decide_eq_true (by kernel_rfl)) (by unfold Func.isWrapper; first | (rw [if_pos (by decide +kernel)]; kernel_rfl) | (rw [if_neg (by decide +kernel)]; exact ⟨rfl, rfl⟩))
    (fun os started H enc _ => lifted os started H enc)
theorem card_holds : Claim7.holds Tryd.pinned (.plain (OpenSpec.ofChange Rows.linkTextsSpec)) Rows.linkTextsCard :=
  Claim7.holds_tied_plain_at .later [] [.data, .data, .data] true (true, "a04efafcc3bbc1640ccb1406842ac4fd7a880531e950ab0e15a76db677f944a9") true
    over (fun _ h => by cases h) (by kernel_rfl) (fun _ h => by cases h) linkTexts_row_tie rfl ⟨rfl, rfl⟩ (by kernel_rfl) rfl
    (fun f fn hf hfn => by
      obtain rfl : f = 4 := Option.some.inj ((show Tryd.prog.funcNamed "mosaic/mosaiclaw29.LinkTexts" = some 4 by kernel_rfl).symm.trans hf) |>.symm
      obtain rfl : fn = Tryd.f4 := (Option.some.inj (Tryd.func4.symm.trans hfn)).symm
      exact ⟨by kernel_rfl, fun j t ht => by
        rw [Tryd.params4] at ht
        have hm : t ∈ [25, 34] := by simpa using Array.mem_of_getElem? ht
        have hall : ([25, 34].all fun u => !Tryd.prog.wantsStandIn u) = true := by kernel_rfl
        exact (show Tryd.prog.wantsStandIn t = false by simpa using List.all_eq_true.1 hall t hm)⟩)
    (by kernel_rfl)
theorem proved : Rows.LinkTextsCardSaid := card_holds
#print axioms proved
end Go.Proofs.YtdccglkmkahblaaDoor.linkTexts
namespace Go.Proofs.YtdccglkmkahblaaDoor
/-- The card, under a short name, for the claim. -/
theorem linkTexts_holds : Rows.LinkTextsCardSaid := linkTexts.proved
end Go.Proofs.YtdccglkmkahblaaDoor
