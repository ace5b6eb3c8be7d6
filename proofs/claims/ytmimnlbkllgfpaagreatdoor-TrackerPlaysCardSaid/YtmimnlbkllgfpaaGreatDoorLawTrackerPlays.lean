/- TrackerPlays answers true, whatever comes in, and leaves it as it was, where the library's tables hold what its text lays in them. (The join of the walk, and the tied card.) -/
import Derived.Test.YtmimnlbkllgfpaaGreatDoorRows
import Derived.Test.YtmimnlbkllgfpaaGreatDoorPv
import Derived.Test.YtmimnlbkllgfpaaGreatDoorOp
import Derived.WalkKit
import Derived.ProofKit
import Derived.OpenShut
import Derived.ShutString
import Derived.ChangeOld
import Derived.Below
import Derived.SizedLaws
import Derived.HandedShaped
import Derived.Shelf.Vars
import Derived.Lib.LaidTab
import Derived.LaidMore
import Derived.Lay
import Derived.Stop.Joined
import Derived.Stop.LaidErr
import Derived.SevenTiedAt
import Derived.Test.YtmimnlbkllgfpaaGreatDoorCards
import Derived.Test.YtmimnlbkllgfpaaGreatDoorTie
namespace Go.Proofs.YtmimnlbkllgfpaaGreatDoor.trackerPlays
open Go.ChangeShapes Go.WideShapes Go.ChangeAt Go.RowKit Go.Proofs.YtmimnlbkllgfpaaGreatDoor.A Go.Proofs.YtmimnlbkllgfpaaGreatDoor.Tb Go.Proofs.YtmimnlbkllgfpaaGreatDoor.Op Go.Proofs.YtmimnlbkllgfpaaGreatDoorW.PrintWords
open Go.ChangeMaps (open_string shut_string)
theorem plays (room : Int) (l : List S37) (A : Option Addr) (cp : Nat) (qn qt : ByteArray) (px py qk qw : Int) (w : World) (hC : Kd.C k37 w A l.length l) (hcp : l.length ≤ cp) (hL : Hand.TabW w) :
    Calls Tryz.prog 3 #[.int .i64 room, .slice A l.length cp, .agg #[.string qn, .string qt, .int .i64 px, .int .i64 py, .int .i64 qk, .int .i64 qw]] w fun e w' => e = .returned (.bool true) ∧ Below w.heap.size w w' := by
  obtain ⟨r, hr, hF⟩ := few_spec l qn qt px py qk qw
  cases r with
  | false => exact plays_out room l A cp qn qt px py qk qw w hC hcp hr
  | true =>
    by_cases h : 1 ≤ room ∧ room ≤ 64
    · exact plays_in room l A cp qn qt px py qk qw w hC hcp hr (hF rfl) h.1 h.2 hL
    · exact plays_room room l A cp qn qt px py qk qw w hC hcp hr (by omega)
theorem own : ownKnob Tryz.prog.godebug = none := by kernel_rfl
theorem laidOut : laidOutB Tryz.prog = true := by kernel_rfl
theorem op24 : Opens Tryz.prog 24 k24 (fun _ => True) := opens_struct rfl (fun x => ⟨x.1, x.2⟩) Tryz.underlying24 (by kernel_rfl) (fun _ => rfl) (opensL_cons rfl (by kernel_rfl) (opens_int Tryz.underlying3) (opensL_one rfl (by kernel_rfl) (opens_int Tryz.underlying3))) (fun _ _ => trivial)
theorem op35 : Opens Tryz.prog 35 k35 (fun _ => True) := opens_struct rfl (fun x => ⟨x.1, x.2.1, x.2.2.1, x.2.2.2⟩) Tryz.underlying35 (by kernel_rfl) (fun _ => rfl) (opensL_cons rfl (by kernel_rfl) (opens_string Tryz.underlying9) (opensL_cons rfl (by kernel_rfl) (opens_int Tryz.underlying3) (opensL_cons rfl (by kernel_rfl) op24 (opensL_one rfl (by kernel_rfl) (opens_int Tryz.underlying3))))) (fun _ _ => trivial)
theorem op37 : Opens Tryz.prog 37 k37 (fun _ => True) := opens_struct rfl (fun x => ⟨x.1, x.2.1, x.2.2⟩) Tryz.underlying37 (by kernel_rfl) (fun _ => rfl) (opensL_cons rfl (by kernel_rfl) (opens_int Tryz.underlying3) (opensL_cons rfl (by kernel_rfl) (opens_int Tryz.underlying3) (opensL_one rfl (by kernel_rfl) op35))) (fun _ _ => trivial)
/-- What is asked: a name, a title, a place, a time and how many. -/
structure Q26 where
  f0 : ByteArray
  f1 : ByteArray
  f2 : S24
  f3 : Int
  f4 : Int
def k26 : Kd Q26 := Kd.iso (Kd.pair Kd.string (Kd.pair Kd.string (Kd.pair k24 (Kd.pair (Kd.int .i64) (Kd.int .i64))))) (fun x : Q26 => (x.f0, x.f1, x.f2, x.f3, x.f4))
theorem k26_open {w : World} {x : Q26} {cs : List Value} (h : k26.K w x cs) : cs = [.string x.f0, .string x.f1, .int .i64 x.f2.f0, .int .i64 x.f2.f1, .int .i64 x.f3, .int .i64 x.f4] := by
  obtain ⟨c0, r0, rfl, s0, h⟩ := h
  obtain ⟨c1, r1, rfl, s1, h⟩ := h
  obtain ⟨c2, r2, rfl, s2, h⟩ := h
  obtain ⟨c3, r3, rfl, s3, h⟩ := h
  obtain rfl := k24_open s2
  obtain rfl := s0
  obtain rfl := s1
  obtain rfl := s3
  obtain rfl := h
  rfl
theorem op26 : Opens Tryz.prog 26 k26 (fun _ => True) := opens_struct rfl (fun x => ⟨x.1, x.2.1, x.2.2.1, x.2.2.2.1, x.2.2.2.2⟩) Tryz.underlying26 (by kernel_rfl) (fun _ => rfl) (opensL_cons rfl (by kernel_rfl) (opens_string Tryz.underlying9) (opensL_cons rfl (by kernel_rfl) (opens_string Tryz.underlying9) (opensL_cons rfl (by kernel_rfl) op24 (opensL_cons rfl (by kernel_rfl) (opens_int Tryz.underlying3) (opensL_one rfl (by kernel_rfl) (opens_int Tryz.underlying3)))))) (fun _ _ => trivial)
/-- What the condition gives the walks: the table. -/
theorem tab_of {W : World} (h : laidMetH Tryz.prog Rows.trackerPlaysRow.laid W) : Hand.TabW W := by
  rw [MakeChecks.laidMetH_plain _ _ _ (by kernel_rfl)] at h
  have h3 := h.tail.tail
  have e : (Rows.laid_internal_strconv_uint64pow10 : DataW Unit) = Lib.tabData .u64 Lib.pow10Tab := by kernel_rfl
  have h4 : laidMet Tryz.prog (("internal/strconv.uint64pow10", Lib.tabData .u64 Lib.pow10Tab) :: Rows.trackerPlaysRow.laid.drop 3) W := by rw [← e]; exact h3
  exact Lib.tabIs_of_head (g := 1) (t := 194) (e := 167) (n := 20) (by kernel_rfl) (by kernel_rfl) (by kernel_rfl) (by kernel_rfl) (by kernel_rfl) (by kernel_rfl) h4
set_option maxRecDepth 100000 in
theorem lifted (os : Os) (started : os.Started) (H : Type) (enc : TypeId × Value → H) :
    ReturnsInHanded {} Tryz.checked os 3 .any (fun w args => (Rows.trackerPlaysSpec.pre enc Tryz.prog Tryz.f3 [] false w args ∧ laidMetH Tryz.prog Rows.trackerPlaysRow.laid w) ∧ sizedMet enc Tryz.prog Tryz.f3 (OpenSpec.ofChange Rows.trackerPlaysSpec) false w args) (Rows.trackerPlaysSpec.post enc Tryz.prog Tryz.f3 false true false false) := by
  refine Op.returnsInHanded_of_change_and_shaped (C := Tryz.checked) (X := fun w _ => laidMetH Tryz.prog Rows.trackerPlaysRow.laid w) (fun _ _ _ hh h => h.of_heap hh) own started (by kernel_rfl) Tryz.func3
    (ChangeSpec.witness_shaped (enc := enc) (C := Tryz.checked) (os := os) (X := fun w _ => laidMetH Tryz.prog Rows.trackerPlaysRow.laid w) false (World.laidAll Tryz.prog os Rows.trackerPlaysRow.laid) #[.int .i64 0, .slice none 0 0, .agg #[.string ByteArray.empty, .string ByteArray.empty, .int .i64 0, .int .i64 0, .int .i64 0, .int .i64 0]] 8 (World.laidAll_os _ _ _) (World.shaped_of_ZipB (by kernel_rfl) (by kernel_rfl)) (by kernel_rfl) (by kernel_rfl) (by kernel_rfl) (by rw [MakeChecks.laidMetH_plain _ _ _ (by kernel_rfl)]; exact laidMet_laidAll _ (by kernel_rfl) (by kernel_rfl))) ?_
  intro W base args ds gs before hval0 hW _ hsz0 hL hsh _
  have hsz : (DataW.weightsEach Tryz.prog (Tryz.f3.params.toList ++ Rows.trackerPlaysSpec.plain.varTypes Tryz.prog) (ds ++ gs)).all (· ≤ reachBytes) = true := hsz0
  have hval : ∀ (j : Nat) t v, Tryz.f3.params[j]? = some t → args[j]? = some v → Value.okWide Tryz.prog W .any base t v := hval0
  have hW' := hW
  obtain ⟨p, q, hA0, hV, rfl, hfz, hnd⟩ := hW
  have hA : DataW.TrodAll enc Tryz.prog W 0 (fun _ => true) true Tryz.f3.params.toList args.toList ds p := hA0
  rw [Tryz.params3] at hA hval hsz
  obtain ⟨v0, vs0, d0, ds0, p0, q0, hargs, rfl, rfl, h0, r0⟩ := trodAll_cons hA
  obtain ⟨v1, vs1, d1, ds1, p1, q1, rfl, rfl, rfl, h1, r1⟩ := trodAll_cons r0
  obtain ⟨v2, vs2, d2, ds2, p2, q2, rfl, rfl, rfl, h2, r2⟩ := trodAll_cons r1
  obtain ⟨rfl, rfl, rfl⟩ := trodAll_nil r2
  obtain rfl : args = #[v0, v1, v2] := by cases args; simp_all
  obtain ⟨rfl, rfl⟩ := trodVars_none hV
  obtain ⟨n0, rfl, rfl, rfl, z0⟩ := open_int Tryz.underlying3 (hval 0 3 v0 rfl rfl) h0
  have k1 := h1
  have lt1 : ∀ x ∈ p1, x.block < W.heap.size := by obtain ⟨m, hm⟩ := k1; exact DataW.trod_lt m _ _ _ hm
  obtain ⟨A1, l1, c1, rfl, hc1, hr1, hm1, w1⟩ := open_arg_slice Tryz.underlying22 (by kernel_rfl) op37 (hval 1 22 v1 rfl rfl) h1
  have k2 := h2
  have lt2 : ∀ x ∈ p2, x.block < W.heap.size := by obtain ⟨m, hm⟩ := k2; exact DataW.trod_lt m _ _ _ hm
  obtain ⟨X1, cs1, rfl, hK1, w2⟩ := open_arg_struct Tryz.underlying26 op26 (hval 2 26 v2 rfl rfl) h2
  obtain ⟨CS1⟩ := cs1
  obtain rfl := k26_open (cs := CS1) hK1
  clear hA0 hval0 hsz0 hsz
  refine (plays n0 l1 A1 c1 X1.f0 X1.f1 X1.f2.f0 X1.f2.f1 X1.f3 X1.f4 W hr1 hc1 (tab_of hL)).mono fun e W' ⟨he, bel0⟩ => ?_
  have bel : Below W.heap.size W W' := bel0
  subst he
  exact ⟨_, rfl, _, _, _, [], _, [], hW', trodAll_mk1 (shut_bool Tryz.underlying4 _), (trodAll_cons_mk (shut_int Tryz.underlying3 z0) (trodAll_cons_mk (Below.trod laidOut (by kernel_rfl) (of_decide_eq_true (by kernel_rfl)) k1 bel lt1) (trodAll_cons_mk (Below.trod laidOut (by kernel_rfl) (of_decide_eq_true (by kernel_rfl)) k2 bel lt2) trodAll_mk0))), rfl, bel.frame _, fun h => by cases h⟩
theorem over : Rows.trackerPlaysRow.holds Tryz.pinned (OpenSpec.ofChange Rows.trackerPlaysSpec) :=
  OpenClaim.holds_of_wide 3 Tryz.f3 rfl rfl rfl rfl rfl rfl rfl ⟨rfl, rfl, rfl, rfl, rfl⟩ rfl rfl rfl rfl rfl (by kernel_rfl) Tryz.func3 (by kernel_rfl)
    (of_decide_eq_true (by kernel_rfl)) (by unfold Func.isWrapper; first | (rw [if_pos (by decide +kernel)]; kernel_rfl) | (rw [if_neg (by decide +kernel)]; exact ⟨rfl, rfl⟩))
    (fun os started H enc _ => lifted os started H enc)
theorem card_holds : Claim7.holds Tryz.pinned (.plain (OpenSpec.ofChange Rows.trackerPlaysSpec)) Rows.trackerPlaysCard :=
  Claim7.holds_tied_plain_at .later [] [.data, .data, .data] true (true, "2e7091c71ff74a142690d6cd5097b547cff60e93fe1677f8bf13a3dc6a240615") true
    over (fun _ h => by cases h) (by kernel_rfl) (fun _ h => by cases h) trackerPlays_row_tie rfl ⟨rfl, rfl⟩ (by kernel_rfl) rfl
    (fun f fn hf hfn => by
      obtain rfl : f = 3 := Option.some.inj ((show Tryz.prog.funcNamed "mosaic/mosaiclaw31.TrackerPlays" = some 3 by kernel_rfl).symm.trans hf) |>.symm
      obtain rfl : fn = Tryz.f3 := (Option.some.inj (Tryz.func3.symm.trans hfn)).symm
      exact ⟨by kernel_rfl, fun j t ht => by
        rw [Tryz.params3] at ht
        have hm : t ∈ [3, 22, 26] := by simpa using Array.mem_of_getElem? ht
        have hall : ([3, 22, 26].all fun u => !Tryz.prog.wantsStandIn u) = true := by kernel_rfl
        exact (show Tryz.prog.wantsStandIn t = false by simpa using List.all_eq_true.1 hall t hm)⟩)
    (by kernel_rfl)
theorem proved : Rows.TrackerPlaysCardSaid := card_holds
#print axioms proved
end Go.Proofs.YtmimnlbkllgfpaaGreatDoor.trackerPlays
namespace Go.Proofs.YtmimnlbkllgfpaaGreatDoor
/-- The card, under a short name, for the claim. -/
theorem trackerPlays_holds : Rows.TrackerPlaysCardSaid := trackerPlays.proved
end Go.Proofs.YtmimnlbkllgfpaaGreatDoor
