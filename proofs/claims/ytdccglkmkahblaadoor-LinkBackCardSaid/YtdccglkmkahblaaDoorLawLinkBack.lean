/- LinkBack answers true, whatever comes in, and leaves it as it was, where the library's tables hold what its text lays in them. (The join of the walk, and the tied card; written by wip/tools/xprint.py and tie.py.) -/
import Derived.Test.YtdccglkmkahblaaDoorRows
import Derived.Test.YtdccglkmkahblaaDoorPx16
import Derived.Test.YtdccglkmkahblaaDoorPureLinkBack
import Derived.Test.YtdccglkmkahblaaDoorOp
import Derived.WalkKit
import Derived.ProofKit
import Derived.OpenShut
import Derived.ShutString
import Derived.ChangeOld
import Derived.Below
import Derived.SizedLaws
import Derived.HandedShaped
import Derived.Shelf.Vars
import Derived.Lib.LaidTab
import Derived.LaidMore
import Derived.Lay
import Derived.Stop.Joined
import Derived.Stop.LaidErr
import Derived.SevenTiedAt
import Derived.Test.YtdccglkmkahblaaDoorCards
import Derived.Test.YtdccglkmkahblaaDoorTie
namespace Go.Proofs.YtdccglkmkahblaaDoor.linkBack
open Go.ChangeShapes Go.WideShapes Go.ChangeAt Go.RowKit Go.Proofs.YtdccglkmkahblaaDoor.P Go.Proofs.YtdccglkmkahblaaDoor.Op Go.Proofs.YtdccglkmkahblaaDoorW.PrintWords
open Go.ChangeMaps (open_string shut_string)
theorem own : ownKnob Tryd.prog.godebug = none := by kernel_rfl
theorem laidOut : laidOutB Tryd.prog = true := by kernel_rfl
theorem op34 : Opens Tryd.prog 34 k34 Q34 := opens_struct rfl (fun x => ⟨x.1, x.2⟩) Tryd.underlying34 (by kernel_rfl) (fun _ => rfl) (opensL_cons rfl (by kernel_rfl) (opens_int Tryd.underlying3) (opensL_one rfl (by kernel_rfl) (opens_int Tryd.underlying3))) (fun _ h => h)
theorem op25 : Opens Tryd.prog 25 k25 Q25 := opens_struct rfl (fun x => ⟨x.1, x.2.1, x.2.2.1, x.2.2.2⟩) Tryd.underlying25 (by kernel_rfl) (fun _ => rfl) (opensL_cons rfl (by kernel_rfl) (opens_string Tryd.underlying9) (opensL_cons rfl (by kernel_rfl) (opens_string Tryd.underlying9) (opensL_cons rfl (by kernel_rfl) (opens_slice Tryd.underlying22 (by kernel_rfl) (opens_int Tryd.underlying3)) (opensL_one rfl (by kernel_rfl) (opens_slice Tryd.underlying23 (by kernel_rfl) op34))))) (fun _ h => h)
/-- What the condition gives the walks: the table. -/
theorem tab_of {W : World} (h : laidMetH Tryd.prog Rows.linkBackRow.laid W) : Hand.TabW W := by
  rw [MakeChecks.laidMetH_plain _ _ _ (by kernel_rfl)] at h
  have h3 := h.tail.tail
  have e : (Rows.laid_internal_strconv_uint64pow10 : DataW Unit) = Lib.tabData .u64 Lib.pow10Tab := by kernel_rfl
  have h4 : laidMet Tryd.prog (("internal/strconv.uint64pow10", Lib.tabData .u64 Lib.pow10Tab) :: Rows.linkBackRow.laid.drop 3) W := by rw [← e]; exact h3
  exact Lib.tabIs_of_head (g := 1) (t := 128) (e := 114) (n := 20) (by kernel_rfl) (by kernel_rfl) (by kernel_rfl) (by kernel_rfl) (by kernel_rfl) (by kernel_rfl) h4
theorem row_err (u : TypeId) (h : Tryd.prog.typeName? 3 u = some "*errors.errorString") : u = 152 :=
  typeName_ptr_named (nm := "errors.errorString") (by rw [show "*" ++ "errors.errorString" = "*errors.errorString" by decide]; kernel_rfl) (by kernel_rfl) (by decide) u (by rw [show "*" ++ "errors.errorString" = "*errors.errorString" by decide]; exact h)
/-- What the condition and the world's shape give the walks. -/
theorem lib_of {W : World} (h : laidMetH Tryd.prog Rows.linkBackRow.laid W) (hsh : W.ShapedOpen Tryd.prog) : Hand.LibW W := by
  have ht := tab_of h
  rw [MakeChecks.laidMetH_plain _ _ _ (by kernel_rfl)] at h
  obtain ⟨a0, _, v0, _, _, _⟩ := laid_sentinel (g := 4) (ti := 62) (tp := 152) (te := 154) (ts := 9) (h.tail.tail.tail.tail.tail) (by kernel_rfl) (by kernel_rfl) Tryd.underlying62 row_err Tryd.underlying152 Tryd.underlying154 rfl rfl Tryd.underlying9 (by kernel_rfl) (by kernel_rfl)
  have c0 := World.var?_cell (P := Tryd.prog) (n := "strconv.ErrSyntax") (g := 4) (by kernel_rfl) v0 0
  obtain ⟨a1, _, v1, _, _, _⟩ := laid_sentinel (g := 5) (ti := 62) (tp := 152) (te := 154) (ts := 9) (h.tail.tail.tail.tail) (by kernel_rfl) (by kernel_rfl) Tryd.underlying62 row_err Tryd.underlying152 Tryd.underlying154 rfl rfl Tryd.underlying9 (by kernel_rfl) (by kernel_rfl)
  have c1 := World.var?_cell (P := Tryd.prog) (n := "strconv.ErrRange") (g := 5) (by kernel_rfl) v1 0
  exact ⟨ht, cell_of_shapedOpen_int (P := Tryd.prog) (g := 0) (t := 3) (zero := #[.int .i64 0]) hsh (of_decide_eq_true (by kernel_rfl)) (by kernel_rfl) rfl (by kernel_rfl) (by kernel_rfl) Tryd.underlying3, ⟨_, _, by simpa using c0⟩, ⟨_, _, by simpa using c1⟩⟩
set_option maxRecDepth 100000 in
theorem lifted (os : Os) (started : os.Started) (H : Type) (enc : TypeId × Value → H) :
    ReturnsInHanded {} Tryd.checked os 6 .any (fun w args => (Rows.linkBackSpec.pre enc Tryd.prog Tryd.f6 [] false w args ∧ laidMetH Tryd.prog Rows.linkBackRow.laid w) ∧ sizedMet enc Tryd.prog Tryd.f6 (OpenSpec.ofChange Rows.linkBackSpec) false w args) (Rows.linkBackSpec.post enc Tryd.prog Tryd.f6 false true false false) := by
  refine Op.returnsInHanded_of_change_and_shaped (C := Tryd.checked) (X := fun w _ => laidMetH Tryd.prog Rows.linkBackRow.laid w) (fun _ _ _ hh h => h.of_heap hh) own started (by kernel_rfl) Tryd.func6
    (ChangeSpec.witness_shaped (enc := enc) (C := Tryd.checked) (os := os) (X := fun w _ => laidMetH Tryd.prog Rows.linkBackRow.laid w) false (World.laidAll Tryd.prog os Rows.linkBackRow.laid) #[.agg #[.string ByteArray.empty, .string ByteArray.empty, .slice none 0 0, .slice none 0 0], .string ByteArray.empty] 8 (World.laidAll_os _ _ _) (World.shaped_of_ZipB (by kernel_rfl) (by kernel_rfl)) (by kernel_rfl) (by kernel_rfl) (by kernel_rfl) (by rw [MakeChecks.laidMetH_plain _ _ _ (by kernel_rfl)]; exact laidMet_laidAll _ (by kernel_rfl) (by kernel_rfl))) ?_
  intro W base args ds gs before hval0 hW _ hsz0 hL hsh _
  have hsz : (DataW.weightsEach Tryd.prog (Tryd.f6.params.toList ++ Rows.linkBackSpec.plain.varTypes Tryd.prog) (ds ++ gs)).all (· ≤ reachBytes) = true := hsz0
  have hval : ∀ (j : Nat) t v, Tryd.f6.params[j]? = some t → args[j]? = some v → Value.okWide Tryd.prog W .any base t v := hval0
  have hW' := hW
  obtain ⟨p, q, hA0, hV, rfl, hfz, hnd⟩ := hW
  have hA : DataW.TrodAll enc Tryd.prog W 0 (fun _ => true) true Tryd.f6.params.toList args.toList ds p := hA0
  rw [Tryd.params6] at hA hval hsz
  obtain ⟨v0, vs0, d0, ds0, p0, q0, hargs, rfl, rfl, h0, r0⟩ := trodAll_cons hA
  obtain ⟨v1, vs1, d1, ds1, p1, q1, rfl, rfl, rfl, h1, r1⟩ := trodAll_cons r0
  obtain ⟨rfl, rfl, rfl⟩ := trodAll_nil r1
  obtain rfl : args = #[v0, v1] := by cases args; simp_all
  obtain ⟨rfl, rfl⟩ := trodVars_none hV
  have k0 := h0
  have lt0 : ∀ x ∈ p0, x.block < W.heap.size := by obtain ⟨m, hm⟩ := k0; exact DataW.trod_lt m _ _ _ hm
  obtain ⟨X0, cs0, rfl, hK0, w0⟩ := open_arg_struct Tryd.underlying25 op25 (hval 0 25 v0 rfl rfl) h0
  obtain ⟨CS0⟩ := cs0
  obtain ⟨A2, c2, A3, c3, e0, l2, g2, l3, g3⟩ := k25_open (cs := CS0) hK0
  subst e0
  obtain ⟨a1, rfl, rfl, rfl, y1⟩ := open_string Tryd.underlying9 (hval 1 9 v1 rfl rfl) h1
  have w1 : a1.size ≤ 140737488351232 := by
    have z := sized_string hsz (j := 1) (t := 9) rfl rfl
    rw [Array.length_toList] at z
    exact z
  clear hA0 hval0 hsz0 hsz
  obtain ⟨k, h⟩ := Pure.LinkBack X0.f0 X0.f1 X0.f2 X0.f3 a1 w0 w1
  refine (mosaiclaw29_LinkBack.calls k X0.f0 X0.f1 A2 c2 X0.f2 A3 c3 X0.f3 a1 true W g2 l2 g3 l3 h (lib_of hL hsh)).mono fun e W' ⟨he, bel0⟩ => ?_
  have bel : Below W.heap.size W W' := bel0
  subst he
  exact ⟨_, rfl, _, _, _, [], _, [], hW', trodAll_mk1 (shut_bool Tryd.underlying4 _), (trodAll_cons_mk (Below.trod laidOut (by kernel_rfl) (of_decide_eq_true (by kernel_rfl)) k0 bel lt0) (trodAll_cons_mk (shut_string Tryd.underlying9 y1) trodAll_mk0)), rfl, bel.frame _, fun h => by cases h⟩
theorem over : Rows.linkBackRow.holds Tryd.pinned (OpenSpec.ofChange Rows.linkBackSpec) :=
  OpenClaim.holds_of_wide 6 Tryd.f6 rfl rfl rfl rfl rfl rfl rfl ⟨rfl, rfl, rfl, rfl, rfl⟩ rfl rfl rfl rfl rfl (by kernel_rfl) Tryd.func6 (by kernel_rfl)
    (of_decide_eq_true (by kernel_rfl)) (by unfold Func.isWrapper; first | (rw [if_pos (by decide +kernel)]; kernel_rfl) | (rw [if_neg (by decide +kernel)]; exact ⟨rfl, rfl⟩))
    (fun os started H enc _ => lifted os started H enc)
theorem card_holds : Claim7.holds Tryd.pinned (.plain (OpenSpec.ofChange Rows.linkBackSpec)) Rows.linkBackCard :=
  Claim7.holds_tied_plain_at .later [] [.data, .data, .data, .data, .sentinel, .sentinel, .pinned] true (true, "a04efafcc3bbc1640ccb1406842ac4fd7a880531e950ab0e15a76db677f944a9") true
    over (fun _ h => by cases h) (by kernel_rfl) (fun _ h => by cases h) linkBack_row_tie rfl ⟨rfl, rfl⟩ (by kernel_rfl) rfl
    (fun f fn hf hfn => by
      obtain rfl : f = 6 := Option.some.inj ((show Tryd.prog.funcNamed "mosaic/mosaiclaw29.LinkBack" = some 6 by kernel_rfl).symm.trans hf) |>.symm
      obtain rfl : fn = Tryd.f6 := (Option.some.inj (Tryd.func6.symm.trans hfn)).symm
      exact ⟨by kernel_rfl, fun j t ht => by
        rw [Tryd.params6] at ht
        have hm : t ∈ [25, 9] := by simpa using Array.mem_of_getElem? ht
        have hall : ([25, 9].all fun u => !Tryd.prog.wantsStandIn u) = true := by kernel_rfl
        exact (show Tryd.prog.wantsStandIn t = false by simpa using List.all_eq_true.1 hall t hm)⟩)
    (by kernel_rfl)
theorem proved : Rows.LinkBackCardSaid := card_holds
#print axioms proved
end Go.Proofs.YtdccglkmkahblaaDoor.linkBack
namespace Go.Proofs.YtdccglkmkahblaaDoor
/-- The card, under a short name, for the claim. -/
theorem linkBack_holds : Rows.LinkBackCardSaid := linkBack.proved
end Go.Proofs.YtdccglkmkahblaaDoor
