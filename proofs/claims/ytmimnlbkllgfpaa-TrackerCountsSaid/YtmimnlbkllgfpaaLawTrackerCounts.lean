/- TrackerCounts: whatever the two notes and the time, the law returns true and leaves its arguments as they were. No condition. -/
import Derived.Test.YtmimnlbkllgfpaaRows
import Derived.Test.YtmimnlbkllgfpaaCx
import Derived.Test.YtmimnlbkllgfpaaCy
import Derived.Test.YtmimnlbkllgfpaaCz
import Derived.Test.YtmimnlbkllgfpaaOp
import Derived.WalkKit
import Derived.ProofKit
import Derived.OpenShut
import Derived.ShutString
import Derived.ChangeOld
import Derived.Below
import Derived.SizedLaws
namespace Go.Proofs.Ytmimnlbkllgfpaa.trackerCounts
open Go.ChangeShapes Go.WideShapes Go.ChangeAt Go.RowKit Go.Proofs.Ytmimnlbkllgfpaa.A Go.Proofs.Ytmimnlbkllgfpaa.Tb Go.Proofs.Ytmimnlbkllgfpaa.Op Go.Proofs.YtmimnlbkllgfpaaW.PrintWords
open Go.ChangeMaps (open_string shut_string)
theorem counts (a b : Nt) (now : Int) (w : World) :
    Calls Try.prog 3 #[.agg #[.string a.f0, .int .i64 a.f1, .int .i64 a.f2.f0, .int .i64 a.f2.f1, .int .i64 a.f3], .agg #[.string b.f0, .int .i64 b.f1, .int .i64 b.f2.f0, .int .i64 b.f2.f1, .int .i64 b.f3], .int .i64 now] w fun e w' => e = .returned (.bool true) ∧ Below w.heap.size w w' := by
  by_cases ha : 100 < a.f0.size
  · exact counts_long a b now w (Or.inl ha)
  · by_cases hb : 100 < b.f0.size
    · exact counts_long a b now w (Or.inr hb)
    · cases hm : mayB a 0 with
      | false => exact counts_bad a b now w ha hb hm
      | true =>
        cases htk : tickB now with
        | false => exact counts_past a b now w ha hb hm htk
        | true =>
          by_cases hle : now ≤ a.f3
          · cases hm2 : mayB (asA a b) now with
            | false => exact counts_again_in a b now w ha hb hm htk hle hm2
            | true => exact counts_new_in a b now w ha hb hm htk hle hm2
          · cases hm2 : mayB (asA a b) now with
            | false => exact counts_again_out a b now w ha hb hm htk hle hm2
            | true => exact counts_new_out a b now w ha hb hm htk hle hm2
theorem own : ownKnob Try.prog.godebug = none := by kernel_rfl
theorem laidOut : laidOutB Try.prog = true := by kernel_rfl
theorem op23 : Opens Try.prog 23 k23 (fun _ => True) := opens_struct rfl (fun x => ⟨x.1, x.2⟩) Try.underlying23 (by kernel_rfl) (fun _ => rfl) (opensL_cons rfl (by kernel_rfl) (opens_int Try.underlying3) (opensL_one rfl (by kernel_rfl) (opens_int Try.underlying3))) (fun _ _ => trivial)
theorem op25 : Opens Try.prog 25 k25 (fun _ => True) := opens_struct rfl (fun x => ⟨x.1, x.2.1, x.2.2.1, x.2.2.2⟩) Try.underlying25 (by kernel_rfl) (fun _ => rfl) (opensL_cons rfl (by kernel_rfl) (opens_string Try.underlying9) (opensL_cons rfl (by kernel_rfl) (opens_int Try.underlying3) (opensL_cons rfl (by kernel_rfl) op23 (opensL_one rfl (by kernel_rfl) (opens_int Try.underlying3))))) (fun _ _ => trivial)
set_option maxRecDepth 100000 in
theorem lifted (os : Os) (started : os.Started) (H : Type) (enc : TypeId × Value → H) :
    ReturnsInHanded {} Try.checked os 3 .any (Rows.trackerCountsSpec.pre6 enc Try.prog Try.f3 Rows.trackerCountsRow.domain false) (Rows.trackerCountsSpec.post enc Try.prog Try.f3 false true false false) := by
  refine returnsInHanded_of_change_sized (C := Try.checked) own started (by kernel_rfl) Try.func3
    (ChangeSpec.witness6 (enc := enc) (C := Try.checked) false ⟨#[], #[.agg #[.string ⟨#[]⟩, .int .i64 0, .int .i64 0, .int .i64 0, .int .i64 0], .agg #[.string ⟨#[]⟩, .int .i64 0, .int .i64 0, .int .i64 0, .int .i64 0], .int .i64 0], []⟩ 8 (by kernel_rfl) (by kernel_rfl) (by kernel_rfl) (by kernel_rfl)) ?_
  intro W base args ds gs before hval0 hW hcnd hsz0 _
  have hsz : (DataW.weightsEach Try.prog (Try.f3.params.toList ++ Rows.trackerCountsSpec.plain.varTypes Try.prog) (ds ++ gs)).all (· ≤ reachBytes) = true := hsz0
  have hval : ∀ (j : Nat) t v, Try.f3.params[j]? = some t → args[j]? = some v → Value.okWide Try.prog W .any base t v := hval0
  have hW' := hW
  obtain ⟨p, q, hA0, hV, rfl, hfz, hnd⟩ := hW
  have hA : DataW.TrodAll enc Try.prog W 0 (fun _ => true) true Try.f3.params.toList args.toList ds p := hA0
  rw [Try.params3] at hA hval hsz
  obtain ⟨v0, vs0, d0, ds0, p0, q0, hargs, rfl, rfl, h0, r0⟩ := trodAll_cons hA
  obtain ⟨v1, vs1, d1, ds1, p1, q1, rfl, rfl, rfl, h1, r1⟩ := trodAll_cons r0
  obtain ⟨v2, vs2, d2, ds2, p2, q2, rfl, rfl, rfl, h2, r2⟩ := trodAll_cons r1
  obtain ⟨rfl, rfl, rfl⟩ := trodAll_nil r2
  obtain rfl : args = #[v0, v1, v2] := by cases args; simp_all
  obtain ⟨rfl, rfl⟩ := trodVars_none hV
  have k0 := h0
  have lt0 : ∀ x ∈ p0, x.block < W.heap.size := by obtain ⟨m, hm⟩ := k0; exact DataW.trod_lt m _ _ _ hm
  obtain ⟨X0, cs0, rfl, hK0, w0⟩ := open_arg_struct Try.underlying25 op25 (hval 0 25 v0 rfl rfl) h0
  obtain ⟨CS0⟩ := cs0
  obtain rfl := k25_open (cs := CS0) hK0
  have k1 := h1
  have lt1 : ∀ x ∈ p1, x.block < W.heap.size := by obtain ⟨m, hm⟩ := k1; exact DataW.trod_lt m _ _ _ hm
  obtain ⟨X1, cs1, rfl, hK1, w1⟩ := open_arg_struct Try.underlying25 op25 (hval 1 25 v1 rfl rfl) h1
  obtain ⟨CS1⟩ := cs1
  obtain rfl := k25_open (cs := CS1) hK1
  obtain ⟨a2, rfl, rfl, rfl, w2⟩ := open_int Try.underlying3 (hval 2 3 v2 rfl rfl) h2
  clear hA0 hval0 hsz0 hsz
  refine (counts X0 X1 a2 W).mono fun e W' ⟨he, bel0⟩ => ?_
  have bel : Below W.heap.size W W' := bel0
  subst he
  exact ⟨_, rfl, _, _, _, [], _, [], hW', trodAll_mk1 (shut_bool Try.underlying4 _), (trodAll_cons_mk (Below.trod laidOut (by kernel_rfl) (of_decide_eq_true (by kernel_rfl)) k0 bel lt0) (trodAll_cons_mk (Below.trod laidOut (by kernel_rfl) (of_decide_eq_true (by kernel_rfl)) k1 bel lt1) (trodAll_cons_mk (shut_int Try.underlying3 w2) trodAll_mk0))), rfl, bel.frame _, fun h => by cases h⟩
theorem over : Rows.trackerCountsRow.holds Try.pinned (OpenSpec.ofChange Rows.trackerCountsSpec) :=
  OpenClaim.holds_of_wide 3 Try.f3 rfl rfl rfl rfl rfl rfl rfl ⟨rfl, rfl, rfl, rfl, rfl⟩ rfl rfl rfl rfl rfl (by kernel_rfl) Try.func3 (by kernel_rfl)
    (of_decide_eq_true (by kernel_rfl)) (by unfold Func.isWrapper; first | (rw [if_pos (by decide +kernel)]; kernel_rfl) | (rw [if_neg (by decide +kernel)]; exact ⟨rfl, rfl⟩))
    (fun os started H enc _ => lifted os started H enc)
theorem proved : Rows.TrackerCountsSaid := over
#print axioms proved
end Go.Proofs.Ytmimnlbkllgfpaa.trackerCounts
namespace Go.Proofs.Ytmimnlbkllgfpaa
/-- The row, under a short name, for the claim. -/
theorem trackerCounts_holds : Rows.TrackerCountsSaid := trackerCounts.proved
end Go.Proofs.Ytmimnlbkllgfpaa
