/- TrackerNear: whatever acts and whatever is asked, the law returns true and leaves its arguments as they were. No condition. -/
import Derived.Test.YtmimnlbkllgfpaaRows
import Derived.Test.YtmimnlbkllgfpaaNv
import Derived.Test.YtmimnlbkllgfpaaOp
import Derived.WalkKit
import Derived.ProofKit
import Derived.OpenShut
import Derived.ShutString
import Derived.ChangeOld
import Derived.Below
import Derived.SizedLaws
namespace Go.Proofs.Ytmimnlbkllgfpaa.trackerNear
open Go.ChangeShapes Go.WideShapes Go.ChangeAt Go.RowKit Go.Proofs.Ytmimnlbkllgfpaa.A Go.Proofs.Ytmimnlbkllgfpaa.Tb Go.Proofs.Ytmimnlbkllgfpaa.Op Go.Proofs.YtmimnlbkllgfpaaW.PrintWords
open Go.ChangeMaps (open_string shut_string)
theorem near (l : List S42) (A : Option Addr) (cp : Nat) (qn qt : ByteArray) (px py qk qw : Int) (w : World) (hC : Kd.C k42 w A l.length l) (hcp : l.length ≤ cp) :
    Calls Try.prog 5 #[.slice A l.length cp, .agg #[.string qn, .string qt, .int .i64 px, .int .i64 py, .int .i64 qk, .int .i64 qw]] w fun e w' => e = .returned (.bool true) ∧ Below w.heap.size w w' := by
  obtain ⟨r, hr, hF⟩ := few_spec l qn qt px py qk qw
  cases r with
  | false => exact near_out l A cp qn qt px py qk qw w hC hcp hr
  | true => exact near_in l A cp qn qt px py qk qw w hC hcp hr (hF rfl)
theorem own : ownKnob Try.prog.godebug = none := by kernel_rfl
theorem laidOut : laidOutB Try.prog = true := by kernel_rfl
theorem op23 : Opens Try.prog 23 k23 (fun _ => True) := opens_struct rfl (fun x => ⟨x.1, x.2⟩) Try.underlying23 (by kernel_rfl) (fun _ => rfl) (opensL_cons rfl (by kernel_rfl) (opens_int Try.underlying3) (opensL_one rfl (by kernel_rfl) (opens_int Try.underlying3))) (fun _ _ => trivial)
theorem op25 : Opens Try.prog 25 k25 (fun _ => True) := opens_struct rfl (fun x => ⟨x.1, x.2.1, x.2.2.1, x.2.2.2⟩) Try.underlying25 (by kernel_rfl) (fun _ => rfl) (opensL_cons rfl (by kernel_rfl) (opens_string Try.underlying9) (opensL_cons rfl (by kernel_rfl) (opens_int Try.underlying3) (opensL_cons rfl (by kernel_rfl) op23 (opensL_one rfl (by kernel_rfl) (opens_int Try.underlying3))))) (fun _ _ => trivial)
theorem op42 : Opens Try.prog 42 k42 (fun _ => True) := opens_struct rfl (fun x => ⟨x.1, x.2.1, x.2.2⟩) Try.underlying42 (by kernel_rfl) (fun _ => rfl) (opensL_cons rfl (by kernel_rfl) (opens_int Try.underlying3) (opensL_cons rfl (by kernel_rfl) (opens_int Try.underlying3) (opensL_one rfl (by kernel_rfl) op25))) (fun _ _ => trivial)
/-- What is asked: a name, a title, a place, a time and how many. -/
structure Q39 where
  f0 : ByteArray
  f1 : ByteArray
  f2 : S23
  f3 : Int
  f4 : Int
def k39 : Kd Q39 := Kd.iso (Kd.pair Kd.string (Kd.pair Kd.string (Kd.pair k23 (Kd.pair (Kd.int .i64) (Kd.int .i64))))) (fun x : Q39 => (x.f0, x.f1, x.f2, x.f3, x.f4))
theorem k39_open {w : World} {x : Q39} {cs : List Value} (h : k39.K w x cs) : cs = [.string x.f0, .string x.f1, .int .i64 x.f2.f0, .int .i64 x.f2.f1, .int .i64 x.f3, .int .i64 x.f4] := by
  obtain ⟨c0, r0, rfl, s0, h⟩ := h
  obtain ⟨c1, r1, rfl, s1, h⟩ := h
  obtain ⟨c2, r2, rfl, s2, h⟩ := h
  obtain ⟨c3, r3, rfl, s3, h⟩ := h
  obtain rfl := k23_open s2
  obtain rfl := s0
  obtain rfl := s1
  obtain rfl := s3
  obtain rfl := h
  rfl
theorem op39 : Opens Try.prog 39 k39 (fun _ => True) := opens_struct rfl (fun x => ⟨x.1, x.2.1, x.2.2.1, x.2.2.2.1, x.2.2.2.2⟩) Try.underlying39 (by kernel_rfl) (fun _ => rfl) (opensL_cons rfl (by kernel_rfl) (opens_string Try.underlying9) (opensL_cons rfl (by kernel_rfl) (opens_string Try.underlying9) (opensL_cons rfl (by kernel_rfl) op23 (opensL_cons rfl (by kernel_rfl) (opens_int Try.underlying3) (opensL_one rfl (by kernel_rfl) (opens_int Try.underlying3)))))) (fun _ _ => trivial)
set_option maxRecDepth 100000 in
theorem lifted (os : Os) (started : os.Started) (H : Type) (enc : TypeId × Value → H) :
    ReturnsInHanded {} Try.checked os 5 .any (Rows.trackerNearSpec.pre6 enc Try.prog Try.f5 Rows.trackerNearRow.domain false) (Rows.trackerNearSpec.post enc Try.prog Try.f5 false true false false) := by
  refine returnsInHanded_of_change_sized (C := Try.checked) own started (by kernel_rfl) Try.func5
    (ChangeSpec.witness6 (enc := enc) (C := Try.checked) false ⟨#[], #[.slice none 0 0, .agg #[.string ⟨#[]⟩, .string ⟨#[]⟩, .int .i64 0, .int .i64 0, .int .i64 0, .int .i64 0]], []⟩ 8 (by kernel_rfl) (by kernel_rfl) (by kernel_rfl) (by kernel_rfl)) ?_
  intro W base args ds gs before hval0 hW hcnd hsz0 _
  have hsz : (DataW.weightsEach Try.prog (Try.f5.params.toList ++ Rows.trackerNearSpec.plain.varTypes Try.prog) (ds ++ gs)).all (· ≤ reachBytes) = true := hsz0
  have hval : ∀ (j : Nat) t v, Try.f5.params[j]? = some t → args[j]? = some v → Value.okWide Try.prog W .any base t v := hval0
  have hW' := hW
  obtain ⟨p, q, hA0, hV, rfl, hfz, hnd⟩ := hW
  have hA : DataW.TrodAll enc Try.prog W 0 (fun _ => true) true Try.f5.params.toList args.toList ds p := hA0
  rw [Try.params5] at hA hval hsz
  obtain ⟨v0, vs0, d0, ds0, p0, q0, hargs, rfl, rfl, h0, r0⟩ := trodAll_cons hA
  obtain ⟨v1, vs1, d1, ds1, p1, q1, rfl, rfl, rfl, h1, r1⟩ := trodAll_cons r0
  obtain ⟨rfl, rfl, rfl⟩ := trodAll_nil r1
  obtain rfl : args = #[v0, v1] := by cases args; simp_all
  obtain ⟨rfl, rfl⟩ := trodVars_none hV
  have k0 := h0
  have lt0 : ∀ x ∈ p0, x.block < W.heap.size := by obtain ⟨m, hm⟩ := k0; exact DataW.trod_lt m _ _ _ hm
  obtain ⟨A1, l1, c1, rfl, hc1, hr1, hm1, w1⟩ := open_arg_slice Try.underlying37 (by kernel_rfl) op42 (hval 0 37 v0 rfl rfl) h0
  have k1 := h1
  have lt1 : ∀ x ∈ p1, x.block < W.heap.size := by obtain ⟨m, hm⟩ := k1; exact DataW.trod_lt m _ _ _ hm
  obtain ⟨X1, cs1, rfl, hK1, w2⟩ := open_arg_struct Try.underlying39 op39 (hval 1 39 v1 rfl rfl) h1
  obtain ⟨CS1⟩ := cs1
  obtain rfl := k39_open (cs := CS1) hK1
  clear hA0 hval0 hsz0 hsz
  refine (near l1 A1 c1 X1.f0 X1.f1 X1.f2.f0 X1.f2.f1 X1.f3 X1.f4 W hr1 hc1).mono fun e W' ⟨he, bel0⟩ => ?_
  have bel : Below W.heap.size W W' := bel0
  subst he
  exact ⟨_, rfl, _, _, _, [], _, [], hW', trodAll_mk1 (shut_bool Try.underlying4 _), (trodAll_cons_mk (Below.trod laidOut (by kernel_rfl) (of_decide_eq_true (by kernel_rfl)) k0 bel lt0) (trodAll_cons_mk (Below.trod laidOut (by kernel_rfl) (of_decide_eq_true (by kernel_rfl)) k1 bel lt1) trodAll_mk0)), rfl, bel.frame _, fun h => by cases h⟩
theorem over : Rows.trackerNearRow.holds Try.pinned (OpenSpec.ofChange Rows.trackerNearSpec) :=
  OpenClaim.holds_of_wide 5 Try.f5 rfl rfl rfl rfl rfl rfl rfl ⟨rfl, rfl, rfl, rfl, rfl⟩ rfl rfl rfl rfl rfl (by kernel_rfl) Try.func5 (by kernel_rfl)
    (of_decide_eq_true (by kernel_rfl)) (by unfold Func.isWrapper; first | (rw [if_pos (by decide +kernel)]; kernel_rfl) | (rw [if_neg (by decide +kernel)]; exact ⟨rfl, rfl⟩))
    (fun os started H enc _ => lifted os started H enc)
theorem proved : Rows.TrackerNearSaid := over
#print axioms proved
end Go.Proofs.Ytmimnlbkllgfpaa.trackerNear
namespace Go.Proofs.Ytmimnlbkllgfpaa
/-- The row, under a short name, for the claim. -/
theorem trackerNear_holds : Rows.TrackerNearSaid := trackerNear.proved
end Go.Proofs.Ytmimnlbkllgfpaa
