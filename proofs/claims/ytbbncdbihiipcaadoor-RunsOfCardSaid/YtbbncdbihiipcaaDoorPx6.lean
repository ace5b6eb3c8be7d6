-- Written for this claim by the session's own turn of the kit's print program (wip/tools/xprint.py).
import Derived.Test.YtbbncdbihiipcaaDoorPx0
import Derived.Test.YtbbncdbihiipcaaDoorPx2
import Derived.Test.YtbbncdbihiipcaaDoorPx3
import Derived.Test.YtbbncdbihiipcaaDoorPx4
import Derived.Test.YtbbncdbihiipcaaDoorPx5
namespace Go.Proofs.YtbbncdbihiipcaaDoor.P
open Go.RowKit Go.Proofs.YtbbncdbihiipcaaDoor.Sq Go.Proofs.YtbbncdbihiipcaaDoor.Hand Go.Proofs.YtbbncdbihiipcaaDoorW.PrintWords Go.Proofs.YtbbncdbihiipcaaDoorW.PrintLast Go.Proofs.YtbbncdbihiipcaaDoorW.PrintMore
attribute [local go_sem] max2_int min2_int max_two min_two max_three min_three max_four min_four   -- for this text's walks alone
set_option linter.unusedVariables false
set_option linter.unusedSimpArgs false

/-! ### mosaiclaw25_RunsOf: function 3 -/
def mosaiclaw25_RunsOf.j0 : Nat → Int → ByteArray → List (S39) → Bool → Option (Bool)
 | 0, _, _, _, _ => none
 | k + 1, x0, x1, x2, x26 => if x26 = true then ((mosaiclaw25_awake.f k).bind fun t182 => (some t182)) else ((runs_Of.f x0 x1).bind fun bt183 => ((mosaicref25_Of.f k x0 x1 true).bind fun bt187 => ((runs_Gaps.f x0 x1).bind fun bt191 => ((mosaicref25_Of.f k x0 x1 false).bind fun bt195 => ((runs_Set.f k x0 x2).bind fun bt199 => ((mosaiclaw25_refs.f k x2).bind fun t201 => ((mosaicref25_Set.f k x0 t201).bind fun bt204 => ((mosaiclaw25_awake.f k).bind fun t206 => (if t206 = true then ((mosaiclaw25_refs.f k bt183.1).bind fun t207 => ((mosaicref25_SameSpans.f k t207 bt187.1).bind fun t210 => (if t210 = true then (if bt183.2 = bt187.2 then ((mosaiclaw25_refs.f k bt191.1).bind fun t211 => ((mosaicref25_SameSpans.f k t211 bt195.1).bind fun t214 => (if t214 = true then (if bt191.2 = bt195.2 then (if bt199.1.toList = bt204.1.toList then (some (bt199.2 == bt204.2)) else (none)) else (none)) else (none)))) else (none)) else (none)))) else (none))))))))))
def mosaiclaw25_RunsOf.f (k : Nat) (a0 : Int) (a1 : ByteArray) (l2 : List (S39)) : Option (Bool) := if (a1.size : Int) > 30 then (mosaiclaw25_RunsOf.j0 k a0 a1 l2 true) else (mosaiclaw25_RunsOf.j0 k a0 a1 l2 (decide ((l2.length : Int) > 100)))
theorem mosaiclaw25_RunsOf.mono_l : ∀ k, (∀ y0 y1 y2 y3, LeO (mosaiclaw25_RunsOf.j0 k y0 y1 y2 y3) (mosaiclaw25_RunsOf.j0 (k + 1) y0 y1 y2 y3))
 | 0 => fun _ _ _ _ r h => by simp [mosaiclaw25_RunsOf.j0] at h
 | k + 1 => by
  have ih0 := mosaiclaw25_RunsOf.mono_l k
  ·
   intro y0 y1 y2 y3
   unfold mosaiclaw25_RunsOf.j0
   repeat' first
   | (with_reducible exact ih0 _ _ _ _)
   | (with_reducible exact mosaiclaw25_awake.mono _)
   | (with_reducible exact mosaiclaw25_refs.mono _ _)
   | (with_reducible exact mosaicref25_Of.mono _ _ _ _)
   | (with_reducible exact mosaicref25_SameSpans.mono _ _ _)
   | (with_reducible exact mosaicref25_Set.mono _ _ _)
   | (with_reducible exact runs_Set.mono _ _ _)
   | (with_reducible exact LeO.refl _)
   | (with_reducible exact LeO.none _)
   | (with_reducible refine LeO.ite ?_ ?_)
   | (with_reducible refine LeO.bind ?_ (fun _ => ?_))
   | exact ih0 _ _ _ _
   | exact mosaiclaw25_awake.mono _
   | exact mosaiclaw25_refs.mono _ _
   | exact mosaicref25_Of.mono _ _ _ _
   | exact mosaicref25_SameSpans.mono _ _ _
   | exact mosaicref25_Set.mono _ _ _
   | exact runs_Set.mono _ _ _
   | exact LeO.none _
   | refine LeO.ite ?_ ?_
   | refine LeO.bind ?_ (fun _ => ?_)
theorem mosaiclaw25_RunsOf.mono : ∀ a0 a1 a2 k, LeO (mosaiclaw25_RunsOf.f k a0 a1 a2) (mosaiclaw25_RunsOf.f (k + 1) a0 a1 a2) := by
 intro a0 a1 a2 k
 have ih0 := mosaiclaw25_RunsOf.mono_l k
 unfold mosaiclaw25_RunsOf.f
 repeat' first
   | (with_reducible exact ih0 _ _ _ _)
   | (with_reducible exact mosaiclaw25_awake.mono _)
   | (with_reducible exact mosaiclaw25_refs.mono _ _)
   | (with_reducible exact mosaicref25_Of.mono _ _ _ _)
   | (with_reducible exact mosaicref25_SameSpans.mono _ _ _)
   | (with_reducible exact mosaicref25_Set.mono _ _ _)
   | (with_reducible exact runs_Set.mono _ _ _)
   | (with_reducible exact LeO.refl _)
   | (with_reducible exact LeO.none _)
   | (with_reducible refine LeO.ite ?_ ?_)
   | (with_reducible refine LeO.bind ?_ (fun _ => ?_))
   | exact ih0 _ _ _ _
   | exact mosaiclaw25_awake.mono _
   | exact mosaiclaw25_refs.mono _ _
   | exact mosaicref25_Of.mono _ _ _ _
   | exact mosaicref25_SameSpans.mono _ _ _
   | exact mosaicref25_Set.mono _ _ _
   | exact runs_Set.mono _ _ _
   | exact LeO.none _
   | refine LeO.ite ?_ ?_
   | refine LeO.bind ?_ (fun _ => ?_)
set_option maxHeartbeats 8000000 in
set_option maxRecDepth 100000 in
theorem mosaiclaw25_RunsOf.calls (k : Nat) (a0 : Int) (a1 : ByteArray) (A2 : Option Addr) (c2 : Nat) (l2 : List (S39)) (r : Bool) (w : World) (hr2 : Kd.C k39 w A2 l2.length l2) (hc2 : l2.length ≤ c2) (h : mosaiclaw25_RunsOf.f k a0 a1 l2 = some r) (hTab : TabW w) :
  Calls Tryd.prog 3 #[.int .i64 a0, .string a1, .slice A2 l2.length c2] w fun e w' => e = .returned (.bool r) ∧ Below w.heap.size w w' := by
 have HR2 := Aside0.mk hr2
 have HC2 := Aside0.mk hc2
 clear hr2 hc2
 have HB := Aside0.mk (Below.refl w.heap.size w)
 have H : (if (a1.size : Int) > 30 then (mosaiclaw25_RunsOf.j0 k a0 a1 l2 true) else (mosaiclaw25_RunsOf.j0 k a0 a1 l2 (decide ((l2.length : Int) > 100)))) = some r := h
 clear h
 have HC4 := Aside0.mk H
 clear H
 go_enter Tryd.func3, Tryd.ntmps3
 go_upto_region 1 with (fail)
 go_cut [26] (fun v26 wc => ∃ (kq : Nat) (x26_3 : Bool), v26 = .bool x26_3 ∧ Aside0 (mosaiclaw25_RunsOf.j0 kq a0 a1 l2 x26_3 = some r) ∧ Aside0 (kq ≤ k) ∧ Aside0 (Below w.heap.size w wc))
 case first =>
  have H := HC4.out
  clear HC4
  by_cases c5 : (a1.size : Int) > 30
  ·
   rw [if_pos c5] at H
   have c5b0 : decide (30 < (a1.size : Int)) = true := decide_eq_true c5
   have c5b1 : decide (30 < a1.size) = true := decide_eq_true (by omega)
   clear c5
   (first | rw [c5b0] | (simp only [i64_w, i32_w, IntKind.wrap_u8]; rw [c5b0]) | skip)
   have H' := Aside0.mk H
   clear H
   go_wp2
   go_meet
   case rel => exact ⟨_, (true), (by first | rfl | (simp; done) | (simp [*]; done)), H', ⟨by first | omega | exact Nat.le_refl _⟩, ⟨by repeat (first | (with_reducible first | exact HB.out | apply below_alloc | apply pw_below_drewN | apply below_drew1) | exact HB.out)⟩⟩
  ·
   rw [if_neg c5] at H
   have c5b0 : decide (30 < (a1.size : Int)) = false := decide_eq_false c5
   have c5b1 : decide (30 < a1.size) = false := decide_eq_false (by omega)
   clear c5
   (first | rw [c5b0] | (simp only [i64_w, i32_w, IntKind.wrap_u8]; rw [c5b0]) | skip)
   have H' := Aside0.mk H
   clear H
   go_wp2
   go_meet
   case rel => exact ⟨_, (decide ((l2.length : Int) > 100)), (by first | rfl | (simp; done) | (simp [*]; done)), H', ⟨by first | omega | exact Nat.le_refl _⟩, ⟨by repeat (first | (with_reducible first | exact HB.out | apply below_alloc | apply pw_below_drewN | apply below_drew1) | exact HB.out)⟩⟩
 case rest =>
  clear HC4
  try clear c2
  try clear p2
  try clear c3
  try clear c5
  try clear c5b0
  try clear c5b1
  obtain ⟨kq, x26_3, rfl, HA, HJ3, HB⟩ := hcut
  cases kq with
  | zero => exact absurd HA.out (by simp [mosaiclaw25_RunsOf.j0])
  | succ kj3 =>
   have H := HA.out
   clear HA
   simp only [mosaiclaw25_RunsOf.j0] at H
   by_cases c6 : x26_3 = true
   ·
    subst c6
    have H1 : ((mosaiclaw25_awake.f kj3).bind fun t182 => (some t182)) = some r := by rw [if_pos rfl] at H; exact H
    clear H
    have H := H1
    clear H1
    replace H := Option.bind_eq_some_iff.mp H
    obtain ⟨t182, A70, H⟩ := H
    replace H : (some t182) = some r := H
    have A7 := Aside0.mk A70
    clear A70
    obtain rfl := Option.some.inj H
    go_wp2_with (first | ((with_reducible refine gate_callee (f := 10) rfl ?_); refine goesL_ (some 27) rfl rfl Tryd.func10 (by kernel_rfl) rfl #[] rfl (by (try simp only [List.map_toArray, List.map_cons, List.map_nil]); first | done | rfl | (simp only [List.length_drop, List.length_take]; rfl)) ?_; (with_reducible refine (mosaiclaw25_awake.calls kj3  t182 _ A7.out (TabW.below hTab (by repeat (first | (with_reducible first | exact HB.out | apply below_alloc | apply pw_below_drewN | apply below_drew1) | exact HB.out)))).mono ?_); rintro e w8 ⟨rfl, hb⟩; refine ⟨_, rfl, ?_⟩; have n0_ := Aside0.mk (below_step (by repeat (first | (with_reducible first | exact HB.out | apply below_alloc | apply pw_below_drewN | apply below_drew1) | exact HB.out)) hb); clear HB; have HB := n0_; clear n0_; (try clear hb); (try clear hb2); (try clear hk); (try clear hi)))
    go_ret
    exact ⟨by first | rfl | (simp [errW_none, errW_some] <;> rfl) | (simp [*, errW_none, errW_some] <;> rfl), by repeat (first | (with_reducible first | exact HB.out | apply below_alloc | apply pw_below_drewN | apply below_drew1) | exact HB.out)⟩
   ·
    replace c6 := Bool.eq_false_iff.mpr c6
    subst c6
    have H1 : ((runs_Of.f a0 a1).bind fun bt183 => ((mosaicref25_Of.f kj3 a0 a1 true).bind fun bt187 => ((runs_Gaps.f a0 a1).bind fun bt191 => ((mosaicref25_Of.f kj3 a0 a1 false).bind fun bt195 => ((runs_Set.f kj3 a0 l2).bind fun bt199 => ((mosaiclaw25_refs.f kj3 l2).bind fun t201 => ((mosaicref25_Set.f kj3 a0 t201).bind fun bt204 => ((mosaiclaw25_awake.f kj3).bind fun t206 => (if t206 = true then ((mosaiclaw25_refs.f kj3 bt183.1).bind fun t207 => ((mosaicref25_SameSpans.f kj3 t207 bt187.1).bind fun t210 => (if t210 = true then (if bt183.2 = bt187.2 then ((mosaiclaw25_refs.f kj3 bt191.1).bind fun t211 => ((mosaicref25_SameSpans.f kj3 t211 bt195.1).bind fun t214 => (if t214 = true then (if bt191.2 = bt195.2 then (if bt199.1.toList = bt204.1.toList then (some (bt199.2 == bt204.2)) else (none)) else (none)) else (none)))) else (none)) else (none)))) else (none)))))))))) = some r := by rw [if_neg (show ¬ (false = true) by decide)] at H; exact H
    clear H
    have H := H1
    clear H1
    replace H := Option.bind_eq_some_iff.mp H
    obtain ⟨⟨t183, t184⟩, A90, H⟩ := H
    replace H : ((mosaicref25_Of.f kj3 a0 a1 true).bind fun bt187 => ((runs_Gaps.f a0 a1).bind fun bt191 => ((mosaicref25_Of.f kj3 a0 a1 false).bind fun bt195 => ((runs_Set.f kj3 a0 l2).bind fun bt199 => ((mosaiclaw25_refs.f kj3 l2).bind fun t201 => ((mosaicref25_Set.f kj3 a0 t201).bind fun bt204 => ((mosaiclaw25_awake.f kj3).bind fun t206 => (if t206 = true then ((mosaiclaw25_refs.f kj3 t183).bind fun t207 => ((mosaicref25_SameSpans.f kj3 t207 bt187.1).bind fun t210 => (if t210 = true then (if t184 = bt187.2 then ((mosaiclaw25_refs.f kj3 bt191.1).bind fun t211 => ((mosaicref25_SameSpans.f kj3 t211 bt195.1).bind fun t214 => (if t214 = true then (if bt191.2 = bt195.2 then (if bt199.1.toList = bt204.1.toList then (some (bt199.2 == bt204.2)) else (none)) else (none)) else (none)))) else (none)) else (none)))) else (none))))))))) = some r := H
    have A9 := Aside0.mk A90
    clear A90
    replace H := Option.bind_eq_some_iff.mp H
    obtain ⟨⟨t187, t188⟩, A100, H⟩ := H
    replace H : ((runs_Gaps.f a0 a1).bind fun bt191 => ((mosaicref25_Of.f kj3 a0 a1 false).bind fun bt195 => ((runs_Set.f kj3 a0 l2).bind fun bt199 => ((mosaiclaw25_refs.f kj3 l2).bind fun t201 => ((mosaicref25_Set.f kj3 a0 t201).bind fun bt204 => ((mosaiclaw25_awake.f kj3).bind fun t206 => (if t206 = true then ((mosaiclaw25_refs.f kj3 t183).bind fun t207 => ((mosaicref25_SameSpans.f kj3 t207 t187).bind fun t210 => (if t210 = true then (if t184 = t188 then ((mosaiclaw25_refs.f kj3 bt191.1).bind fun t211 => ((mosaicref25_SameSpans.f kj3 t211 bt195.1).bind fun t214 => (if t214 = true then (if bt191.2 = bt195.2 then (if bt199.1.toList = bt204.1.toList then (some (bt199.2 == bt204.2)) else (none)) else (none)) else (none)))) else (none)) else (none)))) else (none)))))))) = some r := H
    have A10 := Aside0.mk A100
    clear A100
    replace H := Option.bind_eq_some_iff.mp H
    obtain ⟨⟨t191, t192⟩, A110, H⟩ := H
    replace H : ((mosaicref25_Of.f kj3 a0 a1 false).bind fun bt195 => ((runs_Set.f kj3 a0 l2).bind fun bt199 => ((mosaiclaw25_refs.f kj3 l2).bind fun t201 => ((mosaicref25_Set.f kj3 a0 t201).bind fun bt204 => ((mosaiclaw25_awake.f kj3).bind fun t206 => (if t206 = true then ((mosaiclaw25_refs.f kj3 t183).bind fun t207 => ((mosaicref25_SameSpans.f kj3 t207 t187).bind fun t210 => (if t210 = true then (if t184 = t188 then ((mosaiclaw25_refs.f kj3 t191).bind fun t211 => ((mosaicref25_SameSpans.f kj3 t211 bt195.1).bind fun t214 => (if t214 = true then (if t192 = bt195.2 then (if bt199.1.toList = bt204.1.toList then (some (bt199.2 == bt204.2)) else (none)) else (none)) else (none)))) else (none)) else (none)))) else (none))))))) = some r := H
    have A11 := Aside0.mk A110
    clear A110
    replace H := Option.bind_eq_some_iff.mp H
    obtain ⟨⟨t195, t196⟩, A120, H⟩ := H
    replace H : ((runs_Set.f kj3 a0 l2).bind fun bt199 => ((mosaiclaw25_refs.f kj3 l2).bind fun t201 => ((mosaicref25_Set.f kj3 a0 t201).bind fun bt204 => ((mosaiclaw25_awake.f kj3).bind fun t206 => (if t206 = true then ((mosaiclaw25_refs.f kj3 t183).bind fun t207 => ((mosaicref25_SameSpans.f kj3 t207 t187).bind fun t210 => (if t210 = true then (if t184 = t188 then ((mosaiclaw25_refs.f kj3 t191).bind fun t211 => ((mosaicref25_SameSpans.f kj3 t211 t195).bind fun t214 => (if t214 = true then (if t192 = t196 then (if bt199.1.toList = bt204.1.toList then (some (bt199.2 == bt204.2)) else (none)) else (none)) else (none)))) else (none)) else (none)))) else (none)))))) = some r := H
    have A12 := Aside0.mk A120
    clear A120
    replace H := Option.bind_eq_some_iff.mp H
    obtain ⟨⟨t199, t200⟩, A130, H⟩ := H
    replace H : ((mosaiclaw25_refs.f kj3 l2).bind fun t201 => ((mosaicref25_Set.f kj3 a0 t201).bind fun bt204 => ((mosaiclaw25_awake.f kj3).bind fun t206 => (if t206 = true then ((mosaiclaw25_refs.f kj3 t183).bind fun t207 => ((mosaicref25_SameSpans.f kj3 t207 t187).bind fun t210 => (if t210 = true then (if t184 = t188 then ((mosaiclaw25_refs.f kj3 t191).bind fun t211 => ((mosaicref25_SameSpans.f kj3 t211 t195).bind fun t214 => (if t214 = true then (if t192 = t196 then (if t199.toList = bt204.1.toList then (some (t200 == bt204.2)) else (none)) else (none)) else (none)))) else (none)) else (none)))) else (none))))) = some r := H
    have A13 := Aside0.mk A130
    clear A130
    replace H := Option.bind_eq_some_iff.mp H
    obtain ⟨t201, A140, H⟩ := H
    replace H : ((mosaicref25_Set.f kj3 a0 t201).bind fun bt204 => ((mosaiclaw25_awake.f kj3).bind fun t206 => (if t206 = true then ((mosaiclaw25_refs.f kj3 t183).bind fun t207 => ((mosaicref25_SameSpans.f kj3 t207 t187).bind fun t210 => (if t210 = true then (if t184 = t188 then ((mosaiclaw25_refs.f kj3 t191).bind fun t211 => ((mosaicref25_SameSpans.f kj3 t211 t195).bind fun t214 => (if t214 = true then (if t192 = t196 then (if t199.toList = bt204.1.toList then (some (t200 == bt204.2)) else (none)) else (none)) else (none)))) else (none)) else (none)))) else (none)))) = some r := H
    have A14 := Aside0.mk A140
    clear A140
    replace H := Option.bind_eq_some_iff.mp H
    obtain ⟨⟨t204, t205⟩, A150, H⟩ := H
    replace H : ((mosaiclaw25_awake.f kj3).bind fun t206 => (if t206 = true then ((mosaiclaw25_refs.f kj3 t183).bind fun t207 => ((mosaicref25_SameSpans.f kj3 t207 t187).bind fun t210 => (if t210 = true then (if t184 = t188 then ((mosaiclaw25_refs.f kj3 t191).bind fun t211 => ((mosaicref25_SameSpans.f kj3 t211 t195).bind fun t214 => (if t214 = true then (if t192 = t196 then (if t199.toList = t204.toList then (some (t200 == t205)) else (none)) else (none)) else (none)))) else (none)) else (none)))) else (none))) = some r := H
    have A15 := Aside0.mk A150
    clear A150
    replace H := Option.bind_eq_some_iff.mp H
    obtain ⟨t206, A160, H⟩ := H
    replace H : (if t206 = true then ((mosaiclaw25_refs.f kj3 t183).bind fun t207 => ((mosaicref25_SameSpans.f kj3 t207 t187).bind fun t210 => (if t210 = true then (if t184 = t188 then ((mosaiclaw25_refs.f kj3 t191).bind fun t211 => ((mosaicref25_SameSpans.f kj3 t211 t195).bind fun t214 => (if t214 = true then (if t192 = t196 then (if t199.toList = t204.toList then (some (t200 == t205)) else (none)) else (none)) else (none)))) else (none)) else (none)))) else (none)) = some r := H
    have A16 := Aside0.mk A160
    clear A160
    by_cases c17 : t206 = true
    ·
     subst c17
     have H1 : ((mosaiclaw25_refs.f kj3 t183).bind fun t207 => ((mosaicref25_SameSpans.f kj3 t207 t187).bind fun t210 => (if t210 = true then (if t184 = t188 then ((mosaiclaw25_refs.f kj3 t191).bind fun t211 => ((mosaicref25_SameSpans.f kj3 t211 t195).bind fun t214 => (if t214 = true then (if t192 = t196 then (if t199.toList = t204.toList then (some (t200 == t205)) else (none)) else (none)) else (none)))) else (none)) else (none)))) = some r := by rw [if_pos rfl] at H; exact H
     clear H
     have H := H1
     clear H1
     replace H := Option.bind_eq_some_iff.mp H
     obtain ⟨t207, A180, H⟩ := H
     replace H : ((mosaicref25_SameSpans.f kj3 t207 t187).bind fun t210 => (if t210 = true then (if t184 = t188 then ((mosaiclaw25_refs.f kj3 t191).bind fun t211 => ((mosaicref25_SameSpans.f kj3 t211 t195).bind fun t214 => (if t214 = true then (if t192 = t196 then (if t199.toList = t204.toList then (some (t200 == t205)) else (none)) else (none)) else (none)))) else (none)) else (none))) = some r := H
     have A18 := Aside0.mk A180
     clear A180
     replace H := Option.bind_eq_some_iff.mp H
     obtain ⟨t210, A190, H⟩ := H
     replace H : (if t210 = true then (if t184 = t188 then ((mosaiclaw25_refs.f kj3 t191).bind fun t211 => ((mosaicref25_SameSpans.f kj3 t211 t195).bind fun t214 => (if t214 = true then (if t192 = t196 then (if t199.toList = t204.toList then (some (t200 == t205)) else (none)) else (none)) else (none)))) else (none)) else (none)) = some r := H
     have A19 := Aside0.mk A190
     clear A190
     by_cases c20 : t210 = true
     ·
      subst c20
      have H1 : (if t184 = t188 then ((mosaiclaw25_refs.f kj3 t191).bind fun t211 => ((mosaicref25_SameSpans.f kj3 t211 t195).bind fun t214 => (if t214 = true then (if t192 = t196 then (if t199.toList = t204.toList then (some (t200 == t205)) else (none)) else (none)) else (none)))) else (none)) = some r := by rw [if_pos rfl] at H; exact H
      clear H
      have H := H1
      clear H1
      by_cases c21 : t184 = t188
      ·
       rw [if_pos c21] at H
       have c21b0 : (t184 == t188) = true := beq_iff_eq.mpr c21
       have c21b1 : (t184 != t188) = false := bne_eq_false_iff_eq.mpr c21
       clear c21
       replace H := Option.bind_eq_some_iff.mp H
       obtain ⟨t211, A220, H⟩ := H
       replace H : ((mosaicref25_SameSpans.f kj3 t211 t195).bind fun t214 => (if t214 = true then (if t192 = t196 then (if t199.toList = t204.toList then (some (t200 == t205)) else (none)) else (none)) else (none))) = some r := H
       have A22 := Aside0.mk A220
       clear A220
       replace H := Option.bind_eq_some_iff.mp H
       obtain ⟨t214, A230, H⟩ := H
       replace H : (if t214 = true then (if t192 = t196 then (if t199.toList = t204.toList then (some (t200 == t205)) else (none)) else (none)) else (none)) = some r := H
       have A23 := Aside0.mk A230
       clear A230
       by_cases c24 : t214 = true
       ·
        subst c24
        have H1 : (if t192 = t196 then (if t199.toList = t204.toList then (some (t200 == t205)) else (none)) else (none)) = some r := by rw [if_pos rfl] at H; exact H
        clear H
        have H := H1
        clear H1
        by_cases c25 : t192 = t196
        ·
         rw [if_pos c25] at H
         have c25b0 : (t192 == t196) = true := beq_iff_eq.mpr c25
         have c25b1 : (t192 != t196) = false := bne_eq_false_iff_eq.mpr c25
         clear c25
         by_cases c26 : t199.toList = t204.toList
         ·
          rw [if_pos c26] at H
          have c26b0 : (t199.toList == t204.toList) = true := beq_iff_eq.mpr c26
          have c26b1 : (t199.toList != t204.toList) = false := bne_eq_false_iff_eq.mpr c26
          clear c26
          obtain rfl := Option.some.inj H
          go_wp2_with (first | ((with_reducible refine gate_callee (f := 11) rfl ?_); refine goesL_ (some 31) rfl rfl Tryd.func11 (by kernel_rfl) rfl #[.int .i64 a0, .string a1] rfl (by (try simp only [List.map_toArray, List.map_cons, List.map_nil]); first | done | rfl | (simp only [List.length_drop, List.length_take]; rfl)) ?_; (with_reducible refine (runs_Of.calls a0 a1 t183 t184 _ A9.out).mono ?_); rintro e w27 ⟨v185, rfl, ho0, hb⟩; refine ⟨_, rfl, ?_⟩; have n0_ := Aside0.mk (Kd.R_lower ho0 (below_size (by repeat (first | (with_reducible first | exact HB.out | apply below_alloc | apply pw_below_drewN | apply below_drew1) | exact HB.out)))); have n1_ := Aside0.mk (below_step (by repeat (first | (with_reducible first | exact HB.out | apply below_alloc | apply pw_below_drewN | apply below_drew1) | exact HB.out)) hb); clear HB; have HO186 := n0_; have HB := n1_; clear n0_ n1_; (try clear hb); (try clear hb2); (try clear hk); (try clear hi); (try clear ho0)) | ((with_reducible refine gate_callee (f := 12) rfl ?_); refine goesL_ (some 37) rfl rfl Tryd.func12 (by kernel_rfl) rfl #[.int .i64 a0, .string a1, .bool true] rfl (by (try simp only [List.map_toArray, List.map_cons, List.map_nil]); first | done | rfl | (simp only [List.length_drop, List.length_take]; rfl)) ?_; (with_reducible refine (mosaicref25_Of.calls kj3 a0 a1 true t187 t188 _ A10.out).mono ?_); rintro e w28 ⟨v189, rfl, ho0, hb⟩; refine ⟨_, rfl, ?_⟩; have n0_ := Aside0.mk (Kd.R_below (by (with_reducible repeat (first | apply Kd.R_alloc | apply Kd.R_drewN | apply Kd.R_drew)); exact HO186.out) hb); have n1_ := Aside0.mk (Kd.R_lower ho0 (below_size (by repeat (first | (with_reducible first | exact HB.out | apply below_alloc | apply pw_below_drewN | apply below_drew1) | exact HB.out)))); have n2_ := Aside0.mk (below_step (by repeat (first | (with_reducible first | exact HB.out | apply below_alloc | apply pw_below_drewN | apply below_drew1) | exact HB.out)) hb); clear HO186; clear HB; have HO186 := n0_; have HO190 := n1_; have HB := n2_; clear n0_ n1_ n2_; (try clear hb); (try clear hb2); (try clear hk); (try clear hi); (try clear ho0)) | ((with_reducible refine gate_callee (f := 13) rfl ?_); refine goesL_ (some 43) rfl rfl Tryd.func13 (by kernel_rfl) rfl #[.int .i64 a0, .string a1] rfl (by (try simp only [List.map_toArray, List.map_cons, List.map_nil]); first | done | rfl | (simp only [List.length_drop, List.length_take]; rfl)) ?_; (with_reducible refine (runs_Gaps.calls a0 a1 t191 t192 _ A11.out).mono ?_); rintro e w29 ⟨v193, rfl, ho0, hb⟩; refine ⟨_, rfl, ?_⟩; have n0_ := Aside0.mk (Kd.R_elder' (by (with_reducible repeat (first | apply Kd.R_alloc | apply Kd.R_drewN | apply Kd.R_drew)); exact HO186.out) (Kd.R_base ho0) hb); have n1_ := Aside0.mk (Kd.R_below (by (with_reducible repeat (first | apply Kd.R_alloc | apply Kd.R_drewN | apply Kd.R_drew)); exact HO190.out) hb); have n2_ := Aside0.mk (Kd.R_lower (Kd.R_new' ho0 (Kd.R_lt (by (with_reducible repeat (first | apply Kd.R_alloc | apply Kd.R_drewN | apply Kd.R_drew)); exact HO186.out))) (below_size (by repeat (first | (with_reducible first | exact HB.out | apply below_alloc | apply pw_below_drewN | apply below_drew1) | exact HB.out)))); have n3_ := Aside0.mk (below_step (by repeat (first | (with_reducible first | exact HB.out | apply below_alloc | apply pw_below_drewN | apply below_drew1) | exact HB.out)) hb); clear HO186; clear HO190; clear HB; have HO186 := n0_; have HO190 := n1_; have HO194 := n2_; have HB := n3_; clear n0_ n1_ n2_ n3_; (try clear hb); (try clear hb2); (try clear hk); (try clear hi); (try clear ho0)) | ((with_reducible refine gate_callee (f := 12) rfl ?_); refine goesL_ (some 49) rfl rfl Tryd.func12 (by kernel_rfl) rfl #[.int .i64 a0, .string a1, .bool false] rfl (by (try simp only [List.map_toArray, List.map_cons, List.map_nil]); first | done | rfl | (simp only [List.length_drop, List.length_take]; rfl)) ?_; (with_reducible refine (mosaicref25_Of.calls kj3 a0 a1 false t195 t196 _ A12.out).mono ?_); rintro e w30 ⟨v197, rfl, ho0, hb⟩; refine ⟨_, rfl, ?_⟩; have n0_ := Aside0.mk (Kd.R_below (by (with_reducible repeat (first | apply Kd.R_alloc | apply Kd.R_drewN | apply Kd.R_drew)); exact HO186.out) hb); have n1_ := Aside0.mk (Kd.R_elder' (by (with_reducible repeat (first | apply Kd.R_alloc | apply Kd.R_drewN | apply Kd.R_drew)); exact HO190.out) (Kd.R_base ho0) hb); have n2_ := Aside0.mk (Kd.R_below (by (with_reducible repeat (first | apply Kd.R_alloc | apply Kd.R_drewN | apply Kd.R_drew)); exact HO194.out) hb); have n3_ := Aside0.mk (Kd.R_lower (Kd.R_new' ho0 (Kd.R_lt (by (with_reducible repeat (first | apply Kd.R_alloc | apply Kd.R_drewN | apply Kd.R_drew)); exact HO190.out))) (below_size (by repeat (first | (with_reducible first | exact HB.out | apply below_alloc | apply pw_below_drewN | apply below_drew1) | exact HB.out)))); have n4_ := Aside0.mk (below_step (by repeat (first | (with_reducible first | exact HB.out | apply below_alloc | apply pw_below_drewN | apply below_drew1) | exact HB.out)) hb); clear HO186; clear HO190; clear HO194; clear HB; have HO186 := n0_; have HO190 := n1_; have HO194 := n2_; have HO198 := n3_; have HB := n4_; clear n0_ n1_ n2_ n3_ n4_; (try clear hb); (try clear hb2); (try clear hk); (try clear hi); (try clear ho0)) | ((with_reducible refine gate_callee (f := 14) rfl ?_); refine goesL_ (some 55) rfl rfl Tryd.func14 (by kernel_rfl) rfl #[.int .i64 a0, .slice A2 l2.length c2] rfl (by (try simp only [List.map_toArray, List.map_cons, List.map_nil]); first | done | rfl | (simp only [List.length_drop, List.length_take]; rfl)) ?_; (with_reducible refine (runs_Set.calls kj3 a0 _ _ l2 t199 t200 _ ?side1 ?side2 A13.out).mono ?_); (case side1 => repeat (first | exact (Kd.C_below HR2.out HB.out) | (with_reducible refine Kd.C_alloc ?_ _) | (with_reducible refine Kd.C_drewN ?_ _) | (with_reducible refine Kd.C_drew ?_))); (case side2 => exact HC2.out); rintro e w31 ⟨rfl, hb⟩; refine ⟨_, rfl, ?_⟩; have n0_ := Aside0.mk (Kd.R_below (by (with_reducible repeat (first | apply Kd.R_alloc | apply Kd.R_drewN | apply Kd.R_drew)); exact HO186.out) hb); have n1_ := Aside0.mk (Kd.R_below (by (with_reducible repeat (first | apply Kd.R_alloc | apply Kd.R_drewN | apply Kd.R_drew)); exact HO190.out) hb); have n2_ := Aside0.mk (Kd.R_below (by (with_reducible repeat (first | apply Kd.R_alloc | apply Kd.R_drewN | apply Kd.R_drew)); exact HO194.out) hb); have n3_ := Aside0.mk (Kd.R_below (by (with_reducible repeat (first | apply Kd.R_alloc | apply Kd.R_drewN | apply Kd.R_drew)); exact HO198.out) hb); have n4_ := Aside0.mk (below_step (by repeat (first | (with_reducible first | exact HB.out | apply below_alloc | apply pw_below_drewN | apply below_drew1) | exact HB.out)) hb); clear HO186; clear HO190; clear HO194; clear HO198; clear HB; have HO186 := n0_; have HO190 := n1_; have HO194 := n2_; have HO198 := n3_; have HB := n4_; clear n0_ n1_ n2_ n3_ n4_; (try clear hb); (try clear hb2); (try clear hk); (try clear hi)) | ((with_reducible refine gate_callee (f := 16) rfl ?_); refine goesL_ (some 61) rfl rfl Tryd.func16 (by kernel_rfl) rfl #[.slice A2 l2.length c2] rfl (by (try simp only [List.map_toArray, List.map_cons, List.map_nil]); first | done | rfl | (simp only [List.length_drop, List.length_take]; rfl)) ?_; (with_reducible refine (mosaiclaw25_refs.calls kj3 _ _ l2 t201 _ ?side1 ?side2 A14.out).mono ?_); (case side1 => repeat (first | exact (Kd.C_below HR2.out HB.out) | (with_reducible refine Kd.C_alloc ?_ _) | (with_reducible refine Kd.C_drewN ?_ _) | (with_reducible refine Kd.C_drew ?_))); (case side2 => exact HC2.out); rintro e w32 ⟨v202, rfl, ho0, hb⟩; refine ⟨_, rfl, ?_⟩; have n0_ := Aside0.mk (Kd.R_below (by (with_reducible repeat (first | apply Kd.R_alloc | apply Kd.R_drewN | apply Kd.R_drew)); exact HO186.out) hb); have n1_ := Aside0.mk (Kd.R_elder' (by (with_reducible repeat (first | apply Kd.R_alloc | apply Kd.R_drewN | apply Kd.R_drew)); exact HO190.out) (Kd.R_base ho0) hb); have n2_ := Aside0.mk (Kd.R_below (by (with_reducible repeat (first | apply Kd.R_alloc | apply Kd.R_drewN | apply Kd.R_drew)); exact HO194.out) hb); have n3_ := Aside0.mk (Kd.R_elder' (by (with_reducible repeat (first | apply Kd.R_alloc | apply Kd.R_drewN | apply Kd.R_drew)); exact HO198.out) (Kd.R_base ho0) hb); have n4_ := Aside0.mk (Kd.R_lower (Kd.R_new' (Kd.R_new' ho0 (Kd.R_lt (by (with_reducible repeat (first | apply Kd.R_alloc | apply Kd.R_drewN | apply Kd.R_drew)); exact HO190.out))) (Kd.R_lt (by (with_reducible repeat (first | apply Kd.R_alloc | apply Kd.R_drewN | apply Kd.R_drew)); exact HO198.out))) (below_size (by repeat (first | (with_reducible first | exact HB.out | apply below_alloc | apply pw_below_drewN | apply below_drew1) | exact HB.out)))); have n5_ := Aside0.mk (below_step (by repeat (first | (with_reducible first | exact HB.out | apply below_alloc | apply pw_below_drewN | apply below_drew1) | exact HB.out)) hb); clear HO186; clear HO190; clear HO194; clear HO198; clear HB; have HO186 := n0_; have HO190 := n1_; have HO194 := n2_; have HO198 := n3_; have HO203 := n4_; have HB := n5_; clear n0_ n1_ n2_ n3_ n4_ n5_; (try clear hb); (try clear hb2); (try clear hk); (try clear hi); (try clear ho0); obtain ⟨Ao33, co33, eo33⟩ := Kd.R_slice HO203.out; subst eo33) | ((with_reducible refine gate_callee (f := 15) rfl ?_); refine goesL_ (some 62) rfl rfl Tryd.func15 (by kernel_rfl) rfl #[.int .i64 a0, .slice Ao33 t201.length co33] rfl (by (try simp only [List.map_toArray, List.map_cons, List.map_nil]); first | done | rfl | (simp only [List.length_drop, List.length_take]; rfl)) ?_; (with_reducible refine (mosaicref25_Set.calls kj3 a0 _ _ t201 t204 t205 _ ?side1 ?side2 A15.out).mono ?_); (case side1 => repeat (first | exact (Kd.R_reads' HO203.out).2.2 | (with_reducible refine Kd.C_alloc ?_ _) | (with_reducible refine Kd.C_drewN ?_ _) | (with_reducible refine Kd.C_drew ?_))); (case side2 => exact (Kd.R_reads' HO203.out).2.1); rintro e w34 ⟨rfl, hb⟩; refine ⟨_, rfl, ?_⟩; have n0_ := Aside0.mk (Kd.R_below (by (with_reducible repeat (first | apply Kd.R_alloc | apply Kd.R_drewN | apply Kd.R_drew)); exact HO186.out) hb); have n1_ := Aside0.mk (Kd.R_below (by (with_reducible repeat (first | apply Kd.R_alloc | apply Kd.R_drewN | apply Kd.R_drew)); exact HO190.out) hb); have n2_ := Aside0.mk (Kd.R_below (by (with_reducible repeat (first | apply Kd.R_alloc | apply Kd.R_drewN | apply Kd.R_drew)); exact HO194.out) hb); have n3_ := Aside0.mk (Kd.R_below (by (with_reducible repeat (first | apply Kd.R_alloc | apply Kd.R_drewN | apply Kd.R_drew)); exact HO198.out) hb); have n4_ := Aside0.mk (Kd.R_below (by (with_reducible repeat (first | apply Kd.R_alloc | apply Kd.R_drewN | apply Kd.R_drew)); exact HO203.out) hb); have n5_ := Aside0.mk (below_step (by repeat (first | (with_reducible first | exact HB.out | apply below_alloc | apply pw_below_drewN | apply below_drew1) | exact HB.out)) hb); clear HO186; clear HO190; clear HO194; clear HO198; clear HO203; clear HB; have HO186 := n0_; have HO190 := n1_; have HO194 := n2_; have HO198 := n3_; have HO203 := n4_; have HB := n5_; clear n0_ n1_ n2_ n3_ n4_ n5_; (try clear hb); (try clear hb2); (try clear hk); (try clear hi)) | ((with_reducible refine gate_callee (f := 10) rfl ?_); refine goesL_ (some 65) rfl rfl Tryd.func10 (by kernel_rfl) rfl #[] rfl (by (try simp only [List.map_toArray, List.map_cons, List.map_nil]); first | done | rfl | (simp only [List.length_drop, List.length_take]; rfl)) ?_; (with_reducible refine (mosaiclaw25_awake.calls kj3  true _ A16.out (TabW.below hTab (by repeat (first | (with_reducible first | exact HB.out | apply below_alloc | apply pw_below_drewN | apply below_drew1) | exact HB.out)))).mono ?_); rintro e w35 ⟨rfl, hb⟩; refine ⟨_, rfl, ?_⟩; have n0_ := Aside0.mk (Kd.R_below (by (with_reducible repeat (first | apply Kd.R_alloc | apply Kd.R_drewN | apply Kd.R_drew)); exact HO186.out) hb); have n1_ := Aside0.mk (Kd.R_below (by (with_reducible repeat (first | apply Kd.R_alloc | apply Kd.R_drewN | apply Kd.R_drew)); exact HO190.out) hb); have n2_ := Aside0.mk (Kd.R_below (by (with_reducible repeat (first | apply Kd.R_alloc | apply Kd.R_drewN | apply Kd.R_drew)); exact HO194.out) hb); have n3_ := Aside0.mk (Kd.R_below (by (with_reducible repeat (first | apply Kd.R_alloc | apply Kd.R_drewN | apply Kd.R_drew)); exact HO198.out) hb); have n4_ := Aside0.mk (Kd.R_below (by (with_reducible repeat (first | apply Kd.R_alloc | apply Kd.R_drewN | apply Kd.R_drew)); exact HO203.out) hb); have n5_ := Aside0.mk (below_step (by repeat (first | (with_reducible first | exact HB.out | apply below_alloc | apply pw_below_drewN | apply below_drew1) | exact HB.out)) hb); clear HO186; clear HO190; clear HO194; clear HO198; clear HO203; clear HB; have HO186 := n0_; have HO190 := n1_; have HO194 := n2_; have HO198 := n3_; have HO203 := n4_; have HB := n5_; clear n0_ n1_ n2_ n3_ n4_ n5_; (try clear hb); (try clear hb2); (try clear hk); (try clear hi); obtain ⟨Ao36, co36, eo36⟩ := Kd.R_slice HO186.out; subst eo36) | (go_at_call 16; (with_reducible refine (mosaiclaw25_refs.calls kj3 _ _ t183 t207 _ ?side1 ?side2 A18.out).mono ?_); (case side1 => repeat (first | exact (Kd.R_reads' HO186.out).2.2 | (with_reducible refine Kd.C_alloc ?_ _) | (with_reducible refine Kd.C_drewN ?_ _) | (with_reducible refine Kd.C_drew ?_))); (case side2 => exact (Kd.R_reads' HO186.out).2.1); rintro e w37 ⟨v208, rfl, ho0, hb⟩; have n0_ := Aside0.mk (Kd.R_below (by (with_reducible repeat (first | apply Kd.R_alloc | apply Kd.R_drewN | apply Kd.R_drew)); exact HO186.out) hb); have n1_ := Aside0.mk (Kd.R_elder' (by (with_reducible repeat (first | apply Kd.R_alloc | apply Kd.R_drewN | apply Kd.R_drew)); exact HO190.out) (Kd.R_base ho0) hb); have n2_ := Aside0.mk (Kd.R_below (by (with_reducible repeat (first | apply Kd.R_alloc | apply Kd.R_drewN | apply Kd.R_drew)); exact HO194.out) hb); have n3_ := Aside0.mk (Kd.R_elder' (by (with_reducible repeat (first | apply Kd.R_alloc | apply Kd.R_drewN | apply Kd.R_drew)); exact HO198.out) (Kd.R_base ho0) hb); have n4_ := Aside0.mk (Kd.R_elder' (by (with_reducible repeat (first | apply Kd.R_alloc | apply Kd.R_drewN | apply Kd.R_drew)); exact HO203.out) (Kd.R_base ho0) hb); have n5_ := Aside0.mk (Kd.R_lower (Kd.R_new' (Kd.R_new' (Kd.R_new' ho0 (Kd.R_lt (by (with_reducible repeat (first | apply Kd.R_alloc | apply Kd.R_drewN | apply Kd.R_drew)); exact HO190.out))) (Kd.R_lt (by (with_reducible repeat (first | apply Kd.R_alloc | apply Kd.R_drewN | apply Kd.R_drew)); exact HO198.out))) (Kd.R_lt (by (with_reducible repeat (first | apply Kd.R_alloc | apply Kd.R_drewN | apply Kd.R_drew)); exact HO203.out))) (below_size (by repeat (first | (with_reducible first | exact HB.out | apply below_alloc | apply pw_below_drewN | apply below_drew1) | exact HB.out)))); have n6_ := Aside0.mk (below_step (by repeat (first | (with_reducible first | exact HB.out | apply below_alloc | apply pw_below_drewN | apply below_drew1) | exact HB.out)) hb); clear HO186; clear HO190; clear HO194; clear HO198; clear HO203; clear HB; have HO186 := n0_; have HO190 := n1_; have HO194 := n2_; have HO198 := n3_; have HO203 := n4_; have HO209 := n5_; have HB := n6_; clear n0_ n1_ n2_ n3_ n4_ n5_ n6_; (try clear hb); (try clear hb2); (try clear hk); (try clear hi); (try clear ho0); obtain ⟨Ao38, co38, eo38⟩ := Kd.R_slice HO209.out; subst eo38; obtain ⟨Ao39, co39, eo39⟩ := Kd.R_slice HO190.out; subst eo39) | (go_at_call 17; (with_reducible refine (mosaicref25_SameSpans.calls kj3 _ _ t207 _ _ t187 true _ ?side1 ?side2 ?side3 ?side4 A19.out).mono ?_); (case side1 => repeat (first | exact (Kd.R_reads' HO209.out).2.2 | (with_reducible refine Kd.C_alloc ?_ _) | (with_reducible refine Kd.C_drewN ?_ _) | (with_reducible refine Kd.C_drew ?_))); (case side2 => exact (Kd.R_reads' HO209.out).2.1); (case side3 => repeat (first | exact (Kd.R_reads' HO190.out).2.2 | (with_reducible refine Kd.C_alloc ?_ _) | (with_reducible refine Kd.C_drewN ?_ _) | (with_reducible refine Kd.C_drew ?_))); (case side4 => exact (Kd.R_reads' HO190.out).2.1); rintro e w' ⟨rfl, ⟨nd, rfl⟩⟩; obtain ⟨Ao40, co40, eo40⟩ := Kd.R_slice HO194.out; subst eo40) | (go_at_call 16; (with_reducible refine (mosaiclaw25_refs.calls kj3 _ _ t191 t211 _ ?side1 ?side2 A22.out).mono ?_); (case side1 => repeat (first | exact (Kd.R_reads' HO194.out).2.2 | (with_reducible refine Kd.C_alloc ?_ _) | (with_reducible refine Kd.C_drewN ?_ _) | (with_reducible refine Kd.C_drew ?_))); (case side2 => exact (Kd.R_reads' HO194.out).2.1); rintro e w41 ⟨v212, rfl, ho0, hb⟩; have n0_ := Aside0.mk (Kd.R_below (by (with_reducible repeat (first | apply Kd.R_alloc | apply Kd.R_drewN | apply Kd.R_drew)); exact HO186.out) hb); have n1_ := Aside0.mk (Kd.R_elder' (by (with_reducible repeat (first | apply Kd.R_alloc | apply Kd.R_drewN | apply Kd.R_drew)); exact HO190.out) (Kd.R_base ho0) hb); have n2_ := Aside0.mk (Kd.R_below (by (with_reducible repeat (first | apply Kd.R_alloc | apply Kd.R_drewN | apply Kd.R_drew)); exact HO194.out) hb); have n3_ := Aside0.mk (Kd.R_elder' (by (with_reducible repeat (first | apply Kd.R_alloc | apply Kd.R_drewN | apply Kd.R_drew)); exact HO198.out) (Kd.R_base ho0) hb); have n4_ := Aside0.mk (Kd.R_elder' (by (with_reducible repeat (first | apply Kd.R_alloc | apply Kd.R_drewN | apply Kd.R_drew)); exact HO203.out) (Kd.R_base ho0) hb); have n5_ := Aside0.mk (Kd.R_elder' (by (with_reducible repeat (first | apply Kd.R_alloc | apply Kd.R_drewN | apply Kd.R_drew)); exact HO209.out) (Kd.R_base ho0) hb); have n6_ := Aside0.mk (Kd.R_lower (Kd.R_new' (Kd.R_new' (Kd.R_new' (Kd.R_new' ho0 (Kd.R_lt (by (with_reducible repeat (first | apply Kd.R_alloc | apply Kd.R_drewN | apply Kd.R_drew)); exact HO190.out))) (Kd.R_lt (by (with_reducible repeat (first | apply Kd.R_alloc | apply Kd.R_drewN | apply Kd.R_drew)); exact HO198.out))) (Kd.R_lt (by (with_reducible repeat (first | apply Kd.R_alloc | apply Kd.R_drewN | apply Kd.R_drew)); exact HO203.out))) (Kd.R_lt (by (with_reducible repeat (first | apply Kd.R_alloc | apply Kd.R_drewN | apply Kd.R_drew)); exact HO209.out))) (below_size (by repeat (first | (with_reducible first | exact HB.out | apply below_alloc | apply pw_below_drewN | apply below_drew1) | exact HB.out)))); have n7_ := Aside0.mk (below_step (by repeat (first | (with_reducible first | exact HB.out | apply below_alloc | apply pw_below_drewN | apply below_drew1) | exact HB.out)) hb); clear HO186; clear HO190; clear HO194; clear HO198; clear HO203; clear HO209; clear HB; have HO186 := n0_; have HO190 := n1_; have HO194 := n2_; have HO198 := n3_; have HO203 := n4_; have HO209 := n5_; have HO213 := n6_; have HB := n7_; clear n0_ n1_ n2_ n3_ n4_ n5_ n6_ n7_; (try clear hb); (try clear hb2); (try clear hk); (try clear hi); (try clear ho0); obtain ⟨Ao42, co42, eo42⟩ := Kd.R_slice HO213.out; subst eo42; obtain ⟨Ao43, co43, eo43⟩ := Kd.R_slice HO198.out; subst eo43) | (go_at_call 17; (with_reducible refine (mosaicref25_SameSpans.calls kj3 _ _ t211 _ _ t195 true _ ?side1 ?side2 ?side3 ?side4 A23.out).mono ?_); (case side1 => repeat (first | exact (Kd.R_reads' HO213.out).2.2 | (with_reducible refine Kd.C_alloc ?_ _) | (with_reducible refine Kd.C_drewN ?_ _) | (with_reducible refine Kd.C_drew ?_))); (case side2 => exact (Kd.R_reads' HO213.out).2.1); (case side3 => repeat (first | exact (Kd.R_reads' HO198.out).2.2 | (with_reducible refine Kd.C_alloc ?_ _) | (with_reducible refine Kd.C_drewN ?_ _) | (with_reducible refine Kd.C_drew ?_))); (case side4 => exact (Kd.R_reads' HO198.out).2.1); rintro e w' ⟨rfl, ⟨nd, rfl⟩⟩))
          go_ret
          exact ⟨by first | rfl | (simp [errW_none, errW_some] <;> rfl) | (simp [*, errW_none, errW_some] <;> rfl), by repeat (first | (with_reducible first | exact HB.out | apply below_alloc | apply pw_below_drewN | apply below_drew1) | exact HB.out)⟩
         ·
          rw [if_neg c26] at H
          exact absurd H (by simp)
        ·
         rw [if_neg c25] at H
         exact absurd H (by simp)
       ·
        replace c24 := Bool.eq_false_iff.mpr c24
        subst c24
        have H1 : (none) = some r := by rw [if_neg (show ¬ (false = true) by decide)] at H; exact H
        clear H
        have H := H1
        clear H1
        exact absurd H (by simp)
      ·
       rw [if_neg c21] at H
       exact absurd H (by simp)
     ·
      replace c20 := Bool.eq_false_iff.mpr c20
      subst c20
      have H1 : (none) = some r := by rw [if_neg (show ¬ (false = true) by decide)] at H; exact H
      clear H
      have H := H1
      clear H1
      exact absurd H (by simp)
    ·
     replace c17 := Bool.eq_false_iff.mpr c17
     subst c17
     have H1 : (none) = some r := by rw [if_neg (show ¬ (false = true) by decide)] at H; exact H
     clear H
     have H := H1
     clear H1
     exact absurd H (by simp)

/-- THE ONE PURE STATEMENT of mosaiclaw25_RunsOf: yours. -/
def mosaiclaw25_RunsOf.Pure : Prop := ∀ (a0 : Int) (a1 : ByteArray) (l2 : List (S39)), (Lit.int .i64 a0).wf = true → a1.size ≤ 140737488351232 → l2.length ≤ maxLen → (∀ x ∈ l2, Q39 x) → ∃ k, mosaiclaw25_RunsOf.f k a0 a1 l2 = some true

-- BY HAND: function 19 (bits_Or)

-- BY HAND: function 20 (bits_Full)

end Go.Proofs.YtbbncdbihiipcaaDoor.P
