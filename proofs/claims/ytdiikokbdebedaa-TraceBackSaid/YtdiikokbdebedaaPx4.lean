-- Written for this claim by the session's own turn of the kit's print program (wip/tools/xprint.py).
import Derived.Test.YtdiikokbdebedaaPx0
import Derived.Test.YtdiikokbdebedaaPx2
import Derived.Test.YtdiikokbdebedaaPx3
import Derived.Test.YtdiikokbdebedaaHd
namespace Go.Proofs.Ytdiikokbdebedaa.P
open Go.RowKit Go.Proofs.Ytdiikokbdebedaa.Sq Go.Proofs.Ytdiikokbdebedaa.Hand Go.Proofs.YtdiikokbdebedaaW.PrintWords Go.Proofs.YtdiikokbdebedaaW.PrintLast Go.Proofs.YtdiikokbdebedaaW.PrintMore
attribute [local go_sem] max2_int min2_int max_two min_two max_three min_three max_four min_four   -- for this text's walks alone
set_option linter.unusedVariables false
set_option linter.unusedSimpArgs false

/-! ### mosaiclaw32_TraceBack: function 4 -/
mutual
def mosaiclaw32_TraceBack.j0 : Nat → List (S47) → ByteArray → Bool → Option (Bool)
 | 0, _, _, _ => none
 | k + 1, x0, x1, x20 => if x20 = true then ((mosaiclaw32_awake.f k).bind fun t184 => (some t184)) else ((trace_Pack.f x0).bind fun bt185 => (if bt185.2 = 0 then ((trace_Unpack.f k bt185.1).bind fun bt187 => (if bt187.2 = 0 then ((mosaiclaw32_refs.f k bt187.1).bind fun t191 => ((mosaiclaw32_refs.f k x0).bind fun t194 => ((mosaicref32_Same.f k t191 t194).bind fun t197 => (if t197 = true then (mosaiclaw32_TraceBack.j1 k x1) else (none))))) else (none))) else (mosaiclaw32_TraceBack.j1 k x1)))
def mosaiclaw32_TraceBack.j1 : Nat → ByteArray → Option (Bool)
 | 0, _ => none
 | k + 1, x1 => (trace_Unpack.f k x1).bind fun bt198 => (if bt198.2 = 0 then ((trace_Pack.f bt198.1).bind fun bt202 => ((mosaiclaw32_awake.f k).bind fun t204 => (if t204 = true then (if bt202.2 = 0 then (some (bt202.1.toList == x1.toList)) else (none)) else (none)))) else ((mosaiclaw32_awake.f k).bind fun t205 => (some t205)))
end
def mosaiclaw32_TraceBack.f (k : Nat) (l0 : List (S47)) (a1 : ByteArray) : Option (Bool) := (mosaiclaw32_few.f k l0 100).bind fun t183 => (if t183 = true then (mosaiclaw32_TraceBack.j0 k l0 a1 (decide ((a1.size : Int) > 10000))) else (mosaiclaw32_TraceBack.j0 k l0 a1 true))
theorem mosaiclaw32_TraceBack.mono_l : ∀ k, (∀ y0 y1 y2, LeO (mosaiclaw32_TraceBack.j0 k y0 y1 y2) (mosaiclaw32_TraceBack.j0 (k + 1) y0 y1 y2)) ∧ (∀ y0, LeO (mosaiclaw32_TraceBack.j1 k y0) (mosaiclaw32_TraceBack.j1 (k + 1) y0))
 | 0 => ⟨fun _ _ _ r h => by simp [mosaiclaw32_TraceBack.j0] at h, fun _ r h => by simp [mosaiclaw32_TraceBack.j1] at h⟩
 | k + 1 => by
  obtain ⟨ih0, ih1⟩ := mosaiclaw32_TraceBack.mono_l k
  refine ⟨?_, ?_⟩
  ·
   intro y0 y1 y2
   unfold mosaiclaw32_TraceBack.j0
   repeat' first
   | (with_reducible exact ih0 _ _ _)
   | (with_reducible exact ih1 _)
   | (with_reducible exact mosaiclaw32_awake.mono _)
   | (with_reducible exact mosaiclaw32_few.mono _ _ _)
   | (with_reducible exact mosaiclaw32_refs.mono _ _)
   | (with_reducible exact mosaicref32_Same.mono _ _ _)
   | (with_reducible exact trace_Unpack.mono _ _)
   | (with_reducible exact LeO.refl _)
   | (with_reducible exact LeO.none _)
   | (with_reducible refine LeO.ite ?_ ?_)
   | (with_reducible refine LeO.bind ?_ (fun _ => ?_))
   | exact ih0 _ _ _
   | exact ih1 _
   | exact mosaiclaw32_awake.mono _
   | exact mosaiclaw32_few.mono _ _ _
   | exact mosaiclaw32_refs.mono _ _
   | exact mosaicref32_Same.mono _ _ _
   | exact trace_Unpack.mono _ _
   | exact LeO.none _
   | refine LeO.ite ?_ ?_
   | refine LeO.bind ?_ (fun _ => ?_)
  ·
   intro y0
   unfold mosaiclaw32_TraceBack.j1
   repeat' first
   | (with_reducible exact ih0 _ _ _)
   | (with_reducible exact ih1 _)
   | (with_reducible exact mosaiclaw32_awake.mono _)
   | (with_reducible exact mosaiclaw32_few.mono _ _ _)
   | (with_reducible exact mosaiclaw32_refs.mono _ _)
   | (with_reducible exact mosaicref32_Same.mono _ _ _)
   | (with_reducible exact trace_Unpack.mono _ _)
   | (with_reducible exact LeO.refl _)
   | (with_reducible exact LeO.none _)
   | (with_reducible refine LeO.ite ?_ ?_)
   | (with_reducible refine LeO.bind ?_ (fun _ => ?_))
   | exact ih0 _ _ _
   | exact ih1 _
   | exact mosaiclaw32_awake.mono _
   | exact mosaiclaw32_few.mono _ _ _
   | exact mosaiclaw32_refs.mono _ _
   | exact mosaicref32_Same.mono _ _ _
   | exact trace_Unpack.mono _ _
   | exact LeO.none _
   | refine LeO.ite ?_ ?_
   | refine LeO.bind ?_ (fun _ => ?_)
theorem mosaiclaw32_TraceBack.mono : ∀ a0 a1 k, LeO (mosaiclaw32_TraceBack.f k a0 a1) (mosaiclaw32_TraceBack.f (k + 1) a0 a1) := by
 intro a0 a1 k
 obtain ⟨ih0, ih1⟩ := mosaiclaw32_TraceBack.mono_l k
 unfold mosaiclaw32_TraceBack.f
 repeat' first
   | (with_reducible exact ih0 _ _ _)
   | (with_reducible exact ih1 _)
   | (with_reducible exact mosaiclaw32_awake.mono _)
   | (with_reducible exact mosaiclaw32_few.mono _ _ _)
   | (with_reducible exact mosaiclaw32_refs.mono _ _)
   | (with_reducible exact mosaicref32_Same.mono _ _ _)
   | (with_reducible exact trace_Unpack.mono _ _)
   | (with_reducible exact LeO.refl _)
   | (with_reducible exact LeO.none _)
   | (with_reducible refine LeO.ite ?_ ?_)
   | (with_reducible refine LeO.bind ?_ (fun _ => ?_))
   | exact ih0 _ _ _
   | exact ih1 _
   | exact mosaiclaw32_awake.mono _
   | exact mosaiclaw32_few.mono _ _ _
   | exact mosaiclaw32_refs.mono _ _
   | exact mosaicref32_Same.mono _ _ _
   | exact trace_Unpack.mono _ _
   | exact LeO.none _
   | refine LeO.ite ?_ ?_
   | refine LeO.bind ?_ (fun _ => ?_)
set_option maxHeartbeats 8000000 in
set_option maxRecDepth 100000 in
theorem mosaiclaw32_TraceBack.calls (k : Nat) (A0 : Option Addr) (c0 : Nat) (l0 : List (S47)) (a1 : ByteArray) (r : Bool) (w : World) (hr0 : Kd.C k47 w A0 l0.length l0) (hc0 : l0.length ≤ c0) (h : mosaiclaw32_TraceBack.f k l0 a1 = some r) :
  Calls Try.prog 4 #[.slice A0 l0.length c0, .string a1] w fun e w' => e = .returned (.bool r) ∧ Below w.heap.size w w' := by
 have HR0 := Aside0.mk hr0
 have HC0 := Aside0.mk hc0
 clear hr0 hc0
 have HB := Aside0.mk (Below.refl w.heap.size w)
 have H : ((mosaiclaw32_few.f k l0 100).bind fun t183 => (if t183 = true then (mosaiclaw32_TraceBack.j0 k l0 a1 (decide ((a1.size : Int) > 10000))) else (mosaiclaw32_TraceBack.j0 k l0 a1 true))) = some r := h
 clear h
 have HC3 := Aside0.mk H
 clear H
 go_enter Try.func4, Try.ntmps4
 go_upto_region 1 with (fail)
 go_cut [20] (fun v20 wc => ∃ (kq : Nat) (x20_2 : Bool), v20 = .bool x20_2 ∧ Aside0 (mosaiclaw32_TraceBack.j0 kq l0 a1 x20_2 = some r) ∧ Aside0 (kq ≤ k) ∧ Aside0 (Below w.heap.size w wc))
 case first =>
  have H := HC3.out
  clear HC3
  replace H := Option.bind_eq_some_iff.mp H
  obtain ⟨t183, A40, H⟩ := H
  replace H : (if t183 = true then (mosaiclaw32_TraceBack.j0 k l0 a1 (decide ((a1.size : Int) > 10000))) else (mosaiclaw32_TraceBack.j0 k l0 a1 true)) = some r := H
  have A4 := Aside0.mk A40
  clear A40
  by_cases c5 : t183 = true
  ·
   subst c5
   have H1 : (mosaiclaw32_TraceBack.j0 k l0 a1 (decide ((a1.size : Int) > 10000))) = some r := by rw [if_pos rfl] at H; exact H
   clear H
   have H := H1
   clear H1
   have H' := Aside0.mk H
   clear H
   go_wp2_with (first | ((with_reducible refine gate_callee (f := 6) rfl ?_); refine goesL_ (some 14) rfl rfl Try.func6 (by kernel_rfl) rfl #[.slice A0 l0.length c0, .int .i64 100] rfl (by (try simp only [List.map_toArray, List.map_cons, List.map_nil]); first | done | rfl | (simp only [List.length_drop, List.length_take]; rfl)) ?_; (with_reducible refine (mosaiclaw32_few.calls k _ _ l0 100 true _ ?side1 ?side2 A4.out).mono ?_); (case side1 => repeat (first | exact (Kd.C_below HR0.out HB.out) | (with_reducible refine Kd.C_alloc ?_ _) | (with_reducible refine Kd.C_drewN ?_ _) | (with_reducible refine Kd.C_drew ?_))); (case side2 => exact HC0.out); rintro e w' ⟨rfl, ⟨nd, rfl⟩⟩; refine ⟨_, rfl, ?_⟩))
   go_meet
   case rel => exact ⟨_, (decide ((a1.size : Int) > 10000)), (by first | rfl | (simp; done) | (simp [*]; done)), H', ⟨by first | omega | exact Nat.le_refl _⟩, ⟨by repeat (first | (with_reducible first | exact HB.out | apply below_alloc | apply pw_below_drewN | apply below_drew1) | exact HB.out)⟩⟩
  ·
   replace c5 := Bool.eq_false_iff.mpr c5
   subst c5
   have H1 : (mosaiclaw32_TraceBack.j0 k l0 a1 true) = some r := by rw [if_neg (show ¬ (false = true) by decide)] at H; exact H
   clear H
   have H := H1
   clear H1
   have H' := Aside0.mk H
   clear H
   go_wp2_with (first | ((with_reducible refine gate_callee (f := 6) rfl ?_); refine goesL_ (some 14) rfl rfl Try.func6 (by kernel_rfl) rfl #[.slice A0 l0.length c0, .int .i64 100] rfl (by (try simp only [List.map_toArray, List.map_cons, List.map_nil]); first | done | rfl | (simp only [List.length_drop, List.length_take]; rfl)) ?_; (with_reducible refine (mosaiclaw32_few.calls k _ _ l0 100 false _ ?side1 ?side2 A4.out).mono ?_); (case side1 => repeat (first | exact (Kd.C_below HR0.out HB.out) | (with_reducible refine Kd.C_alloc ?_ _) | (with_reducible refine Kd.C_drewN ?_ _) | (with_reducible refine Kd.C_drew ?_))); (case side2 => exact HC0.out); rintro e w' ⟨rfl, ⟨nd, rfl⟩⟩; refine ⟨_, rfl, ?_⟩))
   go_meet
   case rel => exact ⟨_, (true), (by first | rfl | (simp; done) | (simp [*]; done)), H', ⟨by first | omega | exact Nat.le_refl _⟩, ⟨by repeat (first | (with_reducible first | exact HB.out | apply below_alloc | apply pw_below_drewN | apply below_drew1) | exact HB.out)⟩⟩
 case rest =>
  clear HC3
  try clear p2
  try clear c4
  try clear c5
  obtain ⟨kq, x20_2, rfl, HA, HJ2, HB⟩ := hcut
  cases kq with
  | zero => exact absurd HA.out (by simp [mosaiclaw32_TraceBack.j0])
  | succ kj2 =>
   have H := HA.out
   clear HA
   simp only [mosaiclaw32_TraceBack.j0] at H
   by_cases c6 : x20_2 = true
   ·
    subst c6
    have H1 : ((mosaiclaw32_awake.f kj2).bind fun t184 => (some t184)) = some r := by rw [if_pos rfl] at H; exact H
    clear H
    have H := H1
    clear H1
    replace H := Option.bind_eq_some_iff.mp H
    obtain ⟨t184, A70, H⟩ := H
    replace H : (some t184) = some r := H
    have A7 := Aside0.mk A70
    clear A70
    obtain rfl := Option.some.inj H
    go_wp2_with (first | ((with_reducible refine gate_callee (f := 7) rfl ?_); refine goesL_ (some 21) rfl rfl Try.func7 (by kernel_rfl) rfl #[] rfl (by (try simp only [List.map_toArray, List.map_cons, List.map_nil]); first | done | rfl | (simp only [List.length_drop, List.length_take]; rfl)) ?_; (with_reducible refine (mosaiclaw32_awake.calls kj2  t184 _ A7.out).mono ?_); rintro e w8 ⟨rfl, hb⟩; refine ⟨_, rfl, ?_⟩; have n0_ := Aside0.mk (below_step (by repeat (first | (with_reducible first | exact HB.out | apply below_alloc | apply pw_below_drewN | apply below_drew1) | exact HB.out)) hb); clear HB; have HB := n0_; clear n0_; (try clear hb); (try clear hb2); (try clear hk); (try clear hi)))
    go_ret
    exact ⟨by first | rfl | (simp [errW_none, errW_some] <;> rfl) | (simp [*, errW_none, errW_some] <;> rfl), by repeat (first | (with_reducible first | exact HB.out | apply below_alloc | apply pw_below_drewN | apply below_drew1) | exact HB.out)⟩
   ·
    replace c6 := Bool.eq_false_iff.mpr c6
    subst c6
    have H1 : ((trace_Pack.f l0).bind fun bt185 => (if bt185.2 = 0 then ((trace_Unpack.f kj2 bt185.1).bind fun bt187 => (if bt187.2 = 0 then ((mosaiclaw32_refs.f kj2 bt187.1).bind fun t191 => ((mosaiclaw32_refs.f kj2 l0).bind fun t194 => ((mosaicref32_Same.f kj2 t191 t194).bind fun t197 => (if t197 = true then (mosaiclaw32_TraceBack.j1 kj2 a1) else (none))))) else (none))) else (mosaiclaw32_TraceBack.j1 kj2 a1))) = some r := by rw [if_neg (show ¬ (false = true) by decide)] at H; exact H
    clear H
    have H := H1
    clear H1
    replace H := Option.bind_eq_some_iff.mp H
    obtain ⟨⟨t185, t186⟩, A90, H⟩ := H
    replace H : (if t186 = 0 then ((trace_Unpack.f kj2 t185).bind fun bt187 => (if bt187.2 = 0 then ((mosaiclaw32_refs.f kj2 bt187.1).bind fun t191 => ((mosaiclaw32_refs.f kj2 l0).bind fun t194 => ((mosaicref32_Same.f kj2 t191 t194).bind fun t197 => (if t197 = true then (mosaiclaw32_TraceBack.j1 kj2 a1) else (none))))) else (none))) else (mosaiclaw32_TraceBack.j1 kj2 a1)) = some r := H
    have A9 := Aside0.mk A90
    clear A90
    have HC10 := Aside0.mk H
    clear H
    go_upto_if 28 with (first | ((with_reducible refine gate_callee (f := 8) rfl ?_); refine goesL_ (some 24) rfl rfl Try.func8 (by kernel_rfl) rfl #[.slice A0 l0.length c0] rfl (by (try simp only [List.map_toArray, List.map_cons, List.map_nil]); first | done | rfl | (simp only [List.length_drop, List.length_take]; rfl)) ?_; (with_reducible refine (trace_Pack.calls _ _ l0 t185 t186 _ ?side1 ?side2 A9.out).mono ?_); (case side1 => repeat (first | exact (Kd.C_below HR0.out HB.out) | (with_reducible refine Kd.C_alloc ?_ _) | (with_reducible refine Kd.C_drewN ?_ _) | (with_reducible refine Kd.C_drew ?_))); (case side2 => exact HC0.out); rintro e w11 ⟨rfl, hb⟩; refine ⟨_, rfl, ?_⟩; have n0_ := hS HB hb; clear HB; have HB := n0_; clear n0_; (try clear hb); (try clear hb2); (try clear hk); (try clear hi)))
    (try simp only [Act.put, List.setIfInBounds_toArray, List.set_cons_zero, List.set_cons_succ])
    go_cut [] (fun wc => ∃ (kq : Nat), Aside0 (mosaiclaw32_TraceBack.j1 kq a1 = some r) ∧ Aside0 (kq ≤ kj2) ∧ Aside0 (Below w.heap.size w wc))
    case first =>
     have H := HC10.out
     clear HC10
     by_cases c12 : t186 = 0
     ·
      rw [if_pos c12] at H
      have c12b0 : (t186 == 0) = true := beq_iff_eq.mpr c12
      have c12b1 : (t186 != 0) = false := bne_eq_false_iff_eq.mpr c12
      clear c12
      (first | rw [c12b0] | (simp only [i64_w, i32_w, IntKind.wrap_u8]; rw [c12b0]) | skip)
      replace H := Option.bind_eq_some_iff.mp H
      obtain ⟨⟨t187, t188⟩, A130, H⟩ := H
      replace H : (if t188 = 0 then ((mosaiclaw32_refs.f kj2 t187).bind fun t191 => ((mosaiclaw32_refs.f kj2 l0).bind fun t194 => ((mosaicref32_Same.f kj2 t191 t194).bind fun t197 => (if t197 = true then (mosaiclaw32_TraceBack.j1 kj2 a1) else (none))))) else (none)) = some r := H
      have A13 := Aside0.mk A130
      clear A130
      by_cases c14 : t188 = 0
      ·
       rw [if_pos c14] at H
       have c14b0 : (t188 == 0) = true := beq_iff_eq.mpr c14
       have c14b1 : (t188 != 0) = false := bne_eq_false_iff_eq.mpr c14
       clear c14
       replace H := Option.bind_eq_some_iff.mp H
       obtain ⟨t191, A150, H⟩ := H
       replace H : ((mosaiclaw32_refs.f kj2 l0).bind fun t194 => ((mosaicref32_Same.f kj2 t191 t194).bind fun t197 => (if t197 = true then (mosaiclaw32_TraceBack.j1 kj2 a1) else (none)))) = some r := H
       have A15 := Aside0.mk A150
       clear A150
       replace H := Option.bind_eq_some_iff.mp H
       obtain ⟨t194, A160, H⟩ := H
       replace H : ((mosaicref32_Same.f kj2 t191 t194).bind fun t197 => (if t197 = true then (mosaiclaw32_TraceBack.j1 kj2 a1) else (none))) = some r := H
       have A16 := Aside0.mk A160
       clear A160
       replace H := Option.bind_eq_some_iff.mp H
       obtain ⟨t197, A170, H⟩ := H
       replace H : (if t197 = true then (mosaiclaw32_TraceBack.j1 kj2 a1) else (none)) = some r := H
       have A17 := Aside0.mk A170
       clear A170
       by_cases c18 : t197 = true
       ·
        subst c18
        have H1 : (mosaiclaw32_TraceBack.j1 kj2 a1) = some r := by rw [if_pos rfl] at H; exact H
        clear H
        have H := H1
        clear H1
        have H' := Aside0.mk H
        clear H
        go_wp2_with (first | ((with_reducible refine gate_callee (f := 11) rfl ?_); refine goesL_ (some 31) rfl rfl Try.func11 (by kernel_rfl) rfl #[.string t185] rfl (by (try simp only [List.map_toArray, List.map_cons, List.map_nil]); first | done | rfl | (simp only [List.length_drop, List.length_take]; rfl)) ?_; (with_reducible refine (trace_Unpack.calls kj2 t185 t187 t188 _ A13.out).mono ?_); rintro e w19 ⟨v189, rfl, ho0, hb⟩; refine ⟨_, rfl, ?_⟩; have n0_ := Aside0.mk (Kd.R_lower ho0 (below_size (by repeat (first | (with_reducible first | exact HB.out | apply below_alloc | apply pw_below_drewN | apply below_drew1) | exact HB.out)))); have n1_ := Aside0.mk (below_step (by repeat (first | (with_reducible first | exact HB.out | apply below_alloc | apply pw_below_drewN | apply below_drew1) | exact HB.out)) hb); clear HB; have HO190 := n0_; have HB := n1_; clear n0_ n1_; (try clear hb); (try clear hb2); (try clear hk); (try clear hi); (try clear ho0); obtain ⟨Ao20, co20, eo20⟩ := Kd.R_slice HO190.out; subst eo20) | (go_at_call 10; (with_reducible refine (mosaiclaw32_refs.calls kj2 _ _ t187 t191 _ ?side1 ?side2 A15.out).mono ?_); (case side1 => repeat (first | exact (Kd.R_reads' HO190.out).2.2 | (with_reducible refine Kd.C_alloc ?_ _) | (with_reducible refine Kd.C_drewN ?_ _) | (with_reducible refine Kd.C_drew ?_))); (case side2 => exact (Kd.R_reads' HO190.out).2.1); rintro e w21 ⟨v192, rfl, ho0, hb⟩; have n0_ := Aside0.mk (Kd.R_below (by (with_reducible repeat (first | apply Kd.R_alloc | apply Kd.R_drewN | apply Kd.R_drew)); exact HO190.out) hb); have n1_ := Aside0.mk (Kd.R_lower ho0 (below_size (by repeat (first | (with_reducible first | exact HB.out | apply below_alloc | apply pw_below_drewN | apply below_drew1) | exact HB.out)))); have n2_ := Aside0.mk (below_step (by repeat (first | (with_reducible first | exact HB.out | apply below_alloc | apply pw_below_drewN | apply below_drew1) | exact HB.out)) hb); clear HO190; clear HB; have HO190 := n0_; have HO193 := n1_; have HB := n2_; clear n0_ n1_ n2_; (try clear hb); (try clear hb2); (try clear hk); (try clear hi); (try clear ho0)) | (go_at_call 10; (with_reducible refine (mosaiclaw32_refs.calls kj2 _ _ l0 t194 _ ?side1 ?side2 A16.out).mono ?_); (case side1 => repeat (first | exact (Kd.C_below HR0.out HB.out) | (with_reducible refine Kd.C_alloc ?_ _) | (with_reducible refine Kd.C_drewN ?_ _) | (with_reducible refine Kd.C_drew ?_))); (case side2 => exact HC0.out); rintro e w22 ⟨v195, rfl, ho0, hb⟩; have n0_ := Aside0.mk (Kd.R_below (by (with_reducible repeat (first | apply Kd.R_alloc | apply Kd.R_drewN | apply Kd.R_drew)); exact HO190.out) hb); have n1_ := Aside0.mk (Kd.R_elder' (by (with_reducible repeat (first | apply Kd.R_alloc | apply Kd.R_drewN | apply Kd.R_drew)); exact HO193.out) (Kd.R_base ho0) hb); have n2_ := Aside0.mk (Kd.R_lower (Kd.R_new' ho0 (Kd.R_lt (by (with_reducible repeat (first | apply Kd.R_alloc | apply Kd.R_drewN | apply Kd.R_drew)); exact HO193.out))) (below_size (by repeat (first | (with_reducible first | exact HB.out | apply below_alloc | apply pw_below_drewN | apply below_drew1) | exact HB.out)))); have n3_ := Aside0.mk (below_step (by repeat (first | (with_reducible first | exact HB.out | apply below_alloc | apply pw_below_drewN | apply below_drew1) | exact HB.out)) hb); clear HO190; clear HO193; clear HB; have HO190 := n0_; have HO193 := n1_; have HO196 := n2_; have HB := n3_; clear n0_ n1_ n2_ n3_; (try clear hb); (try clear hb2); (try clear hk); (try clear hi); (try clear ho0); obtain ⟨Ao23, co23, eo23⟩ := Kd.R_slice HO193.out; subst eo23; obtain ⟨Ao24, co24, eo24⟩ := Kd.R_slice HO196.out; subst eo24) | (go_at_call 13; (with_reducible refine (mosaicref32_Same.calls kj2 _ _ t191 _ _ t194 true _ ?side1 ?side2 ?side3 ?side4 A17.out).mono ?_); (case side1 => repeat (first | exact (Kd.R_reads' HO193.out).2.2 | (with_reducible refine Kd.C_alloc ?_ _) | (with_reducible refine Kd.C_drewN ?_ _) | (with_reducible refine Kd.C_drew ?_))); (case side2 => exact (Kd.R_reads' HO193.out).2.1); (case side3 => repeat (first | exact (Kd.R_reads' HO196.out).2.2 | (with_reducible refine Kd.C_alloc ?_ _) | (with_reducible refine Kd.C_drewN ?_ _) | (with_reducible refine Kd.C_drew ?_))); (case side4 => exact (Kd.R_reads' HO196.out).2.1); rintro e w' ⟨rfl, ⟨nd, rfl⟩⟩))
        go_meet
        case rel => exact ⟨_, H', ⟨by have := HJ2.out; first | omega | exact Nat.le_refl _⟩, ⟨by repeat (first | (with_reducible first | exact HB.out | apply below_alloc | apply pw_below_drewN | apply below_drew1) | exact HB.out)⟩⟩
       ·
        replace c18 := Bool.eq_false_iff.mpr c18
        subst c18
        have H1 : (none) = some r := by rw [if_neg (show ¬ (false = true) by decide)] at H; exact H
        clear H
        have H := H1
        clear H1
        exact absurd H (by simp)
      ·
       rw [if_neg c14] at H
       exact absurd H (by simp)
     ·
      rw [if_neg c12] at H
      have c12b0 : (t186 == 0) = false := beq_eq_false_iff_ne.mpr c12
      have c12b1 : (t186 != 0) = true := bne_iff_ne.mpr c12
      (first | rw [c12b0] | (simp only [i64_w, i32_w, IntKind.wrap_u8]; rw [c12b0]) | skip)
      have H' := Aside0.mk H
      clear H
      go_wp2
      go_meet
      case rel => exact ⟨_, H', ⟨by have := HJ2.out; first | omega | exact Nat.le_refl _⟩, ⟨by repeat (first | (with_reducible first | exact HB.out | apply below_alloc | apply pw_below_drewN | apply below_drew1) | exact HB.out)⟩⟩
    case rest =>
     clear HC10
     try clear c1
     try clear p2
     try clear c4
     try clear c5
     try clear c6
     try clear c7
     try clear c8
     try clear c11
     try clear c12
     try clear c12b0
     try clear c12b1
     try clear c14
     try clear c14b0
     try clear c14b1
     try clear c18
     try clear p2
     obtain ⟨kq, HA, HJ9, HB⟩ := hcut
     cases kq with
     | zero => exact absurd HA.out (by simp [mosaiclaw32_TraceBack.j1])
     | succ kj9 =>
      have H := HA.out
      clear HA
      simp only [mosaiclaw32_TraceBack.j1] at H
      replace H := Option.bind_eq_some_iff.mp H
      obtain ⟨⟨t198, t199⟩, A250, H⟩ := H
      replace H : (if t199 = 0 then ((trace_Pack.f t198).bind fun bt202 => ((mosaiclaw32_awake.f kj9).bind fun t204 => (if t204 = true then (if bt202.2 = 0 then (some (bt202.1.toList == a1.toList)) else (none)) else (none)))) else ((mosaiclaw32_awake.f kj9).bind fun t205 => (some t205))) = some r := H
      have A25 := Aside0.mk A250
      clear A250
      by_cases c26 : t199 = 0
      ·
       rw [if_pos c26] at H
       have c26b0 : (t199 == 0) = true := beq_iff_eq.mpr c26
       have c26b1 : (t199 != 0) = false := bne_eq_false_iff_eq.mpr c26
       clear c26
       replace H := Option.bind_eq_some_iff.mp H
       obtain ⟨⟨t202, t203⟩, A270, H⟩ := H
       replace H : ((mosaiclaw32_awake.f kj9).bind fun t204 => (if t204 = true then (if t203 = 0 then (some (t202.toList == a1.toList)) else (none)) else (none))) = some r := H
       have A27 := Aside0.mk A270
       clear A270
       replace H := Option.bind_eq_some_iff.mp H
       obtain ⟨t204, A280, H⟩ := H
       replace H : (if t204 = true then (if t203 = 0 then (some (t202.toList == a1.toList)) else (none)) else (none)) = some r := H
       have A28 := Aside0.mk A280
       clear A280
       by_cases c29 : t204 = true
       ·
        subst c29
        have H1 : (if t203 = 0 then (some (t202.toList == a1.toList)) else (none)) = some r := by rw [if_pos rfl] at H; exact H
        clear H
        have H := H1
        clear H1
        by_cases c30 : t203 = 0
        ·
         rw [if_pos c30] at H
         have c30b0 : (t203 == 0) = true := beq_iff_eq.mpr c30
         have c30b1 : (t203 != 0) = false := bne_eq_false_iff_eq.mpr c30
         clear c30
         obtain rfl := Option.some.inj H
         go_wp2_with (first | ((with_reducible refine gate_callee (f := 11) rfl ?_); refine goesL_ (some 46) rfl rfl Try.func11 (by kernel_rfl) rfl #[.string a1] rfl (by (try simp only [List.map_toArray, List.map_cons, List.map_nil]); first | done | rfl | (simp only [List.length_drop, List.length_take]; rfl)) ?_; (with_reducible refine (trace_Unpack.calls kj9 a1 t198 t199 _ A25.out).mono ?_); rintro e w31 ⟨v200, rfl, ho0, hb⟩; refine ⟨_, rfl, ?_⟩; have n0_ := Aside0.mk (Kd.R_lower ho0 (below_size (by repeat (first | (with_reducible first | exact HB.out | apply below_alloc | apply pw_below_drewN | apply below_drew1) | exact HB.out)))); have n1_ := Aside0.mk (below_step (by repeat (first | (with_reducible first | exact HB.out | apply below_alloc | apply pw_below_drewN | apply below_drew1) | exact HB.out)) hb); clear HB; have HO201 := n0_; have HB := n1_; clear n0_ n1_; (try clear hb); (try clear hb2); (try clear hk); (try clear hi); (try clear ho0); obtain ⟨Ao32, co32, eo32⟩ := Kd.R_slice HO201.out; subst eo32) | ((with_reducible refine gate_callee (f := 8) rfl ?_); refine goesL_ (some 54) rfl rfl Try.func8 (by kernel_rfl) rfl #[.slice Ao32 t198.length co32] rfl (by (try simp only [List.map_toArray, List.map_cons, List.map_nil]); first | done | rfl | (simp only [List.length_drop, List.length_take]; rfl)) ?_; (with_reducible refine (trace_Pack.calls _ _ t198 t202 t203 _ ?side1 ?side2 A27.out).mono ?_); (case side1 => repeat (first | exact (Kd.R_reads' HO201.out).2.2 | (with_reducible refine Kd.C_alloc ?_ _) | (with_reducible refine Kd.C_drewN ?_ _) | (with_reducible refine Kd.C_drew ?_))); (case side2 => exact (Kd.R_reads' HO201.out).2.1); rintro e w33 ⟨rfl, hb⟩; refine ⟨_, rfl, ?_⟩; have n0_ := Aside0.mk (Kd.R_below (by (with_reducible repeat (first | apply Kd.R_alloc | apply Kd.R_drewN | apply Kd.R_drew)); exact HO201.out) hb); have n1_ := Aside0.mk (below_step (by repeat (first | (with_reducible first | exact HB.out | apply below_alloc | apply pw_below_drewN | apply below_drew1) | exact HB.out)) hb); clear HO201; clear HB; have HO201 := n0_; have HB := n1_; clear n0_ n1_; (try clear hb); (try clear hb2); (try clear hk); (try clear hi)) | ((with_reducible refine gate_callee (f := 7) rfl ?_); refine goesL_ (some 57) rfl rfl Try.func7 (by kernel_rfl) rfl #[] rfl (by (try simp only [List.map_toArray, List.map_cons, List.map_nil]); first | done | rfl | (simp only [List.length_drop, List.length_take]; rfl)) ?_; (with_reducible refine (mosaiclaw32_awake.calls kj9  true _ A28.out).mono ?_); rintro e w34 ⟨rfl, hb⟩; refine ⟨_, rfl, ?_⟩; have n0_ := Aside0.mk (Kd.R_below (by (with_reducible repeat (first | apply Kd.R_alloc | apply Kd.R_drewN | apply Kd.R_drew)); exact HO201.out) hb); have n1_ := Aside0.mk (below_step (by repeat (first | (with_reducible first | exact HB.out | apply below_alloc | apply pw_below_drewN | apply below_drew1) | exact HB.out)) hb); clear HO201; clear HB; have HO201 := n0_; have HB := n1_; clear n0_ n1_; (try clear hb); (try clear hb2); (try clear hk); (try clear hi)))
         go_ret
         exact ⟨by first | rfl | (simp [errW_none, errW_some] <;> rfl) | (simp [*, errW_none, errW_some] <;> rfl), by repeat (first | (with_reducible first | exact HB.out | apply below_alloc | apply pw_below_drewN | apply below_drew1) | exact HB.out)⟩
        ·
         rw [if_neg c30] at H
         exact absurd H (by simp)
       ·
        replace c29 := Bool.eq_false_iff.mpr c29
        subst c29
        have H1 : (none) = some r := by rw [if_neg (show ¬ (false = true) by decide)] at H; exact H
        clear H
        have H := H1
        clear H1
        exact absurd H (by simp)
      ·
       rw [if_neg c26] at H
       have c26b0 : (t199 == 0) = false := beq_eq_false_iff_ne.mpr c26
       have c26b1 : (t199 != 0) = true := bne_iff_ne.mpr c26
       replace H := Option.bind_eq_some_iff.mp H
       obtain ⟨t205, A350, H⟩ := H
       replace H : (some t205) = some r := H
       have A35 := Aside0.mk A350
       clear A350
       obtain rfl := Option.some.inj H
       go_wp2_with (first | ((with_reducible refine gate_callee (f := 11) rfl ?_); refine goesL_ (some 46) rfl rfl Try.func11 (by kernel_rfl) rfl #[.string a1] rfl (by (try simp only [List.map_toArray, List.map_cons, List.map_nil]); first | done | rfl | (simp only [List.length_drop, List.length_take]; rfl)) ?_; (with_reducible refine (trace_Unpack.calls kj9 a1 t198 t199 _ A25.out).mono ?_); rintro e w36 ⟨v200, rfl, ho0, hb⟩; refine ⟨_, rfl, ?_⟩; have n0_ := Aside0.mk (Kd.R_lower ho0 (below_size (by repeat (first | (with_reducible first | exact HB.out | apply below_alloc | apply pw_below_drewN | apply below_drew1) | exact HB.out)))); have n1_ := Aside0.mk (below_step (by repeat (first | (with_reducible first | exact HB.out | apply below_alloc | apply pw_below_drewN | apply below_drew1) | exact HB.out)) hb); clear HB; have HO201 := n0_; have HB := n1_; clear n0_ n1_; (try clear hb); (try clear hb2); (try clear hk); (try clear hi); (try clear ho0)) | ((with_reducible refine gate_callee (f := 7) rfl ?_); refine goesL_ (some 51) rfl rfl Try.func7 (by kernel_rfl) rfl #[] rfl (by (try simp only [List.map_toArray, List.map_cons, List.map_nil]); first | done | rfl | (simp only [List.length_drop, List.length_take]; rfl)) ?_; (with_reducible refine (mosaiclaw32_awake.calls kj9  t205 _ A35.out).mono ?_); rintro e w37 ⟨rfl, hb⟩; refine ⟨_, rfl, ?_⟩; have n0_ := Aside0.mk (Kd.R_below (by (with_reducible repeat (first | apply Kd.R_alloc | apply Kd.R_drewN | apply Kd.R_drew)); exact HO201.out) hb); have n1_ := Aside0.mk (below_step (by repeat (first | (with_reducible first | exact HB.out | apply below_alloc | apply pw_below_drewN | apply below_drew1) | exact HB.out)) hb); clear HO201; clear HB; have HO201 := n0_; have HB := n1_; clear n0_ n1_; (try clear hb); (try clear hb2); (try clear hk); (try clear hi)))
       go_ret
       exact ⟨by first | rfl | (simp [errW_none, errW_some] <;> rfl) | (simp [*, errW_none, errW_some] <;> rfl), by repeat (first | (with_reducible first | exact HB.out | apply below_alloc | apply pw_below_drewN | apply below_drew1) | exact HB.out)⟩

/-- THE ONE PURE STATEMENT of mosaiclaw32_TraceBack: yours. -/
def mosaiclaw32_TraceBack.Pure : Prop := ∀ (l0 : List (S47)) (a1 : ByteArray), l0.length ≤ maxLen → (∀ x ∈ l0, Q47 x) → a1.size ≤ 140737488351232 → ∃ k, mosaiclaw32_TraceBack.f k l0 a1 = some true

end Go.Proofs.Ytdiikokbdebedaa.P
