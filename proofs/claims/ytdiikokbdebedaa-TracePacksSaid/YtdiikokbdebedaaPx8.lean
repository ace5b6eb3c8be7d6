-- Written for this claim by the session's own turn of the kit's print program (wip/tools/xprint.py).
import Derived.Test.YtdiikokbdebedaaPx0
import Derived.Test.YtdiikokbdebedaaPx2
import Derived.Test.YtdiikokbdebedaaPx3
import Derived.Test.YtdiikokbdebedaaPx5
import Derived.Test.YtdiikokbdebedaaPx7
import Derived.Test.YtdiikokbdebedaaHd
namespace Go.Proofs.Ytdiikokbdebedaa.P
open Go.RowKit Go.Proofs.Ytdiikokbdebedaa.Sq Go.Proofs.Ytdiikokbdebedaa.Hand Go.Proofs.YtdiikokbdebedaaW.PrintWords Go.Proofs.YtdiikokbdebedaaW.PrintLast Go.Proofs.YtdiikokbdebedaaW.PrintMore
attribute [local go_sem] max2_int min2_int max_two min_two max_three min_three max_four min_four   -- for this text's walks alone
set_option linter.unusedVariables false
set_option linter.unusedSimpArgs false

/-! ### mosaiclaw32_TracePacks: function 3 -/
def mosaiclaw32_TracePacks.j0 : Nat → List (S47) → ByteArray → Bool → Option (Bool)
 | 0, _, _, _ => none
 | k + 1, x0, x1, x20 => if x20 = true then ((mosaiclaw32_awake.f k).bind fun t253 => (some t253)) else ((trace_Pack.f x0).bind fun bt254 => ((mosaiclaw32_refs.f k x0).bind fun t256 => ((mosaicref32_Pack.f k t256).bind fun bt259 => ((trace_Unpack.f k x1).bind fun bt261 => ((mosaicref32_Unpack.f k x1).bind fun bt265 => ((mosaiclaw32_awake.f k).bind fun t269 => (if t269 = true then (if bt254.1.toList = bt259.1.toList then (if bt254.2 = bt259.2 then ((mosaiclaw32_refs.f k bt261.1).bind fun t270 => ((mosaicref32_Same.f k t270 bt265.1).bind fun t273 => (if t273 = true then (if bt261.2 = bt265.2 then ((trace_Check.f x0).bind fun t274 => ((mosaiclaw32_refs.f k x0).bind fun t275 => ((mosaicref32_Check.f k t275).bind fun t278 => (some (t274 == t278))))) else (none)) else (none)))) else (none)) else (none)) else (none))))))))
def mosaiclaw32_TracePacks.f (k : Nat) (l0 : List (S47)) (a1 : ByteArray) : Option (Bool) := (mosaiclaw32_few.f k l0 100).bind fun t252 => (if t252 = true then (mosaiclaw32_TracePacks.j0 k l0 a1 (decide ((a1.size : Int) > 10000))) else (mosaiclaw32_TracePacks.j0 k l0 a1 true))
theorem mosaiclaw32_TracePacks.mono_l : ∀ k, (∀ y0 y1 y2, LeO (mosaiclaw32_TracePacks.j0 k y0 y1 y2) (mosaiclaw32_TracePacks.j0 (k + 1) y0 y1 y2))
 | 0 => fun _ _ _ r h => by simp [mosaiclaw32_TracePacks.j0] at h
 | k + 1 => by
  have ih0 := mosaiclaw32_TracePacks.mono_l k
  ·
   intro y0 y1 y2
   unfold mosaiclaw32_TracePacks.j0
   repeat' first
   | (with_reducible exact ih0 _ _ _)
   | (with_reducible exact mosaiclaw32_awake.mono _)
   | (with_reducible exact mosaiclaw32_few.mono _ _ _)
   | (with_reducible exact mosaiclaw32_refs.mono _ _)
   | (with_reducible exact mosaicref32_Check.mono _ _)
   | (with_reducible exact mosaicref32_Pack.mono _ _)
   | (with_reducible exact mosaicref32_Same.mono _ _ _)
   | (with_reducible exact mosaicref32_Unpack.mono _ _)
   | (with_reducible exact trace_Unpack.mono _ _)
   | (with_reducible exact LeO.refl _)
   | (with_reducible exact LeO.none _)
   | (with_reducible refine LeO.ite ?_ ?_)
   | (with_reducible refine LeO.bind ?_ (fun _ => ?_))
   | exact ih0 _ _ _
   | exact mosaiclaw32_awake.mono _
   | exact mosaiclaw32_few.mono _ _ _
   | exact mosaiclaw32_refs.mono _ _
   | exact mosaicref32_Check.mono _ _
   | exact mosaicref32_Pack.mono _ _
   | exact mosaicref32_Same.mono _ _ _
   | exact mosaicref32_Unpack.mono _ _
   | exact trace_Unpack.mono _ _
   | exact LeO.none _
   | refine LeO.ite ?_ ?_
   | refine LeO.bind ?_ (fun _ => ?_)
theorem mosaiclaw32_TracePacks.mono : ∀ a0 a1 k, LeO (mosaiclaw32_TracePacks.f k a0 a1) (mosaiclaw32_TracePacks.f (k + 1) a0 a1) := by
 intro a0 a1 k
 have ih0 := mosaiclaw32_TracePacks.mono_l k
 unfold mosaiclaw32_TracePacks.f
 repeat' first
   | (with_reducible exact ih0 _ _ _)
   | (with_reducible exact mosaiclaw32_awake.mono _)
   | (with_reducible exact mosaiclaw32_few.mono _ _ _)
   | (with_reducible exact mosaiclaw32_refs.mono _ _)
   | (with_reducible exact mosaicref32_Check.mono _ _)
   | (with_reducible exact mosaicref32_Pack.mono _ _)
   | (with_reducible exact mosaicref32_Same.mono _ _ _)
   | (with_reducible exact mosaicref32_Unpack.mono _ _)
   | (with_reducible exact trace_Unpack.mono _ _)
   | (with_reducible exact LeO.refl _)
   | (with_reducible exact LeO.none _)
   | (with_reducible refine LeO.ite ?_ ?_)
   | (with_reducible refine LeO.bind ?_ (fun _ => ?_))
   | exact ih0 _ _ _
   | exact mosaiclaw32_awake.mono _
   | exact mosaiclaw32_few.mono _ _ _
   | exact mosaiclaw32_refs.mono _ _
   | exact mosaicref32_Check.mono _ _
   | exact mosaicref32_Pack.mono _ _
   | exact mosaicref32_Same.mono _ _ _
   | exact mosaicref32_Unpack.mono _ _
   | exact trace_Unpack.mono _ _
   | exact LeO.none _
   | refine LeO.ite ?_ ?_
   | refine LeO.bind ?_ (fun _ => ?_)
set_option maxHeartbeats 8000000 in
set_option maxRecDepth 100000 in
theorem mosaiclaw32_TracePacks.calls (k : Nat) (A0 : Option Addr) (c0 : Nat) (l0 : List (S47)) (a1 : ByteArray) (r : Bool) (w : World) (hr0 : Kd.C k47 w A0 l0.length l0) (hc0 : l0.length ≤ c0) (h : mosaiclaw32_TracePacks.f k l0 a1 = some r) :
  Calls Try.prog 3 #[.slice A0 l0.length c0, .string a1] w fun e w' => e = .returned (.bool r) ∧ Below w.heap.size w w' := by
 have HR0 := Aside0.mk hr0
 have HC0 := Aside0.mk hc0
 clear hr0 hc0
 have HB := Aside0.mk (Below.refl w.heap.size w)
 have H : ((mosaiclaw32_few.f k l0 100).bind fun t252 => (if t252 = true then (mosaiclaw32_TracePacks.j0 k l0 a1 (decide ((a1.size : Int) > 10000))) else (mosaiclaw32_TracePacks.j0 k l0 a1 true))) = some r := h
 clear h
 have HC3 := Aside0.mk H
 clear H
 go_enter Try.func3, Try.ntmps3
 go_upto_region 1 with (fail)
 go_cut [20] (fun v20 wc => ∃ (kq : Nat) (x20_2 : Bool), v20 = .bool x20_2 ∧ Aside0 (mosaiclaw32_TracePacks.j0 kq l0 a1 x20_2 = some r) ∧ Aside0 (kq ≤ k) ∧ Aside0 (Below w.heap.size w wc))
 case first =>
  have H := HC3.out
  clear HC3
  replace H := Option.bind_eq_some_iff.mp H
  obtain ⟨t252, A40, H⟩ := H
  replace H : (if t252 = true then (mosaiclaw32_TracePacks.j0 k l0 a1 (decide ((a1.size : Int) > 10000))) else (mosaiclaw32_TracePacks.j0 k l0 a1 true)) = some r := H
  have A4 := Aside0.mk A40
  clear A40
  by_cases c5 : t252 = true
  ·
   subst c5
   have H1 : (mosaiclaw32_TracePacks.j0 k l0 a1 (decide ((a1.size : Int) > 10000))) = some r := by rw [if_pos rfl] at H; exact H
   clear H
   have H := H1
   clear H1
   have H' := Aside0.mk H
   clear H
   go_wp2_with (first | ((with_reducible refine gate_callee (f := 6) rfl ?_); refine goesL_ (some 14) rfl rfl Try.func6 (by kernel_rfl) rfl #[.slice A0 l0.length c0, .int .i64 100] rfl (by (try simp only [List.map_toArray, List.map_cons, List.map_nil]); first | done | rfl | (simp only [List.length_drop, List.length_take]; rfl)) ?_; (with_reducible refine (mosaiclaw32_few.calls k _ _ l0 100 true _ ?side1 ?side2 A4.out).mono ?_); (case side1 => repeat (first | exact (Kd.C_below HR0.out HB.out) | (with_reducible refine Kd.C_alloc ?_ _) | (with_reducible refine Kd.C_drewN ?_ _) | (with_reducible refine Kd.C_drew ?_))); (case side2 => exact HC0.out); rintro e w' ⟨rfl, ⟨nd, rfl⟩⟩; refine ⟨_, rfl, ?_⟩))
   go_meet
   case rel => exact ⟨_, (decide ((a1.size : Int) > 10000)), (by first | rfl | (simp; done) | (simp [*]; done)), H', ⟨by first | omega | exact Nat.le_refl _⟩, ⟨by repeat (first | (with_reducible first | exact HB.out | apply below_alloc | apply pw_below_drewN | apply below_drew1) | exact HB.out)⟩⟩
  ·
   replace c5 := Bool.eq_false_iff.mpr c5
   subst c5
   have H1 : (mosaiclaw32_TracePacks.j0 k l0 a1 true) = some r := by rw [if_neg (show ¬ (false = true) by decide)] at H; exact H
   clear H
   have H := H1
   clear H1
   have H' := Aside0.mk H
   clear H
   go_wp2_with (first | ((with_reducible refine gate_callee (f := 6) rfl ?_); refine goesL_ (some 14) rfl rfl Try.func6 (by kernel_rfl) rfl #[.slice A0 l0.length c0, .int .i64 100] rfl (by (try simp only [List.map_toArray, List.map_cons, List.map_nil]); first | done | rfl | (simp only [List.length_drop, List.length_take]; rfl)) ?_; (with_reducible refine (mosaiclaw32_few.calls k _ _ l0 100 false _ ?side1 ?side2 A4.out).mono ?_); (case side1 => repeat (first | exact (Kd.C_below HR0.out HB.out) | (with_reducible refine Kd.C_alloc ?_ _) | (with_reducible refine Kd.C_drewN ?_ _) | (with_reducible refine Kd.C_drew ?_))); (case side2 => exact HC0.out); rintro e w' ⟨rfl, ⟨nd, rfl⟩⟩; refine ⟨_, rfl, ?_⟩))
   go_meet
   case rel => exact ⟨_, (true), (by first | rfl | (simp; done) | (simp [*]; done)), H', ⟨by first | omega | exact Nat.le_refl _⟩, ⟨by repeat (first | (with_reducible first | exact HB.out | apply below_alloc | apply pw_below_drewN | apply below_drew1) | exact HB.out)⟩⟩
 case rest =>
  clear HC3
  try clear p2
  try clear c3
  try clear c5
  obtain ⟨kq, x20_2, rfl, HA, HJ2, HB⟩ := hcut
  cases kq with
  | zero => exact absurd HA.out (by simp [mosaiclaw32_TracePacks.j0])
  | succ kj2 =>
   have H := HA.out
   clear HA
   simp only [mosaiclaw32_TracePacks.j0] at H
   by_cases c6 : x20_2 = true
   ·
    subst c6
    have H1 : ((mosaiclaw32_awake.f kj2).bind fun t253 => (some t253)) = some r := by rw [if_pos rfl] at H; exact H
    clear H
    have H := H1
    clear H1
    replace H := Option.bind_eq_some_iff.mp H
    obtain ⟨t253, A70, H⟩ := H
    replace H : (some t253) = some r := H
    have A7 := Aside0.mk A70
    clear A70
    obtain rfl := Option.some.inj H
    go_wp2_with (first | ((with_reducible refine gate_callee (f := 7) rfl ?_); refine goesL_ (some 21) rfl rfl Try.func7 (by kernel_rfl) rfl #[] rfl (by (try simp only [List.map_toArray, List.map_cons, List.map_nil]); first | done | rfl | (simp only [List.length_drop, List.length_take]; rfl)) ?_; (with_reducible refine (mosaiclaw32_awake.calls kj2  t253 _ A7.out).mono ?_); rintro e w8 ⟨rfl, hb⟩; refine ⟨_, rfl, ?_⟩; have n0_ := Aside0.mk (below_step (by repeat (first | (with_reducible first | exact HB.out | apply below_alloc | apply pw_below_drewN | apply below_drew1) | exact HB.out)) hb); clear HB; have HB := n0_; clear n0_; (try clear hb); (try clear hb2); (try clear hk); (try clear hi)))
    go_ret
    exact ⟨by first | rfl | (simp [errW_none, errW_some] <;> rfl) | (simp [*, errW_none, errW_some] <;> rfl), by repeat (first | (with_reducible first | exact HB.out | apply below_alloc | apply pw_below_drewN | apply below_drew1) | exact HB.out)⟩
   ·
    replace c6 := Bool.eq_false_iff.mpr c6
    subst c6
    have H1 : ((trace_Pack.f l0).bind fun bt254 => ((mosaiclaw32_refs.f kj2 l0).bind fun t256 => ((mosaicref32_Pack.f kj2 t256).bind fun bt259 => ((trace_Unpack.f kj2 a1).bind fun bt261 => ((mosaicref32_Unpack.f kj2 a1).bind fun bt265 => ((mosaiclaw32_awake.f kj2).bind fun t269 => (if t269 = true then (if bt254.1.toList = bt259.1.toList then (if bt254.2 = bt259.2 then ((mosaiclaw32_refs.f kj2 bt261.1).bind fun t270 => ((mosaicref32_Same.f kj2 t270 bt265.1).bind fun t273 => (if t273 = true then (if bt261.2 = bt265.2 then ((trace_Check.f l0).bind fun t274 => ((mosaiclaw32_refs.f kj2 l0).bind fun t275 => ((mosaicref32_Check.f kj2 t275).bind fun t278 => (some (t274 == t278))))) else (none)) else (none)))) else (none)) else (none)) else (none)))))))) = some r := by rw [if_neg (show ¬ (false = true) by decide)] at H; exact H
    clear H
    have H := H1
    clear H1
    replace H := Option.bind_eq_some_iff.mp H
    obtain ⟨⟨t254, t255⟩, A90, H⟩ := H
    replace H : ((mosaiclaw32_refs.f kj2 l0).bind fun t256 => ((mosaicref32_Pack.f kj2 t256).bind fun bt259 => ((trace_Unpack.f kj2 a1).bind fun bt261 => ((mosaicref32_Unpack.f kj2 a1).bind fun bt265 => ((mosaiclaw32_awake.f kj2).bind fun t269 => (if t269 = true then (if t254.toList = bt259.1.toList then (if t255 = bt259.2 then ((mosaiclaw32_refs.f kj2 bt261.1).bind fun t270 => ((mosaicref32_Same.f kj2 t270 bt265.1).bind fun t273 => (if t273 = true then (if bt261.2 = bt265.2 then ((trace_Check.f l0).bind fun t274 => ((mosaiclaw32_refs.f kj2 l0).bind fun t275 => ((mosaicref32_Check.f kj2 t275).bind fun t278 => (some (t274 == t278))))) else (none)) else (none)))) else (none)) else (none)) else (none))))))) = some r := H
    have A9 := Aside0.mk A90
    clear A90
    replace H := Option.bind_eq_some_iff.mp H
    obtain ⟨t256, A100, H⟩ := H
    replace H : ((mosaicref32_Pack.f kj2 t256).bind fun bt259 => ((trace_Unpack.f kj2 a1).bind fun bt261 => ((mosaicref32_Unpack.f kj2 a1).bind fun bt265 => ((mosaiclaw32_awake.f kj2).bind fun t269 => (if t269 = true then (if t254.toList = bt259.1.toList then (if t255 = bt259.2 then ((mosaiclaw32_refs.f kj2 bt261.1).bind fun t270 => ((mosaicref32_Same.f kj2 t270 bt265.1).bind fun t273 => (if t273 = true then (if bt261.2 = bt265.2 then ((trace_Check.f l0).bind fun t274 => ((mosaiclaw32_refs.f kj2 l0).bind fun t275 => ((mosaicref32_Check.f kj2 t275).bind fun t278 => (some (t274 == t278))))) else (none)) else (none)))) else (none)) else (none)) else (none)))))) = some r := H
    have A10 := Aside0.mk A100
    clear A100
    replace H := Option.bind_eq_some_iff.mp H
    obtain ⟨⟨t259, t260⟩, A110, H⟩ := H
    replace H : ((trace_Unpack.f kj2 a1).bind fun bt261 => ((mosaicref32_Unpack.f kj2 a1).bind fun bt265 => ((mosaiclaw32_awake.f kj2).bind fun t269 => (if t269 = true then (if t254.toList = t259.toList then (if t255 = t260 then ((mosaiclaw32_refs.f kj2 bt261.1).bind fun t270 => ((mosaicref32_Same.f kj2 t270 bt265.1).bind fun t273 => (if t273 = true then (if bt261.2 = bt265.2 then ((trace_Check.f l0).bind fun t274 => ((mosaiclaw32_refs.f kj2 l0).bind fun t275 => ((mosaicref32_Check.f kj2 t275).bind fun t278 => (some (t274 == t278))))) else (none)) else (none)))) else (none)) else (none)) else (none))))) = some r := H
    have A11 := Aside0.mk A110
    clear A110
    replace H := Option.bind_eq_some_iff.mp H
    obtain ⟨⟨t261, t262⟩, A120, H⟩ := H
    replace H : ((mosaicref32_Unpack.f kj2 a1).bind fun bt265 => ((mosaiclaw32_awake.f kj2).bind fun t269 => (if t269 = true then (if t254.toList = t259.toList then (if t255 = t260 then ((mosaiclaw32_refs.f kj2 t261).bind fun t270 => ((mosaicref32_Same.f kj2 t270 bt265.1).bind fun t273 => (if t273 = true then (if t262 = bt265.2 then ((trace_Check.f l0).bind fun t274 => ((mosaiclaw32_refs.f kj2 l0).bind fun t275 => ((mosaicref32_Check.f kj2 t275).bind fun t278 => (some (t274 == t278))))) else (none)) else (none)))) else (none)) else (none)) else (none)))) = some r := H
    have A12 := Aside0.mk A120
    clear A120
    replace H := Option.bind_eq_some_iff.mp H
    obtain ⟨⟨t265, t266⟩, A130, H⟩ := H
    replace H : ((mosaiclaw32_awake.f kj2).bind fun t269 => (if t269 = true then (if t254.toList = t259.toList then (if t255 = t260 then ((mosaiclaw32_refs.f kj2 t261).bind fun t270 => ((mosaicref32_Same.f kj2 t270 t265).bind fun t273 => (if t273 = true then (if t262 = t266 then ((trace_Check.f l0).bind fun t274 => ((mosaiclaw32_refs.f kj2 l0).bind fun t275 => ((mosaicref32_Check.f kj2 t275).bind fun t278 => (some (t274 == t278))))) else (none)) else (none)))) else (none)) else (none)) else (none))) = some r := H
    have A13 := Aside0.mk A130
    clear A130
    replace H := Option.bind_eq_some_iff.mp H
    obtain ⟨t269, A140, H⟩ := H
    replace H : (if t269 = true then (if t254.toList = t259.toList then (if t255 = t260 then ((mosaiclaw32_refs.f kj2 t261).bind fun t270 => ((mosaicref32_Same.f kj2 t270 t265).bind fun t273 => (if t273 = true then (if t262 = t266 then ((trace_Check.f l0).bind fun t274 => ((mosaiclaw32_refs.f kj2 l0).bind fun t275 => ((mosaicref32_Check.f kj2 t275).bind fun t278 => (some (t274 == t278))))) else (none)) else (none)))) else (none)) else (none)) else (none)) = some r := H
    have A14 := Aside0.mk A140
    clear A140
    by_cases c15 : t269 = true
    ·
     subst c15
     have H1 : (if t254.toList = t259.toList then (if t255 = t260 then ((mosaiclaw32_refs.f kj2 t261).bind fun t270 => ((mosaicref32_Same.f kj2 t270 t265).bind fun t273 => (if t273 = true then (if t262 = t266 then ((trace_Check.f l0).bind fun t274 => ((mosaiclaw32_refs.f kj2 l0).bind fun t275 => ((mosaicref32_Check.f kj2 t275).bind fun t278 => (some (t274 == t278))))) else (none)) else (none)))) else (none)) else (none)) = some r := by rw [if_pos rfl] at H; exact H
     clear H
     have H := H1
     clear H1
     by_cases c16 : t254.toList = t259.toList
     ·
      rw [if_pos c16] at H
      have c16b0 : (t254.toList == t259.toList) = true := beq_iff_eq.mpr c16
      have c16b1 : (t254.toList != t259.toList) = false := bne_eq_false_iff_eq.mpr c16
      clear c16
      by_cases c17 : t255 = t260
      ·
       rw [if_pos c17] at H
       have c17b0 : (t255 == t260) = true := beq_iff_eq.mpr c17
       have c17b1 : (t255 != t260) = false := bne_eq_false_iff_eq.mpr c17
       clear c17
       replace H := Option.bind_eq_some_iff.mp H
       obtain ⟨t270, A180, H⟩ := H
       replace H : ((mosaicref32_Same.f kj2 t270 t265).bind fun t273 => (if t273 = true then (if t262 = t266 then ((trace_Check.f l0).bind fun t274 => ((mosaiclaw32_refs.f kj2 l0).bind fun t275 => ((mosaicref32_Check.f kj2 t275).bind fun t278 => (some (t274 == t278))))) else (none)) else (none))) = some r := H
       have A18 := Aside0.mk A180
       clear A180
       replace H := Option.bind_eq_some_iff.mp H
       obtain ⟨t273, A190, H⟩ := H
       replace H : (if t273 = true then (if t262 = t266 then ((trace_Check.f l0).bind fun t274 => ((mosaiclaw32_refs.f kj2 l0).bind fun t275 => ((mosaicref32_Check.f kj2 t275).bind fun t278 => (some (t274 == t278))))) else (none)) else (none)) = some r := H
       have A19 := Aside0.mk A190
       clear A190
       by_cases c20 : t273 = true
       ·
        subst c20
        have H1 : (if t262 = t266 then ((trace_Check.f l0).bind fun t274 => ((mosaiclaw32_refs.f kj2 l0).bind fun t275 => ((mosaicref32_Check.f kj2 t275).bind fun t278 => (some (t274 == t278))))) else (none)) = some r := by rw [if_pos rfl] at H; exact H
        clear H
        have H := H1
        clear H1
        by_cases c21 : t262 = t266
        ·
         rw [if_pos c21] at H
         have c21b0 : (t262 == t266) = true := beq_iff_eq.mpr c21
         have c21b1 : (t262 != t266) = false := bne_eq_false_iff_eq.mpr c21
         clear c21
         replace H := Option.bind_eq_some_iff.mp H
         obtain ⟨t274, A220, H⟩ := H
         replace H : ((mosaiclaw32_refs.f kj2 l0).bind fun t275 => ((mosaicref32_Check.f kj2 t275).bind fun t278 => (some (t274 == t278)))) = some r := H
         have A22 := Aside0.mk A220
         clear A220
         replace H := Option.bind_eq_some_iff.mp H
         obtain ⟨t275, A230, H⟩ := H
         replace H : ((mosaicref32_Check.f kj2 t275).bind fun t278 => (some (t274 == t278))) = some r := H
         have A23 := Aside0.mk A230
         clear A230
         replace H := Option.bind_eq_some_iff.mp H
         obtain ⟨t278, A240, H⟩ := H
         replace H : (some (t274 == t278)) = some r := H
         have A24 := Aside0.mk A240
         clear A240
         obtain rfl := Option.some.inj H
         go_wp2_with (first | ((with_reducible refine gate_callee (f := 8) rfl ?_); refine goesL_ (some 24) rfl rfl Try.func8 (by kernel_rfl) rfl #[.slice A0 l0.length c0] rfl (by (try simp only [List.map_toArray, List.map_cons, List.map_nil]); first | done | rfl | (simp only [List.length_drop, List.length_take]; rfl)) ?_; (with_reducible refine (trace_Pack.calls _ _ l0 t254 t255 _ ?side1 ?side2 A9.out).mono ?_); (case side1 => repeat (first | exact (Kd.C_below HR0.out HB.out) | (with_reducible refine Kd.C_alloc ?_ _) | (with_reducible refine Kd.C_drewN ?_ _) | (with_reducible refine Kd.C_drew ?_))); (case side2 => exact HC0.out); rintro e w25 ⟨rfl, hb⟩; refine ⟨_, rfl, ?_⟩; have n0_ := Aside0.mk (below_step (by repeat (first | (with_reducible first | exact HB.out | apply below_alloc | apply pw_below_drewN | apply below_drew1) | exact HB.out)) hb); clear HB; have HB := n0_; clear n0_; (try clear hb); (try clear hb2); (try clear hk); (try clear hi)) | ((with_reducible refine gate_callee (f := 10) rfl ?_); refine goesL_ (some 29) rfl rfl Try.func10 (by kernel_rfl) rfl #[.slice A0 l0.length c0] rfl (by (try simp only [List.map_toArray, List.map_cons, List.map_nil]); first | done | rfl | (simp only [List.length_drop, List.length_take]; rfl)) ?_; (with_reducible refine (mosaiclaw32_refs.calls kj2 _ _ l0 t256 _ ?side1 ?side2 A10.out).mono ?_); (case side1 => repeat (first | exact (Kd.C_below HR0.out HB.out) | (with_reducible refine Kd.C_alloc ?_ _) | (with_reducible refine Kd.C_drewN ?_ _) | (with_reducible refine Kd.C_drew ?_))); (case side2 => exact HC0.out); rintro e w26 ⟨v257, rfl, ho0, hb⟩; refine ⟨_, rfl, ?_⟩; have n0_ := Aside0.mk (Kd.R_lower ho0 (below_size (by repeat (first | (with_reducible first | exact HB.out | apply below_alloc | apply pw_below_drewN | apply below_drew1) | exact HB.out)))); have n1_ := Aside0.mk (below_step (by repeat (first | (with_reducible first | exact HB.out | apply below_alloc | apply pw_below_drewN | apply below_drew1) | exact HB.out)) hb); clear HB; have HO258 := n0_; have HB := n1_; clear n0_ n1_; (try clear hb); (try clear hb2); (try clear hk); (try clear hi); (try clear ho0); obtain ⟨Ao27, co27, eo27⟩ := Kd.R_slice HO258.out; subst eo27) | ((with_reducible refine gate_callee (f := 9) rfl ?_); refine goesL_ (some 30) rfl rfl Try.func9 (by kernel_rfl) rfl #[.slice Ao27 t256.length co27] rfl (by (try simp only [List.map_toArray, List.map_cons, List.map_nil]); first | done | rfl | (simp only [List.length_drop, List.length_take]; rfl)) ?_; (with_reducible refine (mosaicref32_Pack.calls kj2 _ _ t256 t259 t260 _ ?side1 ?side2 A11.out).mono ?_); (case side1 => repeat (first | exact (Kd.R_reads' HO258.out).2.2 | (with_reducible refine Kd.C_alloc ?_ _) | (with_reducible refine Kd.C_drewN ?_ _) | (with_reducible refine Kd.C_drew ?_))); (case side2 => exact (Kd.R_reads' HO258.out).2.1); rintro e w28 ⟨rfl, hb⟩; refine ⟨_, rfl, ?_⟩; have n0_ := Aside0.mk (Kd.R_below (by (with_reducible repeat (first | apply Kd.R_alloc | apply Kd.R_drewN | apply Kd.R_drew)); exact HO258.out) hb); have n1_ := Aside0.mk (below_step (by repeat (first | (with_reducible first | exact HB.out | apply below_alloc | apply pw_below_drewN | apply below_drew1) | exact HB.out)) hb); clear HO258; clear HB; have HO258 := n0_; have HB := n1_; clear n0_ n1_; (try clear hb); (try clear hb2); (try clear hk); (try clear hi)) | ((with_reducible refine gate_callee (f := 11) rfl ?_); refine goesL_ (some 35) rfl rfl Try.func11 (by kernel_rfl) rfl #[.string a1] rfl (by (try simp only [List.map_toArray, List.map_cons, List.map_nil]); first | done | rfl | (simp only [List.length_drop, List.length_take]; rfl)) ?_; (with_reducible refine (trace_Unpack.calls kj2 a1 t261 t262 _ A12.out).mono ?_); rintro e w29 ⟨v263, rfl, ho0, hb⟩; refine ⟨_, rfl, ?_⟩; have n0_ := Aside0.mk (Kd.R_below (by (with_reducible repeat (first | apply Kd.R_alloc | apply Kd.R_drewN | apply Kd.R_drew)); exact HO258.out) hb); have n1_ := Aside0.mk (Kd.R_lower ho0 (below_size (by repeat (first | (with_reducible first | exact HB.out | apply below_alloc | apply pw_below_drewN | apply below_drew1) | exact HB.out)))); have n2_ := Aside0.mk (below_step (by repeat (first | (with_reducible first | exact HB.out | apply below_alloc | apply pw_below_drewN | apply below_drew1) | exact HB.out)) hb); clear HO258; clear HB; have HO258 := n0_; have HO264 := n1_; have HB := n2_; clear n0_ n1_ n2_; (try clear hb); (try clear hb2); (try clear hk); (try clear hi); (try clear ho0)) | ((with_reducible refine gate_callee (f := 12) rfl ?_); refine goesL_ (some 40) rfl rfl Try.func12 (by kernel_rfl) rfl #[.string a1] rfl (by (try simp only [List.map_toArray, List.map_cons, List.map_nil]); first | done | rfl | (simp only [List.length_drop, List.length_take]; rfl)) ?_; (with_reducible refine (mosaicref32_Unpack.calls kj2 a1 t265 t266 _ A13.out).mono ?_); rintro e w30 ⟨v267, rfl, ho0, hb⟩; refine ⟨_, rfl, ?_⟩; have n0_ := Aside0.mk (Kd.R_elder' (by (with_reducible repeat (first | apply Kd.R_alloc | apply Kd.R_drewN | apply Kd.R_drew)); exact HO258.out) (Kd.R_base ho0) hb); have n1_ := Aside0.mk (Kd.R_below (by (with_reducible repeat (first | apply Kd.R_alloc | apply Kd.R_drewN | apply Kd.R_drew)); exact HO264.out) hb); have n2_ := Aside0.mk (Kd.R_lower (Kd.R_new' ho0 (Kd.R_lt (by (with_reducible repeat (first | apply Kd.R_alloc | apply Kd.R_drewN | apply Kd.R_drew)); exact HO258.out))) (below_size (by repeat (first | (with_reducible first | exact HB.out | apply below_alloc | apply pw_below_drewN | apply below_drew1) | exact HB.out)))); have n3_ := Aside0.mk (below_step (by repeat (first | (with_reducible first | exact HB.out | apply below_alloc | apply pw_below_drewN | apply below_drew1) | exact HB.out)) hb); clear HO258; clear HO264; clear HB; have HO258 := n0_; have HO264 := n1_; have HO268 := n2_; have HB := n3_; clear n0_ n1_ n2_ n3_; (try clear hb); (try clear hb2); (try clear hk); (try clear hi); (try clear ho0)) | ((with_reducible refine gate_callee (f := 7) rfl ?_); refine goesL_ (some 43) rfl rfl Try.func7 (by kernel_rfl) rfl #[] rfl (by (try simp only [List.map_toArray, List.map_cons, List.map_nil]); first | done | rfl | (simp only [List.length_drop, List.length_take]; rfl)) ?_; (with_reducible refine (mosaiclaw32_awake.calls kj2  true _ A14.out).mono ?_); rintro e w31 ⟨rfl, hb⟩; refine ⟨_, rfl, ?_⟩; have n0_ := Aside0.mk (Kd.R_below (by (with_reducible repeat (first | apply Kd.R_alloc | apply Kd.R_drewN | apply Kd.R_drew)); exact HO258.out) hb); have n1_ := Aside0.mk (Kd.R_below (by (with_reducible repeat (first | apply Kd.R_alloc | apply Kd.R_drewN | apply Kd.R_drew)); exact HO264.out) hb); have n2_ := Aside0.mk (Kd.R_below (by (with_reducible repeat (first | apply Kd.R_alloc | apply Kd.R_drewN | apply Kd.R_drew)); exact HO268.out) hb); have n3_ := Aside0.mk (below_step (by repeat (first | (with_reducible first | exact HB.out | apply below_alloc | apply pw_below_drewN | apply below_drew1) | exact HB.out)) hb); clear HO258; clear HO264; clear HO268; clear HB; have HO258 := n0_; have HO264 := n1_; have HO268 := n2_; have HB := n3_; clear n0_ n1_ n2_ n3_; (try clear hb); (try clear hb2); (try clear hk); (try clear hi); obtain ⟨Ao32, co32, eo32⟩ := Kd.R_slice HO264.out; subst eo32) | (go_at_call 10; (with_reducible refine (mosaiclaw32_refs.calls kj2 _ _ t261 t270 _ ?side1 ?side2 A18.out).mono ?_); (case side1 => repeat (first | exact (Kd.R_reads' HO264.out).2.2 | (with_reducible refine Kd.C_alloc ?_ _) | (with_reducible refine Kd.C_drewN ?_ _) | (with_reducible refine Kd.C_drew ?_))); (case side2 => exact (Kd.R_reads' HO264.out).2.1); rintro e w33 ⟨v271, rfl, ho0, hb⟩; have n0_ := Aside0.mk (Kd.R_elder' (by (with_reducible repeat (first | apply Kd.R_alloc | apply Kd.R_drewN | apply Kd.R_drew)); exact HO258.out) (Kd.R_base ho0) hb); have n1_ := Aside0.mk (Kd.R_below (by (with_reducible repeat (first | apply Kd.R_alloc | apply Kd.R_drewN | apply Kd.R_drew)); exact HO264.out) hb); have n2_ := Aside0.mk (Kd.R_elder' (by (with_reducible repeat (first | apply Kd.R_alloc | apply Kd.R_drewN | apply Kd.R_drew)); exact HO268.out) (Kd.R_base ho0) hb); have n3_ := Aside0.mk (Kd.R_lower (Kd.R_new' (Kd.R_new' ho0 (Kd.R_lt (by (with_reducible repeat (first | apply Kd.R_alloc | apply Kd.R_drewN | apply Kd.R_drew)); exact HO258.out))) (Kd.R_lt (by (with_reducible repeat (first | apply Kd.R_alloc | apply Kd.R_drewN | apply Kd.R_drew)); exact HO268.out))) (below_size (by repeat (first | (with_reducible first | exact HB.out | apply below_alloc | apply pw_below_drewN | apply below_drew1) | exact HB.out)))); have n4_ := Aside0.mk (below_step (by repeat (first | (with_reducible first | exact HB.out | apply below_alloc | apply pw_below_drewN | apply below_drew1) | exact HB.out)) hb); clear HO258; clear HO264; clear HO268; clear HB; have HO258 := n0_; have HO264 := n1_; have HO268 := n2_; have HO272 := n3_; have HB := n4_; clear n0_ n1_ n2_ n3_ n4_; (try clear hb); (try clear hb2); (try clear hk); (try clear hi); (try clear ho0); obtain ⟨Ao34, co34, eo34⟩ := Kd.R_slice HO272.out; subst eo34; obtain ⟨Ao35, co35, eo35⟩ := Kd.R_slice HO268.out; subst eo35) | (go_at_call 13; (with_reducible refine (mosaicref32_Same.calls kj2 _ _ t270 _ _ t265 true _ ?side1 ?side2 ?side3 ?side4 A19.out).mono ?_); (case side1 => repeat (first | exact (Kd.R_reads' HO272.out).2.2 | (with_reducible refine Kd.C_alloc ?_ _) | (with_reducible refine Kd.C_drewN ?_ _) | (with_reducible refine Kd.C_drew ?_))); (case side2 => exact (Kd.R_reads' HO272.out).2.1); (case side3 => repeat (first | exact (Kd.R_reads' HO268.out).2.2 | (with_reducible refine Kd.C_alloc ?_ _) | (with_reducible refine Kd.C_drewN ?_ _) | (with_reducible refine Kd.C_drew ?_))); (case side4 => exact (Kd.R_reads' HO268.out).2.1); rintro e w' ⟨rfl, ⟨nd, rfl⟩⟩) | (go_at_call 14; (with_reducible refine (trace_Check.calls _ _ l0 t274 _ ?side1 ?side2 A22.out).mono ?_); (case side1 => repeat (first | exact (Kd.C_below HR0.out (by repeat (first | (with_reducible first | exact HB.out | apply below_alloc | apply pw_below_drewN | apply below_drew1) | exact HB.out))) | (with_reducible refine Kd.C_alloc ?_ _) | (with_reducible refine Kd.C_drewN ?_ _) | (with_reducible refine Kd.C_drew ?_))); (case side2 => exact HC0.out); rintro e w36 ⟨rfl, hb⟩; have n0_ := Aside0.mk (Kd.R_below (by (with_reducible repeat (first | apply Kd.R_alloc | apply Kd.R_drewN | apply Kd.R_drew)); exact HO258.out) hb); have n1_ := Aside0.mk (Kd.R_below (by (with_reducible repeat (first | apply Kd.R_alloc | apply Kd.R_drewN | apply Kd.R_drew)); exact HO264.out) hb); have n2_ := Aside0.mk (Kd.R_below (by (with_reducible repeat (first | apply Kd.R_alloc | apply Kd.R_drewN | apply Kd.R_drew)); exact HO268.out) hb); have n3_ := Aside0.mk (Kd.R_below (by (with_reducible repeat (first | apply Kd.R_alloc | apply Kd.R_drewN | apply Kd.R_drew)); exact HO272.out) hb); have n4_ := Aside0.mk (below_step (by repeat (first | (with_reducible first | exact HB.out | apply below_alloc | apply pw_below_drewN | apply below_drew1) | exact HB.out)) hb); clear HO258; clear HO264; clear HO268; clear HO272; clear HB; have HO258 := n0_; have HO264 := n1_; have HO268 := n2_; have HO272 := n3_; have HB := n4_; clear n0_ n1_ n2_ n3_ n4_; (try clear hb); (try clear hb2); (try clear hk); (try clear hi)) | (go_at_call 10; (with_reducible refine (mosaiclaw32_refs.calls kj2 _ _ l0 t275 _ ?side1 ?side2 A23.out).mono ?_); (case side1 => repeat (first | exact (Kd.C_below HR0.out HB.out) | (with_reducible refine Kd.C_alloc ?_ _) | (with_reducible refine Kd.C_drewN ?_ _) | (with_reducible refine Kd.C_drew ?_))); (case side2 => exact HC0.out); rintro e w37 ⟨v276, rfl, ho0, hb⟩; have n0_ := Aside0.mk (Kd.R_elder' (by (with_reducible repeat (first | apply Kd.R_alloc | apply Kd.R_drewN | apply Kd.R_drew)); exact HO258.out) (Kd.R_base ho0) hb); have n1_ := Aside0.mk (Kd.R_below (by (with_reducible repeat (first | apply Kd.R_alloc | apply Kd.R_drewN | apply Kd.R_drew)); exact HO264.out) hb); have n2_ := Aside0.mk (Kd.R_elder' (by (with_reducible repeat (first | apply Kd.R_alloc | apply Kd.R_drewN | apply Kd.R_drew)); exact HO268.out) (Kd.R_base ho0) hb); have n3_ := Aside0.mk (Kd.R_elder' (by (with_reducible repeat (first | apply Kd.R_alloc | apply Kd.R_drewN | apply Kd.R_drew)); exact HO272.out) (Kd.R_base ho0) hb); have n4_ := Aside0.mk (Kd.R_lower (Kd.R_new' (Kd.R_new' (Kd.R_new' ho0 (Kd.R_lt (by (with_reducible repeat (first | apply Kd.R_alloc | apply Kd.R_drewN | apply Kd.R_drew)); exact HO258.out))) (Kd.R_lt (by (with_reducible repeat (first | apply Kd.R_alloc | apply Kd.R_drewN | apply Kd.R_drew)); exact HO268.out))) (Kd.R_lt (by (with_reducible repeat (first | apply Kd.R_alloc | apply Kd.R_drewN | apply Kd.R_drew)); exact HO272.out))) (below_size (by repeat (first | (with_reducible first | exact HB.out | apply below_alloc | apply pw_below_drewN | apply below_drew1) | exact HB.out)))); have n5_ := Aside0.mk (below_step (by repeat (first | (with_reducible first | exact HB.out | apply below_alloc | apply pw_below_drewN | apply below_drew1) | exact HB.out)) hb); clear HO258; clear HO264; clear HO268; clear HO272; clear HB; have HO258 := n0_; have HO264 := n1_; have HO268 := n2_; have HO272 := n3_; have HO277 := n4_; have HB := n5_; clear n0_ n1_ n2_ n3_ n4_ n5_; (try clear hb); (try clear hb2); (try clear hk); (try clear hi); (try clear ho0); obtain ⟨Ao38, co38, eo38⟩ := Kd.R_slice HO277.out; subst eo38) | (go_at_call 15; (with_reducible refine (mosaicref32_Check.calls kj2 _ _ t275 t278 _ ?side1 ?side2 A24.out).mono ?_); (case side1 => repeat (first | exact (Kd.R_reads' HO277.out).2.2 | (with_reducible refine Kd.C_alloc ?_ _) | (with_reducible refine Kd.C_drewN ?_ _) | (with_reducible refine Kd.C_drew ?_))); (case side2 => exact (Kd.R_reads' HO277.out).2.1); rintro e w39 ⟨rfl, hb⟩; have n0_ := Aside0.mk (Kd.R_below (by (with_reducible repeat (first | apply Kd.R_alloc | apply Kd.R_drewN | apply Kd.R_drew)); exact HO258.out) hb); have n1_ := Aside0.mk (Kd.R_below (by (with_reducible repeat (first | apply Kd.R_alloc | apply Kd.R_drewN | apply Kd.R_drew)); exact HO264.out) hb); have n2_ := Aside0.mk (Kd.R_below (by (with_reducible repeat (first | apply Kd.R_alloc | apply Kd.R_drewN | apply Kd.R_drew)); exact HO268.out) hb); have n3_ := Aside0.mk (Kd.R_below (by (with_reducible repeat (first | apply Kd.R_alloc | apply Kd.R_drewN | apply Kd.R_drew)); exact HO272.out) hb); have n4_ := Aside0.mk (Kd.R_below (by (with_reducible repeat (first | apply Kd.R_alloc | apply Kd.R_drewN | apply Kd.R_drew)); exact HO277.out) hb); have n5_ := Aside0.mk (below_step (by repeat (first | (with_reducible first | exact HB.out | apply below_alloc | apply pw_below_drewN | apply below_drew1) | exact HB.out)) hb); clear HO258; clear HO264; clear HO268; clear HO272; clear HO277; clear HB; have HO258 := n0_; have HO264 := n1_; have HO268 := n2_; have HO272 := n3_; have HO277 := n4_; have HB := n5_; clear n0_ n1_ n2_ n3_ n4_ n5_; (try clear hb); (try clear hb2); (try clear hk); (try clear hi)))
         go_ret
         exact ⟨by first | rfl | (simp [errW_none, errW_some] <;> rfl) | (simp [*, errW_none, errW_some] <;> rfl), by repeat (first | (with_reducible first | exact HB.out | apply below_alloc | apply pw_below_drewN | apply below_drew1) | exact HB.out)⟩
        ·
         rw [if_neg c21] at H
         exact absurd H (by simp)
       ·
        replace c20 := Bool.eq_false_iff.mpr c20
        subst c20
        have H1 : (none) = some r := by rw [if_neg (show ¬ (false = true) by decide)] at H; exact H
        clear H
        have H := H1
        clear H1
        exact absurd H (by simp)
      ·
       rw [if_neg c17] at H
       exact absurd H (by simp)
     ·
      rw [if_neg c16] at H
      exact absurd H (by simp)
    ·
     replace c15 := Bool.eq_false_iff.mpr c15
     subst c15
     have H1 : (none) = some r := by rw [if_neg (show ¬ (false = true) by decide)] at H; exact H
     clear H
     have H := H1
     clear H1
     exact absurd H (by simp)

/-- THE ONE PURE STATEMENT of mosaiclaw32_TracePacks: yours. -/
def mosaiclaw32_TracePacks.Pure : Prop := ∀ (l0 : List (S47)) (a1 : ByteArray), l0.length ≤ maxLen → (∀ x ∈ l0, Q47 x) → a1.size ≤ 140737488351232 → ∃ k, mosaiclaw32_TracePacks.f k l0 a1 = some true

/-! ### mosaiclaw32_TraceBack: function 4 -/
mutual
def mosaiclaw32_TraceBack.j0 : Nat → List (S47) → ByteArray → Bool → Option (Bool)
 | 0, _, _, _ => none
 | k + 1, x0, x1, x20 => if x20 = true then ((mosaiclaw32_awake.f k).bind fun t280 => (some t280)) else ((trace_Pack.f x0).bind fun bt281 => (if bt281.2 = 0 then ((trace_Unpack.f k bt281.1).bind fun bt283 => (if bt283.2 = 0 then ((mosaiclaw32_refs.f k bt283.1).bind fun t287 => ((mosaiclaw32_refs.f k x0).bind fun t290 => ((mosaicref32_Same.f k t287 t290).bind fun t293 => (if t293 = true then (mosaiclaw32_TraceBack.j1 k x1) else (none))))) else (none))) else (mosaiclaw32_TraceBack.j1 k x1)))
def mosaiclaw32_TraceBack.j1 : Nat → ByteArray → Option (Bool)
 | 0, _ => none
 | k + 1, x1 => (trace_Unpack.f k x1).bind fun bt294 => (if bt294.2 = 0 then ((trace_Pack.f bt294.1).bind fun bt298 => ((mosaiclaw32_awake.f k).bind fun t300 => (if t300 = true then (if bt298.2 = 0 then (some (bt298.1.toList == x1.toList)) else (none)) else (none)))) else ((mosaiclaw32_awake.f k).bind fun t301 => (some t301)))
end
def mosaiclaw32_TraceBack.f (k : Nat) (l0 : List (S47)) (a1 : ByteArray) : Option (Bool) := (mosaiclaw32_few.f k l0 100).bind fun t279 => (if t279 = true then (mosaiclaw32_TraceBack.j0 k l0 a1 (decide ((a1.size : Int) > 10000))) else (mosaiclaw32_TraceBack.j0 k l0 a1 true))
theorem mosaiclaw32_TraceBack.mono_l : ∀ k, (∀ y0 y1 y2, LeO (mosaiclaw32_TraceBack.j0 k y0 y1 y2) (mosaiclaw32_TraceBack.j0 (k + 1) y0 y1 y2)) ∧ (∀ y0, LeO (mosaiclaw32_TraceBack.j1 k y0) (mosaiclaw32_TraceBack.j1 (k + 1) y0))
 | 0 => ⟨fun _ _ _ r h => by simp [mosaiclaw32_TraceBack.j0] at h, fun _ r h => by simp [mosaiclaw32_TraceBack.j1] at h⟩
 | k + 1 => by
  obtain ⟨ih0, ih1⟩ := mosaiclaw32_TraceBack.mono_l k
  refine ⟨?_, ?_⟩
  ·
   intro y0 y1 y2
   unfold mosaiclaw32_TraceBack.j0
   repeat' first
   | (with_reducible exact ih0 _ _ _)
   | (with_reducible exact ih1 _)
   | (with_reducible exact mosaiclaw32_awake.mono _)
   | (with_reducible exact mosaiclaw32_few.mono _ _ _)
   | (with_reducible exact mosaiclaw32_refs.mono _ _)
   | (with_reducible exact mosaicref32_Same.mono _ _ _)
   | (with_reducible exact trace_Unpack.mono _ _)
   | (with_reducible exact LeO.refl _)
   | (with_reducible exact LeO.none _)
   | (with_reducible refine LeO.ite ?_ ?_)
   | (with_reducible refine LeO.bind ?_ (fun _ => ?_))
   | exact ih0 _ _ _
   | exact ih1 _
   | exact mosaiclaw32_awake.mono _
   | exact mosaiclaw32_few.mono _ _ _
   | exact mosaiclaw32_refs.mono _ _
   | exact mosaicref32_Same.mono _ _ _
   | exact trace_Unpack.mono _ _
   | exact LeO.none _
   | refine LeO.ite ?_ ?_
   | refine LeO.bind ?_ (fun _ => ?_)
  ·
   intro y0
   unfold mosaiclaw32_TraceBack.j1
   repeat' first
   | (with_reducible exact ih0 _ _ _)
   | (with_reducible exact ih1 _)
   | (with_reducible exact mosaiclaw32_awake.mono _)
   | (with_reducible exact mosaiclaw32_few.mono _ _ _)
   | (with_reducible exact mosaiclaw32_refs.mono _ _)
   | (with_reducible exact mosaicref32_Same.mono _ _ _)
   | (with_reducible exact trace_Unpack.mono _ _)
   | (with_reducible exact LeO.refl _)
   | (with_reducible exact LeO.none _)
   | (with_reducible refine LeO.ite ?_ ?_)
   | (with_reducible refine LeO.bind ?_ (fun _ => ?_))
   | exact ih0 _ _ _
   | exact ih1 _
   | exact mosaiclaw32_awake.mono _
   | exact mosaiclaw32_few.mono _ _ _
   | exact mosaiclaw32_refs.mono _ _
   | exact mosaicref32_Same.mono _ _ _
   | exact trace_Unpack.mono _ _
   | exact LeO.none _
   | refine LeO.ite ?_ ?_
   | refine LeO.bind ?_ (fun _ => ?_)
theorem mosaiclaw32_TraceBack.mono : ∀ a0 a1 k, LeO (mosaiclaw32_TraceBack.f k a0 a1) (mosaiclaw32_TraceBack.f (k + 1) a0 a1) := by
 intro a0 a1 k
 obtain ⟨ih0, ih1⟩ := mosaiclaw32_TraceBack.mono_l k
 unfold mosaiclaw32_TraceBack.f
 repeat' first
   | (with_reducible exact ih0 _ _ _)
   | (with_reducible exact ih1 _)
   | (with_reducible exact mosaiclaw32_awake.mono _)
   | (with_reducible exact mosaiclaw32_few.mono _ _ _)
   | (with_reducible exact mosaiclaw32_refs.mono _ _)
   | (with_reducible exact mosaicref32_Same.mono _ _ _)
   | (with_reducible exact trace_Unpack.mono _ _)
   | (with_reducible exact LeO.refl _)
   | (with_reducible exact LeO.none _)
   | (with_reducible refine LeO.ite ?_ ?_)
   | (with_reducible refine LeO.bind ?_ (fun _ => ?_))
   | exact ih0 _ _ _
   | exact ih1 _
   | exact mosaiclaw32_awake.mono _
   | exact mosaiclaw32_few.mono _ _ _
   | exact mosaiclaw32_refs.mono _ _
   | exact mosaicref32_Same.mono _ _ _
   | exact trace_Unpack.mono _ _
   | exact LeO.none _
   | refine LeO.ite ?_ ?_
   | refine LeO.bind ?_ (fun _ => ?_)
set_option maxHeartbeats 8000000 in
set_option maxRecDepth 100000 in
theorem mosaiclaw32_TraceBack.calls (k : Nat) (A0 : Option Addr) (c0 : Nat) (l0 : List (S47)) (a1 : ByteArray) (r : Bool) (w : World) (hr0 : Kd.C k47 w A0 l0.length l0) (hc0 : l0.length ≤ c0) (h : mosaiclaw32_TraceBack.f k l0 a1 = some r) :
  Calls Try.prog 4 #[.slice A0 l0.length c0, .string a1] w fun e w' => e = .returned (.bool r) ∧ Below w.heap.size w w' := by
 have HR0 := Aside0.mk hr0
 have HC0 := Aside0.mk hc0
 clear hr0 hc0
 have HB := Aside0.mk (Below.refl w.heap.size w)
 have H : ((mosaiclaw32_few.f k l0 100).bind fun t279 => (if t279 = true then (mosaiclaw32_TraceBack.j0 k l0 a1 (decide ((a1.size : Int) > 10000))) else (mosaiclaw32_TraceBack.j0 k l0 a1 true))) = some r := h
 clear h
 have HC3 := Aside0.mk H
 clear H
 go_enter Try.func4, Try.ntmps4
 go_upto_region 1 with (fail)
 go_cut [20] (fun v20 wc => ∃ (kq : Nat) (x20_2 : Bool), v20 = .bool x20_2 ∧ Aside0 (mosaiclaw32_TraceBack.j0 kq l0 a1 x20_2 = some r) ∧ Aside0 (kq ≤ k) ∧ Aside0 (Below w.heap.size w wc))
 case first =>
  have H := HC3.out
  clear HC3
  replace H := Option.bind_eq_some_iff.mp H
  obtain ⟨t279, A40, H⟩ := H
  replace H : (if t279 = true then (mosaiclaw32_TraceBack.j0 k l0 a1 (decide ((a1.size : Int) > 10000))) else (mosaiclaw32_TraceBack.j0 k l0 a1 true)) = some r := H
  have A4 := Aside0.mk A40
  clear A40
  by_cases c5 : t279 = true
  ·
   subst c5
   have H1 : (mosaiclaw32_TraceBack.j0 k l0 a1 (decide ((a1.size : Int) > 10000))) = some r := by rw [if_pos rfl] at H; exact H
   clear H
   have H := H1
   clear H1
   have H' := Aside0.mk H
   clear H
   go_wp2_with (first | ((with_reducible refine gate_callee (f := 6) rfl ?_); refine goesL_ (some 14) rfl rfl Try.func6 (by kernel_rfl) rfl #[.slice A0 l0.length c0, .int .i64 100] rfl (by (try simp only [List.map_toArray, List.map_cons, List.map_nil]); first | done | rfl | (simp only [List.length_drop, List.length_take]; rfl)) ?_; (with_reducible refine (mosaiclaw32_few.calls k _ _ l0 100 true _ ?side1 ?side2 A4.out).mono ?_); (case side1 => repeat (first | exact (Kd.C_below HR0.out HB.out) | (with_reducible refine Kd.C_alloc ?_ _) | (with_reducible refine Kd.C_drewN ?_ _) | (with_reducible refine Kd.C_drew ?_))); (case side2 => exact HC0.out); rintro e w' ⟨rfl, ⟨nd, rfl⟩⟩; refine ⟨_, rfl, ?_⟩))
   go_meet
   case rel => exact ⟨_, (decide ((a1.size : Int) > 10000)), (by first | rfl | (simp; done) | (simp [*]; done)), H', ⟨by first | omega | exact Nat.le_refl _⟩, ⟨by repeat (first | (with_reducible first | exact HB.out | apply below_alloc | apply pw_below_drewN | apply below_drew1) | exact HB.out)⟩⟩
  ·
   replace c5 := Bool.eq_false_iff.mpr c5
   subst c5
   have H1 : (mosaiclaw32_TraceBack.j0 k l0 a1 true) = some r := by rw [if_neg (show ¬ (false = true) by decide)] at H; exact H
   clear H
   have H := H1
   clear H1
   have H' := Aside0.mk H
   clear H
   go_wp2_with (first | ((with_reducible refine gate_callee (f := 6) rfl ?_); refine goesL_ (some 14) rfl rfl Try.func6 (by kernel_rfl) rfl #[.slice A0 l0.length c0, .int .i64 100] rfl (by (try simp only [List.map_toArray, List.map_cons, List.map_nil]); first | done | rfl | (simp only [List.length_drop, List.length_take]; rfl)) ?_; (with_reducible refine (mosaiclaw32_few.calls k _ _ l0 100 false _ ?side1 ?side2 A4.out).mono ?_); (case side1 => repeat (first | exact (Kd.C_below HR0.out HB.out) | (with_reducible refine Kd.C_alloc ?_ _) | (with_reducible refine Kd.C_drewN ?_ _) | (with_reducible refine Kd.C_drew ?_))); (case side2 => exact HC0.out); rintro e w' ⟨rfl, ⟨nd, rfl⟩⟩; refine ⟨_, rfl, ?_⟩))
   go_meet
   case rel => exact ⟨_, (true), (by first | rfl | (simp; done) | (simp [*]; done)), H', ⟨by first | omega | exact Nat.le_refl _⟩, ⟨by repeat (first | (with_reducible first | exact HB.out | apply below_alloc | apply pw_below_drewN | apply below_drew1) | exact HB.out)⟩⟩
 case rest =>
  clear HC3
  try clear p2
  try clear c4
  try clear c5
  obtain ⟨kq, x20_2, rfl, HA, HJ2, HB⟩ := hcut
  cases kq with
  | zero => exact absurd HA.out (by simp [mosaiclaw32_TraceBack.j0])
  | succ kj2 =>
   have H := HA.out
   clear HA
   simp only [mosaiclaw32_TraceBack.j0] at H
   by_cases c6 : x20_2 = true
   ·
    subst c6
    have H1 : ((mosaiclaw32_awake.f kj2).bind fun t280 => (some t280)) = some r := by rw [if_pos rfl] at H; exact H
    clear H
    have H := H1
    clear H1
    replace H := Option.bind_eq_some_iff.mp H
    obtain ⟨t280, A70, H⟩ := H
    replace H : (some t280) = some r := H
    have A7 := Aside0.mk A70
    clear A70
    obtain rfl := Option.some.inj H
    go_wp2_with (first | ((with_reducible refine gate_callee (f := 7) rfl ?_); refine goesL_ (some 21) rfl rfl Try.func7 (by kernel_rfl) rfl #[] rfl (by (try simp only [List.map_toArray, List.map_cons, List.map_nil]); first | done | rfl | (simp only [List.length_drop, List.length_take]; rfl)) ?_; (with_reducible refine (mosaiclaw32_awake.calls kj2  t280 _ A7.out).mono ?_); rintro e w8 ⟨rfl, hb⟩; refine ⟨_, rfl, ?_⟩; have n0_ := Aside0.mk (below_step (by repeat (first | (with_reducible first | exact HB.out | apply below_alloc | apply pw_below_drewN | apply below_drew1) | exact HB.out)) hb); clear HB; have HB := n0_; clear n0_; (try clear hb); (try clear hb2); (try clear hk); (try clear hi)))
    go_ret
    exact ⟨by first | rfl | (simp [errW_none, errW_some] <;> rfl) | (simp [*, errW_none, errW_some] <;> rfl), by repeat (first | (with_reducible first | exact HB.out | apply below_alloc | apply pw_below_drewN | apply below_drew1) | exact HB.out)⟩
   ·
    replace c6 := Bool.eq_false_iff.mpr c6
    subst c6
    have H1 : ((trace_Pack.f l0).bind fun bt281 => (if bt281.2 = 0 then ((trace_Unpack.f kj2 bt281.1).bind fun bt283 => (if bt283.2 = 0 then ((mosaiclaw32_refs.f kj2 bt283.1).bind fun t287 => ((mosaiclaw32_refs.f kj2 l0).bind fun t290 => ((mosaicref32_Same.f kj2 t287 t290).bind fun t293 => (if t293 = true then (mosaiclaw32_TraceBack.j1 kj2 a1) else (none))))) else (none))) else (mosaiclaw32_TraceBack.j1 kj2 a1))) = some r := by rw [if_neg (show ¬ (false = true) by decide)] at H; exact H
    clear H
    have H := H1
    clear H1
    replace H := Option.bind_eq_some_iff.mp H
    obtain ⟨⟨t281, t282⟩, A90, H⟩ := H
    replace H : (if t282 = 0 then ((trace_Unpack.f kj2 t281).bind fun bt283 => (if bt283.2 = 0 then ((mosaiclaw32_refs.f kj2 bt283.1).bind fun t287 => ((mosaiclaw32_refs.f kj2 l0).bind fun t290 => ((mosaicref32_Same.f kj2 t287 t290).bind fun t293 => (if t293 = true then (mosaiclaw32_TraceBack.j1 kj2 a1) else (none))))) else (none))) else (mosaiclaw32_TraceBack.j1 kj2 a1)) = some r := H
    have A9 := Aside0.mk A90
    clear A90
    have HC10 := Aside0.mk H
    clear H
    go_upto_if 28 with (first | ((with_reducible refine gate_callee (f := 8) rfl ?_); refine goesL_ (some 24) rfl rfl Try.func8 (by kernel_rfl) rfl #[.slice A0 l0.length c0] rfl (by (try simp only [List.map_toArray, List.map_cons, List.map_nil]); first | done | rfl | (simp only [List.length_drop, List.length_take]; rfl)) ?_; (with_reducible refine (trace_Pack.calls _ _ l0 t281 t282 _ ?side1 ?side2 A9.out).mono ?_); (case side1 => repeat (first | exact (Kd.C_below HR0.out HB.out) | (with_reducible refine Kd.C_alloc ?_ _) | (with_reducible refine Kd.C_drewN ?_ _) | (with_reducible refine Kd.C_drew ?_))); (case side2 => exact HC0.out); rintro e w11 ⟨rfl, hb⟩; refine ⟨_, rfl, ?_⟩; have n0_ := hS HB hb; clear HB; have HB := n0_; clear n0_; (try clear hb); (try clear hb2); (try clear hk); (try clear hi)))
    (try simp only [Act.put, List.setIfInBounds_toArray, List.set_cons_zero, List.set_cons_succ])
    go_cut [] (fun wc => ∃ (kq : Nat), Aside0 (mosaiclaw32_TraceBack.j1 kq a1 = some r) ∧ Aside0 (kq ≤ kj2) ∧ Aside0 (Below w.heap.size w wc))
    case first =>
     have H := HC10.out
     clear HC10
     by_cases c12 : t282 = 0
     ·
      rw [if_pos c12] at H
      have c12b0 : (t282 == 0) = true := beq_iff_eq.mpr c12
      have c12b1 : (t282 != 0) = false := bne_eq_false_iff_eq.mpr c12
      clear c12
      (first | rw [c12b0] | (simp only [i64_w, i32_w, IntKind.wrap_u8]; rw [c12b0]) | skip)
      replace H := Option.bind_eq_some_iff.mp H
      obtain ⟨⟨t283, t284⟩, A130, H⟩ := H
      replace H : (if t284 = 0 then ((mosaiclaw32_refs.f kj2 t283).bind fun t287 => ((mosaiclaw32_refs.f kj2 l0).bind fun t290 => ((mosaicref32_Same.f kj2 t287 t290).bind fun t293 => (if t293 = true then (mosaiclaw32_TraceBack.j1 kj2 a1) else (none))))) else (none)) = some r := H
      have A13 := Aside0.mk A130
      clear A130
      by_cases c14 : t284 = 0
      ·
       rw [if_pos c14] at H
       have c14b0 : (t284 == 0) = true := beq_iff_eq.mpr c14
       have c14b1 : (t284 != 0) = false := bne_eq_false_iff_eq.mpr c14
       clear c14
       replace H := Option.bind_eq_some_iff.mp H
       obtain ⟨t287, A150, H⟩ := H
       replace H : ((mosaiclaw32_refs.f kj2 l0).bind fun t290 => ((mosaicref32_Same.f kj2 t287 t290).bind fun t293 => (if t293 = true then (mosaiclaw32_TraceBack.j1 kj2 a1) else (none)))) = some r := H
       have A15 := Aside0.mk A150
       clear A150
       replace H := Option.bind_eq_some_iff.mp H
       obtain ⟨t290, A160, H⟩ := H
       replace H : ((mosaicref32_Same.f kj2 t287 t290).bind fun t293 => (if t293 = true then (mosaiclaw32_TraceBack.j1 kj2 a1) else (none))) = some r := H
       have A16 := Aside0.mk A160
       clear A160
       replace H := Option.bind_eq_some_iff.mp H
       obtain ⟨t293, A170, H⟩ := H
       replace H : (if t293 = true then (mosaiclaw32_TraceBack.j1 kj2 a1) else (none)) = some r := H
       have A17 := Aside0.mk A170
       clear A170
       by_cases c18 : t293 = true
       ·
        subst c18
        have H1 : (mosaiclaw32_TraceBack.j1 kj2 a1) = some r := by rw [if_pos rfl] at H; exact H
        clear H
        have H := H1
        clear H1
        have H' := Aside0.mk H
        clear H
        go_wp2_with (first | ((with_reducible refine gate_callee (f := 11) rfl ?_); refine goesL_ (some 31) rfl rfl Try.func11 (by kernel_rfl) rfl #[.string t281] rfl (by (try simp only [List.map_toArray, List.map_cons, List.map_nil]); first | done | rfl | (simp only [List.length_drop, List.length_take]; rfl)) ?_; (with_reducible refine (trace_Unpack.calls kj2 t281 t283 t284 _ A13.out).mono ?_); rintro e w19 ⟨v285, rfl, ho0, hb⟩; refine ⟨_, rfl, ?_⟩; have n0_ := Aside0.mk (Kd.R_lower ho0 (below_size (by repeat (first | (with_reducible first | exact HB.out | apply below_alloc | apply pw_below_drewN | apply below_drew1) | exact HB.out)))); have n1_ := Aside0.mk (below_step (by repeat (first | (with_reducible first | exact HB.out | apply below_alloc | apply pw_below_drewN | apply below_drew1) | exact HB.out)) hb); clear HB; have HO286 := n0_; have HB := n1_; clear n0_ n1_; (try clear hb); (try clear hb2); (try clear hk); (try clear hi); (try clear ho0); obtain ⟨Ao20, co20, eo20⟩ := Kd.R_slice HO286.out; subst eo20) | (go_at_call 10; (with_reducible refine (mosaiclaw32_refs.calls kj2 _ _ t283 t287 _ ?side1 ?side2 A15.out).mono ?_); (case side1 => repeat (first | exact (Kd.R_reads' HO286.out).2.2 | (with_reducible refine Kd.C_alloc ?_ _) | (with_reducible refine Kd.C_drewN ?_ _) | (with_reducible refine Kd.C_drew ?_))); (case side2 => exact (Kd.R_reads' HO286.out).2.1); rintro e w21 ⟨v288, rfl, ho0, hb⟩; have n0_ := Aside0.mk (Kd.R_below (by (with_reducible repeat (first | apply Kd.R_alloc | apply Kd.R_drewN | apply Kd.R_drew)); exact HO286.out) hb); have n1_ := Aside0.mk (Kd.R_lower ho0 (below_size (by repeat (first | (with_reducible first | exact HB.out | apply below_alloc | apply pw_below_drewN | apply below_drew1) | exact HB.out)))); have n2_ := Aside0.mk (below_step (by repeat (first | (with_reducible first | exact HB.out | apply below_alloc | apply pw_below_drewN | apply below_drew1) | exact HB.out)) hb); clear HO286; clear HB; have HO286 := n0_; have HO289 := n1_; have HB := n2_; clear n0_ n1_ n2_; (try clear hb); (try clear hb2); (try clear hk); (try clear hi); (try clear ho0)) | (go_at_call 10; (with_reducible refine (mosaiclaw32_refs.calls kj2 _ _ l0 t290 _ ?side1 ?side2 A16.out).mono ?_); (case side1 => repeat (first | exact (Kd.C_below HR0.out HB.out) | (with_reducible refine Kd.C_alloc ?_ _) | (with_reducible refine Kd.C_drewN ?_ _) | (with_reducible refine Kd.C_drew ?_))); (case side2 => exact HC0.out); rintro e w22 ⟨v291, rfl, ho0, hb⟩; have n0_ := Aside0.mk (Kd.R_below (by (with_reducible repeat (first | apply Kd.R_alloc | apply Kd.R_drewN | apply Kd.R_drew)); exact HO286.out) hb); have n1_ := Aside0.mk (Kd.R_elder' (by (with_reducible repeat (first | apply Kd.R_alloc | apply Kd.R_drewN | apply Kd.R_drew)); exact HO289.out) (Kd.R_base ho0) hb); have n2_ := Aside0.mk (Kd.R_lower (Kd.R_new' ho0 (Kd.R_lt (by (with_reducible repeat (first | apply Kd.R_alloc | apply Kd.R_drewN | apply Kd.R_drew)); exact HO289.out))) (below_size (by repeat (first | (with_reducible first | exact HB.out | apply below_alloc | apply pw_below_drewN | apply below_drew1) | exact HB.out)))); have n3_ := Aside0.mk (below_step (by repeat (first | (with_reducible first | exact HB.out | apply below_alloc | apply pw_below_drewN | apply below_drew1) | exact HB.out)) hb); clear HO286; clear HO289; clear HB; have HO286 := n0_; have HO289 := n1_; have HO292 := n2_; have HB := n3_; clear n0_ n1_ n2_ n3_; (try clear hb); (try clear hb2); (try clear hk); (try clear hi); (try clear ho0); obtain ⟨Ao23, co23, eo23⟩ := Kd.R_slice HO289.out; subst eo23; obtain ⟨Ao24, co24, eo24⟩ := Kd.R_slice HO292.out; subst eo24) | (go_at_call 13; (with_reducible refine (mosaicref32_Same.calls kj2 _ _ t287 _ _ t290 true _ ?side1 ?side2 ?side3 ?side4 A17.out).mono ?_); (case side1 => repeat (first | exact (Kd.R_reads' HO289.out).2.2 | (with_reducible refine Kd.C_alloc ?_ _) | (with_reducible refine Kd.C_drewN ?_ _) | (with_reducible refine Kd.C_drew ?_))); (case side2 => exact (Kd.R_reads' HO289.out).2.1); (case side3 => repeat (first | exact (Kd.R_reads' HO292.out).2.2 | (with_reducible refine Kd.C_alloc ?_ _) | (with_reducible refine Kd.C_drewN ?_ _) | (with_reducible refine Kd.C_drew ?_))); (case side4 => exact (Kd.R_reads' HO292.out).2.1); rintro e w' ⟨rfl, ⟨nd, rfl⟩⟩))
        go_meet
        case rel => exact ⟨_, H', ⟨by have := HJ2.out; first | omega | exact Nat.le_refl _⟩, ⟨by repeat (first | (with_reducible first | exact HB.out | apply below_alloc | apply pw_below_drewN | apply below_drew1) | exact HB.out)⟩⟩
       ·
        replace c18 := Bool.eq_false_iff.mpr c18
        subst c18
        have H1 : (none) = some r := by rw [if_neg (show ¬ (false = true) by decide)] at H; exact H
        clear H
        have H := H1
        clear H1
        exact absurd H (by simp)
      ·
       rw [if_neg c14] at H
       exact absurd H (by simp)
     ·
      rw [if_neg c12] at H
      have c12b0 : (t282 == 0) = false := beq_eq_false_iff_ne.mpr c12
      have c12b1 : (t282 != 0) = true := bne_iff_ne.mpr c12
      (first | rw [c12b0] | (simp only [i64_w, i32_w, IntKind.wrap_u8]; rw [c12b0]) | skip)
      have H' := Aside0.mk H
      clear H
      go_wp2
      go_meet
      case rel => exact ⟨_, H', ⟨by have := HJ2.out; first | omega | exact Nat.le_refl _⟩, ⟨by repeat (first | (with_reducible first | exact HB.out | apply below_alloc | apply pw_below_drewN | apply below_drew1) | exact HB.out)⟩⟩
    case rest =>
     clear HC10
     try clear c1
     try clear p2
     try clear c4
     try clear c5
     try clear c6
     try clear c7
     try clear c8
     try clear c11
     try clear c12
     try clear c12b0
     try clear c12b1
     try clear c14
     try clear c14b0
     try clear c14b1
     try clear c18
     try clear p2
     obtain ⟨kq, HA, HJ9, HB⟩ := hcut
     cases kq with
     | zero => exact absurd HA.out (by simp [mosaiclaw32_TraceBack.j1])
     | succ kj9 =>
      have H := HA.out
      clear HA
      simp only [mosaiclaw32_TraceBack.j1] at H
      replace H := Option.bind_eq_some_iff.mp H
      obtain ⟨⟨t294, t295⟩, A250, H⟩ := H
      replace H : (if t295 = 0 then ((trace_Pack.f t294).bind fun bt298 => ((mosaiclaw32_awake.f kj9).bind fun t300 => (if t300 = true then (if bt298.2 = 0 then (some (bt298.1.toList == a1.toList)) else (none)) else (none)))) else ((mosaiclaw32_awake.f kj9).bind fun t301 => (some t301))) = some r := H
      have A25 := Aside0.mk A250
      clear A250
      by_cases c26 : t295 = 0
      ·
       rw [if_pos c26] at H
       have c26b0 : (t295 == 0) = true := beq_iff_eq.mpr c26
       have c26b1 : (t295 != 0) = false := bne_eq_false_iff_eq.mpr c26
       clear c26
       replace H := Option.bind_eq_some_iff.mp H
       obtain ⟨⟨t298, t299⟩, A270, H⟩ := H
       replace H : ((mosaiclaw32_awake.f kj9).bind fun t300 => (if t300 = true then (if t299 = 0 then (some (t298.toList == a1.toList)) else (none)) else (none))) = some r := H
       have A27 := Aside0.mk A270
       clear A270
       replace H := Option.bind_eq_some_iff.mp H
       obtain ⟨t300, A280, H⟩ := H
       replace H : (if t300 = true then (if t299 = 0 then (some (t298.toList == a1.toList)) else (none)) else (none)) = some r := H
       have A28 := Aside0.mk A280
       clear A280
       by_cases c29 : t300 = true
       ·
        subst c29
        have H1 : (if t299 = 0 then (some (t298.toList == a1.toList)) else (none)) = some r := by rw [if_pos rfl] at H; exact H
        clear H
        have H := H1
        clear H1
        by_cases c30 : t299 = 0
        ·
         rw [if_pos c30] at H
         have c30b0 : (t299 == 0) = true := beq_iff_eq.mpr c30
         have c30b1 : (t299 != 0) = false := bne_eq_false_iff_eq.mpr c30
         clear c30
         obtain rfl := Option.some.inj H
         go_wp2_with (first | ((with_reducible refine gate_callee (f := 11) rfl ?_); refine goesL_ (some 46) rfl rfl Try.func11 (by kernel_rfl) rfl #[.string a1] rfl (by (try simp only [List.map_toArray, List.map_cons, List.map_nil]); first | done | rfl | (simp only [List.length_drop, List.length_take]; rfl)) ?_; (with_reducible refine (trace_Unpack.calls kj9 a1 t294 t295 _ A25.out).mono ?_); rintro e w31 ⟨v296, rfl, ho0, hb⟩; refine ⟨_, rfl, ?_⟩; have n0_ := Aside0.mk (Kd.R_lower ho0 (below_size (by repeat (first | (with_reducible first | exact HB.out | apply below_alloc | apply pw_below_drewN | apply below_drew1) | exact HB.out)))); have n1_ := Aside0.mk (below_step (by repeat (first | (with_reducible first | exact HB.out | apply below_alloc | apply pw_below_drewN | apply below_drew1) | exact HB.out)) hb); clear HB; have HO297 := n0_; have HB := n1_; clear n0_ n1_; (try clear hb); (try clear hb2); (try clear hk); (try clear hi); (try clear ho0); obtain ⟨Ao32, co32, eo32⟩ := Kd.R_slice HO297.out; subst eo32) | ((with_reducible refine gate_callee (f := 8) rfl ?_); refine goesL_ (some 54) rfl rfl Try.func8 (by kernel_rfl) rfl #[.slice Ao32 t294.length co32] rfl (by (try simp only [List.map_toArray, List.map_cons, List.map_nil]); first | done | rfl | (simp only [List.length_drop, List.length_take]; rfl)) ?_; (with_reducible refine (trace_Pack.calls _ _ t294 t298 t299 _ ?side1 ?side2 A27.out).mono ?_); (case side1 => repeat (first | exact (Kd.R_reads' HO297.out).2.2 | (with_reducible refine Kd.C_alloc ?_ _) | (with_reducible refine Kd.C_drewN ?_ _) | (with_reducible refine Kd.C_drew ?_))); (case side2 => exact (Kd.R_reads' HO297.out).2.1); rintro e w33 ⟨rfl, hb⟩; refine ⟨_, rfl, ?_⟩; have n0_ := Aside0.mk (Kd.R_below (by (with_reducible repeat (first | apply Kd.R_alloc | apply Kd.R_drewN | apply Kd.R_drew)); exact HO297.out) hb); have n1_ := Aside0.mk (below_step (by repeat (first | (with_reducible first | exact HB.out | apply below_alloc | apply pw_below_drewN | apply below_drew1) | exact HB.out)) hb); clear HO297; clear HB; have HO297 := n0_; have HB := n1_; clear n0_ n1_; (try clear hb); (try clear hb2); (try clear hk); (try clear hi)) | ((with_reducible refine gate_callee (f := 7) rfl ?_); refine goesL_ (some 57) rfl rfl Try.func7 (by kernel_rfl) rfl #[] rfl (by (try simp only [List.map_toArray, List.map_cons, List.map_nil]); first | done | rfl | (simp only [List.length_drop, List.length_take]; rfl)) ?_; (with_reducible refine (mosaiclaw32_awake.calls kj9  true _ A28.out).mono ?_); rintro e w34 ⟨rfl, hb⟩; refine ⟨_, rfl, ?_⟩; have n0_ := Aside0.mk (Kd.R_below (by (with_reducible repeat (first | apply Kd.R_alloc | apply Kd.R_drewN | apply Kd.R_drew)); exact HO297.out) hb); have n1_ := Aside0.mk (below_step (by repeat (first | (with_reducible first | exact HB.out | apply below_alloc | apply pw_below_drewN | apply below_drew1) | exact HB.out)) hb); clear HO297; clear HB; have HO297 := n0_; have HB := n1_; clear n0_ n1_; (try clear hb); (try clear hb2); (try clear hk); (try clear hi)))
         go_ret
         exact ⟨by first | rfl | (simp [errW_none, errW_some] <;> rfl) | (simp [*, errW_none, errW_some] <;> rfl), by repeat (first | (with_reducible first | exact HB.out | apply below_alloc | apply pw_below_drewN | apply below_drew1) | exact HB.out)⟩
        ·
         rw [if_neg c30] at H
         exact absurd H (by simp)
       ·
        replace c29 := Bool.eq_false_iff.mpr c29
        subst c29
        have H1 : (none) = some r := by rw [if_neg (show ¬ (false = true) by decide)] at H; exact H
        clear H
        have H := H1
        clear H1
        exact absurd H (by simp)
      ·
       rw [if_neg c26] at H
       have c26b0 : (t295 == 0) = false := beq_eq_false_iff_ne.mpr c26
       have c26b1 : (t295 != 0) = true := bne_iff_ne.mpr c26
       replace H := Option.bind_eq_some_iff.mp H
       obtain ⟨t301, A350, H⟩ := H
       replace H : (some t301) = some r := H
       have A35 := Aside0.mk A350
       clear A350
       obtain rfl := Option.some.inj H
       go_wp2_with (first | ((with_reducible refine gate_callee (f := 11) rfl ?_); refine goesL_ (some 46) rfl rfl Try.func11 (by kernel_rfl) rfl #[.string a1] rfl (by (try simp only [List.map_toArray, List.map_cons, List.map_nil]); first | done | rfl | (simp only [List.length_drop, List.length_take]; rfl)) ?_; (with_reducible refine (trace_Unpack.calls kj9 a1 t294 t295 _ A25.out).mono ?_); rintro e w36 ⟨v296, rfl, ho0, hb⟩; refine ⟨_, rfl, ?_⟩; have n0_ := Aside0.mk (Kd.R_lower ho0 (below_size (by repeat (first | (with_reducible first | exact HB.out | apply below_alloc | apply pw_below_drewN | apply below_drew1) | exact HB.out)))); have n1_ := Aside0.mk (below_step (by repeat (first | (with_reducible first | exact HB.out | apply below_alloc | apply pw_below_drewN | apply below_drew1) | exact HB.out)) hb); clear HB; have HO297 := n0_; have HB := n1_; clear n0_ n1_; (try clear hb); (try clear hb2); (try clear hk); (try clear hi); (try clear ho0)) | ((with_reducible refine gate_callee (f := 7) rfl ?_); refine goesL_ (some 51) rfl rfl Try.func7 (by kernel_rfl) rfl #[] rfl (by (try simp only [List.map_toArray, List.map_cons, List.map_nil]); first | done | rfl | (simp only [List.length_drop, List.length_take]; rfl)) ?_; (with_reducible refine (mosaiclaw32_awake.calls kj9  t301 _ A35.out).mono ?_); rintro e w37 ⟨rfl, hb⟩; refine ⟨_, rfl, ?_⟩; have n0_ := Aside0.mk (Kd.R_below (by (with_reducible repeat (first | apply Kd.R_alloc | apply Kd.R_drewN | apply Kd.R_drew)); exact HO297.out) hb); have n1_ := Aside0.mk (below_step (by repeat (first | (with_reducible first | exact HB.out | apply below_alloc | apply pw_below_drewN | apply below_drew1) | exact HB.out)) hb); clear HO297; clear HB; have HO297 := n0_; have HB := n1_; clear n0_ n1_; (try clear hb); (try clear hb2); (try clear hk); (try clear hi)))
       go_ret
       exact ⟨by first | rfl | (simp [errW_none, errW_some] <;> rfl) | (simp [*, errW_none, errW_some] <;> rfl), by repeat (first | (with_reducible first | exact HB.out | apply below_alloc | apply pw_below_drewN | apply below_drew1) | exact HB.out)⟩

/-- THE ONE PURE STATEMENT of mosaiclaw32_TraceBack: yours. -/
def mosaiclaw32_TraceBack.Pure : Prop := ∀ (l0 : List (S47)) (a1 : ByteArray), l0.length ≤ maxLen → (∀ x ∈ l0, Q47 x) → a1.size ≤ 140737488351232 → ∃ k, mosaiclaw32_TraceBack.f k l0 a1 = some true

-- NOT PRINTED: function 16 (trace_Kinds)

/-! ### mosaicref32_Kind: function 17 -/
def mosaicref32_Kind.l0 : Nat → List (S54) → Int → Int → Int → Option (Int)
 | 0, _, _, _, _ => none
 | k + 1, x0, x1, x5, x6 => if x6 < (x0.length : Int) then (if 0 ≤ x6 then (if ((rd_T54 x0 x6).f0) = x1 then (mosaicref32_Kind.l0 k x0 x1 (wrap64 (x5 + 1)) (wrap64 (x6 + 1))) else (if x1 = 0 then (if ((rd_T54 x0 x6).f0) < 1 then (mosaicref32_Kind.l0 k x0 x1 (wrap64 (x5 + 1)) (wrap64 (x6 + 1))) else (if ((rd_T54 x0 x6).f0) > 3 then (mosaicref32_Kind.l0 k x0 x1 (wrap64 (x5 + 1)) (wrap64 (x6 + 1))) else (mosaicref32_Kind.l0 k x0 x1 x5 (wrap64 (x6 + 1))))) else (mosaicref32_Kind.l0 k x0 x1 x5 (wrap64 (x6 + 1))))) else (none)) else (some x5)
def mosaicref32_Kind.f (k : Nat) (l0 : List (S54)) (a1 : Int) : Option (Int) := mosaicref32_Kind.l0 k l0 a1 0 0
theorem mosaicref32_Kind.mono_l : ∀ k, (∀ y0 y1 y2 y3, LeO (mosaicref32_Kind.l0 k y0 y1 y2 y3) (mosaicref32_Kind.l0 (k + 1) y0 y1 y2 y3))
 | 0 => fun _ _ _ _ r h => by simp [mosaicref32_Kind.l0] at h
 | k + 1 => by
  have ih0 := mosaicref32_Kind.mono_l k
  ·
   intro y0 y1 y2 y3
   unfold mosaicref32_Kind.l0
   repeat' first
   | (with_reducible exact ih0 _ _ _ _)
   | (with_reducible exact LeO.refl _)
   | (with_reducible exact LeO.none _)
   | (with_reducible refine LeO.ite ?_ ?_)
   | (with_reducible refine LeO.bind ?_ (fun _ => ?_))
   | exact ih0 _ _ _ _
   | exact LeO.none _
   | refine LeO.ite ?_ ?_
   | refine LeO.bind ?_ (fun _ => ?_)
theorem mosaicref32_Kind.mono : ∀ a0 a1 k, LeO (mosaicref32_Kind.f k a0 a1) (mosaicref32_Kind.f (k + 1) a0 a1) := by
 intro a0 a1 k
 have ih0 := mosaicref32_Kind.mono_l k
 unfold mosaicref32_Kind.f
 repeat' first
   | (with_reducible exact ih0 _ _ _ _)
   | (with_reducible exact LeO.refl _)
   | (with_reducible exact LeO.none _)
   | (with_reducible refine LeO.ite ?_ ?_)
   | (with_reducible refine LeO.bind ?_ (fun _ => ?_))
   | exact ih0 _ _ _ _
   | exact LeO.none _
   | refine LeO.ite ?_ ?_
   | refine LeO.bind ?_ (fun _ => ?_)
set_option maxHeartbeats 8000000 in
set_option maxRecDepth 100000 in
theorem mosaicref32_Kind.calls (k : Nat) (A0 : Option Addr) (c0 : Nat) (l0 : List (S54)) (a1 : Int) (r : Int) (w : World) (hr0 : Kd.C k54 w A0 l0.length l0) (hc0 : l0.length ≤ c0) (h : mosaicref32_Kind.f k l0 a1 = some r) :
  Calls Try.prog 17 #[.slice A0 l0.length c0, .int .i64 a1] w fun e w' => e = .returned (.int .i64 r) ∧ Drawn0 w w' := by
 have HR0 := Aside0.mk hr0
 have HC0 := Aside0.mk hc0
 clear hr0 hc0
 have H : (mosaicref32_Kind.l0 k l0 a1 0 0) = some r := h
 clear h
 have H' := Aside0.mk H
 clear H
 go_enter Try.func17, Try.ntmps17
 go_wp2
 go_loopg [5, 6] k (fun kq v5 v6 w' => ∃ (x5_1 : Int) (x6_1 : Int), v5 = .int .i64 x5_1 ∧ v6 = .int .i64 x6_1 ∧ Aside0 (mosaicref32_Kind.l0 kq l0 a1 x5_1 x6_1 = some r) ∧ Aside0 (kq ≤ k) ∧ Drawn0 w w')
 case atStart => exact ⟨(0), (0), (by first | rfl | (simp; done) | (simp [*]; done)), (by first | rfl | (simp; done) | (simp [*]; done)), H', ⟨Nat.le_refl _⟩, by repeat (first | exact Drawn0.refl _ | apply Drawn0.step)⟩
 case round =>
  clear H'
  try clear c1
  try clear p2
  obtain ⟨x5_1, x6_1, rfl, rfl, HA, HK1, ⟨m1, rfl⟩⟩ := hrel
  cases gk with
  | zero => exact absurd HA.out (by simp [mosaicref32_Kind.l0])
  | succ k1 =>
   have H := HA.out
   clear HA
   simp only [mosaicref32_Kind.l0] at H
   by_cases c3 : x6_1 < (l0.length : Int)
   ·
    rw [if_pos c3] at H
    have c3b0 : decide (x6_1 < (l0.length : Int)) = true := decide_eq_true c3
    clear c3
    by_cases c4 : 0 ≤ x6_1
    ·
     rw [if_pos c4] at H
     have c4b0 : decide (0 ≤ x6_1) = true := decide_eq_true c4
     clear c4
     by_cases c5 : ((rd_T54 l0 x6_1).f0) = a1
     ·
      rw [if_pos c5] at H
      have c5b0 : (((rd_T54 l0 x6_1).f0) == a1) = true := beq_iff_eq.mpr c5
      have c5b1 : (((rd_T54 l0 x6_1).f0) != a1) = false := bne_eq_false_iff_eq.mpr c5
      clear c5
      have H' := Aside0.mk H
      clear H
      have p302 : 0 ≤ (x6_1 : Int) := of_decide_eq_true (by first | (with_reducible assumption) | assumption)
      have q302 : x6_1 < (l0.length : Int) := of_decide_eq_true (by first | (with_reducible assumption) | assumption)
      obtain ⟨ad302, e302, hx302_0, hx302_1, hx302_2⟩ := at_T54 HR0.out x6_1 p302 q302
      cases e302
      replace p302 := eq_true p302
      replace q302 := eq_true q302
      go_wp2
      go_roundg k1
      case measure => have := HK1.out; omega
      case rel => exact ⟨(wrap64 (x5_1 + 1)), (wrap64 (x6_1 + 1)), (by first | rfl | (simp; done) | (simp [*]; done)), (by first | rfl | (simp; done) | (simp [*]; done)), H', ⟨by have := HK1.out; omega⟩, by repeat (first | exact Drawn0.refl _ | apply Drawn0.step)⟩
     ·
      rw [if_neg c5] at H
      have c5b0 : (((rd_T54 l0 x6_1).f0) == a1) = false := beq_eq_false_iff_ne.mpr c5
      have c5b1 : (((rd_T54 l0 x6_1).f0) != a1) = true := bne_iff_ne.mpr c5
      by_cases c6 : a1 = 0
      ·
       rw [if_pos c6] at H
       have c6b0 : (a1 == 0) = true := beq_iff_eq.mpr c6
       have c6b1 : (a1 != 0) = false := bne_eq_false_iff_eq.mpr c6
       clear c6
       by_cases c7 : ((rd_T54 l0 x6_1).f0) < 1
       ·
        rw [if_pos c7] at H
        have c7b0 : decide (((rd_T54 l0 x6_1).f0) < 1) = true := decide_eq_true c7
        clear c7
        have H' := Aside0.mk H
        clear H
        have p302 : 0 ≤ (x6_1 : Int) := of_decide_eq_true (by first | (with_reducible assumption) | assumption)
        have q302 : x6_1 < (l0.length : Int) := of_decide_eq_true (by first | (with_reducible assumption) | assumption)
        obtain ⟨ad302, e302, hx302_0, hx302_1, hx302_2⟩ := at_T54 HR0.out x6_1 p302 q302
        cases e302
        replace p302 := eq_true p302
        replace q302 := eq_true q302
        have p303 : 0 ≤ (x6_1 : Int) := of_decide_eq_true (by first | (with_reducible assumption) | assumption)
        have q303 : x6_1 < (l0.length : Int) := of_decide_eq_true (by first | (with_reducible assumption) | assumption)
        obtain ⟨ad303, e303, hx303_0, hx303_1, hx303_2⟩ := at_T54 HR0.out x6_1 p303 q303
        obtain rfl : ad302 = ad303 := (by injection e303)
        replace p303 := eq_true p303
        replace q303 := eq_true q303
        go_wp2
        go_roundg k1
        case measure => have := HK1.out; omega
        case rel => exact ⟨(wrap64 (x5_1 + 1)), (wrap64 (x6_1 + 1)), (by first | rfl | (simp; done) | (simp [*]; done)), (by first | rfl | (simp; done) | (simp [*]; done)), H', ⟨by have := HK1.out; omega⟩, by repeat (first | exact Drawn0.refl _ | apply Drawn0.step)⟩
       ·
        rw [if_neg c7] at H
        have c7b0 : decide (((rd_T54 l0 x6_1).f0) < 1) = false := decide_eq_false c7
        clear c7
        by_cases c8 : ((rd_T54 l0 x6_1).f0) > 3
        ·
         rw [if_pos c8] at H
         have c8b0 : decide (3 < ((rd_T54 l0 x6_1).f0)) = true := decide_eq_true c8
         clear c8
         have H' := Aside0.mk H
         clear H
         have p302 : 0 ≤ (x6_1 : Int) := of_decide_eq_true (by first | (with_reducible assumption) | assumption)
         have q302 : x6_1 < (l0.length : Int) := of_decide_eq_true (by first | (with_reducible assumption) | assumption)
         obtain ⟨ad302, e302, hx302_0, hx302_1, hx302_2⟩ := at_T54 HR0.out x6_1 p302 q302
         cases e302
         replace p302 := eq_true p302
         replace q302 := eq_true q302
         have p303 : 0 ≤ (x6_1 : Int) := of_decide_eq_true (by first | (with_reducible assumption) | assumption)
         have q303 : x6_1 < (l0.length : Int) := of_decide_eq_true (by first | (with_reducible assumption) | assumption)
         obtain ⟨ad303, e303, hx303_0, hx303_1, hx303_2⟩ := at_T54 HR0.out x6_1 p303 q303
         obtain rfl : ad302 = ad303 := (by injection e303)
         replace p303 := eq_true p303
         replace q303 := eq_true q303
         have p304 : 0 ≤ (x6_1 : Int) := of_decide_eq_true (by first | (with_reducible assumption) | assumption)
         have q304 : x6_1 < (l0.length : Int) := of_decide_eq_true (by first | (with_reducible assumption) | assumption)
         obtain ⟨ad304, e304, hx304_0, hx304_1, hx304_2⟩ := at_T54 HR0.out x6_1 p304 q304
         obtain rfl : ad302 = ad304 := (by injection e304)
         replace p304 := eq_true p304
         replace q304 := eq_true q304
         go_wp2
         go_roundg k1
         case measure => have := HK1.out; omega
         case rel => exact ⟨(wrap64 (x5_1 + 1)), (wrap64 (x6_1 + 1)), (by first | rfl | (simp; done) | (simp [*]; done)), (by first | rfl | (simp; done) | (simp [*]; done)), H', ⟨by have := HK1.out; omega⟩, by repeat (first | exact Drawn0.refl _ | apply Drawn0.step)⟩
        ·
         rw [if_neg c8] at H
         have c8b0 : decide (3 < ((rd_T54 l0 x6_1).f0)) = false := decide_eq_false c8
         clear c8
         have H' := Aside0.mk H
         clear H
         have p302 : 0 ≤ (x6_1 : Int) := of_decide_eq_true (by first | (with_reducible assumption) | assumption)
         have q302 : x6_1 < (l0.length : Int) := of_decide_eq_true (by first | (with_reducible assumption) | assumption)
         obtain ⟨ad302, e302, hx302_0, hx302_1, hx302_2⟩ := at_T54 HR0.out x6_1 p302 q302
         cases e302
         replace p302 := eq_true p302
         replace q302 := eq_true q302
         have p303 : 0 ≤ (x6_1 : Int) := of_decide_eq_true (by first | (with_reducible assumption) | assumption)
         have q303 : x6_1 < (l0.length : Int) := of_decide_eq_true (by first | (with_reducible assumption) | assumption)
         obtain ⟨ad303, e303, hx303_0, hx303_1, hx303_2⟩ := at_T54 HR0.out x6_1 p303 q303
         obtain rfl : ad302 = ad303 := (by injection e303)
         replace p303 := eq_true p303
         replace q303 := eq_true q303
         have p304 : 0 ≤ (x6_1 : Int) := of_decide_eq_true (by first | (with_reducible assumption) | assumption)
         have q304 : x6_1 < (l0.length : Int) := of_decide_eq_true (by first | (with_reducible assumption) | assumption)
         obtain ⟨ad304, e304, hx304_0, hx304_1, hx304_2⟩ := at_T54 HR0.out x6_1 p304 q304
         obtain rfl : ad302 = ad304 := (by injection e304)
         replace p304 := eq_true p304
         replace q304 := eq_true q304
         go_wp2
         go_roundg k1
         case measure => have := HK1.out; omega
         case rel => exact ⟨(x5_1), (wrap64 (x6_1 + 1)), (by first | rfl | (simp; done) | (simp [*]; done)), (by first | rfl | (simp; done) | (simp [*]; done)), H', ⟨by have := HK1.out; omega⟩, by repeat (first | exact Drawn0.refl _ | apply Drawn0.step)⟩
      ·
       rw [if_neg c6] at H
       have c6b0 : (a1 == 0) = false := beq_eq_false_iff_ne.mpr c6
       have c6b1 : (a1 != 0) = true := bne_iff_ne.mpr c6
       have H' := Aside0.mk H
       clear H
       have p302 : 0 ≤ (x6_1 : Int) := of_decide_eq_true (by first | (with_reducible assumption) | assumption)
       have q302 : x6_1 < (l0.length : Int) := of_decide_eq_true (by first | (with_reducible assumption) | assumption)
       obtain ⟨ad302, e302, hx302_0, hx302_1, hx302_2⟩ := at_T54 HR0.out x6_1 p302 q302
       cases e302
       replace p302 := eq_true p302
       replace q302 := eq_true q302
       go_wp2
       go_roundg k1
       case measure => have := HK1.out; omega
       case rel => exact ⟨(x5_1), (wrap64 (x6_1 + 1)), (by first | rfl | (simp; done) | (simp [*]; done)), (by first | rfl | (simp; done) | (simp [*]; done)), H', ⟨by have := HK1.out; omega⟩, by repeat (first | exact Drawn0.refl _ | apply Drawn0.step)⟩
    ·
     rw [if_neg c4] at H
     exact absurd H (by simp)
   ·
    rw [if_neg c3] at H
    have c3b0 : decide (x6_1 < (l0.length : Int)) = false := decide_eq_false c3
    clear c3
    obtain rfl := Option.some.inj H
    go_wp2
    go_ret
    exact ⟨by first | rfl | (simp; done) | (simp [*]; done), by repeat (first | exact Drawn0.refl _ | apply Drawn0.step)⟩

-- NOT PRINTED: function 40 (api_Event_40)

-- NOT PRINTED: function 18 (trace_Part)

end Go.Proofs.Ytdiikokbdebedaa.P
