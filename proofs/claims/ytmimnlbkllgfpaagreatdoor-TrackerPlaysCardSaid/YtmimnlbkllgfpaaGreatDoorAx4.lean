-- Written for this claim by the session's own turn of the kit's print program (wip/tools/xprint.py).
import Derived.Test.YtmimnlbkllgfpaaGreatDoorSg
import Derived.Test.YtmimnlbkllgfpaaGreatDoorAx0
import Derived.Test.YtmimnlbkllgfpaaGreatDoorAx2
import Derived.Test.YtmimnlbkllgfpaaGreatDoorAx3
namespace Go.Proofs.YtmimnlbkllgfpaaGreatDoor.A
open Go.RowKit Go.Proofs.YtmimnlbkllgfpaaGreatDoor.Sg Go.Proofs.YtmimnlbkllgfpaaGreatDoor.Fl Go.Proofs.YtmimnlbkllgfpaaGreatDoor.Sq Go.Proofs.YtmimnlbkllgfpaaGreatDoor.Hand Go.Proofs.YtmimnlbkllgfpaaGreatDoorW.PrintWords Go.Proofs.YtmimnlbkllgfpaaGreatDoorW.PrintLast Go.Proofs.YtmimnlbkllgfpaaGreatDoorW.PrintMore
attribute [local go_sem] max2_int min2_int max_two min_two max_three min_three max_four min_four   -- for this text's walks alone
set_option linter.unusedVariables false
set_option linter.unusedSimpArgs false

/-! ### link_Check: function 52 -/
mutual
def link_Check.j0 : Nat → Bool → ByteArray → ByteArray → List Int → List (S24) → Option (Bool)
 | 0, _, _, _, _, _ => none
 | k + 1, x29, x130000, x130001, x130002, x130003 => if x29 = true then (some false) else (link_Check.l0 k x130002 (x130002.length : Int) 0 x130000 x130001 x130002 x130003)
def link_Check.l0 : Nat → List Int → Int → Int → ByteArray → ByteArray → List Int → List (S24) → Option (Bool)
 | 0, _, _, _, _, _, _, _ => none
 | k + 1, x31, x32, x33, x130000, x130001, x130002, x130003 => if x33 < x32 then (if 0 ≤ x33 then (if x33 < (x31.length : Int) then (if (rd x31 x33) < 1 then (some false) else (if (rd x31 x33) > 15 then (some false) else (if x33 > 0 then (if 0 ≤ (wrap64 (x33 - 1)) then (if (wrap64 (x33 - 1)) < (x130002.length : Int) then (if (rd x31 x33) ≤ (rd x130002 (wrap64 (x33 - 1))) then (some false) else (if x33 < (x130003.length : Int) then ((plane_Check.f ((rd_T24 x130003 x33).f0) ((rd_T24 x130003 x33).f1)).bind fun t134 => (if t134 = true then (link_Check.l0 k x31 x32 (wrap64 (x33 + 1)) x130000 x130001 x130002 x130003) else (some false))) else (none))) else (none)) else (none)) else (if x33 < (x130003.length : Int) then ((plane_Check.f ((rd_T24 x130003 x33).f0) ((rd_T24 x130003 x33).f1)).bind fun t136 => (if t136 = true then (link_Check.l0 k x31 x32 (wrap64 (x33 + 1)) x130000 x130001 x130002 x130003) else (some false))) else (none))))) else (none)) else (none)) else (some true)
end
def link_Check.f (k : Nat) (a0_0 : ByteArray) (a0_1 : ByteArray) (l0_2 : List Int) (l0_3 : List (S24)) : Option (Bool) := if (a0_0.size : Int) = 32 then ((link_titled.f k a0_1).bind fun t130 => (if t130 = true then (if (l0_2.length : Int) = (l0_3.length : Int) then (link_Check.j0 k (decide ((l0_2.length : Int) > 6)) a0_0 a0_1 l0_2 l0_3) else (link_Check.j0 k true a0_0 a0_1 l0_2 l0_3)) else (link_Check.j0 k true a0_0 a0_1 l0_2 l0_3))) else (link_Check.j0 k true a0_0 a0_1 l0_2 l0_3)
namespace BAx4
theorem b0 {p : Prop} (h : p := by repeat (first | (with_reducible first | exact HB.out | apply below_alloc | apply pw_below_drewN | apply below_drew1 | refine below_set ?_ GE129.out) | exact HB.out)) : p := h
theorem b1 {p : Prop} (h : p := by first | (with_reducible assumption) | assumption) : p := h
theorem b2 {p : Prop} (h : p := by (with_reducible repeat (first | refine blk_drewN ?_ _ | refine blk_drew ?_ | refine blk_alloc ?_ _)); exact BK129.out) : p := h
theorem b3 {p : Prop} (h : p := by first | rfl | (simp [errW_none, errW_some] <;> rfl) | (simp [*, errW_none, errW_some] <;> rfl)) : p := h
theorem b4 {p : Prop} (h : p := by first | rfl | (simp; done) | (simp [*]; done)) : p := h
theorem b5 {p : Prop} (h : p := by first | omega | exact Nat.le_refl _) : p := h
end BAx4
open BAx4
set_option maxHeartbeats 8000000 in
set_option maxRecDepth 100000 in
theorem link_Check.calls (k : Nat) (a0_0 : ByteArray) (a0_1 : ByteArray) (A0_2 : Option Addr) (c0_2 : Nat) (l0_2 : List Int) (A0_3 : Option Addr) (c0_3 : Nat) (l0_3 : List (S24)) (r : Bool) (w : World) (hr0_2 : Kd.C (Kd.int .i64) w A0_2 l0_2.length l0_2) (hc0_2 : l0_2.length ≤ c0_2) (hr0_3 : Kd.C k24 w A0_3 l0_3.length l0_3) (hc0_3 : l0_3.length ≤ c0_3) (h : link_Check.f k a0_0 a0_1 l0_2 l0_3 = some r) :
  Calls Tryz.prog 52 #[.agg #[.string a0_0, .string a0_1, .slice A0_2 l0_2.length c0_2, .slice A0_3 l0_3.length c0_3]] w fun e w' => e = .returned (.bool r) ∧ Below w.heap.size w w' := by
 have hu70 := Tryz.underlying70
 have hu24 := Tryz.underlying24
 have HR0_2 := Aside0.mk hr0_2
 have HC0_2 := Aside0.mk hc0_2
 clear hr0_2 hc0_2
 have HR0_3 := Aside0.mk hr0_3
 have HC0_3 := Aside0.mk hc0_3
 clear hr0_3 hc0_3
 have HB := Aside0.mk (Below.refl w.heap.size w)
 have H : (if (a0_0.size : Int) = 32 then ((link_titled.f k a0_1).bind fun t130 => (if t130 = true then (if (l0_2.length : Int) = (l0_3.length : Int) then (link_Check.j0 k (decide ((l0_2.length : Int) > 6)) a0_0 a0_1 l0_2 l0_3) else (link_Check.j0 k true a0_0 a0_1 l0_2 l0_3)) else (link_Check.j0 k true a0_0 a0_1 l0_2 l0_3))) else (link_Check.j0 k true a0_0 a0_1 l0_2 l0_3)) = some r := h
 clear h
 have HC2 := Aside0.mk H
 clear H
 go_enter Tryz.func52, Tryz.ntmps52
 go_upto_region 1 with (first | ((with_reducible refine gate_dst (N := 1) rfl ?_); (try (refine gate_guard (by rfl) ?_; dsimp only)); refine box_event ?hg (N := 1) ?hd (cs := #[.string a0_0, .string a0_1, .slice A0_2 l0_2.length c0_2, .slice A0_3 l0_3.length c0_3]) (t := 70) ?hr ?_; (case hd => rfl); (case hg => rfl); (case hr => first | (go_simp; done) | (go_simp; rfl)); intro gb129 hg w3 hbox hb; have BK129 := Aside0.mk (hbox); have GW129 := hG HB hg; have GE129 := hG HB hg; replace HB := hS HB hb; clear hb hbox hg))
 (try simp only [Act.put, List.setIfInBounds_toArray, List.set_cons_zero, List.set_cons_succ])
 go_cut [29] (fun v29 wc => ∃ (kq : Nat) (x29_1 : Bool), v29 = .bool x29_1 ∧ Aside0 (link_Check.j0 kq x29_1 a0_0 a0_1 l0_2 l0_3 = some r) ∧ Aside0 (kq ≤ k) ∧ Aside0 (wc.heap[gb129]? = some (.cells #[.string a0_0, .string a0_1, (.slice A0_2 l0_2.length c0_2), (.slice A0_3 l0_3.length c0_3)] 70 (0, 0))) ∧ Aside0 (Below w.heap.size w wc))
 case first =>
  have H := HC2.out
  clear HC2
  by_cases c4 : (a0_0.size : Int) = 32
  ·
   rw [if_pos c4] at H
   have c4b0 := beq_iff_eq.mpr c4
   have c4b1 := bne_eq_false_iff_eq.mpr c4
   clear c4
   (first | rw [c4b0] | (simp only [i64_w, i32_w, IntKind.wrap_u8]; rw [c4b0]) | skip)
   replace H := Option.bind_eq_some_iff.mp H
   obtain ⟨t130, A50, H⟩ := H
   have A5 := Aside0.mk A50
   clear A50
   by_cases c6 : t130 = true
   ·
    subst c6
    rw [if_pos rfl] at H
    by_cases c7 : (l0_2.length : Int) = (l0_3.length : Int)
    ·
     rw [if_pos c7] at H
     have c7b0 := beq_iff_eq.mpr c7
     have c7b1 := bne_eq_false_iff_eq.mpr c7
     have c7b2 : (l0_2.length == l0_3.length) = true := by first | simpa using c7 | (simp at c7 ⊢; omega)
     clear c7
     have H' := Aside0.mk H
     clear H
     have ⟨_, _, _, _, _, _, _, _⟩ := cc4 BK129
     go_wp2_with (first | (go_at_call 80; (with_reducible refine (link_titled.calls k a0_1 true _ A5.out).mono ?_); rintro e w' ⟨rfl, ⟨nd, rfl⟩⟩))
     go_meet
     case rel => exact ⟨_, (decide ((l0_2.length : Int) > 6)), b4, H', ⟨b5⟩, ⟨b2⟩, ⟨b0⟩⟩
    ·
     rw [if_neg c7] at H
     have c7b0 := beq_eq_false_iff_ne.mpr c7
     have c7b1 := bne_iff_ne.mpr c7
     have c7b2 : (l0_2.length == l0_3.length) = false := by first | simpa using c7 | (simp at c7 ⊢; omega)
     have H' := Aside0.mk H
     clear H
     have ⟨_, _, _, _, _, _, _, _⟩ := cc4 BK129
     go_wp2_with (first | (go_at_call 80; (with_reducible refine (link_titled.calls k a0_1 true _ A5.out).mono ?_); rintro e w' ⟨rfl, ⟨nd, rfl⟩⟩))
     go_meet
     case rel => exact ⟨_, (true), b4, H', ⟨b5⟩, ⟨b2⟩, ⟨b0⟩⟩
   ·
    replace c6 := Bool.eq_false_iff.mpr c6
    subst c6
    rw [if_neg (show ¬ (false = true) by decide)] at H
    have H' := Aside0.mk H
    clear H
    have ⟨_, _, _, _, _, _, _, _⟩ := cc4 BK129
    go_wp2_with (first | (go_at_call 80; (with_reducible refine (link_titled.calls k a0_1 false _ A5.out).mono ?_); rintro e w' ⟨rfl, ⟨nd, rfl⟩⟩))
    go_meet
    case rel => exact ⟨_, (true), b4, H', ⟨b5⟩, ⟨b2⟩, ⟨b0⟩⟩
  ·
   rw [if_neg c4] at H
   have c4b0 := beq_eq_false_iff_ne.mpr c4
   have c4b1 := bne_iff_ne.mpr c4
   (first | rw [c4b0] | (simp only [i64_w, i32_w, IntKind.wrap_u8]; rw [c4b0]) | skip)
   have H' := Aside0.mk H
   clear H
   have ⟨_, _, _, _, _, _, _, _⟩ := cc4 BK129
   go_wp2
   go_meet
   case rel => exact ⟨_, (true), b4, H', ⟨b5⟩, ⟨b2⟩, ⟨b0⟩⟩
 case rest =>
  clear HC2
  obtain ⟨kq, x29_1, rfl, HA, HJ1, BK129, HB⟩ := hcut
  cases kq with
  | zero => exact absurd HA.out (by simp [link_Check.j0])
  | succ kj1 =>
   have H := HA.out
   clear HA
   simp only [link_Check.j0] at H
   by_cases c12 : x29_1 = true
   ·
    subst c12
    rw [if_pos rfl] at H
    obtain rfl := Option.some.inj H
    go_wp2
    go_ret
    exact ⟨b3, b0⟩
   ·
    replace c12 := Bool.eq_false_iff.mpr c12
    subst c12
    rw [if_neg (show ¬ (false = true) by decide)] at H
    have H' := Aside0.mk H
    clear H
    have ⟨_, _, _, _, _, _, _, _⟩ := cc4 BK129
    go_wp2
    go_loopg [33] kj1 (fun kq v33 w' => ∃ (x33_2 : Int), v33 = .int .i64 x33_2 ∧ Aside0 (link_Check.l0 kq l0_2 (l0_2.length : Int) x33_2 a0_0 a0_1 l0_2 l0_3 = some r) ∧ Aside0 (kq ≤ kj1) ∧ Aside0 (w'.heap[gb129]? = some (.cells #[.string a0_0, .string a0_1, (.slice A0_2 l0_2.length c0_2), (.slice A0_3 l0_3.length c0_3)] 70 (0, 0))) ∧ Aside0 (Below w.heap.size w w'))
    case atStart => exact ⟨(0), b4, H', ⟨Nat.le_refl _⟩, ⟨b2⟩, ⟨b0⟩⟩
    case round =>
     clear H'
     try clear c12
     try clear hcz13_0
     try clear hcz13_1
     try clear hcz13_2
     try clear hcz13_3
     try clear hfz13_0
     try clear hfz13_1
     try clear hfz13_2
     try clear hfz13_3
     obtain ⟨x33_2, rfl, HA, HK2, BK129, HB⟩ := hrel
     cases gk with
     | zero => exact absurd HA.out (by simp [link_Check.l0])
     | succ k2 =>
      have H := HA.out
      clear HA
      simp only [link_Check.l0] at H
      by_cases c14 : x33_2 < (l0_2.length : Int)
      ·
       rw [if_pos c14] at H
       have c14b0 := decide_eq_true c14
       clear c14
       by_cases c15 : 0 ≤ x33_2
       rotate_left; · rw [if_neg c15] at H; exact absurd H (by simp)
       rw [if_pos c15] at H
       have c15b0 := decide_eq_true c15
       clear c15
       by_cases c16 : x33_2 < (l0_2.length : Int)
       rotate_left; · rw [if_neg c16] at H; exact absurd H (by simp)
       rw [if_pos c16] at H
       have c16b0 := decide_eq_true c16
       clear c16
       by_cases c17 : (rd l0_2 x33_2) < 1
       ·
        rw [if_pos c17] at H
        have c17b0 := decide_eq_true c17
        clear c17
        obtain rfl := Option.some.inj H
        have p131 : 0 ≤ (x33_2 : Int) := of_decide_eq_true b1
        have q131 : x33_2 < (l0_2.length : Int) := of_decide_eq_true b1
        obtain ⟨ad131, e131, hx131_0⟩ := Kd.at_int HR0_2.out x33_2 p131 q131
        cases e131
        replace hx131_0 := (HB.out.cell (World.block_lt_of_cell? w _ hx131_0)).trans hx131_0
        replace p131 := eq_true p131
        replace q131 := eq_true q131
        go_wp2
        go_ret
        exact ⟨b3, b0⟩
       ·
        rw [if_neg c17] at H
        have c17b0 := decide_eq_false c17
        clear c17
        by_cases c18 : (rd l0_2 x33_2) > 15
        ·
         rw [if_pos c18] at H
         have c18b0 := decide_eq_true c18
         clear c18
         obtain rfl := Option.some.inj H
         have p131 : 0 ≤ (x33_2 : Int) := of_decide_eq_true b1
         have q131 : x33_2 < (l0_2.length : Int) := of_decide_eq_true b1
         obtain ⟨ad131, e131, hx131_0⟩ := Kd.at_int HR0_2.out x33_2 p131 q131
         cases e131
         replace hx131_0 := (HB.out.cell (World.block_lt_of_cell? w _ hx131_0)).trans hx131_0
         replace p131 := eq_true p131
         replace q131 := eq_true q131
         go_wp2
         go_ret
         exact ⟨b3, b0⟩
        ·
         rw [if_neg c18] at H
         have c18b0 := decide_eq_false c18
         clear c18
         by_cases c19 : x33_2 > 0
         ·
          rw [if_pos c19] at H
          have c19b0 := decide_eq_true c19
          clear c19
          obtain ⟨ji20, hji20⟩ : ∃ j_ : Int, (wrap64 (x33_2 - 1)) = j_ := ⟨_, rfl⟩
          replace H : (if 0 ≤ (ji20) then (if (ji20) < (l0_2.length : Int) then (if (rd l0_2 x33_2) ≤ (rd l0_2 (ji20)) then (some false) else (if x33_2 < (l0_3.length : Int) then ((plane_Check.f ((rd_T24 l0_3 x33_2).f0) ((rd_T24 l0_3 x33_2).f1)).bind fun t134 => (if t134 = true then (link_Check.l0 k2 l0_2 (l0_2.length : Int) (wrap64 (x33_2 + 1)) a0_0 a0_1 l0_2 l0_3) else (some false))) else (none))) else (none)) else (none)) = some r := by first | (rw [hji20] at H; exact H) | (simp only [hji20] at H ⊢; exact H)
          have hji20w : (IntKind.i64.wrap (x33_2 - 1)) = ji20 := (i64_w _).trans hji20
          by_cases c21 : 0 ≤ (ji20)
          rotate_left; · rw [if_neg c21] at H; exact absurd H (by simp)
          rw [if_pos c21] at H
          have c21b0 := decide_eq_true c21
          clear c21
          by_cases c22 : (ji20) < (l0_2.length : Int)
          rotate_left; · rw [if_neg c22] at H; exact absurd H (by simp)
          rw [if_pos c22] at H
          have c22b0 := decide_eq_true c22
          clear c22
          by_cases c23 : (rd l0_2 x33_2) ≤ (rd l0_2 (ji20))
          ·
           rw [if_pos c23] at H
           have c23b0 := decide_eq_true c23
           clear c23
           obtain rfl := Option.some.inj H
           have p131 : 0 ≤ (x33_2 : Int) := of_decide_eq_true b1
           have q131 : x33_2 < (l0_2.length : Int) := of_decide_eq_true b1
           obtain ⟨ad131, e131, hx131_0⟩ := Kd.at_int HR0_2.out x33_2 p131 q131
           cases e131
           replace hx131_0 := (HB.out.cell (World.block_lt_of_cell? w _ hx131_0)).trans hx131_0
           replace p131 := eq_true p131
           replace q131 := eq_true q131
           have ⟨_, _, _, _, _, _, _, _⟩ := cc4 BK129
           have p132 : 0 ≤ ((ji20) : Int) := of_decide_eq_true b1
           have q132 : (ji20) < (l0_2.length : Int) := of_decide_eq_true b1
           obtain ⟨ad132, e132, hx132_0⟩ := Kd.at_int HR0_2.out (ji20) p132 q132
           obtain rfl : ad131 = ad132 := (by injection e132)
           replace hx132_0 := (HB.out.cell (World.block_lt_of_cell? w _ hx132_0)).trans hx132_0
           replace p132 := eq_true p132
           replace q132 := eq_true q132
           go_wp2
           go_ret
           exact ⟨by first | rfl | (simp [errW_none, errW_some] <;> rfl) | (simp only [← hji20]; first | rfl | (simp [errW_none, errW_some] <;> rfl)) | (simp [*, errW_none, errW_some] <;> rfl), b0⟩
          ·
           rw [if_neg c23] at H
           have c23b0 := decide_eq_false c23
           clear c23
           by_cases c25 : x33_2 < (l0_3.length : Int)
           rotate_left; · rw [if_neg c25] at H; exact absurd H (by simp)
           rw [if_pos c25] at H
           have c25b0 := decide_eq_true c25
           clear c25
           replace H := Option.bind_eq_some_iff.mp H
           obtain ⟨t134, A260, H⟩ := H
           have A26 := Aside0.mk A260
           clear A260
           by_cases c27 : t134 = true
           ·
            subst c27
            rw [if_pos rfl] at H
            have H' := Aside0.mk H
            clear H
            have p131 : 0 ≤ (x33_2 : Int) := of_decide_eq_true b1
            have q131 : x33_2 < (l0_2.length : Int) := of_decide_eq_true b1
            obtain ⟨ad131, e131, hx131_0⟩ := Kd.at_int HR0_2.out x33_2 p131 q131
            cases e131
            replace hx131_0 := (HB.out.cell (World.block_lt_of_cell? w _ hx131_0)).trans hx131_0
            replace p131 := eq_true p131
            replace q131 := eq_true q131
            have ⟨_, _, _, _, _, _, _, _⟩ := cc4 BK129
            have p132 : 0 ≤ ((ji20) : Int) := of_decide_eq_true b1
            have q132 : (ji20) < (l0_2.length : Int) := of_decide_eq_true b1
            obtain ⟨ad132, e132, hx132_0⟩ := Kd.at_int HR0_2.out (ji20) p132 q132
            obtain rfl : ad131 = ad132 := (by injection e132)
            replace hx132_0 := (HB.out.cell (World.block_lt_of_cell? w _ hx132_0)).trans hx132_0
            replace p132 := eq_true p132
            replace q132 := eq_true q132
            have p133 : 0 ≤ (x33_2 : Int) := of_decide_eq_true b1
            have q133 : x33_2 < (l0_3.length : Int) := of_decide_eq_true b1
            obtain ⟨ad133, e133, hx133_0, hx133_1⟩ := at_T24 HR0_3.out x33_2 p133 q133
            cases e133
            replace hx133_0 := (HB.out.cell (World.block_lt_of_cell? w _ hx133_0)).trans hx133_0
            replace hx133_1 := (HB.out.cell (World.block_lt_of_cell? w _ hx133_1)).trans hx133_1
            replace p133 := eq_true p133
            replace q133 := eq_true q133
            go_wp2_with (first | (go_at_call 37; (with_reducible refine (plane_Check.calls ((rd_T24 l0_3 x33_2).f0) ((rd_T24 l0_3 x33_2).f1) true _ A26.out).mono ?_); rintro e w29 ⟨rfl, hb⟩; replace BK129 := bB BK129 hb; replace HB := Aside0.mk (below_step b0 hb); (try clear hb); (try clear hb2); (try clear hk); (try clear hi)))
            go_roundg k2
            case measure => have := HJ1.out; have := HK2.out; omega
            case rel => exact ⟨(wrap64 (x33_2 + 1)), b4, H', ⟨by have := HJ1.out; have := HK2.out; omega⟩, ⟨b2⟩, ⟨b0⟩⟩
           ·
            replace c27 := Bool.eq_false_iff.mpr c27
            subst c27
            rw [if_neg (show ¬ (false = true) by decide)] at H
            obtain rfl := Option.some.inj H
            have p131 : 0 ≤ (x33_2 : Int) := of_decide_eq_true b1
            have q131 : x33_2 < (l0_2.length : Int) := of_decide_eq_true b1
            obtain ⟨ad131, e131, hx131_0⟩ := Kd.at_int HR0_2.out x33_2 p131 q131
            cases e131
            replace hx131_0 := (HB.out.cell (World.block_lt_of_cell? w _ hx131_0)).trans hx131_0
            replace p131 := eq_true p131
            replace q131 := eq_true q131
            have ⟨_, _, _, _, _, _, _, _⟩ := cc4 BK129
            have p132 : 0 ≤ ((ji20) : Int) := of_decide_eq_true b1
            have q132 : (ji20) < (l0_2.length : Int) := of_decide_eq_true b1
            obtain ⟨ad132, e132, hx132_0⟩ := Kd.at_int HR0_2.out (ji20) p132 q132
            obtain rfl : ad131 = ad132 := (by injection e132)
            replace hx132_0 := (HB.out.cell (World.block_lt_of_cell? w _ hx132_0)).trans hx132_0
            replace p132 := eq_true p132
            replace q132 := eq_true q132
            have p133 : 0 ≤ (x33_2 : Int) := of_decide_eq_true b1
            have q133 : x33_2 < (l0_3.length : Int) := of_decide_eq_true b1
            obtain ⟨ad133, e133, hx133_0, hx133_1⟩ := at_T24 HR0_3.out x33_2 p133 q133
            cases e133
            replace hx133_0 := (HB.out.cell (World.block_lt_of_cell? w _ hx133_0)).trans hx133_0
            replace hx133_1 := (HB.out.cell (World.block_lt_of_cell? w _ hx133_1)).trans hx133_1
            replace p133 := eq_true p133
            replace q133 := eq_true q133
            go_wp2_with (first | (go_at_call 37; (with_reducible refine (plane_Check.calls ((rd_T24 l0_3 x33_2).f0) ((rd_T24 l0_3 x33_2).f1) false _ A26.out).mono ?_); rintro e w31 ⟨rfl, hb⟩; replace BK129 := bB BK129 hb; replace HB := Aside0.mk (below_step b0 hb); (try clear hb); (try clear hb2); (try clear hk); (try clear hi)))
            go_ret
            exact ⟨by first | rfl | (simp [errW_none, errW_some] <;> rfl) | (simp only [← hji20]; first | rfl | (simp [errW_none, errW_some] <;> rfl)) | (simp [*, errW_none, errW_some] <;> rfl), b0⟩
         ·
          rw [if_neg c19] at H
          have c19b0 := decide_eq_false c19
          clear c19
          by_cases c32 : x33_2 < (l0_3.length : Int)
          rotate_left; · rw [if_neg c32] at H; exact absurd H (by simp)
          rw [if_pos c32] at H
          have c32b0 := decide_eq_true c32
          clear c32
          replace H := Option.bind_eq_some_iff.mp H
          obtain ⟨t136, A330, H⟩ := H
          have A33 := Aside0.mk A330
          clear A330
          by_cases c34 : t136 = true
          ·
           subst c34
           rw [if_pos rfl] at H
           have H' := Aside0.mk H
           clear H
           have p131 : 0 ≤ (x33_2 : Int) := of_decide_eq_true b1
           have q131 : x33_2 < (l0_2.length : Int) := of_decide_eq_true b1
           obtain ⟨ad131, e131, hx131_0⟩ := Kd.at_int HR0_2.out x33_2 p131 q131
           cases e131
           replace hx131_0 := (HB.out.cell (World.block_lt_of_cell? w _ hx131_0)).trans hx131_0
           replace p131 := eq_true p131
           replace q131 := eq_true q131
           have ⟨_, _, _, _, _, _, _, _⟩ := cc4 BK129
           have p135 : 0 ≤ (x33_2 : Int) := of_decide_eq_true b1
           have q135 : x33_2 < (l0_3.length : Int) := of_decide_eq_true b1
           obtain ⟨ad135, e135, hx135_0, hx135_1⟩ := at_T24 HR0_3.out x33_2 p135 q135
           cases e135
           replace hx135_0 := (HB.out.cell (World.block_lt_of_cell? w _ hx135_0)).trans hx135_0
           replace hx135_1 := (HB.out.cell (World.block_lt_of_cell? w _ hx135_1)).trans hx135_1
           replace p135 := eq_true p135
           replace q135 := eq_true q135
           go_wp2_with (first | (go_at_call 37; (with_reducible refine (plane_Check.calls ((rd_T24 l0_3 x33_2).f0) ((rd_T24 l0_3 x33_2).f1) true _ A33.out).mono ?_); rintro e w36 ⟨rfl, hb⟩; replace BK129 := bB BK129 hb; replace HB := Aside0.mk (below_step b0 hb); (try clear hb); (try clear hb2); (try clear hk); (try clear hi)))
           go_roundg k2
           case measure => have := HJ1.out; have := HK2.out; omega
           case rel => exact ⟨(wrap64 (x33_2 + 1)), b4, H', ⟨by have := HJ1.out; have := HK2.out; omega⟩, ⟨b2⟩, ⟨b0⟩⟩
          ·
           replace c34 := Bool.eq_false_iff.mpr c34
           subst c34
           rw [if_neg (show ¬ (false = true) by decide)] at H
           obtain rfl := Option.some.inj H
           have p131 : 0 ≤ (x33_2 : Int) := of_decide_eq_true b1
           have q131 : x33_2 < (l0_2.length : Int) := of_decide_eq_true b1
           obtain ⟨ad131, e131, hx131_0⟩ := Kd.at_int HR0_2.out x33_2 p131 q131
           cases e131
           replace hx131_0 := (HB.out.cell (World.block_lt_of_cell? w _ hx131_0)).trans hx131_0
           replace p131 := eq_true p131
           replace q131 := eq_true q131
           have ⟨_, _, _, _, _, _, _, _⟩ := cc4 BK129
           have p135 : 0 ≤ (x33_2 : Int) := of_decide_eq_true b1
           have q135 : x33_2 < (l0_3.length : Int) := of_decide_eq_true b1
           obtain ⟨ad135, e135, hx135_0, hx135_1⟩ := at_T24 HR0_3.out x33_2 p135 q135
           cases e135
           replace hx135_0 := (HB.out.cell (World.block_lt_of_cell? w _ hx135_0)).trans hx135_0
           replace hx135_1 := (HB.out.cell (World.block_lt_of_cell? w _ hx135_1)).trans hx135_1
           replace p135 := eq_true p135
           replace q135 := eq_true q135
           go_wp2_with (first | (go_at_call 37; (with_reducible refine (plane_Check.calls ((rd_T24 l0_3 x33_2).f0) ((rd_T24 l0_3 x33_2).f1) false _ A33.out).mono ?_); rintro e w38 ⟨rfl, hb⟩; replace BK129 := bB BK129 hb; replace HB := Aside0.mk (below_step b0 hb); (try clear hb); (try clear hb2); (try clear hk); (try clear hi)))
           go_ret
           exact ⟨b3, b0⟩
      ·
       rw [if_neg c14] at H
       have c14b0 := decide_eq_false c14
       clear c14
       obtain rfl := Option.some.inj H
       go_wp2
       go_ret
       exact ⟨b3, b0⟩

-- BY HAND: function 125 (bytealg_IndexByteString)

-- BY HAND: function 101 (stringslite_IndexByte)

-- BY HAND: function 76 (strings_IndexByte)

-- BY HAND: function 87 (link_plain)

-- NOT PRINTED: function 132 (abi_NoEscape)

-- NOT PRINTED: function 108 (strings_Builder_copyCheck)

-- NOT PRINTED: function 88 (strings_Builder_WriteByte)

-- NOT PRINTED: function 89 (strings_Builder_WriteString)

-- NOT PRINTED: function 90 (strings_Builder_String)

-- BY HAND: function 63 (link_Escape)

-- BY HAND: function 133 (strconv_small)

-- BY HAND: function 121 (bits_Len64)

-- BY HAND: function 152 (strconv_log10Pow2)

-- BY HAND: function 153 (strconv_bool2_int)

-- BY HAND: function 134 (strconv_numDigits)

-- BY HAND: function 135 (strconv_formatBase10)

-- BY HAND: function 154 (strconv_isPowerOfTwo)

-- BY HAND: function 160 (bits_TrailingZeros32)

-- BY HAND: function 161 (bits_TrailingZeros64)

-- BY HAND: function 155 (bits_TrailingZeros)

-- BY HAND: function 136 (strconv_formatBits)

-- BY HAND: function 109 (strconv_FormatInt)

-- BY HAND: function 91 (strconv_Itoa_91)

-- BY HAND: function 64 (strconv_Itoa_64)

-- BY HAND: function 65 (link_Base32)

-- BY HAND: function 137 (bytealg_MakeNoZero)

-- NOT PRINTED: function 110 (strings_Builder_grow)

-- NOT PRINTED: function 92 (strings_Builder_Grow)

-- BY HAND: function 66 (strings_Join)

end Go.Proofs.YtmimnlbkllgfpaaGreatDoor.A
