-- Written for this claim by the session's own turn of the kit's print program (wip/tools/xprint.py).
import Derived.Test.YtmimnlbkllgfpaaGreatDoorSg
import Derived.Test.YtmimnlbkllgfpaaGreatDoorAx0
import Derived.Test.YtmimnlbkllgfpaaGreatDoorAx6
namespace Go.Proofs.YtmimnlbkllgfpaaGreatDoor.A
open Go.RowKit Go.Proofs.YtmimnlbkllgfpaaGreatDoor.Sg Go.Proofs.YtmimnlbkllgfpaaGreatDoor.Fl Go.Proofs.YtmimnlbkllgfpaaGreatDoor.Sq Go.Proofs.YtmimnlbkllgfpaaGreatDoor.Hand Go.Proofs.YtmimnlbkllgfpaaGreatDoorW.PrintWords Go.Proofs.YtmimnlbkllgfpaaGreatDoorW.PrintLast Go.Proofs.YtmimnlbkllgfpaaGreatDoorW.PrintMore
attribute [local go_sem] max2_int min2_int max_two min_two max_three min_three max_four min_four   -- for this text's walks alone
set_option linter.unusedVariables false
set_option linter.unusedSimpArgs false

/-! ### mosaicref29_Check: function 67 -/
mutual
def mosaicref29_Check.j0 : Nat → Bool → ByteArray → ByteArray → List Int → List (S40) → Option (Bool)
 | 0, _, _, _, _, _ => none
 | k + 1, x29, x231000, x231001, x231002, x231003 => if x29 = true then (some false) else (mosaicref29_Check.l0 k 0 x231000 x231001 x231002 x231003)
def mosaicref29_Check.l0 : Nat → Int → ByteArray → ByteArray → List Int → List (S40) → Option (Bool)
 | 0, _, _, _, _, _ => none
 | k + 1, x3, x231000, x231001, x231002, x231003 => if x3 < (x231001.size : Int) then (if 0 ≤ x3 then (if (bt x231001 x3) < 32 then (some false) else (if (bt x231001 x3) = 127 then (some false) else (mosaicref29_Check.l0 k (wrap64 (x3 + 1)) x231000 x231001 x231002 x231003))) else (none)) else (mosaicref29_Check.l1 k 0 x231000 x231001 x231002 x231003)
def mosaicref29_Check.l1 : Nat → Int → ByteArray → ByteArray → List Int → List (S40) → Option (Bool)
 | 0, _, _, _, _, _ => none
 | k + 1, x4, x231000, x231001, x231002, x231003 => if x4 < (x231002.length : Int) then (if 0 ≤ x4 then (if (rd x231002 x4) < 1 then (some false) else (if (rd x231002 x4) > 15 then (some false) else (if x4 > 0 then (if 0 ≤ (wrap64 (x4 - 1)) then (if (wrap64 (x4 - 1)) < (x231002.length : Int) then (if (rd x231002 x4) ≤ (rd x231002 (wrap64 (x4 - 1))) then (some false) else (if x4 < (x231003.length : Int) then ((mosaicref17_Check.f ((rd_T40 x231003 x4).f0) ((rd_T40 x231003 x4).f1)).bind fun t236 => (if t236 = true then (mosaicref29_Check.l1 k (wrap64 (x4 + 1)) x231000 x231001 x231002 x231003) else (some false))) else (none))) else (none)) else (none)) else (if x4 < (x231003.length : Int) then ((mosaicref17_Check.f ((rd_T40 x231003 x4).f0) ((rd_T40 x231003 x4).f1)).bind fun t238 => (if t238 = true then (mosaicref29_Check.l1 k (wrap64 (x4 + 1)) x231000 x231001 x231002 x231003) else (some false))) else (none))))) else (none)) else (some true)
end
def mosaicref29_Check.f (k : Nat) (a0_0 : ByteArray) (a0_1 : ByteArray) (l0_2 : List Int) (l0_3 : List (S40)) : Option (Bool) := if (a0_0.size : Int) = 32 then (if (a0_1.size : Int) > 60 then (mosaicref29_Check.j0 k true a0_0 a0_1 l0_2 l0_3) else (if (l0_2.length : Int) = (l0_3.length : Int) then (mosaicref29_Check.j0 k (decide ((l0_2.length : Int) > 6)) a0_0 a0_1 l0_2 l0_3) else (mosaicref29_Check.j0 k true a0_0 a0_1 l0_2 l0_3))) else (mosaicref29_Check.j0 k true a0_0 a0_1 l0_2 l0_3)
def mosaicref29_Check.T11 : Bool × List (List Nat × List Nat) := (true, [([], []), ([0], [0]), ([], []), ([1, 2], [1, 2]), ([3], [3]), ([4], [4]), ([5], [5]), ([6], [6]), ([7, 6], [6, 7]), ([6], [6]), ([8, 9, 6], [6, 8, 9]), ([10, 6], [6, 10]), ([11, 6], [6, 11]), ([6, 12], [6, 12]), ([13, 6], [13]), ([14], [14]), ([15, 14], [14, 15]), ([16, 14, 14], [14, 16]), ([17], [17]), ([18, 17], [17, 18]), ([17], [17]), ([19, 20, 17], [17, 19, 20]), ([21, 17], [17, 21]), ([17], [17]), ([23, 17], [17, 23]), ([17], [17]), ([25, 17], [17, 25]), ([24, 26, 17], [17, 24, 26]), ([27, 17], [17, 27]), ([22, 28, 17], [17, 22, 28]), ([17, 29, 14], [14, 17, 29]), ([14, 30], [14, 30]), ([31, 17], [31]), ([32], [32]), ([33, 32], [32, 33]), ([32], [32]), ([34, 35, 32], [32, 34, 35]), ([36, 32], [32, 36]), ([37, 32, 32], [32, 37]), ([38, 32], [32, 38]), ([32, 39], [32, 39])])
def mosaicref29_Check.B11 : List Nat := [0, 1, 0, 7, 15, 31, 63, 127, 255, 127, 1023, 2047, 4095, 8191, 16383, 32767, 65535, 131071, 262143, 524287, 262143, 2097151, 4194303, 262143, 8650751, 262143, 33816575, 126091263, 260308991, 536870911, 1073741823, 2147483647, 4294967295, 8589934591, 17179869183, 8589934591, 68719476735, 137438953471, 274877906943, 549755813887, 1099511627775]
theorem mosaicref29_Check.tab11 : rtab .any (opsOf Tryz.f67 11) = mosaicref29_Check.T11 := by kernel_rfl
theorem mosaicref29_Check.bits11 : waitsOk mosaicref29_Check.T11.2 mosaicref29_Check.B11 = true := by kernel_rfl
namespace BAx11
theorem b0 {p : Prop} (h : p := by repeat (first | (with_reducible first | exact HB.out | apply below_alloc | apply pw_below_drewN | apply below_drew1 | refine below_set ?_ GE230.out) | exact HB.out)) : p := h
theorem b1 {p : Prop} (h : p := by first | (with_reducible assumption) | assumption) : p := h
theorem b2 {p : Prop} (h : p := by (with_reducible repeat (first | refine blk_drewN ?_ _ | refine blk_drew ?_ | refine blk_alloc ?_ _)); exact BK230.out) : p := h
theorem b3 {p : Prop} (h : p := by first | rfl | (simp [errW_none, errW_some] <;> rfl) | (simp [*, errW_none, errW_some] <;> rfl)) : p := h
theorem b4 {p : Prop} (h : p := by (try simp only [List.map_toArray, List.map_cons, List.map_nil]); first | done | rfl | (simp only [List.length_drop, List.length_take]; rfl)) : p := h
theorem b5 {p : Prop} (h : p := by first | rfl | (simp; done) | (simp [*]; done)) : p := h
theorem b6 {p : Prop} (h : p := by first | omega | exact Nat.le_refl _) : p := h
end BAx11
open BAx11
set_option maxHeartbeats 8000000 in
set_option maxRecDepth 100000 in
theorem mosaicref29_Check.calls (k : Nat) (a0_0 : ByteArray) (a0_1 : ByteArray) (A0_2 : Option Addr) (c0_2 : Nat) (l0_2 : List Int) (A0_3 : Option Addr) (c0_3 : Nat) (l0_3 : List (S40)) (r : Bool) (w : World) (hr0_2 : Kd.C (Kd.int .i64) w A0_2 l0_2.length l0_2) (hc0_2 : l0_2.length ≤ c0_2) (hr0_3 : Kd.C k40 w A0_3 l0_3.length l0_3) (hc0_3 : l0_3.length ≤ c0_3) (h : mosaicref29_Check.f k a0_0 a0_1 l0_2 l0_3 = some r) :
  Calls Tryz.prog 67 #[.agg #[.string a0_0, .string a0_1, .slice A0_2 l0_2.length c0_2, .slice A0_3 l0_3.length c0_3]] w fun e w' => e = .returned (.bool r) ∧ Below w.heap.size w w' := by
 have hu95 := Tryz.underlying95
 have hu40 := Tryz.underlying40
 have HR0_2 := Aside0.mk hr0_2
 have HC0_2 := Aside0.mk hc0_2
 clear hr0_2 hc0_2
 have HR0_3 := Aside0.mk hr0_3
 have HC0_3 := Aside0.mk hc0_3
 clear hr0_3 hc0_3
 have HB := Aside0.mk (Below.refl w.heap.size w)
 have H : (if (a0_0.size : Int) = 32 then (if (a0_1.size : Int) > 60 then (mosaicref29_Check.j0 k true a0_0 a0_1 l0_2 l0_3) else (if (l0_2.length : Int) = (l0_3.length : Int) then (mosaicref29_Check.j0 k (decide ((l0_2.length : Int) > 6)) a0_0 a0_1 l0_2 l0_3) else (mosaicref29_Check.j0 k true a0_0 a0_1 l0_2 l0_3))) else (mosaicref29_Check.j0 k true a0_0 a0_1 l0_2 l0_3)) = some r := h
 clear h
 have HC2 := Aside0.mk H
 clear H
 go_enter Tryz.func67, Tryz.ntmps67
 go_upto_region 1 with (first | ((with_reducible refine gate_dst (N := 1) rfl ?_); (try (refine gate_guard (by rfl) ?_; dsimp only)); refine box_event ?hg (N := 1) ?hd (cs := #[.string a0_0, .string a0_1, .slice A0_2 l0_2.length c0_2, .slice A0_3 l0_3.length c0_3]) (t := 95) ?hr ?_; (case hd => rfl); (case hg => rfl); (case hr => first | (go_simp; done) | (go_simp; rfl)); intro gb230 hg w3 hbox hb; have BK230 := Aside0.mk (hbox); have GW230 := hG HB hg; have GE230 := hG HB hg; replace HB := hS HB hb; clear hb hbox hg))
 (try simp only [Act.put, List.setIfInBounds_toArray, List.set_cons_zero, List.set_cons_succ])
 go_cut [29] (fun v29 wc => ∃ (kq : Nat) (x29_1 : Bool), v29 = .bool x29_1 ∧ Aside0 (mosaicref29_Check.j0 kq x29_1 a0_0 a0_1 l0_2 l0_3 = some r) ∧ Aside0 (kq ≤ k) ∧ Aside0 (wc.heap[gb230]? = some (.cells #[.string a0_0, .string a0_1, (.slice A0_2 l0_2.length c0_2), (.slice A0_3 l0_3.length c0_3)] 95 (0, 0))) ∧ Aside0 (Below w.heap.size w wc))
 case first =>
  have H := HC2.out
  clear HC2
  by_cases c4 : (a0_0.size : Int) = 32
  ·
   rw [if_pos c4] at H
   have c4b0 := beq_iff_eq.mpr c4
   have c4b1 := bne_eq_false_iff_eq.mpr c4
   clear c4
   (first | rw [c4b0] | (simp only [i64_w, i32_w, IntKind.wrap_u8]; rw [c4b0]) | skip)
   by_cases c5 : (a0_1.size : Int) > 60
   ·
    rw [if_pos c5] at H
    have c5b0 := decide_eq_true c5
    have c5b1 : decide (60 < a0_1.size) = true := decide_eq_true (by omega)
    clear c5
    have H' := Aside0.mk H
    clear H
    have ⟨_, _, _, _, _, _, _, _⟩ := cc4 BK230
    go_wp2
    go_meet
    case rel => exact ⟨_, (true), b5, H', ⟨b6⟩, ⟨b2⟩, ⟨b0⟩⟩
   ·
    rw [if_neg c5] at H
    have c5b0 := decide_eq_false c5
    have c5b1 : decide (60 < a0_1.size) = false := decide_eq_false (by omega)
    clear c5
    by_cases c7 : (l0_2.length : Int) = (l0_3.length : Int)
    ·
     rw [if_pos c7] at H
     have c7b0 := beq_iff_eq.mpr c7
     have c7b1 := bne_eq_false_iff_eq.mpr c7
     have c7b2 : (l0_2.length == l0_3.length) = true := by first | simpa using c7 | (simp at c7 ⊢; omega)
     clear c7
     have H' := Aside0.mk H
     clear H
     have ⟨_, _, _, _, _, _, _, _⟩ := cc4 BK230
     go_wp2
     go_meet
     case rel => exact ⟨_, (decide ((l0_2.length : Int) > 6)), b5, H', ⟨b6⟩, ⟨b2⟩, ⟨b0⟩⟩
    ·
     rw [if_neg c7] at H
     have c7b0 := beq_eq_false_iff_ne.mpr c7
     have c7b1 := bne_iff_ne.mpr c7
     have c7b2 : (l0_2.length == l0_3.length) = false := by first | simpa using c7 | (simp at c7 ⊢; omega)
     have H' := Aside0.mk H
     clear H
     have ⟨_, _, _, _, _, _, _, _⟩ := cc4 BK230
     go_wp2
     go_meet
     case rel => exact ⟨_, (true), b5, H', ⟨b6⟩, ⟨b2⟩, ⟨b0⟩⟩
  ·
   rw [if_neg c4] at H
   have c4b0 := beq_eq_false_iff_ne.mpr c4
   have c4b1 := bne_iff_ne.mpr c4
   (first | rw [c4b0] | (simp only [i64_w, i32_w, IntKind.wrap_u8]; rw [c4b0]) | skip)
   have H' := Aside0.mk H
   clear H
   have ⟨_, _, _, _, _, _, _, _⟩ := cc4 BK230
   go_wp2
   go_meet
   case rel => exact ⟨_, (true), b5, H', ⟨b6⟩, ⟨b2⟩, ⟨b0⟩⟩
 case rest =>
  clear HC2
  obtain ⟨kq, x29_1, rfl, HA, HJ1, BK230, HB⟩ := hcut
  cases kq with
  | zero => exact absurd HA.out (by simp [mosaicref29_Check.j0])
  | succ kj1 =>
   have H := HA.out
   clear HA
   simp only [mosaicref29_Check.j0] at H
   by_cases c11 : x29_1 = true
   ·
    subst c11
    rw [if_pos rfl] at H
    obtain rfl := Option.some.inj H
    go_wp2
    go_ret
    exact ⟨b3, b0⟩
   ·
    replace c11 := Bool.eq_false_iff.mpr c11
    subst c11
    rw [if_neg (show ¬ (false = true) by decide)] at H
    have H' := Aside0.mk H
    clear H
    go_wp2
    go_loopg [3] kj1 (fun kq v3 w' => ∃ (x3_2 : Int), v3 = .int .i64 x3_2 ∧ Aside0 (mosaicref29_Check.l0 kq x3_2 a0_0 a0_1 l0_2 l0_3 = some r) ∧ Aside0 (kq ≤ kj1) ∧ Aside0 (w'.heap[gb230]? = some (.cells #[.string a0_0, .string a0_1, (.slice A0_2 l0_2.length c0_2), (.slice A0_3 l0_3.length c0_3)] 95 (0, 0))) ∧ Aside0 (Below w.heap.size w w'))
    case atStart => exact ⟨(0), b5, H', ⟨Nat.le_refl _⟩, ⟨b2⟩, ⟨b0⟩⟩
    case round =>
     clear H'
     try clear c11
     obtain ⟨x3_2, rfl, HA, HK2, BK230, HB⟩ := hrel
     cases gk with
     | zero => exact absurd HA.out (by simp [mosaicref29_Check.l0])
     | succ k2 =>
      have H := HA.out
      clear HA
      simp only [mosaicref29_Check.l0] at H
      by_cases c12 : x3_2 < (a0_1.size : Int)
      ·
       rw [if_pos c12] at H
       have c12b0 := decide_eq_true c12
       clear c12
       by_cases c13 : 0 ≤ x3_2
       rotate_left; · rw [if_neg c13] at H; exact absurd H (by simp)
       rw [if_pos c13] at H
       have c13b0 := decide_eq_true c13
       clear c13
       by_cases c15 : (bt a0_1 x3_2) < 32
       ·
        rw [if_pos c15] at H
        have c15b0 := decide_eq_true c15
        clear c15
        obtain rfl := Option.some.inj H
        have ⟨_, _, _, _, _, _, _, _⟩ := cc4 BK230
        have p14 : 0 ≤ (x3_2 : Int) := of_decide_eq_true b1
        have q14 : x3_2 < (a0_1.size : Int) := of_decide_eq_true b1
        have hx14 := bt_at a0_1 x3_2
        replace p14 := eq_true p14
        replace q14 := eq_true q14
        go_wp2
        go_ret
        exact ⟨b3, b0⟩
       ·
        rw [if_neg c15] at H
        have c15b0 := decide_eq_false c15
        clear c15
        by_cases c18 : (bt a0_1 x3_2) = 127
        ·
         rw [if_pos c18] at H
         have c18b0 := beq_iff_eq.mpr c18
         have c18b1 := bne_eq_false_iff_eq.mpr c18
         clear c18
         obtain rfl := Option.some.inj H
         have ⟨_, _, _, _, _, _, _, _⟩ := cc4 BK230
         have p14 : 0 ≤ (x3_2 : Int) := of_decide_eq_true b1
         have q14 : x3_2 < (a0_1.size : Int) := of_decide_eq_true b1
         have hx14 := bt_at a0_1 x3_2
         replace p14 := eq_true p14
         replace q14 := eq_true q14
         have p17 : 0 ≤ (x3_2 : Int) := of_decide_eq_true b1
         have q17 : x3_2 < (a0_1.size : Int) := of_decide_eq_true b1
         have hx17 := bt_at a0_1 x3_2
         replace p17 := eq_true p17
         replace q17 := eq_true q17
         go_wp2
         go_ret
         exact ⟨b3, b0⟩
        ·
         rw [if_neg c18] at H
         have c18b0 := beq_eq_false_iff_ne.mpr c18
         have c18b1 := bne_iff_ne.mpr c18
         have H' := Aside0.mk H
         clear H
         have ⟨_, _, _, _, _, _, _, _⟩ := cc4 BK230
         have p14 : 0 ≤ (x3_2 : Int) := of_decide_eq_true b1
         have q14 : x3_2 < (a0_1.size : Int) := of_decide_eq_true b1
         have hx14 := bt_at a0_1 x3_2
         replace p14 := eq_true p14
         replace q14 := eq_true q14
         have p17 : 0 ≤ (x3_2 : Int) := of_decide_eq_true b1
         have q17 : x3_2 < (a0_1.size : Int) := of_decide_eq_true b1
         have hx17 := bt_at a0_1 x3_2
         replace p17 := eq_true p17
         replace q17 := eq_true q17
         go_wp2
         go_roundg k2
         case measure => have := HJ1.out; have := HK2.out; omega
         case rel => exact ⟨(wrap64 (x3_2 + 1)), b5, H', ⟨by have := HJ1.out; have := HK2.out; omega⟩, ⟨b2⟩, ⟨b0⟩⟩
      ·
       rw [if_neg c12] at H
       have c12b0 := decide_eq_false c12
       clear c12
       have H' := Aside0.mk H
       clear H
       have ⟨_, _, _, _, _, _, _, _⟩ := cc4 BK230
       go_wp2
       go_loopg [4] k2 (fun kq v4 w' => ∃ (x4_3 : Int), v4 = .int .i64 x4_3 ∧ Aside0 (mosaicref29_Check.l1 kq x4_3 a0_0 a0_1 l0_2 l0_3 = some r) ∧ Aside0 (kq ≤ k2) ∧ Aside0 (w'.heap[gb230]? = some (.cells #[.string a0_0, .string a0_1, (.slice A0_2 l0_2.length c0_2), (.slice A0_3 l0_3.length c0_3)] 95 (0, 0))) ∧ Aside0 (Below w.heap.size w w'))
       case atStart => exact ⟨(0), b5, H', ⟨Nat.le_refl _⟩, ⟨b2⟩, ⟨b0⟩⟩
       case round =>
        clear H'
        try clear c11
        try clear c12
        try clear c12b0
        try clear hcz21_0
        try clear hcz21_1
        try clear hcz21_2
        try clear hcz21_3
        try clear hfz21_0
        try clear hfz21_1
        try clear hfz21_2
        try clear hfz21_3
        obtain ⟨x4_3, rfl, HA, HK3, BK230, HB⟩ := hrel
        cases gk with
        | zero => exact absurd HA.out (by simp [mosaicref29_Check.l1])
        | succ k3 =>
         have H := HA.out
         clear HA
         simp only [mosaicref29_Check.l1] at H
         by_cases c22 : x4_3 < (l0_2.length : Int)
         ·
          rw [if_pos c22] at H
          have c22b0 := decide_eq_true c22
          clear c22
          by_cases c23 : 0 ≤ x4_3
          rotate_left; · rw [if_neg c23] at H; exact absurd H (by simp)
          rw [if_pos c23] at H
          have c23b0 := decide_eq_true c23
          clear c23
          by_cases c24 : (rd l0_2 x4_3) < 1
          ·
           rw [if_pos c24] at H
           have c24b0 := decide_eq_true c24
           clear c24
           obtain rfl := Option.some.inj H
           have ⟨_, _, _, _, _, _, _, _⟩ := cc4 BK230
           try go_wp2
           have n0_ := Aside0.mk (blk_drew BK230.out)
           have n1_ := Aside0.mk (below_drew1 HB.out)
           clear BK230 HB
           have BK230 := n0_
           have HB := n1_
           clear n0_ n1_
           have p231 : 0 ≤ (x4_3 : Int) := of_decide_eq_true b1
           have q231 : x4_3 < (l0_2.length : Int) := of_decide_eq_true b1
           obtain ⟨ad231, e231, hx231_0⟩ := Kd.at_int HR0_2.out x4_3 p231 q231
           have hw231_0 := hx231_0
           cases e231
           replace hx231_0 := (HB.out.cell (World.block_lt_of_cell? w _ hx231_0)).trans hx231_0
           replace p231 := eq_true p231
           replace q231 := eq_true q231
           refine start_ (n := 41) (S := fun w' => w'.cell? ⟨gb230, 0, none⟩ = some (.string a0_0) ∧ w'.cell? ⟨gb230, 1, none⟩ = some (.string a0_1) ∧ w'.cell? ⟨gb230, 2, none⟩ = some (.slice (some ad231) l0_2.length c0_2) ∧ w'.cell? ⟨gb230, 3, none⟩ = some (.slice A0_3 l0_3.length c0_3) ∧ w'.cell? (ad231.add (x4_3).toNat) = some (.int .i64 (rd l0_2 x4_3))) (ds := []) (fB 41 0) (by kernel_rfl) rfl rfl ⟨(blk_cell BK230.out 0).trans rfl, (blk_cell BK230.out 1).trans rfl, (blk_cell BK230.out 2).trans rfl, (blk_cell BK230.out 3).trans rfl, ((HB.out.cell (World.block_lt_of_cell? w _ hw231_0)).trans hw231_0)⟩ (fun hHeld => ?_); refine with_tabW mosaicref29_Check.tab11 mosaicref29_Check.bits11 (fun HT_ HW_ => ?_)
           generalize wr.drew = w26 at BK230 HB hx231_0 hHeld ⊢
           refine pS 0 56 41 1 HT_ ?_
           refine pS 2 58 41 5 HT_ ?_
           refine tS 1 57 41 7 HT_ HW_ hHeld ?_
           refine pS 3 59 41 15 HT_ ?_
           refine tS 4 60 41 31 HT_ HW_ hHeld ?_
           refine pS 5 61 41 63 HT_ ?_
           refine pS 6 62 41 127 HT_ ?_
           refine oS 7 63 41 255 HT_ ?_
           refine oS 8 64 41 511 HT_ ?_
           refine oS 9 65 41 1023 HT_ ?_
           refine oS 10 66 41 2047 HT_ ?_
           refine oS 11 67 41 4095 HT_ ?_
           refine oS 12 68 41 8191 HT_ ?_
           refine pS 13 69 41 16383 HT_ ?_
           refine pS 14 70 41 32767 HT_ ?_
           refine oS 15 71 41 65535 HT_ ?_
           refine oS 16 72 41 131071 HT_ ?_
           refine oS 17 73 41 262143 HT_ ?_
           refine oS 18 74 41 524287 HT_ ?_
           refine oS 19 75 41 1048575 HT_ ?_
           refine oS 20 76 41 2097151 HT_ ?_
           refine oS 21 77 41 4194303 HT_ ?_
           refine oS 22 78 41 8388607 HT_ ?_
           refine oS 23 79 41 16777215 HT_ ?_
           refine oS 24 80 41 33554431 HT_ ?_
           refine oS 25 81 41 67108863 HT_ ?_
           refine oS 26 82 41 134217727 HT_ ?_
           refine oS 27 83 41 268435455 HT_ ?_
           refine oS 28 84 41 536870911 HT_ ?_
           refine oS 29 85 41 1073741823 HT_ ?_
           refine oS 30 86 41 2147483647 HT_ ?_
           refine pS 31 87 41 4294967295 HT_ ?_
           refine pS 32 88 41 8589934591 HT_ ?_
           refine oS 33 89 41 17179869183 HT_ ?_
           refine oS 34 90 41 34359738367 HT_ ?_
           refine oS 35 91 41 68719476735 HT_ ?_
           refine oS 36 92 41 137438953471 HT_ ?_
           refine oS 37 93 41 274877906943 HT_ ?_
           refine oS 38 94 41 549755813887 HT_ ?_
           refine oS 39 95 41 1099511627775 HT_ ?_
           refine pS 40 96 41 2199023255551 HT_ ?_
           refine done_ (done_of HT_.out (by kernel_rfl)) ?_
           try go_wp2
           go_ret
           exact ⟨b3, b0⟩
          ·
           rw [if_neg c24] at H
           have c24b0 := decide_eq_false c24
           clear c24
           by_cases c27 : (rd l0_2 x4_3) > 15
           ·
            rw [if_pos c27] at H
            have c27b0 := decide_eq_true c27
            clear c27
            obtain rfl := Option.some.inj H
            have ⟨_, _, _, _, _, _, _, _⟩ := cc4 BK230
            try go_wp2
            have n0_ := Aside0.mk (blk_drew BK230.out)
            have n1_ := Aside0.mk (below_drew1 HB.out)
            clear BK230 HB
            have BK230 := n0_
            have HB := n1_
            clear n0_ n1_
            have p231 : 0 ≤ (x4_3 : Int) := of_decide_eq_true b1
            have q231 : x4_3 < (l0_2.length : Int) := of_decide_eq_true b1
            obtain ⟨ad231, e231, hx231_0⟩ := Kd.at_int HR0_2.out x4_3 p231 q231
            have hw231_0 := hx231_0
            cases e231
            replace hx231_0 := (HB.out.cell (World.block_lt_of_cell? w _ hx231_0)).trans hx231_0
            replace p231 := eq_true p231
            replace q231 := eq_true q231
            have p232 : 0 ≤ (x4_3 : Int) := of_decide_eq_true b1
            have q232 : x4_3 < (l0_2.length : Int) := of_decide_eq_true b1
            obtain ⟨ad232, e232, hx232_0⟩ := Kd.at_int HR0_2.out x4_3 p232 q232
            have hw232_0 := hx232_0
            obtain rfl : ad231 = ad232 := (by injection e232)
            replace hx232_0 := (HB.out.cell (World.block_lt_of_cell? w _ hx232_0)).trans hx232_0
            replace p232 := eq_true p232
            replace q232 := eq_true q232
            refine start_ (n := 41) (S := fun w' => w'.cell? ⟨gb230, 0, none⟩ = some (.string a0_0) ∧ w'.cell? ⟨gb230, 1, none⟩ = some (.string a0_1) ∧ w'.cell? ⟨gb230, 2, none⟩ = some (.slice (some ad231) l0_2.length c0_2) ∧ w'.cell? ⟨gb230, 3, none⟩ = some (.slice A0_3 l0_3.length c0_3) ∧ w'.cell? (ad231.add (x4_3).toNat) = some (.int .i64 (rd l0_2 x4_3)) ∧ w'.cell? (ad231.add (x4_3).toNat) = some (.int .i64 (rd l0_2 x4_3))) (ds := []) (fB 41 0) (by kernel_rfl) rfl rfl ⟨(blk_cell BK230.out 0).trans rfl, (blk_cell BK230.out 1).trans rfl, (blk_cell BK230.out 2).trans rfl, (blk_cell BK230.out 3).trans rfl, ((HB.out.cell (World.block_lt_of_cell? w _ hw231_0)).trans hw231_0), ((HB.out.cell (World.block_lt_of_cell? w _ hw232_0)).trans hw232_0)⟩ (fun hHeld => ?_); refine with_tabW mosaicref29_Check.tab11 mosaicref29_Check.bits11 (fun HT_ HW_ => ?_)
            generalize wr.drew = w29 at BK230 HB hx231_0 hx232_0 hHeld ⊢
            refine pS 0 56 41 1 HT_ ?_
            refine pS 2 58 41 5 HT_ ?_
            refine tS 1 57 41 7 HT_ HW_ hHeld ?_
            refine pS 3 59 41 15 HT_ ?_
            refine tS 4 60 41 31 HT_ HW_ hHeld ?_
            refine pS 5 61 41 63 HT_ ?_
            refine pS 6 62 41 127 HT_ ?_
            refine pS 7 63 41 255 HT_ ?_
            refine pS 9 65 41 767 HT_ ?_
            refine tS 8 64 41 1023 HT_ HW_ hHeld ?_
            refine pS 10 66 41 2047 HT_ ?_
            refine tS 11 67 41 4095 HT_ HW_ hHeld ?_
            refine pS 12 68 41 8191 HT_ ?_
            refine pS 13 69 41 16383 HT_ ?_
            refine pS 14 70 41 32767 HT_ ?_
            refine oS 15 71 41 65535 HT_ ?_
            refine oS 16 72 41 131071 HT_ ?_
            refine oS 17 73 41 262143 HT_ ?_
            refine oS 18 74 41 524287 HT_ ?_
            refine oS 19 75 41 1048575 HT_ ?_
            refine oS 20 76 41 2097151 HT_ ?_
            refine oS 21 77 41 4194303 HT_ ?_
            refine oS 22 78 41 8388607 HT_ ?_
            refine oS 23 79 41 16777215 HT_ ?_
            refine oS 24 80 41 33554431 HT_ ?_
            refine oS 25 81 41 67108863 HT_ ?_
            refine oS 26 82 41 134217727 HT_ ?_
            refine oS 27 83 41 268435455 HT_ ?_
            refine oS 28 84 41 536870911 HT_ ?_
            refine oS 29 85 41 1073741823 HT_ ?_
            refine oS 30 86 41 2147483647 HT_ ?_
            refine pS 31 87 41 4294967295 HT_ ?_
            refine pS 32 88 41 8589934591 HT_ ?_
            refine oS 33 89 41 17179869183 HT_ ?_
            refine oS 34 90 41 34359738367 HT_ ?_
            refine oS 35 91 41 68719476735 HT_ ?_
            refine oS 36 92 41 137438953471 HT_ ?_
            refine oS 37 93 41 274877906943 HT_ ?_
            refine oS 38 94 41 549755813887 HT_ ?_
            refine oS 39 95 41 1099511627775 HT_ ?_
            refine pS 40 96 41 2199023255551 HT_ ?_
            refine done_ (done_of HT_.out (by kernel_rfl)) ?_
            try go_wp2
            go_ret
            exact ⟨b3, b0⟩
           ·
            rw [if_neg c27] at H
            have c27b0 := decide_eq_false c27
            clear c27
            by_cases c30 : x4_3 > 0
            ·
             rw [if_pos c30] at H
             have c30b0 := decide_eq_true c30
             clear c30
             obtain ⟨ji31, hji31⟩ : ∃ j_ : Int, (wrap64 (x4_3 - 1)) = j_ := ⟨_, rfl⟩
             replace H : (if 0 ≤ (ji31) then (if (ji31) < (l0_2.length : Int) then (if (rd l0_2 x4_3) ≤ (rd l0_2 (ji31)) then (some false) else (if x4_3 < (l0_3.length : Int) then ((mosaicref17_Check.f ((rd_T40 l0_3 x4_3).f0) ((rd_T40 l0_3 x4_3).f1)).bind fun t236 => (if t236 = true then (mosaicref29_Check.l1 k3 (wrap64 (x4_3 + 1)) a0_0 a0_1 l0_2 l0_3) else (some false))) else (none))) else (none)) else (none)) = some r := by first | (rw [hji31] at H; exact H) | (simp only [hji31] at H ⊢; exact H)
             have hji31w : (IntKind.i64.wrap (x4_3 - 1)) = ji31 := (i64_w _).trans hji31
             by_cases c32 : 0 ≤ (ji31)
             rotate_left; · rw [if_neg c32] at H; exact absurd H (by simp)
             rw [if_pos c32] at H
             have c32b0 := decide_eq_true c32
             clear c32
             by_cases c33 : (ji31) < (l0_2.length : Int)
             rotate_left; · rw [if_neg c33] at H; exact absurd H (by simp)
             rw [if_pos c33] at H
             have c33b0 := decide_eq_true c33
             clear c33
             by_cases c34 : (rd l0_2 x4_3) ≤ (rd l0_2 (ji31))
             ·
              rw [if_pos c34] at H
              have c34b0 := decide_eq_true c34
              clear c34
              obtain rfl := Option.some.inj H
              have ⟨_, _, _, _, _, _, _, _⟩ := cc4 BK230
              try go_wp2
              have n0_ := Aside0.mk (blk_drew BK230.out)
              have n1_ := Aside0.mk (below_drew1 HB.out)
              clear BK230 HB
              have BK230 := n0_
              have HB := n1_
              clear n0_ n1_
              have p231 : 0 ≤ (x4_3 : Int) := of_decide_eq_true b1
              have q231 : x4_3 < (l0_2.length : Int) := of_decide_eq_true b1
              obtain ⟨ad231, e231, hx231_0⟩ := Kd.at_int HR0_2.out x4_3 p231 q231
              have hw231_0 := hx231_0
              cases e231
              replace hx231_0 := (HB.out.cell (World.block_lt_of_cell? w _ hx231_0)).trans hx231_0
              replace p231 := eq_true p231
              replace q231 := eq_true q231
              have p232 : 0 ≤ (x4_3 : Int) := of_decide_eq_true b1
              have q232 : x4_3 < (l0_2.length : Int) := of_decide_eq_true b1
              obtain ⟨ad232, e232, hx232_0⟩ := Kd.at_int HR0_2.out x4_3 p232 q232
              have hw232_0 := hx232_0
              obtain rfl : ad231 = ad232 := (by injection e232)
              replace hx232_0 := (HB.out.cell (World.block_lt_of_cell? w _ hx232_0)).trans hx232_0
              replace p232 := eq_true p232
              replace q232 := eq_true q232
              have p233 : 0 ≤ (x4_3 : Int) := of_decide_eq_true b1
              have q233 : x4_3 < (l0_2.length : Int) := of_decide_eq_true b1
              obtain ⟨ad233, e233, hx233_0⟩ := Kd.at_int HR0_2.out x4_3 p233 q233
              have hw233_0 := hx233_0
              obtain rfl : ad231 = ad233 := (by injection e233)
              replace hx233_0 := (HB.out.cell (World.block_lt_of_cell? w _ hx233_0)).trans hx233_0
              replace p233 := eq_true p233
              replace q233 := eq_true q233
              have p234 : 0 ≤ ((ji31) : Int) := of_decide_eq_true b1
              have q234 : (ji31) < (l0_2.length : Int) := of_decide_eq_true b1
              obtain ⟨ad234, e234, hx234_0⟩ := Kd.at_int HR0_2.out (ji31) p234 q234
              have hw234_0 := hx234_0
              obtain rfl : ad231 = ad234 := (by injection e234)
              replace hx234_0 := (HB.out.cell (World.block_lt_of_cell? w _ hx234_0)).trans hx234_0
              replace p234 := eq_true p234
              replace q234 := eq_true q234
              refine start_ (n := 41) (S := fun w' => w'.cell? ⟨gb230, 0, none⟩ = some (.string a0_0) ∧ w'.cell? ⟨gb230, 1, none⟩ = some (.string a0_1) ∧ w'.cell? ⟨gb230, 2, none⟩ = some (.slice (some ad231) l0_2.length c0_2) ∧ w'.cell? ⟨gb230, 3, none⟩ = some (.slice A0_3 l0_3.length c0_3) ∧ w'.cell? (ad231.add (x4_3).toNat) = some (.int .i64 (rd l0_2 x4_3)) ∧ w'.cell? (ad231.add (x4_3).toNat) = some (.int .i64 (rd l0_2 x4_3)) ∧ w'.cell? (ad231.add (x4_3).toNat) = some (.int .i64 (rd l0_2 x4_3)) ∧ w'.cell? (ad231.add ((ji31)).toNat) = some (.int .i64 (rd l0_2 (ji31)))) (ds := []) (fB 41 0) (by kernel_rfl) rfl rfl ⟨(blk_cell BK230.out 0).trans rfl, (blk_cell BK230.out 1).trans rfl, (blk_cell BK230.out 2).trans rfl, (blk_cell BK230.out 3).trans rfl, ((HB.out.cell (World.block_lt_of_cell? w _ hw231_0)).trans hw231_0), ((HB.out.cell (World.block_lt_of_cell? w _ hw232_0)).trans hw232_0), ((HB.out.cell (World.block_lt_of_cell? w _ hw233_0)).trans hw233_0), ((HB.out.cell (World.block_lt_of_cell? w _ hw234_0)).trans hw234_0)⟩ (fun hHeld => ?_); refine with_tabW mosaicref29_Check.tab11 mosaicref29_Check.bits11 (fun HT_ HW_ => ?_)
              generalize wr.drew = w36 at BK230 HB hx231_0 hx232_0 hx233_0 hx234_0 hHeld ⊢
              refine pS 0 56 41 1 HT_ ?_
              refine pS 2 58 41 5 HT_ ?_
              refine tS 1 57 41 7 HT_ HW_ hHeld ?_
              refine pS 3 59 41 15 HT_ ?_
              refine tS 4 60 41 31 HT_ HW_ hHeld ?_
              refine pS 5 61 41 63 HT_ ?_
              refine pS 6 62 41 127 HT_ ?_
              refine pS 7 63 41 255 HT_ ?_
              refine pS 9 65 41 767 HT_ ?_
              refine tS 8 64 41 1023 HT_ HW_ hHeld ?_
              refine pS 10 66 41 2047 HT_ ?_
              refine tS 11 67 41 4095 HT_ HW_ hHeld ?_
              refine pS 12 68 41 8191 HT_ ?_
              refine pS 13 69 41 16383 HT_ ?_
              refine pS 14 70 41 32767 HT_ ?_
              refine pS 15 71 41 65535 HT_ ?_
              refine pS 16 72 41 131071 HT_ ?_
              refine pS 17 73 41 262143 HT_ ?_
              refine pS 18 74 41 524287 HT_ ?_
              refine pS 20 76 41 1572863 HT_ ?_
              refine pS 23 79 41 9961471 HT_ ?_
              refine pS 25 81 41 43515903 HT_ ?_
              refine pS 26 82 41 110624767 HT_ ?_
              refine tS 19 75 41 111149055 HT_ HW_ hHeld ?_
              refine pS 21 77 41 113246207 HT_ ?_
              refine tS 22 78 41 117440511 HT_ HW_ hHeld ?_
              refine tS 24 80 41 134217727 HT_ HW_ hHeld ?_
              refine pS 27 83 41 268435455 HT_ ?_
              refine tS 28 84 41 536870911 HT_ HW_ hHeld ?_
              refine pS 29 85 41 1073741823 HT_ ?_
              refine pS 30 86 41 2147483647 HT_ ?_
              refine pS 31 87 41 4294967295 HT_ ?_
              refine pS 32 88 41 8589934591 HT_ ?_
              refine oS 33 89 41 17179869183 HT_ ?_
              refine oS 34 90 41 34359738367 HT_ ?_
              refine oS 35 91 41 68719476735 HT_ ?_
              refine oS 36 92 41 137438953471 HT_ ?_
              refine oS 37 93 41 274877906943 HT_ ?_
              refine oS 38 94 41 549755813887 HT_ ?_
              refine oS 39 95 41 1099511627775 HT_ ?_
              refine pS 40 96 41 2199023255551 HT_ ?_
              refine done_ (done_of HT_.out (by kernel_rfl)) ?_
              try go_wp2
              go_ret
              exact ⟨by first | rfl | (simp [errW_none, errW_some] <;> rfl) | (simp only [← hji31]; first | rfl | (simp [errW_none, errW_some] <;> rfl)) | (simp [*, errW_none, errW_some] <;> rfl), b0⟩
             ·
              rw [if_neg c34] at H
              have c34b0 := decide_eq_false c34
              clear c34
              by_cases c37 : x4_3 < (l0_3.length : Int)
              rotate_left; · rw [if_neg c37] at H; exact absurd H (by simp)
              rw [if_pos c37] at H
              have c37b0 := decide_eq_true c37
              clear c37
              replace H := Option.bind_eq_some_iff.mp H
              obtain ⟨t236, A380, H⟩ := H
              have A38 := Aside0.mk A380
              clear A380
              by_cases c39 : t236 = true
              ·
               subst c39
               rw [if_pos rfl] at H
               have H' := Aside0.mk H
               clear H
               have ⟨_, _, _, _, _, _, _, _⟩ := cc4 BK230
               try go_wp2
               have n0_ := Aside0.mk (blk_drew BK230.out)
               have n1_ := Aside0.mk (below_drew1 HB.out)
               clear BK230 HB
               have BK230 := n0_
               have HB := n1_
               clear n0_ n1_
               have p231 : 0 ≤ (x4_3 : Int) := of_decide_eq_true b1
               have q231 : x4_3 < (l0_2.length : Int) := of_decide_eq_true b1
               obtain ⟨ad231, e231, hx231_0⟩ := Kd.at_int HR0_2.out x4_3 p231 q231
               have hw231_0 := hx231_0
               cases e231
               replace hx231_0 := (HB.out.cell (World.block_lt_of_cell? w _ hx231_0)).trans hx231_0
               replace p231 := eq_true p231
               replace q231 := eq_true q231
               have p232 : 0 ≤ (x4_3 : Int) := of_decide_eq_true b1
               have q232 : x4_3 < (l0_2.length : Int) := of_decide_eq_true b1
               obtain ⟨ad232, e232, hx232_0⟩ := Kd.at_int HR0_2.out x4_3 p232 q232
               have hw232_0 := hx232_0
               obtain rfl : ad231 = ad232 := (by injection e232)
               replace hx232_0 := (HB.out.cell (World.block_lt_of_cell? w _ hx232_0)).trans hx232_0
               replace p232 := eq_true p232
               replace q232 := eq_true q232
               have p233 : 0 ≤ (x4_3 : Int) := of_decide_eq_true b1
               have q233 : x4_3 < (l0_2.length : Int) := of_decide_eq_true b1
               obtain ⟨ad233, e233, hx233_0⟩ := Kd.at_int HR0_2.out x4_3 p233 q233
               have hw233_0 := hx233_0
               obtain rfl : ad231 = ad233 := (by injection e233)
               replace hx233_0 := (HB.out.cell (World.block_lt_of_cell? w _ hx233_0)).trans hx233_0
               replace p233 := eq_true p233
               replace q233 := eq_true q233
               have p234 : 0 ≤ ((ji31) : Int) := of_decide_eq_true b1
               have q234 : (ji31) < (l0_2.length : Int) := of_decide_eq_true b1
               obtain ⟨ad234, e234, hx234_0⟩ := Kd.at_int HR0_2.out (ji31) p234 q234
               have hw234_0 := hx234_0
               obtain rfl : ad231 = ad234 := (by injection e234)
               replace hx234_0 := (HB.out.cell (World.block_lt_of_cell? w _ hx234_0)).trans hx234_0
               replace p234 := eq_true p234
               replace q234 := eq_true q234
               have p235 : 0 ≤ (x4_3 : Int) := of_decide_eq_true b1
               have q235 : x4_3 < (l0_3.length : Int) := of_decide_eq_true b1
               obtain ⟨ad235, e235, hx235_0, hx235_1⟩ := at_T40 HR0_3.out x4_3 p235 q235
               have hw235_1 := hx235_1
               have hw235_0 := hx235_0
               cases e235
               replace hx235_0 := (HB.out.cell (World.block_lt_of_cell? w _ hx235_0)).trans hx235_0
               replace hx235_1 := (HB.out.cell (World.block_lt_of_cell? w _ hx235_1)).trans hx235_1
               replace p235 := eq_true p235
               replace q235 := eq_true q235
               refine start_ (n := 41) (S := fun w' => w'.cell? ⟨gb230, 0, none⟩ = some (.string a0_0) ∧ w'.cell? ⟨gb230, 1, none⟩ = some (.string a0_1) ∧ w'.cell? ⟨gb230, 2, none⟩ = some (.slice (some ad231) l0_2.length c0_2) ∧ w'.cell? ⟨gb230, 3, none⟩ = some (.slice (some ad235) l0_3.length c0_3) ∧ w'.cell? (ad231.add (x4_3).toNat) = some (.int .i64 (rd l0_2 x4_3)) ∧ w'.cell? (ad231.add (x4_3).toNat) = some (.int .i64 (rd l0_2 x4_3)) ∧ w'.cell? (ad231.add (x4_3).toNat) = some (.int .i64 (rd l0_2 x4_3)) ∧ w'.cell? (ad231.add ((ji31)).toNat) = some (.int .i64 (rd l0_2 (ji31))) ∧ w'.cell? (ad235.add ((x4_3).toNat * 2)) = some (.int .i64 ((rd_T40 l0_3 x4_3).f0)) ∧ w'.cell? ⟨(ad235.add ((x4_3).toNat * 2)).block, (ad235.add ((x4_3).toNat * 2)).off + 1, none⟩ = some (.int .i64 ((rd_T40 l0_3 x4_3).f1))) (ds := []) (fB 41 0) (by kernel_rfl) rfl rfl ⟨(blk_cell BK230.out 0).trans rfl, (blk_cell BK230.out 1).trans rfl, (blk_cell BK230.out 2).trans rfl, (blk_cell BK230.out 3).trans rfl, ((HB.out.cell (World.block_lt_of_cell? w _ hw231_0)).trans hw231_0), ((HB.out.cell (World.block_lt_of_cell? w _ hw232_0)).trans hw232_0), ((HB.out.cell (World.block_lt_of_cell? w _ hw233_0)).trans hw233_0), ((HB.out.cell (World.block_lt_of_cell? w _ hw234_0)).trans hw234_0), ((HB.out.cell (World.block_lt_of_cell? w _ hw235_0)).trans hw235_0), ((HB.out.cell (World.block_lt_of_cell? w _ hw235_1)).trans hw235_1)⟩ (fun hHeld => ?_); refine with_tabW mosaicref29_Check.tab11 mosaicref29_Check.bits11 (fun HT_ HW_ => ?_)
               generalize wr.drew = w41 at BK230 HB hx231_0 hx232_0 hx233_0 hx234_0 hx235_0 hx235_1 hHeld ⊢
               refine pS 0 56 41 1 HT_ ?_
               refine pS 2 58 41 5 HT_ ?_
               refine tS 1 57 41 7 HT_ HW_ hHeld ?_
               refine pS 3 59 41 15 HT_ ?_
               refine tS 4 60 41 31 HT_ HW_ hHeld ?_
               refine pS 5 61 41 63 HT_ ?_
               refine pS 6 62 41 127 HT_ ?_
               refine pS 7 63 41 255 HT_ ?_
               refine pS 9 65 41 767 HT_ ?_
               refine tS 8 64 41 1023 HT_ HW_ hHeld ?_
               refine pS 10 66 41 2047 HT_ ?_
               refine tS 11 67 41 4095 HT_ HW_ hHeld ?_
               refine pS 12 68 41 8191 HT_ ?_
               refine pS 13 69 41 16383 HT_ ?_
               refine pS 14 70 41 32767 HT_ ?_
               refine pS 15 71 41 65535 HT_ ?_
               refine pS 16 72 41 131071 HT_ ?_
               refine pS 17 73 41 262143 HT_ ?_
               refine pS 18 74 41 524287 HT_ ?_
               refine pS 20 76 41 1572863 HT_ ?_
               refine pS 23 79 41 9961471 HT_ ?_
               refine pS 25 81 41 43515903 HT_ ?_
               refine pS 26 82 41 110624767 HT_ ?_
               refine tS 19 75 41 111149055 HT_ HW_ hHeld ?_
               refine pS 21 77 41 113246207 HT_ ?_
               refine tS 22 78 41 117440511 HT_ HW_ hHeld ?_
               refine tS 24 80 41 134217727 HT_ HW_ hHeld ?_
               refine pS 27 83 41 268435455 HT_ ?_
               refine tS 28 84 41 536870911 HT_ HW_ hHeld ?_
               refine pS 29 85 41 1073741823 HT_ ?_
               refine pS 30 86 41 2147483647 HT_ ?_
               refine pS 31 87 41 4294967295 HT_ ?_
               refine pS 32 88 41 8589934591 HT_ ?_
               refine pS 33 89 41 17179869183 HT_ ?_
               refine pS 35 91 41 51539607551 HT_ ?_
               refine tS 34 90 41 68719476735 HT_ HW_ hHeld ?_
               refine pS 36 92 41 137438953471 HT_ ?_
               refine tS 37 93 41 274877906943 HT_ HW_ hHeld ?_
               refine one_ (i := 38) (N := some 94) (fB 41 549755813887) rfl rfl (one_of HT_.out (by kernel_rfl)) (by decide) (fun K hK => ?_)
               refine goes_ Tryz.func31 (by kernel_rfl) rfl #[.agg #[.int .i64 ((rd_T40 l0_3 x4_3).f0), .int .i64 ((rd_T40 l0_3 x4_3).f1)]] (by rfl) rfl rfl b4 ?_
               with_reducible refine (mosaicref17_Check.calls ((rd_T40 l0_3 x4_3).f0) ((rd_T40 l0_3 x4_3).f1) true _ A38.out).mono ?_
               rintro e w42 ⟨rfl, hb⟩
               refine ⟨_, rfl, ?_⟩
               have n0_ := bB BK230 hb
               have n1_ := hS HB hb
               clear BK230 HB
               have BK230 := n0_
               have HB := n1_
               clear n0_ n1_
               (try clear hb); (try clear hb2); (try clear hk); (try clear hi)
               refine hK.out _ _ ⟨(blk_cell BK230.out 0).trans rfl, (blk_cell BK230.out 1).trans rfl, (blk_cell BK230.out 2).trans rfl, (blk_cell BK230.out 3).trans rfl, ((HB.out.cell (World.block_lt_of_cell? w _ hw231_0)).trans hw231_0), ((HB.out.cell (World.block_lt_of_cell? w _ hw232_0)).trans hw232_0), ((HB.out.cell (World.block_lt_of_cell? w _ hw233_0)).trans hw233_0), ((HB.out.cell (World.block_lt_of_cell? w _ hw234_0)).trans hw234_0), ((HB.out.cell (World.block_lt_of_cell? w _ hw235_0)).trans hw235_0), ((HB.out.cell (World.block_lt_of_cell? w _ hw235_1)).trans hw235_1)⟩ (fun hHeld => ?_)
               clear hK K
               refine norm_ (a' := ?_) ?_ ?_
               rotate_left; · show Act.put _ (some 94) _ = _; simp only [Act.put, sA, sB, sC, i64_w, i32_w, sD]; rfl
               refine pS 39 95 41 1099511627775 HT_ ?_
               refine pS 40 96 41 2199023255551 HT_ ?_
               refine done_ (done_of HT_.out (by kernel_rfl)) ?_
               try go_wp2
               go_roundg k3
               case measure => have := HJ1.out; have := HK2.out; have := HK3.out; omega
               case rel => exact ⟨(wrap64 (x4_3 + 1)), b5, H', ⟨by have := HJ1.out; have := HK2.out; have := HK3.out; omega⟩, ⟨b2⟩, ⟨b0⟩⟩
              ·
               replace c39 := Bool.eq_false_iff.mpr c39
               subst c39
               rw [if_neg (show ¬ (false = true) by decide)] at H
               obtain rfl := Option.some.inj H
               have ⟨_, _, _, _, _, _, _, _⟩ := cc4 BK230
               try go_wp2
               have n0_ := Aside0.mk (blk_drew BK230.out)
               have n1_ := Aside0.mk (below_drew1 HB.out)
               clear BK230 HB
               have BK230 := n0_
               have HB := n1_
               clear n0_ n1_
               have p231 : 0 ≤ (x4_3 : Int) := of_decide_eq_true b1
               have q231 : x4_3 < (l0_2.length : Int) := of_decide_eq_true b1
               obtain ⟨ad231, e231, hx231_0⟩ := Kd.at_int HR0_2.out x4_3 p231 q231
               have hw231_0 := hx231_0
               cases e231
               replace hx231_0 := (HB.out.cell (World.block_lt_of_cell? w _ hx231_0)).trans hx231_0
               replace p231 := eq_true p231
               replace q231 := eq_true q231
               have p232 : 0 ≤ (x4_3 : Int) := of_decide_eq_true b1
               have q232 : x4_3 < (l0_2.length : Int) := of_decide_eq_true b1
               obtain ⟨ad232, e232, hx232_0⟩ := Kd.at_int HR0_2.out x4_3 p232 q232
               have hw232_0 := hx232_0
               obtain rfl : ad231 = ad232 := (by injection e232)
               replace hx232_0 := (HB.out.cell (World.block_lt_of_cell? w _ hx232_0)).trans hx232_0
               replace p232 := eq_true p232
               replace q232 := eq_true q232
               have p233 : 0 ≤ (x4_3 : Int) := of_decide_eq_true b1
               have q233 : x4_3 < (l0_2.length : Int) := of_decide_eq_true b1
               obtain ⟨ad233, e233, hx233_0⟩ := Kd.at_int HR0_2.out x4_3 p233 q233
               have hw233_0 := hx233_0
               obtain rfl : ad231 = ad233 := (by injection e233)
               replace hx233_0 := (HB.out.cell (World.block_lt_of_cell? w _ hx233_0)).trans hx233_0
               replace p233 := eq_true p233
               replace q233 := eq_true q233
               have p234 : 0 ≤ ((ji31) : Int) := of_decide_eq_true b1
               have q234 : (ji31) < (l0_2.length : Int) := of_decide_eq_true b1
               obtain ⟨ad234, e234, hx234_0⟩ := Kd.at_int HR0_2.out (ji31) p234 q234
               have hw234_0 := hx234_0
               obtain rfl : ad231 = ad234 := (by injection e234)
               replace hx234_0 := (HB.out.cell (World.block_lt_of_cell? w _ hx234_0)).trans hx234_0
               replace p234 := eq_true p234
               replace q234 := eq_true q234
               have p235 : 0 ≤ (x4_3 : Int) := of_decide_eq_true b1
               have q235 : x4_3 < (l0_3.length : Int) := of_decide_eq_true b1
               obtain ⟨ad235, e235, hx235_0, hx235_1⟩ := at_T40 HR0_3.out x4_3 p235 q235
               have hw235_1 := hx235_1
               have hw235_0 := hx235_0
               cases e235
               replace hx235_0 := (HB.out.cell (World.block_lt_of_cell? w _ hx235_0)).trans hx235_0
               replace hx235_1 := (HB.out.cell (World.block_lt_of_cell? w _ hx235_1)).trans hx235_1
               replace p235 := eq_true p235
               replace q235 := eq_true q235
               refine start_ (n := 41) (S := fun w' => w'.cell? ⟨gb230, 0, none⟩ = some (.string a0_0) ∧ w'.cell? ⟨gb230, 1, none⟩ = some (.string a0_1) ∧ w'.cell? ⟨gb230, 2, none⟩ = some (.slice (some ad231) l0_2.length c0_2) ∧ w'.cell? ⟨gb230, 3, none⟩ = some (.slice (some ad235) l0_3.length c0_3) ∧ w'.cell? (ad231.add (x4_3).toNat) = some (.int .i64 (rd l0_2 x4_3)) ∧ w'.cell? (ad231.add (x4_3).toNat) = some (.int .i64 (rd l0_2 x4_3)) ∧ w'.cell? (ad231.add (x4_3).toNat) = some (.int .i64 (rd l0_2 x4_3)) ∧ w'.cell? (ad231.add ((ji31)).toNat) = some (.int .i64 (rd l0_2 (ji31))) ∧ w'.cell? (ad235.add ((x4_3).toNat * 2)) = some (.int .i64 ((rd_T40 l0_3 x4_3).f0)) ∧ w'.cell? ⟨(ad235.add ((x4_3).toNat * 2)).block, (ad235.add ((x4_3).toNat * 2)).off + 1, none⟩ = some (.int .i64 ((rd_T40 l0_3 x4_3).f1))) (ds := []) (fB 41 0) (by kernel_rfl) rfl rfl ⟨(blk_cell BK230.out 0).trans rfl, (blk_cell BK230.out 1).trans rfl, (blk_cell BK230.out 2).trans rfl, (blk_cell BK230.out 3).trans rfl, ((HB.out.cell (World.block_lt_of_cell? w _ hw231_0)).trans hw231_0), ((HB.out.cell (World.block_lt_of_cell? w _ hw232_0)).trans hw232_0), ((HB.out.cell (World.block_lt_of_cell? w _ hw233_0)).trans hw233_0), ((HB.out.cell (World.block_lt_of_cell? w _ hw234_0)).trans hw234_0), ((HB.out.cell (World.block_lt_of_cell? w _ hw235_0)).trans hw235_0), ((HB.out.cell (World.block_lt_of_cell? w _ hw235_1)).trans hw235_1)⟩ (fun hHeld => ?_); refine with_tabW mosaicref29_Check.tab11 mosaicref29_Check.bits11 (fun HT_ HW_ => ?_)
               generalize wr.drew = w44 at BK230 HB hx231_0 hx232_0 hx233_0 hx234_0 hx235_0 hx235_1 hHeld ⊢
               refine pS 0 56 41 1 HT_ ?_
               refine pS 2 58 41 5 HT_ ?_
               refine tS 1 57 41 7 HT_ HW_ hHeld ?_
               refine pS 3 59 41 15 HT_ ?_
               refine tS 4 60 41 31 HT_ HW_ hHeld ?_
               refine pS 5 61 41 63 HT_ ?_
               refine pS 6 62 41 127 HT_ ?_
               refine pS 7 63 41 255 HT_ ?_
               refine pS 9 65 41 767 HT_ ?_
               refine tS 8 64 41 1023 HT_ HW_ hHeld ?_
               refine pS 10 66 41 2047 HT_ ?_
               refine tS 11 67 41 4095 HT_ HW_ hHeld ?_
               refine pS 12 68 41 8191 HT_ ?_
               refine pS 13 69 41 16383 HT_ ?_
               refine pS 14 70 41 32767 HT_ ?_
               refine pS 15 71 41 65535 HT_ ?_
               refine pS 16 72 41 131071 HT_ ?_
               refine pS 17 73 41 262143 HT_ ?_
               refine pS 18 74 41 524287 HT_ ?_
               refine pS 20 76 41 1572863 HT_ ?_
               refine pS 23 79 41 9961471 HT_ ?_
               refine pS 25 81 41 43515903 HT_ ?_
               refine pS 26 82 41 110624767 HT_ ?_
               refine tS 19 75 41 111149055 HT_ HW_ hHeld ?_
               refine pS 21 77 41 113246207 HT_ ?_
               refine tS 22 78 41 117440511 HT_ HW_ hHeld ?_
               refine tS 24 80 41 134217727 HT_ HW_ hHeld ?_
               refine pS 27 83 41 268435455 HT_ ?_
               refine tS 28 84 41 536870911 HT_ HW_ hHeld ?_
               refine pS 29 85 41 1073741823 HT_ ?_
               refine pS 30 86 41 2147483647 HT_ ?_
               refine pS 31 87 41 4294967295 HT_ ?_
               refine pS 32 88 41 8589934591 HT_ ?_
               refine pS 33 89 41 17179869183 HT_ ?_
               refine pS 35 91 41 51539607551 HT_ ?_
               refine tS 34 90 41 68719476735 HT_ HW_ hHeld ?_
               refine pS 36 92 41 137438953471 HT_ ?_
               refine tS 37 93 41 274877906943 HT_ HW_ hHeld ?_
               refine one_ (i := 38) (N := some 94) (fB 41 549755813887) rfl rfl (one_of HT_.out (by kernel_rfl)) (by decide) (fun K hK => ?_)
               refine goes_ Tryz.func31 (by kernel_rfl) rfl #[.agg #[.int .i64 ((rd_T40 l0_3 x4_3).f0), .int .i64 ((rd_T40 l0_3 x4_3).f1)]] (by rfl) rfl rfl b4 ?_
               with_reducible refine (mosaicref17_Check.calls ((rd_T40 l0_3 x4_3).f0) ((rd_T40 l0_3 x4_3).f1) false _ A38.out).mono ?_
               rintro e w45 ⟨rfl, hb⟩
               refine ⟨_, rfl, ?_⟩
               have n0_ := bB BK230 hb
               have n1_ := hS HB hb
               clear BK230 HB
               have BK230 := n0_
               have HB := n1_
               clear n0_ n1_
               (try clear hb); (try clear hb2); (try clear hk); (try clear hi)
               refine hK.out _ _ ⟨(blk_cell BK230.out 0).trans rfl, (blk_cell BK230.out 1).trans rfl, (blk_cell BK230.out 2).trans rfl, (blk_cell BK230.out 3).trans rfl, ((HB.out.cell (World.block_lt_of_cell? w _ hw231_0)).trans hw231_0), ((HB.out.cell (World.block_lt_of_cell? w _ hw232_0)).trans hw232_0), ((HB.out.cell (World.block_lt_of_cell? w _ hw233_0)).trans hw233_0), ((HB.out.cell (World.block_lt_of_cell? w _ hw234_0)).trans hw234_0), ((HB.out.cell (World.block_lt_of_cell? w _ hw235_0)).trans hw235_0), ((HB.out.cell (World.block_lt_of_cell? w _ hw235_1)).trans hw235_1)⟩ (fun hHeld => ?_)
               clear hK K
               refine norm_ (a' := ?_) ?_ ?_
               rotate_left; · show Act.put _ (some 94) _ = _; simp only [Act.put, sA, sB, sC, i64_w, i32_w, sD]; rfl
               refine pS 39 95 41 1099511627775 HT_ ?_
               refine pS 40 96 41 2199023255551 HT_ ?_
               refine done_ (done_of HT_.out (by kernel_rfl)) ?_
               try go_wp2
               go_ret
               exact ⟨by first | rfl | (simp [errW_none, errW_some] <;> rfl) | (simp only [← hji31]; first | rfl | (simp [errW_none, errW_some] <;> rfl)) | (simp [*, errW_none, errW_some] <;> rfl), b0⟩
            ·
             rw [if_neg c30] at H
             have c30b0 := decide_eq_false c30
             clear c30
             by_cases c46 : x4_3 < (l0_3.length : Int)
             rotate_left; · rw [if_neg c46] at H; exact absurd H (by simp)
             rw [if_pos c46] at H
             have c46b0 := decide_eq_true c46
             clear c46
             replace H := Option.bind_eq_some_iff.mp H
             obtain ⟨t238, A470, H⟩ := H
             have A47 := Aside0.mk A470
             clear A470
             by_cases c48 : t238 = true
             ·
              subst c48
              rw [if_pos rfl] at H
              have H' := Aside0.mk H
              clear H
              have ⟨_, _, _, _, _, _, _, _⟩ := cc4 BK230
              try go_wp2
              have n0_ := Aside0.mk (blk_drew BK230.out)
              have n1_ := Aside0.mk (below_drew1 HB.out)
              clear BK230 HB
              have BK230 := n0_
              have HB := n1_
              clear n0_ n1_
              have p231 : 0 ≤ (x4_3 : Int) := of_decide_eq_true b1
              have q231 : x4_3 < (l0_2.length : Int) := of_decide_eq_true b1
              obtain ⟨ad231, e231, hx231_0⟩ := Kd.at_int HR0_2.out x4_3 p231 q231
              have hw231_0 := hx231_0
              cases e231
              replace hx231_0 := (HB.out.cell (World.block_lt_of_cell? w _ hx231_0)).trans hx231_0
              replace p231 := eq_true p231
              replace q231 := eq_true q231
              have p232 : 0 ≤ (x4_3 : Int) := of_decide_eq_true b1
              have q232 : x4_3 < (l0_2.length : Int) := of_decide_eq_true b1
              obtain ⟨ad232, e232, hx232_0⟩ := Kd.at_int HR0_2.out x4_3 p232 q232
              have hw232_0 := hx232_0
              obtain rfl : ad231 = ad232 := (by injection e232)
              replace hx232_0 := (HB.out.cell (World.block_lt_of_cell? w _ hx232_0)).trans hx232_0
              replace p232 := eq_true p232
              replace q232 := eq_true q232
              have p237 : 0 ≤ (x4_3 : Int) := of_decide_eq_true b1
              have q237 : x4_3 < (l0_3.length : Int) := of_decide_eq_true b1
              obtain ⟨ad237, e237, hx237_0, hx237_1⟩ := at_T40 HR0_3.out x4_3 p237 q237
              have hw237_1 := hx237_1
              have hw237_0 := hx237_0
              cases e237
              replace hx237_0 := (HB.out.cell (World.block_lt_of_cell? w _ hx237_0)).trans hx237_0
              replace hx237_1 := (HB.out.cell (World.block_lt_of_cell? w _ hx237_1)).trans hx237_1
              replace p237 := eq_true p237
              replace q237 := eq_true q237
              refine start_ (n := 41) (S := fun w' => w'.cell? ⟨gb230, 0, none⟩ = some (.string a0_0) ∧ w'.cell? ⟨gb230, 1, none⟩ = some (.string a0_1) ∧ w'.cell? ⟨gb230, 2, none⟩ = some (.slice (some ad231) l0_2.length c0_2) ∧ w'.cell? ⟨gb230, 3, none⟩ = some (.slice (some ad237) l0_3.length c0_3) ∧ w'.cell? (ad231.add (x4_3).toNat) = some (.int .i64 (rd l0_2 x4_3)) ∧ w'.cell? (ad231.add (x4_3).toNat) = some (.int .i64 (rd l0_2 x4_3)) ∧ w'.cell? (ad237.add ((x4_3).toNat * 2)) = some (.int .i64 ((rd_T40 l0_3 x4_3).f0)) ∧ w'.cell? ⟨(ad237.add ((x4_3).toNat * 2)).block, (ad237.add ((x4_3).toNat * 2)).off + 1, none⟩ = some (.int .i64 ((rd_T40 l0_3 x4_3).f1))) (ds := []) (fB 41 0) (by kernel_rfl) rfl rfl ⟨(blk_cell BK230.out 0).trans rfl, (blk_cell BK230.out 1).trans rfl, (blk_cell BK230.out 2).trans rfl, (blk_cell BK230.out 3).trans rfl, ((HB.out.cell (World.block_lt_of_cell? w _ hw231_0)).trans hw231_0), ((HB.out.cell (World.block_lt_of_cell? w _ hw232_0)).trans hw232_0), ((HB.out.cell (World.block_lt_of_cell? w _ hw237_0)).trans hw237_0), ((HB.out.cell (World.block_lt_of_cell? w _ hw237_1)).trans hw237_1)⟩ (fun hHeld => ?_); refine with_tabW mosaicref29_Check.tab11 mosaicref29_Check.bits11 (fun HT_ HW_ => ?_)
              generalize wr.drew = w50 at BK230 HB hx231_0 hx232_0 hx237_0 hx237_1 hHeld ⊢
              refine pS 0 56 41 1 HT_ ?_
              refine pS 2 58 41 5 HT_ ?_
              refine tS 1 57 41 7 HT_ HW_ hHeld ?_
              refine pS 3 59 41 15 HT_ ?_
              refine tS 4 60 41 31 HT_ HW_ hHeld ?_
              refine pS 5 61 41 63 HT_ ?_
              refine pS 6 62 41 127 HT_ ?_
              refine pS 7 63 41 255 HT_ ?_
              refine pS 9 65 41 767 HT_ ?_
              refine tS 8 64 41 1023 HT_ HW_ hHeld ?_
              refine pS 10 66 41 2047 HT_ ?_
              refine tS 11 67 41 4095 HT_ HW_ hHeld ?_
              refine pS 12 68 41 8191 HT_ ?_
              refine pS 13 69 41 16383 HT_ ?_
              refine pS 14 70 41 32767 HT_ ?_
              refine pS 15 71 41 65535 HT_ ?_
              refine pS 16 72 41 131071 HT_ ?_
              refine pS 17 73 41 262143 HT_ ?_
              refine oS 18 74 41 524287 HT_ ?_
              refine oS 19 75 41 1048575 HT_ ?_
              refine oS 20 76 41 2097151 HT_ ?_
              refine oS 21 77 41 4194303 HT_ ?_
              refine oS 22 78 41 8388607 HT_ ?_
              refine oS 23 79 41 16777215 HT_ ?_
              refine oS 24 80 41 33554431 HT_ ?_
              refine oS 25 81 41 67108863 HT_ ?_
              refine oS 26 82 41 134217727 HT_ ?_
              refine oS 27 83 41 268435455 HT_ ?_
              refine oS 28 84 41 536870911 HT_ ?_
              refine oS 29 85 41 1073741823 HT_ ?_
              refine pS 30 86 41 2147483647 HT_ ?_
              refine pS 31 87 41 4294967295 HT_ ?_
              refine pS 32 88 41 8589934591 HT_ ?_
              refine pS 33 89 41 17179869183 HT_ ?_
              refine pS 35 91 41 51539607551 HT_ ?_
              refine tS 34 90 41 68719476735 HT_ HW_ hHeld ?_
              refine pS 36 92 41 137438953471 HT_ ?_
              refine tS 37 93 41 274877906943 HT_ HW_ hHeld ?_
              refine one_ (i := 38) (N := some 94) (fB 41 549755813887) rfl rfl (one_of HT_.out (by kernel_rfl)) (by decide) (fun K hK => ?_)
              refine goes_ Tryz.func31 (by kernel_rfl) rfl #[.agg #[.int .i64 ((rd_T40 l0_3 x4_3).f0), .int .i64 ((rd_T40 l0_3 x4_3).f1)]] (by rfl) rfl rfl b4 ?_
              with_reducible refine (mosaicref17_Check.calls ((rd_T40 l0_3 x4_3).f0) ((rd_T40 l0_3 x4_3).f1) true _ A47.out).mono ?_
              rintro e w51 ⟨rfl, hb⟩
              refine ⟨_, rfl, ?_⟩
              have n0_ := bB BK230 hb
              have n1_ := hS HB hb
              clear BK230 HB
              have BK230 := n0_
              have HB := n1_
              clear n0_ n1_
              (try clear hb); (try clear hb2); (try clear hk); (try clear hi)
              refine hK.out _ _ ⟨(blk_cell BK230.out 0).trans rfl, (blk_cell BK230.out 1).trans rfl, (blk_cell BK230.out 2).trans rfl, (blk_cell BK230.out 3).trans rfl, ((HB.out.cell (World.block_lt_of_cell? w _ hw231_0)).trans hw231_0), ((HB.out.cell (World.block_lt_of_cell? w _ hw232_0)).trans hw232_0), ((HB.out.cell (World.block_lt_of_cell? w _ hw237_0)).trans hw237_0), ((HB.out.cell (World.block_lt_of_cell? w _ hw237_1)).trans hw237_1)⟩ (fun hHeld => ?_)
              clear hK K
              refine norm_ (a' := ?_) ?_ ?_
              rotate_left; · show Act.put _ (some 94) _ = _; simp only [Act.put, sA, sB, sC, i64_w, i32_w, sD]; rfl
              refine pS 39 95 41 1099511627775 HT_ ?_
              refine pS 40 96 41 2199023255551 HT_ ?_
              refine done_ (done_of HT_.out (by kernel_rfl)) ?_
              try go_wp2
              go_roundg k3
              case measure => have := HJ1.out; have := HK2.out; have := HK3.out; omega
              case rel => exact ⟨(wrap64 (x4_3 + 1)), b5, H', ⟨by have := HJ1.out; have := HK2.out; have := HK3.out; omega⟩, ⟨b2⟩, ⟨b0⟩⟩
             ·
              replace c48 := Bool.eq_false_iff.mpr c48
              subst c48
              rw [if_neg (show ¬ (false = true) by decide)] at H
              obtain rfl := Option.some.inj H
              have ⟨_, _, _, _, _, _, _, _⟩ := cc4 BK230
              try go_wp2
              have n0_ := Aside0.mk (blk_drew BK230.out)
              have n1_ := Aside0.mk (below_drew1 HB.out)
              clear BK230 HB
              have BK230 := n0_
              have HB := n1_
              clear n0_ n1_
              have p231 : 0 ≤ (x4_3 : Int) := of_decide_eq_true b1
              have q231 : x4_3 < (l0_2.length : Int) := of_decide_eq_true b1
              obtain ⟨ad231, e231, hx231_0⟩ := Kd.at_int HR0_2.out x4_3 p231 q231
              have hw231_0 := hx231_0
              cases e231
              replace hx231_0 := (HB.out.cell (World.block_lt_of_cell? w _ hx231_0)).trans hx231_0
              replace p231 := eq_true p231
              replace q231 := eq_true q231
              have p232 : 0 ≤ (x4_3 : Int) := of_decide_eq_true b1
              have q232 : x4_3 < (l0_2.length : Int) := of_decide_eq_true b1
              obtain ⟨ad232, e232, hx232_0⟩ := Kd.at_int HR0_2.out x4_3 p232 q232
              have hw232_0 := hx232_0
              obtain rfl : ad231 = ad232 := (by injection e232)
              replace hx232_0 := (HB.out.cell (World.block_lt_of_cell? w _ hx232_0)).trans hx232_0
              replace p232 := eq_true p232
              replace q232 := eq_true q232
              have p237 : 0 ≤ (x4_3 : Int) := of_decide_eq_true b1
              have q237 : x4_3 < (l0_3.length : Int) := of_decide_eq_true b1
              obtain ⟨ad237, e237, hx237_0, hx237_1⟩ := at_T40 HR0_3.out x4_3 p237 q237
              have hw237_1 := hx237_1
              have hw237_0 := hx237_0
              cases e237
              replace hx237_0 := (HB.out.cell (World.block_lt_of_cell? w _ hx237_0)).trans hx237_0
              replace hx237_1 := (HB.out.cell (World.block_lt_of_cell? w _ hx237_1)).trans hx237_1
              replace p237 := eq_true p237
              replace q237 := eq_true q237
              refine start_ (n := 41) (S := fun w' => w'.cell? ⟨gb230, 0, none⟩ = some (.string a0_0) ∧ w'.cell? ⟨gb230, 1, none⟩ = some (.string a0_1) ∧ w'.cell? ⟨gb230, 2, none⟩ = some (.slice (some ad231) l0_2.length c0_2) ∧ w'.cell? ⟨gb230, 3, none⟩ = some (.slice (some ad237) l0_3.length c0_3) ∧ w'.cell? (ad231.add (x4_3).toNat) = some (.int .i64 (rd l0_2 x4_3)) ∧ w'.cell? (ad231.add (x4_3).toNat) = some (.int .i64 (rd l0_2 x4_3)) ∧ w'.cell? (ad237.add ((x4_3).toNat * 2)) = some (.int .i64 ((rd_T40 l0_3 x4_3).f0)) ∧ w'.cell? ⟨(ad237.add ((x4_3).toNat * 2)).block, (ad237.add ((x4_3).toNat * 2)).off + 1, none⟩ = some (.int .i64 ((rd_T40 l0_3 x4_3).f1))) (ds := []) (fB 41 0) (by kernel_rfl) rfl rfl ⟨(blk_cell BK230.out 0).trans rfl, (blk_cell BK230.out 1).trans rfl, (blk_cell BK230.out 2).trans rfl, (blk_cell BK230.out 3).trans rfl, ((HB.out.cell (World.block_lt_of_cell? w _ hw231_0)).trans hw231_0), ((HB.out.cell (World.block_lt_of_cell? w _ hw232_0)).trans hw232_0), ((HB.out.cell (World.block_lt_of_cell? w _ hw237_0)).trans hw237_0), ((HB.out.cell (World.block_lt_of_cell? w _ hw237_1)).trans hw237_1)⟩ (fun hHeld => ?_); refine with_tabW mosaicref29_Check.tab11 mosaicref29_Check.bits11 (fun HT_ HW_ => ?_)
              generalize wr.drew = w53 at BK230 HB hx231_0 hx232_0 hx237_0 hx237_1 hHeld ⊢
              refine pS 0 56 41 1 HT_ ?_
              refine pS 2 58 41 5 HT_ ?_
              refine tS 1 57 41 7 HT_ HW_ hHeld ?_
              refine pS 3 59 41 15 HT_ ?_
              refine tS 4 60 41 31 HT_ HW_ hHeld ?_
              refine pS 5 61 41 63 HT_ ?_
              refine pS 6 62 41 127 HT_ ?_
              refine pS 7 63 41 255 HT_ ?_
              refine pS 9 65 41 767 HT_ ?_
              refine tS 8 64 41 1023 HT_ HW_ hHeld ?_
              refine pS 10 66 41 2047 HT_ ?_
              refine tS 11 67 41 4095 HT_ HW_ hHeld ?_
              refine pS 12 68 41 8191 HT_ ?_
              refine pS 13 69 41 16383 HT_ ?_
              refine pS 14 70 41 32767 HT_ ?_
              refine pS 15 71 41 65535 HT_ ?_
              refine pS 16 72 41 131071 HT_ ?_
              refine pS 17 73 41 262143 HT_ ?_
              refine oS 18 74 41 524287 HT_ ?_
              refine oS 19 75 41 1048575 HT_ ?_
              refine oS 20 76 41 2097151 HT_ ?_
              refine oS 21 77 41 4194303 HT_ ?_
              refine oS 22 78 41 8388607 HT_ ?_
              refine oS 23 79 41 16777215 HT_ ?_
              refine oS 24 80 41 33554431 HT_ ?_
              refine oS 25 81 41 67108863 HT_ ?_
              refine oS 26 82 41 134217727 HT_ ?_
              refine oS 27 83 41 268435455 HT_ ?_
              refine oS 28 84 41 536870911 HT_ ?_
              refine oS 29 85 41 1073741823 HT_ ?_
              refine pS 30 86 41 2147483647 HT_ ?_
              refine pS 31 87 41 4294967295 HT_ ?_
              refine pS 32 88 41 8589934591 HT_ ?_
              refine pS 33 89 41 17179869183 HT_ ?_
              refine pS 35 91 41 51539607551 HT_ ?_
              refine tS 34 90 41 68719476735 HT_ HW_ hHeld ?_
              refine pS 36 92 41 137438953471 HT_ ?_
              refine tS 37 93 41 274877906943 HT_ HW_ hHeld ?_
              refine one_ (i := 38) (N := some 94) (fB 41 549755813887) rfl rfl (one_of HT_.out (by kernel_rfl)) (by decide) (fun K hK => ?_)
              refine goes_ Tryz.func31 (by kernel_rfl) rfl #[.agg #[.int .i64 ((rd_T40 l0_3 x4_3).f0), .int .i64 ((rd_T40 l0_3 x4_3).f1)]] (by rfl) rfl rfl b4 ?_
              with_reducible refine (mosaicref17_Check.calls ((rd_T40 l0_3 x4_3).f0) ((rd_T40 l0_3 x4_3).f1) false _ A47.out).mono ?_
              rintro e w54 ⟨rfl, hb⟩
              refine ⟨_, rfl, ?_⟩
              have n0_ := bB BK230 hb
              have n1_ := hS HB hb
              clear BK230 HB
              have BK230 := n0_
              have HB := n1_
              clear n0_ n1_
              (try clear hb); (try clear hb2); (try clear hk); (try clear hi)
              refine hK.out _ _ ⟨(blk_cell BK230.out 0).trans rfl, (blk_cell BK230.out 1).trans rfl, (blk_cell BK230.out 2).trans rfl, (blk_cell BK230.out 3).trans rfl, ((HB.out.cell (World.block_lt_of_cell? w _ hw231_0)).trans hw231_0), ((HB.out.cell (World.block_lt_of_cell? w _ hw232_0)).trans hw232_0), ((HB.out.cell (World.block_lt_of_cell? w _ hw237_0)).trans hw237_0), ((HB.out.cell (World.block_lt_of_cell? w _ hw237_1)).trans hw237_1)⟩ (fun hHeld => ?_)
              clear hK K
              refine norm_ (a' := ?_) ?_ ?_
              rotate_left; · show Act.put _ (some 94) _ = _; simp only [Act.put, sA, sB, sC, i64_w, i32_w, sD]; rfl
              refine pS 39 95 41 1099511627775 HT_ ?_
              refine pS 40 96 41 2199023255551 HT_ ?_
              refine done_ (done_of HT_.out (by kernel_rfl)) ?_
              try go_wp2
              go_ret
              exact ⟨b3, b0⟩
         ·
          rw [if_neg c22] at H
          have c22b0 := decide_eq_false c22
          clear c22
          obtain rfl := Option.some.inj H
          have ⟨_, _, _, _, _, _, _, _⟩ := cc4 BK230
          go_wp2
          go_ret
          exact ⟨b3, b0⟩

end Go.Proofs.YtmimnlbkllgfpaaGreatDoor.A
