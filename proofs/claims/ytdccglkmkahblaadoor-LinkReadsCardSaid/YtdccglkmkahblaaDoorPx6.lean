-- Written for this claim by the session's own turn of the kit's print program (wip/tools/xprint.py).
import Derived.Test.YtdccglkmkahblaaDoorPx0
import Derived.Test.YtdccglkmkahblaaDoorPx5
namespace Go.Proofs.YtdccglkmkahblaaDoor.P
open Go.RowKit Go.Proofs.YtdccglkmkahblaaDoor.Sq Go.Proofs.YtdccglkmkahblaaDoor.Hand Go.Proofs.YtdccglkmkahblaaDoorW.PrintWords Go.Proofs.YtdccglkmkahblaaDoorW.PrintLast Go.Proofs.YtdccglkmkahblaaDoorW.PrintMore
attribute [local go_sem] max2_int min2_int max_two min_two max_three min_three max_four min_four   -- for this text's walks alone
set_option linter.unusedVariables false
set_option linter.unusedSimpArgs false

/-! ### mosaicref29_Check: function 18 -/
mutual
def mosaicref29_Check.j0 : Nat → Bool → ByteArray → ByteArray → List Int → List (S45) → Option (Bool)
 | 0, _, _, _, _, _ => none
 | k + 1, x29, x152000, x152001, x152002, x152003 => if x29 = true then (some false) else (mosaicref29_Check.l0 k 0 x152000 x152001 x152002 x152003)
def mosaicref29_Check.l0 : Nat → Int → ByteArray → ByteArray → List Int → List (S45) → Option (Bool)
 | 0, _, _, _, _, _ => none
 | k + 1, x3, x152000, x152001, x152002, x152003 => if x3 < (x152001.size : Int) then (if 0 ≤ x3 then (if (bt x152001 x3) < 32 then (some false) else (if (bt x152001 x3) = 127 then (some false) else (mosaicref29_Check.l0 k (wrap64 (x3 + 1)) x152000 x152001 x152002 x152003))) else (none)) else (mosaicref29_Check.l1 k 0 x152000 x152001 x152002 x152003)
def mosaicref29_Check.l1 : Nat → Int → ByteArray → ByteArray → List Int → List (S45) → Option (Bool)
 | 0, _, _, _, _, _ => none
 | k + 1, x4, x152000, x152001, x152002, x152003 => if x4 < (x152002.length : Int) then (if 0 ≤ x4 then (if (rd x152002 x4) < 1 then (some false) else (if (rd x152002 x4) > 15 then (some false) else (if x4 > 0 then (if 0 ≤ (wrap64 (x4 - 1)) then (if (wrap64 (x4 - 1)) < (x152002.length : Int) then (if (rd x152002 x4) ≤ (rd x152002 (wrap64 (x4 - 1))) then (some false) else (if x4 < (x152003.length : Int) then ((mosaicref17_Check.f ((rd_T45 x152003 x4).f0) ((rd_T45 x152003 x4).f1)).bind fun t157 => (if t157 = true then (mosaicref29_Check.l1 k (wrap64 (x4 + 1)) x152000 x152001 x152002 x152003) else (some false))) else (none))) else (none)) else (none)) else (if x4 < (x152003.length : Int) then ((mosaicref17_Check.f ((rd_T45 x152003 x4).f0) ((rd_T45 x152003 x4).f1)).bind fun t159 => (if t159 = true then (mosaicref29_Check.l1 k (wrap64 (x4 + 1)) x152000 x152001 x152002 x152003) else (some false))) else (none))))) else (none)) else (some true)
end
def mosaicref29_Check.f (k : Nat) (a0_0 : ByteArray) (a0_1 : ByteArray) (l0_2 : List Int) (l0_3 : List (S45)) : Option (Bool) := if (a0_0.size : Int) = 32 then (if (a0_1.size : Int) > 60 then (mosaicref29_Check.j0 k true a0_0 a0_1 l0_2 l0_3) else (if (l0_2.length : Int) = (l0_3.length : Int) then (mosaicref29_Check.j0 k (decide ((l0_2.length : Int) > 6)) a0_0 a0_1 l0_2 l0_3) else (mosaicref29_Check.j0 k true a0_0 a0_1 l0_2 l0_3))) else (mosaicref29_Check.j0 k true a0_0 a0_1 l0_2 l0_3)
def mosaicref29_Check.T11 : Bool × List (List Nat × List Nat) := (true, [([], []), ([0], [0]), ([], []), ([1, 2], [1, 2]), ([3], [3]), ([4], [4]), ([5], [5]), ([6], [6]), ([7, 6], [6, 7]), ([6], [6]), ([8, 9, 6], [6, 8, 9]), ([10, 6], [6, 10]), ([11, 6], [6, 11]), ([6, 12], [6, 12]), ([13, 6], [13]), ([14], [14]), ([15, 14], [14, 15]), ([16, 14, 14], [14, 16]), ([17], [17]), ([18, 17], [17, 18]), ([17], [17]), ([19, 20, 17], [17, 19, 20]), ([21, 17], [17, 21]), ([17], [17]), ([23, 17], [17, 23]), ([17], [17]), ([25, 17], [17, 25]), ([24, 26, 17], [17, 24, 26]), ([27, 17], [17, 27]), ([22, 28, 17], [17, 22, 28]), ([17, 29, 14], [14, 17, 29]), ([14, 30], [14, 30]), ([31, 17], [31]), ([32], [32]), ([33, 32], [32, 33]), ([32], [32]), ([34, 35, 32], [32, 34, 35]), ([36, 32], [32, 36]), ([37, 32, 32], [32, 37]), ([38, 32], [32, 38]), ([32, 39], [32, 39])])
def mosaicref29_Check.B11 : List Nat := [0, 1, 0, 7, 15, 31, 63, 127, 255, 127, 1023, 2047, 4095, 8191, 16383, 32767, 65535, 131071, 262143, 524287, 262143, 2097151, 4194303, 262143, 8650751, 262143, 33816575, 126091263, 260308991, 536870911, 1073741823, 2147483647, 4294967295, 8589934591, 17179869183, 8589934591, 68719476735, 137438953471, 274877906943, 549755813887, 1099511627775]
theorem mosaicref29_Check.tab11 : rtab .any (opsOf Tryd.f18 11) = mosaicref29_Check.T11 := by kernel_rfl
theorem mosaicref29_Check.bits11 : waitsOk mosaicref29_Check.T11.2 mosaicref29_Check.B11 = true := by kernel_rfl
set_option maxHeartbeats 8000000 in
set_option maxRecDepth 100000 in
theorem mosaicref29_Check.calls (k : Nat) (a0_0 : ByteArray) (a0_1 : ByteArray) (A0_2 : Option Addr) (c0_2 : Nat) (l0_2 : List Int) (A0_3 : Option Addr) (c0_3 : Nat) (l0_3 : List (S45)) (r : Bool) (w : World) (hr0_2 : Kd.C (Kd.int .i64) w A0_2 l0_2.length l0_2) (hc0_2 : l0_2.length ≤ c0_2) (hr0_3 : Kd.C k45 w A0_3 l0_3.length l0_3) (hc0_3 : l0_3.length ≤ c0_3) (h : mosaicref29_Check.f k a0_0 a0_1 l0_2 l0_3 = some r) :
  Calls Tryd.prog 18 #[.agg #[.string a0_0, .string a0_1, .slice A0_2 l0_2.length c0_2, .slice A0_3 l0_3.length c0_3]] w fun e w' => e = .returned (.bool r) ∧ Below w.heap.size w w' := by
 have hu39 := Tryd.underlying39
 have hu45 := Tryd.underlying45
 have HR0_2 := Aside0.mk hr0_2
 have HC0_2 := Aside0.mk hc0_2
 clear hr0_2 hc0_2
 have HR0_3 := Aside0.mk hr0_3
 have HC0_3 := Aside0.mk hc0_3
 clear hr0_3 hc0_3
 have HB := Aside0.mk (Below.refl w.heap.size w)
 have H : (if (a0_0.size : Int) = 32 then (if (a0_1.size : Int) > 60 then (mosaicref29_Check.j0 k true a0_0 a0_1 l0_2 l0_3) else (if (l0_2.length : Int) = (l0_3.length : Int) then (mosaicref29_Check.j0 k (decide ((l0_2.length : Int) > 6)) a0_0 a0_1 l0_2 l0_3) else (mosaicref29_Check.j0 k true a0_0 a0_1 l0_2 l0_3))) else (mosaicref29_Check.j0 k true a0_0 a0_1 l0_2 l0_3)) = some r := h
 clear h
 have HC2 := Aside0.mk H
 clear H
 go_enter Tryd.func18, Tryd.ntmps18
 go_upto_region 1 with (first | ((with_reducible refine gate_dst (N := 1) rfl ?_); (try (refine gate_guard (by rfl) ?_; dsimp only)); refine box_event ?hg (N := 1) ?hd (cs := #[.string a0_0, .string a0_1, .slice A0_2 l0_2.length c0_2, .slice A0_3 l0_3.length c0_3]) (t := 39) ?hr ?_; (case hd => rfl); (case hg => rfl); (case hr => first | (go_simp; done) | (go_simp; rfl)); intro gb151 hg w3 hbox hb; have n0_ := hS HB hb; have n1_ := Aside0.mk (hbox); have n2_ := hG HB hg; have n3_ := hG HB hg; clear HB; have HB := n0_; have BK151 := n1_; have GW151 := n2_; have GE151 := n3_; clear n0_ n1_ n2_ n3_; clear hb hbox hg))
 (try simp only [Act.put, List.setIfInBounds_toArray, List.set_cons_zero, List.set_cons_succ])
 go_cut [29] (fun v29 wc => ∃ (kq : Nat) (x29_1 : Bool), v29 = .bool x29_1 ∧ Aside0 (mosaicref29_Check.j0 kq x29_1 a0_0 a0_1 l0_2 l0_3 = some r) ∧ Aside0 (kq ≤ k) ∧ Aside0 (wc.heap[gb151]? = some (.cells #[.string a0_0, .string a0_1, (.slice A0_2 l0_2.length c0_2), (.slice A0_3 l0_3.length c0_3)] 39 (0, 0))) ∧ Aside0 (Below w.heap.size w wc))
 case first =>
  have H := HC2.out
  clear HC2
  by_cases c4 : (a0_0.size : Int) = 32
  ·
   rw [if_pos c4] at H
   have c4b0 : ((a0_0.size : Int) == 32) = true := beq_iff_eq.mpr c4
   have c4b1 : ((a0_0.size : Int) != 32) = false := bne_eq_false_iff_eq.mpr c4
   clear c4
   (first | rw [c4b0] | (simp only [i64_w, i32_w, IntKind.wrap_u8]; rw [c4b0]) | skip)
   by_cases c5 : (a0_1.size : Int) > 60
   ·
    rw [if_pos c5] at H
    have c5b0 : decide (60 < (a0_1.size : Int)) = true := decide_eq_true c5
    have c5b1 : decide (60 < a0_1.size) = true := decide_eq_true (by omega)
    clear c5
    have H' := Aside0.mk H
    clear H
    have hcz6_0 : w3.cell? ⟨gb151, 0, none⟩ = some (.string a0_0) := (blk_cell BK151.out 0).trans rfl
    have hcz6_1 : w3.cell? ⟨gb151, 1, none⟩ = some (.string a0_1) := (blk_cell BK151.out 1).trans rfl
    have hcz6_2 : w3.cell? ⟨gb151, 2, none⟩ = some (.slice A0_2 l0_2.length c0_2) := (blk_cell BK151.out 2).trans rfl
    have hcz6_3 : w3.cell? ⟨gb151, 3, none⟩ = some (.slice A0_3 l0_3.length c0_3) := (blk_cell BK151.out 3).trans rfl
    have hfz6_0 := blk_frozen BK151.out 0
    have hfz6_1 := blk_frozen BK151.out 1
    have hfz6_2 := blk_frozen BK151.out 2
    have hfz6_3 := blk_frozen BK151.out 3
    go_wp2
    go_meet
    case rel => exact ⟨_, (true), (by first | rfl | (simp; done) | (simp [*]; done)), H', ⟨by first | omega | exact Nat.le_refl _⟩, ⟨by (with_reducible repeat (first | refine blk_drewN ?_ _ | refine blk_drew ?_ | refine blk_alloc ?_ _)); exact BK151.out⟩, ⟨by repeat (first | (with_reducible first | exact HB.out | apply below_alloc | apply pw_below_drewN | apply below_drew1 | refine below_set ?_ GE151.out) | exact HB.out)⟩⟩
   ·
    rw [if_neg c5] at H
    have c5b0 : decide (60 < (a0_1.size : Int)) = false := decide_eq_false c5
    have c5b1 : decide (60 < a0_1.size) = false := decide_eq_false (by omega)
    clear c5
    by_cases c7 : (l0_2.length : Int) = (l0_3.length : Int)
    ·
     rw [if_pos c7] at H
     have c7b0 : ((l0_2.length : Int) == (l0_3.length : Int)) = true := beq_iff_eq.mpr c7
     have c7b1 : ((l0_2.length : Int) != (l0_3.length : Int)) = false := bne_eq_false_iff_eq.mpr c7
     have c7b2 : (l0_2.length == l0_3.length) = true := by first | simpa using c7 | (simp at c7 ⊢; omega)
     clear c7
     have H' := Aside0.mk H
     clear H
     have hcz8_0 : w3.cell? ⟨gb151, 0, none⟩ = some (.string a0_0) := (blk_cell BK151.out 0).trans rfl
     have hcz8_1 : w3.cell? ⟨gb151, 1, none⟩ = some (.string a0_1) := (blk_cell BK151.out 1).trans rfl
     have hcz8_2 : w3.cell? ⟨gb151, 2, none⟩ = some (.slice A0_2 l0_2.length c0_2) := (blk_cell BK151.out 2).trans rfl
     have hcz8_3 : w3.cell? ⟨gb151, 3, none⟩ = some (.slice A0_3 l0_3.length c0_3) := (blk_cell BK151.out 3).trans rfl
     have hfz8_0 := blk_frozen BK151.out 0
     have hfz8_1 := blk_frozen BK151.out 1
     have hfz8_2 := blk_frozen BK151.out 2
     have hfz8_3 := blk_frozen BK151.out 3
     go_wp2
     go_meet
     case rel => exact ⟨_, (decide ((l0_2.length : Int) > 6)), (by first | rfl | (simp; done) | (simp [*]; done)), H', ⟨by first | omega | exact Nat.le_refl _⟩, ⟨by (with_reducible repeat (first | refine blk_drewN ?_ _ | refine blk_drew ?_ | refine blk_alloc ?_ _)); exact BK151.out⟩, ⟨by repeat (first | (with_reducible first | exact HB.out | apply below_alloc | apply pw_below_drewN | apply below_drew1 | refine below_set ?_ GE151.out) | exact HB.out)⟩⟩
    ·
     rw [if_neg c7] at H
     have c7b0 : ((l0_2.length : Int) == (l0_3.length : Int)) = false := beq_eq_false_iff_ne.mpr c7
     have c7b1 : ((l0_2.length : Int) != (l0_3.length : Int)) = true := bne_iff_ne.mpr c7
     have c7b2 : (l0_2.length == l0_3.length) = false := by first | simpa using c7 | (simp at c7 ⊢; omega)
     have H' := Aside0.mk H
     clear H
     have hcz9_0 : w3.cell? ⟨gb151, 0, none⟩ = some (.string a0_0) := (blk_cell BK151.out 0).trans rfl
     have hcz9_1 : w3.cell? ⟨gb151, 1, none⟩ = some (.string a0_1) := (blk_cell BK151.out 1).trans rfl
     have hcz9_2 : w3.cell? ⟨gb151, 2, none⟩ = some (.slice A0_2 l0_2.length c0_2) := (blk_cell BK151.out 2).trans rfl
     have hcz9_3 : w3.cell? ⟨gb151, 3, none⟩ = some (.slice A0_3 l0_3.length c0_3) := (blk_cell BK151.out 3).trans rfl
     have hfz9_0 := blk_frozen BK151.out 0
     have hfz9_1 := blk_frozen BK151.out 1
     have hfz9_2 := blk_frozen BK151.out 2
     have hfz9_3 := blk_frozen BK151.out 3
     go_wp2
     go_meet
     case rel => exact ⟨_, (true), (by first | rfl | (simp; done) | (simp [*]; done)), H', ⟨by first | omega | exact Nat.le_refl _⟩, ⟨by (with_reducible repeat (first | refine blk_drewN ?_ _ | refine blk_drew ?_ | refine blk_alloc ?_ _)); exact BK151.out⟩, ⟨by repeat (first | (with_reducible first | exact HB.out | apply below_alloc | apply pw_below_drewN | apply below_drew1 | refine below_set ?_ GE151.out) | exact HB.out)⟩⟩
  ·
   rw [if_neg c4] at H
   have c4b0 : ((a0_0.size : Int) == 32) = false := beq_eq_false_iff_ne.mpr c4
   have c4b1 : ((a0_0.size : Int) != 32) = true := bne_iff_ne.mpr c4
   (first | rw [c4b0] | (simp only [i64_w, i32_w, IntKind.wrap_u8]; rw [c4b0]) | skip)
   have H' := Aside0.mk H
   clear H
   have hcz10_0 : w3.cell? ⟨gb151, 0, none⟩ = some (.string a0_0) := (blk_cell BK151.out 0).trans rfl
   have hcz10_1 : w3.cell? ⟨gb151, 1, none⟩ = some (.string a0_1) := (blk_cell BK151.out 1).trans rfl
   have hcz10_2 : w3.cell? ⟨gb151, 2, none⟩ = some (.slice A0_2 l0_2.length c0_2) := (blk_cell BK151.out 2).trans rfl
   have hcz10_3 : w3.cell? ⟨gb151, 3, none⟩ = some (.slice A0_3 l0_3.length c0_3) := (blk_cell BK151.out 3).trans rfl
   have hfz10_0 := blk_frozen BK151.out 0
   have hfz10_1 := blk_frozen BK151.out 1
   have hfz10_2 := blk_frozen BK151.out 2
   have hfz10_3 := blk_frozen BK151.out 3
   go_wp2
   go_meet
   case rel => exact ⟨_, (true), (by first | rfl | (simp; done) | (simp [*]; done)), H', ⟨by first | omega | exact Nat.le_refl _⟩, ⟨by (with_reducible repeat (first | refine blk_drewN ?_ _ | refine blk_drew ?_ | refine blk_alloc ?_ _)); exact BK151.out⟩, ⟨by repeat (first | (with_reducible first | exact HB.out | apply below_alloc | apply pw_below_drewN | apply below_drew1 | refine below_set ?_ GE151.out) | exact HB.out)⟩⟩
 case rest =>
  clear HC2
  try clear c1
  try clear p2
  try clear c4
  try clear c4b0
  try clear c4b1
  try clear c5
  try clear c5b0
  try clear c5b1
  try clear c7
  try clear c7b0
  try clear c7b1
  try clear c7b2
  try clear hcz10_0
  try clear hcz10_1
  try clear hcz10_2
  try clear hcz10_3
  try clear hcz6_0
  try clear hcz6_1
  try clear hcz6_2
  try clear hcz6_3
  try clear hcz8_0
  try clear hcz8_1
  try clear hcz8_2
  try clear hcz8_3
  try clear hcz9_0
  try clear hcz9_1
  try clear hcz9_2
  try clear hcz9_3
  try clear hfz10_0
  try clear hfz10_1
  try clear hfz10_2
  try clear hfz10_3
  try clear hfz6_0
  try clear hfz6_1
  try clear hfz6_2
  try clear hfz6_3
  try clear hfz8_0
  try clear hfz8_1
  try clear hfz8_2
  try clear hfz8_3
  try clear hfz9_0
  try clear hfz9_1
  try clear hfz9_2
  try clear hfz9_3
  obtain ⟨kq, x29_1, rfl, HA, HJ1, BK151, HB⟩ := hcut
  cases kq with
  | zero => exact absurd HA.out (by simp [mosaicref29_Check.j0])
  | succ kj1 =>
   have H := HA.out
   clear HA
   simp only [mosaicref29_Check.j0] at H
   by_cases c11 : x29_1 = true
   ·
    subst c11
    have H1 : (some false) = some r := by rw [if_pos rfl] at H; exact H
    clear H
    have H := H1
    clear H1
    obtain rfl := Option.some.inj H
    go_wp2
    go_ret
    exact ⟨by first | rfl | (simp [errW_none, errW_some] <;> rfl) | (simp [*, errW_none, errW_some] <;> rfl), by repeat (first | (with_reducible first | exact HB.out | apply below_alloc | apply pw_below_drewN | apply below_drew1 | refine below_set ?_ GE151.out) | exact HB.out)⟩
   ·
    replace c11 := Bool.eq_false_iff.mpr c11
    subst c11
    have H1 : (mosaicref29_Check.l0 kj1 0 a0_0 a0_1 l0_2 l0_3) = some r := by rw [if_neg (show ¬ (false = true) by decide)] at H; exact H
    clear H
    have H := H1
    clear H1
    have H' := Aside0.mk H
    clear H
    go_wp2
    go_loopg [3] kj1 (fun kq v3 w' => ∃ (x3_2 : Int), v3 = .int .i64 x3_2 ∧ Aside0 (mosaicref29_Check.l0 kq x3_2 a0_0 a0_1 l0_2 l0_3 = some r) ∧ Aside0 (kq ≤ kj1) ∧ Aside0 (w'.heap[gb151]? = some (.cells #[.string a0_0, .string a0_1, (.slice A0_2 l0_2.length c0_2), (.slice A0_3 l0_3.length c0_3)] 39 (0, 0))) ∧ Aside0 (Below w.heap.size w w'))
    case atStart => exact ⟨(0), (by first | rfl | (simp; done) | (simp [*]; done)), H', ⟨Nat.le_refl _⟩, ⟨by (with_reducible repeat (first | refine blk_drewN ?_ _ | refine blk_drew ?_ | refine blk_alloc ?_ _)); exact BK151.out⟩, ⟨by repeat (first | (with_reducible first | exact HB.out | apply below_alloc | apply pw_below_drewN | apply below_drew1 | refine below_set ?_ GE151.out) | exact HB.out)⟩⟩
    case round =>
     clear H'
     try clear c1
     try clear p2
     try clear c4
     try clear c4b0
     try clear c4b1
     try clear c5
     try clear c5b0
     try clear c5b1
     try clear c7
     try clear c7b0
     try clear c7b1
     try clear c7b2
     try clear c11
     try clear hcz10_0
     try clear hcz10_1
     try clear hcz10_2
     try clear hcz10_3
     try clear hcz6_0
     try clear hcz6_1
     try clear hcz6_2
     try clear hcz6_3
     try clear hcz8_0
     try clear hcz8_1
     try clear hcz8_2
     try clear hcz8_3
     try clear hcz9_0
     try clear hcz9_1
     try clear hcz9_2
     try clear hcz9_3
     try clear hfz10_0
     try clear hfz10_1
     try clear hfz10_2
     try clear hfz10_3
     try clear hfz6_0
     try clear hfz6_1
     try clear hfz6_2
     try clear hfz6_3
     try clear hfz8_0
     try clear hfz8_1
     try clear hfz8_2
     try clear hfz8_3
     try clear hfz9_0
     try clear hfz9_1
     try clear hfz9_2
     try clear hfz9_3
     try clear p2
     obtain ⟨x3_2, rfl, HA, HK2, BK151, HB⟩ := hrel
     cases gk with
     | zero => exact absurd HA.out (by simp [mosaicref29_Check.l0])
     | succ k2 =>
      have H := HA.out
      clear HA
      simp only [mosaicref29_Check.l0] at H
      by_cases c12 : x3_2 < (a0_1.size : Int)
      ·
       rw [if_pos c12] at H
       have c12b0 : decide (x3_2 < (a0_1.size : Int)) = true := decide_eq_true c12
       clear c12
       by_cases c13 : 0 ≤ x3_2
       rotate_left; · rw [if_neg c13] at H; exact absurd H (by simp)
       rw [if_pos c13] at H
       have c13b0 : decide (0 ≤ x3_2) = true := decide_eq_true c13
       clear c13
       by_cases c15 : (bt a0_1 x3_2) < 32
       ·
        rw [if_pos c15] at H
        have c15b0 : decide ((bt a0_1 x3_2) < 32) = true := decide_eq_true c15
        clear c15
        obtain rfl := Option.some.inj H
        have hcz16_0 : wr.cell? ⟨gb151, 0, none⟩ = some (.string a0_0) := (blk_cell BK151.out 0).trans rfl
        have hcz16_1 : wr.cell? ⟨gb151, 1, none⟩ = some (.string a0_1) := (blk_cell BK151.out 1).trans rfl
        have hcz16_2 : wr.cell? ⟨gb151, 2, none⟩ = some (.slice A0_2 l0_2.length c0_2) := (blk_cell BK151.out 2).trans rfl
        have hcz16_3 : wr.cell? ⟨gb151, 3, none⟩ = some (.slice A0_3 l0_3.length c0_3) := (blk_cell BK151.out 3).trans rfl
        have hfz16_0 := blk_frozen BK151.out 0
        have hfz16_1 := blk_frozen BK151.out 1
        have hfz16_2 := blk_frozen BK151.out 2
        have hfz16_3 := blk_frozen BK151.out 3
        have p14 : 0 ≤ (x3_2 : Int) := of_decide_eq_true (by first | (with_reducible assumption) | assumption)
        have q14 : x3_2 < (a0_1.size : Int) := of_decide_eq_true (by first | (with_reducible assumption) | assumption)
        have hx14 := bt_at a0_1 x3_2
        replace p14 := eq_true p14
        replace q14 := eq_true q14
        go_wp2
        go_ret
        exact ⟨by first | rfl | (simp [errW_none, errW_some] <;> rfl) | (simp [*, errW_none, errW_some] <;> rfl), by repeat (first | (with_reducible first | exact HB.out | apply below_alloc | apply pw_below_drewN | apply below_drew1 | refine below_set ?_ GE151.out) | exact HB.out)⟩
       ·
        rw [if_neg c15] at H
        have c15b0 : decide ((bt a0_1 x3_2) < 32) = false := decide_eq_false c15
        clear c15
        by_cases c18 : (bt a0_1 x3_2) = 127
        ·
         rw [if_pos c18] at H
         have c18b0 : ((bt a0_1 x3_2) == 127) = true := beq_iff_eq.mpr c18
         have c18b1 : ((bt a0_1 x3_2) != 127) = false := bne_eq_false_iff_eq.mpr c18
         clear c18
         obtain rfl := Option.some.inj H
         have hcz19_0 : wr.cell? ⟨gb151, 0, none⟩ = some (.string a0_0) := (blk_cell BK151.out 0).trans rfl
         have hcz19_1 : wr.cell? ⟨gb151, 1, none⟩ = some (.string a0_1) := (blk_cell BK151.out 1).trans rfl
         have hcz19_2 : wr.cell? ⟨gb151, 2, none⟩ = some (.slice A0_2 l0_2.length c0_2) := (blk_cell BK151.out 2).trans rfl
         have hcz19_3 : wr.cell? ⟨gb151, 3, none⟩ = some (.slice A0_3 l0_3.length c0_3) := (blk_cell BK151.out 3).trans rfl
         have hfz19_0 := blk_frozen BK151.out 0
         have hfz19_1 := blk_frozen BK151.out 1
         have hfz19_2 := blk_frozen BK151.out 2
         have hfz19_3 := blk_frozen BK151.out 3
         have p14 : 0 ≤ (x3_2 : Int) := of_decide_eq_true (by first | (with_reducible assumption) | assumption)
         have q14 : x3_2 < (a0_1.size : Int) := of_decide_eq_true (by first | (with_reducible assumption) | assumption)
         have hx14 := bt_at a0_1 x3_2
         replace p14 := eq_true p14
         replace q14 := eq_true q14
         have p17 : 0 ≤ (x3_2 : Int) := of_decide_eq_true (by first | (with_reducible assumption) | assumption)
         have q17 : x3_2 < (a0_1.size : Int) := of_decide_eq_true (by first | (with_reducible assumption) | assumption)
         have hx17 := bt_at a0_1 x3_2
         replace p17 := eq_true p17
         replace q17 := eq_true q17
         go_wp2
         go_ret
         exact ⟨by first | rfl | (simp [errW_none, errW_some] <;> rfl) | (simp [*, errW_none, errW_some] <;> rfl), by repeat (first | (with_reducible first | exact HB.out | apply below_alloc | apply pw_below_drewN | apply below_drew1 | refine below_set ?_ GE151.out) | exact HB.out)⟩
        ·
         rw [if_neg c18] at H
         have c18b0 : ((bt a0_1 x3_2) == 127) = false := beq_eq_false_iff_ne.mpr c18
         have c18b1 : ((bt a0_1 x3_2) != 127) = true := bne_iff_ne.mpr c18
         have H' := Aside0.mk H
         clear H
         have hcz20_0 : wr.cell? ⟨gb151, 0, none⟩ = some (.string a0_0) := (blk_cell BK151.out 0).trans rfl
         have hcz20_1 : wr.cell? ⟨gb151, 1, none⟩ = some (.string a0_1) := (blk_cell BK151.out 1).trans rfl
         have hcz20_2 : wr.cell? ⟨gb151, 2, none⟩ = some (.slice A0_2 l0_2.length c0_2) := (blk_cell BK151.out 2).trans rfl
         have hcz20_3 : wr.cell? ⟨gb151, 3, none⟩ = some (.slice A0_3 l0_3.length c0_3) := (blk_cell BK151.out 3).trans rfl
         have hfz20_0 := blk_frozen BK151.out 0
         have hfz20_1 := blk_frozen BK151.out 1
         have hfz20_2 := blk_frozen BK151.out 2
         have hfz20_3 := blk_frozen BK151.out 3
         have p14 : 0 ≤ (x3_2 : Int) := of_decide_eq_true (by first | (with_reducible assumption) | assumption)
         have q14 : x3_2 < (a0_1.size : Int) := of_decide_eq_true (by first | (with_reducible assumption) | assumption)
         have hx14 := bt_at a0_1 x3_2
         replace p14 := eq_true p14
         replace q14 := eq_true q14
         have p17 : 0 ≤ (x3_2 : Int) := of_decide_eq_true (by first | (with_reducible assumption) | assumption)
         have q17 : x3_2 < (a0_1.size : Int) := of_decide_eq_true (by first | (with_reducible assumption) | assumption)
         have hx17 := bt_at a0_1 x3_2
         replace p17 := eq_true p17
         replace q17 := eq_true q17
         go_wp2
         go_roundg k2
         case measure => have := HJ1.out; have := HK2.out; omega
         case rel => exact ⟨(wrap64 (x3_2 + 1)), (by first | rfl | (simp; done) | (simp [*]; done)), H', ⟨by have := HJ1.out; have := HK2.out; omega⟩, ⟨by (with_reducible repeat (first | refine blk_drewN ?_ _ | refine blk_drew ?_ | refine blk_alloc ?_ _)); exact BK151.out⟩, ⟨by repeat (first | (with_reducible first | exact HB.out | apply below_alloc | apply pw_below_drewN | apply below_drew1 | refine below_set ?_ GE151.out) | exact HB.out)⟩⟩
      ·
       rw [if_neg c12] at H
       have c12b0 : decide (x3_2 < (a0_1.size : Int)) = false := decide_eq_false c12
       clear c12
       have H' := Aside0.mk H
       clear H
       have hcz21_0 : wr.cell? ⟨gb151, 0, none⟩ = some (.string a0_0) := (blk_cell BK151.out 0).trans rfl
       have hcz21_1 : wr.cell? ⟨gb151, 1, none⟩ = some (.string a0_1) := (blk_cell BK151.out 1).trans rfl
       have hcz21_2 : wr.cell? ⟨gb151, 2, none⟩ = some (.slice A0_2 l0_2.length c0_2) := (blk_cell BK151.out 2).trans rfl
       have hcz21_3 : wr.cell? ⟨gb151, 3, none⟩ = some (.slice A0_3 l0_3.length c0_3) := (blk_cell BK151.out 3).trans rfl
       have hfz21_0 := blk_frozen BK151.out 0
       have hfz21_1 := blk_frozen BK151.out 1
       have hfz21_2 := blk_frozen BK151.out 2
       have hfz21_3 := blk_frozen BK151.out 3
       go_wp2
       go_loopg [4] k2 (fun kq v4 w' => ∃ (x4_3 : Int), v4 = .int .i64 x4_3 ∧ Aside0 (mosaicref29_Check.l1 kq x4_3 a0_0 a0_1 l0_2 l0_3 = some r) ∧ Aside0 (kq ≤ k2) ∧ Aside0 (w'.heap[gb151]? = some (.cells #[.string a0_0, .string a0_1, (.slice A0_2 l0_2.length c0_2), (.slice A0_3 l0_3.length c0_3)] 39 (0, 0))) ∧ Aside0 (Below w.heap.size w w'))
       case atStart => exact ⟨(0), (by first | rfl | (simp; done) | (simp [*]; done)), H', ⟨Nat.le_refl _⟩, ⟨by (with_reducible repeat (first | refine blk_drewN ?_ _ | refine blk_drew ?_ | refine blk_alloc ?_ _)); exact BK151.out⟩, ⟨by repeat (first | (with_reducible first | exact HB.out | apply below_alloc | apply pw_below_drewN | apply below_drew1 | refine below_set ?_ GE151.out) | exact HB.out)⟩⟩
       case round =>
        clear H'
        try clear c1
        try clear p1
        try clear q1
        try clear hx1
        try clear p2
        try clear c4
        try clear c4b0
        try clear c4b1
        try clear c5
        try clear c5b0
        try clear c5b1
        try clear p6
        try clear c7
        try clear c7b0
        try clear c7b1
        try clear c7b2
        try clear c11
        try clear c12
        try clear c12b0
        try clear c13
        try clear c13b0
        try clear p14
        try clear q14
        try clear hx14
        try clear c15
        try clear c15b0
        try clear p17
        try clear q17
        try clear hx17
        try clear c18
        try clear c18b0
        try clear c18b1
        try clear hcz10_0
        try clear hcz10_1
        try clear hcz10_2
        try clear hcz10_3
        try clear hcz16_0
        try clear hcz16_1
        try clear hcz16_2
        try clear hcz16_3
        try clear hcz19_0
        try clear hcz19_1
        try clear hcz19_2
        try clear hcz19_3
        try clear hcz20_0
        try clear hcz20_1
        try clear hcz20_2
        try clear hcz20_3
        try clear hcz21_0
        try clear hcz21_1
        try clear hcz21_2
        try clear hcz21_3
        try clear hcz6_0
        try clear hcz6_1
        try clear hcz6_2
        try clear hcz6_3
        try clear hcz8_0
        try clear hcz8_1
        try clear hcz8_2
        try clear hcz8_3
        try clear hcz9_0
        try clear hcz9_1
        try clear hcz9_2
        try clear hcz9_3
        try clear hfz10_0
        try clear hfz10_1
        try clear hfz10_2
        try clear hfz10_3
        try clear hfz16_0
        try clear hfz16_1
        try clear hfz16_2
        try clear hfz16_3
        try clear hfz19_0
        try clear hfz19_1
        try clear hfz19_2
        try clear hfz19_3
        try clear hfz20_0
        try clear hfz20_1
        try clear hfz20_2
        try clear hfz20_3
        try clear hfz21_0
        try clear hfz21_1
        try clear hfz21_2
        try clear hfz21_3
        try clear hfz6_0
        try clear hfz6_1
        try clear hfz6_2
        try clear hfz6_3
        try clear hfz8_0
        try clear hfz8_1
        try clear hfz8_2
        try clear hfz8_3
        try clear hfz9_0
        try clear hfz9_1
        try clear hfz9_2
        try clear hfz9_3
        try clear p14
        try clear p17
        try clear p2
        try clear q14
        try clear q17
        obtain ⟨x4_3, rfl, HA, HK3, BK151, HB⟩ := hrel
        cases gk with
        | zero => exact absurd HA.out (by simp [mosaicref29_Check.l1])
        | succ k3 =>
         have H := HA.out
         clear HA
         simp only [mosaicref29_Check.l1] at H
         by_cases c22 : x4_3 < (l0_2.length : Int)
         ·
          rw [if_pos c22] at H
          have c22b0 : decide (x4_3 < (l0_2.length : Int)) = true := decide_eq_true c22
          clear c22
          by_cases c23 : 0 ≤ x4_3
          rotate_left; · rw [if_neg c23] at H; exact absurd H (by simp)
          rw [if_pos c23] at H
          have c23b0 : decide (0 ≤ x4_3) = true := decide_eq_true c23
          clear c23
          by_cases c24 : (rd l0_2 x4_3) < 1
          ·
           rw [if_pos c24] at H
           have c24b0 : decide ((rd l0_2 x4_3) < 1) = true := decide_eq_true c24
           clear c24
           obtain rfl := Option.some.inj H
           have hcz25_0 : wr.cell? ⟨gb151, 0, none⟩ = some (.string a0_0) := (blk_cell BK151.out 0).trans rfl
           have hcz25_1 : wr.cell? ⟨gb151, 1, none⟩ = some (.string a0_1) := (blk_cell BK151.out 1).trans rfl
           have hcz25_2 : wr.cell? ⟨gb151, 2, none⟩ = some (.slice A0_2 l0_2.length c0_2) := (blk_cell BK151.out 2).trans rfl
           have hcz25_3 : wr.cell? ⟨gb151, 3, none⟩ = some (.slice A0_3 l0_3.length c0_3) := (blk_cell BK151.out 3).trans rfl
           have hfz25_0 := blk_frozen BK151.out 0
           have hfz25_1 := blk_frozen BK151.out 1
           have hfz25_2 := blk_frozen BK151.out 2
           have hfz25_3 := blk_frozen BK151.out 3
           try go_wp2
           have n0_ := Aside0.mk (blk_drew BK151.out)
           have n1_ := Aside0.mk (below_drew1 HB.out)
           clear BK151
           clear HB
           have BK151 := n0_
           have HB := n1_
           clear n0_ n1_
           have p152 : 0 ≤ (x4_3 : Int) := of_decide_eq_true (by first | (with_reducible assumption) | assumption)
           have q152 : x4_3 < (l0_2.length : Int) := of_decide_eq_true (by first | (with_reducible assumption) | assumption)
           obtain ⟨ad152, e152, hx152_0⟩ := Kd.at_int HR0_2.out x4_3 p152 q152
           have hw152_0 := hx152_0
           cases e152
           replace hx152_0 := (HB.out.cell (World.block_lt_of_cell? w _ hx152_0)).trans hx152_0
           replace p152 := eq_true p152
           replace q152 := eq_true q152
           refine start_ (n := 41) (S := fun w' => w'.cell? ⟨gb151, 0, none⟩ = some (.string a0_0) ∧ w'.cell? ⟨gb151, 1, none⟩ = some (.string a0_1) ∧ w'.cell? ⟨gb151, 2, none⟩ = some (.slice (some ad152) l0_2.length c0_2) ∧ w'.cell? ⟨gb151, 3, none⟩ = some (.slice A0_3 l0_3.length c0_3) ∧ w'.cell? (ad152.add (x4_3).toNat) = some (.int .i64 (rd l0_2 x4_3))) (ds := []) (fB 41 0) (by kernel_rfl) rfl rfl ⟨(blk_cell BK151.out 0).trans rfl, (blk_cell BK151.out 1).trans rfl, (blk_cell BK151.out 2).trans rfl, (blk_cell BK151.out 3).trans rfl, ((HB.out.cell (World.block_lt_of_cell? w _ hw152_0)).trans hw152_0)⟩ (fun hHeld => ?_); refine with_tabW mosaicref29_Check.tab11 mosaicref29_Check.bits11 (fun HT_ HW_ => ?_)
           generalize wr.drew = w26 at BK151 HB hx152_0 hHeld ⊢
           refine pure_ (i := 0) (N := some 56) (v := ?_) (a' := ?_) (fB 41 1) rfl rfl (any_of HT_.out (by kernel_rfl)) (fun _ _ _ h => h) (Or.inl ⟨by rfl, ?_⟩) ?_ ?_
           rotate_left; · intro w'; go_simp; with_reducible rfl
           rotate_left; · simp only [Act.put, sA, sB, sC, i64_w, i32_w, sD]; rfl
           refine pure_ (i := 2) (N := some 58) (v := ?_) (a' := ?_) (fB 41 5) rfl rfl (any_of HT_.out (by kernel_rfl)) (fun _ _ _ h => h) (Or.inl ⟨by rfl, ?_⟩) ?_ ?_
           rotate_left; · intro w'; go_simp; with_reducible rfl
           rotate_left; · simp only [Act.put, sA, sB, sC, i64_w, i32_w, sD]; rfl
           refine take_ (i := 1) (N := some 57) (v := ?_) (a' := ?_) (fB 41 7) rfl rfl (take_ofW HT_.out HW_.out (by kernel_rfl)) (fun _ _ _ h => h) (Or.inl ⟨by rfl, ?_⟩) hHeld ?_ ?_
           rotate_left; · rintro w' ⟨s0, s1, s2, s3, s4⟩; go_simp; with_reducible rfl
           rotate_left; · simp only [Act.put, sA, sB, sC, i64_w, i32_w, sD]; rfl
           refine pure_ (i := 3) (N := some 59) (v := ?_) (a' := ?_) (fB 41 15) rfl rfl (any_of HT_.out (by kernel_rfl)) (fun _ _ _ h => h) (Or.inl ⟨by rfl, ?_⟩) ?_ ?_
           rotate_left; · intro w'; go_simp; with_reducible rfl
           rotate_left; · simp only [Act.put, sA, sB, sC, i64_w, i32_w, sD]; rfl
           refine take_ (i := 4) (N := some 60) (v := ?_) (a' := ?_) (fB 41 31) rfl rfl (take_ofW HT_.out HW_.out (by kernel_rfl)) (fun _ _ _ h => h) (Or.inl ⟨by rfl, ?_⟩) hHeld ?_ ?_
           rotate_left; · rintro w' ⟨s0, s1, s2, s3, s4⟩; go_simp; with_reducible rfl
           rotate_left; · simp only [Act.put, sA, sB, sC, i64_w, i32_w, sD]; rfl
           refine pure_ (i := 5) (N := some 61) (v := ?_) (a' := ?_) (fB 41 63) rfl rfl (any_of HT_.out (by kernel_rfl)) (fun _ _ _ h => h) (Or.inl ⟨by rfl, ?_⟩) ?_ ?_
           rotate_left; · intro w'; go_simp; with_reducible rfl
           rotate_left; · simp only [Act.put, sA, sB, sC, i64_w, i32_w, sD]; rfl
           refine pure_ (i := 6) (N := some 62) (v := ?_) (a' := ?_) (fB 41 127) rfl rfl (any_of HT_.out (by kernel_rfl)) (fun _ _ _ h => h) (Or.inl ⟨by rfl, ?_⟩) ?_ ?_
           rotate_left; · intro w'; go_simp; with_reducible rfl
           rotate_left; · simp only [Act.put, sA, sB, sC, i64_w, i32_w, sD]; rfl
           refine pure_ (i := 7) (N := some 63) (v := undef) (a' := ?_) (fB 41 255) rfl rfl (any_of HT_.out (by kernel_rfl)) (fun _ _ _ h => h) (Or.inr ⟨by rfl, rfl⟩) ?_ ?_
           rotate_left
           ·
            simp only [Act.put, sA, sB, sC, i64_w, i32_w, sD]
            rfl
           refine pure_ (i := 8) (N := some 64) (v := undef) (a' := ?_) (fB 41 511) rfl rfl (any_of HT_.out (by kernel_rfl)) (fun _ _ _ h => h) (Or.inr ⟨by rfl, rfl⟩) ?_ ?_
           rotate_left
           ·
            simp only [Act.put, sA, sB, sC, i64_w, i32_w, sD]
            rfl
           refine pure_ (i := 9) (N := some 65) (v := undef) (a' := ?_) (fB 41 1023) rfl rfl (any_of HT_.out (by kernel_rfl)) (fun _ _ _ h => h) (Or.inr ⟨by rfl, rfl⟩) ?_ ?_
           rotate_left
           ·
            simp only [Act.put, sA, sB, sC, i64_w, i32_w, sD]
            rfl
           refine pure_ (i := 10) (N := some 66) (v := undef) (a' := ?_) (fB 41 2047) rfl rfl (any_of HT_.out (by kernel_rfl)) (fun _ _ _ h => h) (Or.inr ⟨by rfl, rfl⟩) ?_ ?_
           rotate_left
           ·
            simp only [Act.put, sA, sB, sC, i64_w, i32_w, sD]
            rfl
           refine pure_ (i := 11) (N := some 67) (v := undef) (a' := ?_) (fB 41 4095) rfl rfl (any_of HT_.out (by kernel_rfl)) (fun _ _ _ h => h) (Or.inr ⟨by rfl, rfl⟩) ?_ ?_
           rotate_left
           ·
            simp only [Act.put, sA, sB, sC, i64_w, i32_w, sD]
            rfl
           refine pure_ (i := 12) (N := some 68) (v := undef) (a' := ?_) (fB 41 8191) rfl rfl (any_of HT_.out (by kernel_rfl)) (fun _ _ _ h => h) (Or.inr ⟨by rfl, rfl⟩) ?_ ?_
           rotate_left
           ·
            simp only [Act.put, sA, sB, sC, i64_w, i32_w, sD]
            rfl
           refine pure_ (i := 13) (N := some 69) (v := ?_) (a' := ?_) (fB 41 16383) rfl rfl (any_of HT_.out (by kernel_rfl)) (fun _ _ _ h => h) (Or.inl ⟨by rfl, ?_⟩) ?_ ?_
           rotate_left; · intro w'; go_simp; with_reducible rfl
           rotate_left; · simp only [Act.put, sA, sB, sC, i64_w, i32_w, sD]; rfl
           refine pure_ (i := 14) (N := some 70) (v := ?_) (a' := ?_) (fB 41 32767) rfl rfl (any_of HT_.out (by kernel_rfl)) (fun _ _ _ h => h) (Or.inl ⟨by rfl, ?_⟩) ?_ ?_
           rotate_left; · intro w'; go_simp; with_reducible rfl
           rotate_left; · simp only [Act.put, sA, sB, sC, i64_w, i32_w, sD]; rfl
           refine pure_ (i := 15) (N := some 71) (v := undef) (a' := ?_) (fB 41 65535) rfl rfl (any_of HT_.out (by kernel_rfl)) (fun _ _ _ h => h) (Or.inr ⟨by rfl, rfl⟩) ?_ ?_
           rotate_left
           ·
            simp only [Act.put, sA, sB, sC, i64_w, i32_w, sD]
            rfl
           refine pure_ (i := 16) (N := some 72) (v := undef) (a' := ?_) (fB 41 131071) rfl rfl (any_of HT_.out (by kernel_rfl)) (fun _ _ _ h => h) (Or.inr ⟨by rfl, rfl⟩) ?_ ?_
           rotate_left
           ·
            simp only [Act.put, sA, sB, sC, i64_w, i32_w, sD]
            rfl
           refine pure_ (i := 17) (N := some 73) (v := undef) (a' := ?_) (fB 41 262143) rfl rfl (any_of HT_.out (by kernel_rfl)) (fun _ _ _ h => h) (Or.inr ⟨by rfl, rfl⟩) ?_ ?_
           rotate_left
           ·
            simp only [Act.put, sA, sB, sC, i64_w, i32_w, sD]
            rfl
           refine pure_ (i := 18) (N := some 74) (v := undef) (a' := ?_) (fB 41 524287) rfl rfl (any_of HT_.out (by kernel_rfl)) (fun _ _ _ h => h) (Or.inr ⟨by rfl, rfl⟩) ?_ ?_
           rotate_left
           ·
            simp only [Act.put, sA, sB, sC, i64_w, i32_w, sD]
            rfl
           refine pure_ (i := 19) (N := some 75) (v := undef) (a' := ?_) (fB 41 1048575) rfl rfl (any_of HT_.out (by kernel_rfl)) (fun _ _ _ h => h) (Or.inr ⟨by rfl, rfl⟩) ?_ ?_
           rotate_left
           ·
            simp only [Act.put, sA, sB, sC, i64_w, i32_w, sD]
            rfl
           refine pure_ (i := 20) (N := some 76) (v := undef) (a' := ?_) (fB 41 2097151) rfl rfl (any_of HT_.out (by kernel_rfl)) (fun _ _ _ h => h) (Or.inr ⟨by rfl, rfl⟩) ?_ ?_
           rotate_left
           ·
            simp only [Act.put, sA, sB, sC, i64_w, i32_w, sD]
            rfl
           refine pure_ (i := 21) (N := some 77) (v := undef) (a' := ?_) (fB 41 4194303) rfl rfl (any_of HT_.out (by kernel_rfl)) (fun _ _ _ h => h) (Or.inr ⟨by rfl, rfl⟩) ?_ ?_
           rotate_left
           ·
            simp only [Act.put, sA, sB, sC, i64_w, i32_w, sD]
            rfl
           refine pure_ (i := 22) (N := some 78) (v := undef) (a' := ?_) (fB 41 8388607) rfl rfl (any_of HT_.out (by kernel_rfl)) (fun _ _ _ h => h) (Or.inr ⟨by rfl, rfl⟩) ?_ ?_
           rotate_left
           ·
            simp only [Act.put, sA, sB, sC, i64_w, i32_w, sD]
            rfl
           refine pure_ (i := 23) (N := some 79) (v := undef) (a' := ?_) (fB 41 16777215) rfl rfl (any_of HT_.out (by kernel_rfl)) (fun _ _ _ h => h) (Or.inr ⟨by rfl, rfl⟩) ?_ ?_
           rotate_left
           ·
            simp only [Act.put, sA, sB, sC, i64_w, i32_w, sD]
            rfl
           refine pure_ (i := 24) (N := some 80) (v := undef) (a' := ?_) (fB 41 33554431) rfl rfl (any_of HT_.out (by kernel_rfl)) (fun _ _ _ h => h) (Or.inr ⟨by rfl, rfl⟩) ?_ ?_
           rotate_left
           ·
            simp only [Act.put, sA, sB, sC, i64_w, i32_w, sD]
            rfl
           refine pure_ (i := 25) (N := some 81) (v := undef) (a' := ?_) (fB 41 67108863) rfl rfl (any_of HT_.out (by kernel_rfl)) (fun _ _ _ h => h) (Or.inr ⟨by rfl, rfl⟩) ?_ ?_
           rotate_left
           ·
            simp only [Act.put, sA, sB, sC, i64_w, i32_w, sD]
            rfl
           refine pure_ (i := 26) (N := some 82) (v := undef) (a' := ?_) (fB 41 134217727) rfl rfl (any_of HT_.out (by kernel_rfl)) (fun _ _ _ h => h) (Or.inr ⟨by rfl, rfl⟩) ?_ ?_
           rotate_left
           ·
            simp only [Act.put, sA, sB, sC, i64_w, i32_w, sD]
            rfl
           refine pure_ (i := 27) (N := some 83) (v := undef) (a' := ?_) (fB 41 268435455) rfl rfl (any_of HT_.out (by kernel_rfl)) (fun _ _ _ h => h) (Or.inr ⟨by rfl, rfl⟩) ?_ ?_
           rotate_left
           ·
            simp only [Act.put, sA, sB, sC, i64_w, i32_w, sD]
            rfl
           refine pure_ (i := 28) (N := some 84) (v := undef) (a' := ?_) (fB 41 536870911) rfl rfl (any_of HT_.out (by kernel_rfl)) (fun _ _ _ h => h) (Or.inr ⟨by rfl, rfl⟩) ?_ ?_
           rotate_left
           ·
            simp only [Act.put, sA, sB, sC, i64_w, i32_w, sD]
            rfl
           refine pure_ (i := 29) (N := some 85) (v := undef) (a' := ?_) (fB 41 1073741823) rfl rfl (any_of HT_.out (by kernel_rfl)) (fun _ _ _ h => h) (Or.inr ⟨by rfl, rfl⟩) ?_ ?_
           rotate_left
           ·
            simp only [Act.put, sA, sB, sC, i64_w, i32_w, sD]
            rfl
           refine pure_ (i := 30) (N := some 86) (v := undef) (a' := ?_) (fB 41 2147483647) rfl rfl (any_of HT_.out (by kernel_rfl)) (fun _ _ _ h => h) (Or.inr ⟨by rfl, rfl⟩) ?_ ?_
           rotate_left
           ·
            simp only [Act.put, sA, sB, sC, i64_w, i32_w, sD]
            rfl
           refine pure_ (i := 31) (N := some 87) (v := ?_) (a' := ?_) (fB 41 4294967295) rfl rfl (any_of HT_.out (by kernel_rfl)) (fun _ _ _ h => h) (Or.inl ⟨by rfl, ?_⟩) ?_ ?_
           rotate_left; · intro w'; go_simp; with_reducible rfl
           rotate_left; · simp only [Act.put, sA, sB, sC, i64_w, i32_w, sD]; rfl
           refine pure_ (i := 32) (N := some 88) (v := ?_) (a' := ?_) (fB 41 8589934591) rfl rfl (any_of HT_.out (by kernel_rfl)) (fun _ _ _ h => h) (Or.inl ⟨by rfl, ?_⟩) ?_ ?_
           rotate_left; · intro w'; go_simp; with_reducible rfl
           rotate_left; · simp only [Act.put, sA, sB, sC, i64_w, i32_w, sD]; rfl
           refine pure_ (i := 33) (N := some 89) (v := undef) (a' := ?_) (fB 41 17179869183) rfl rfl (any_of HT_.out (by kernel_rfl)) (fun _ _ _ h => h) (Or.inr ⟨by rfl, rfl⟩) ?_ ?_
           rotate_left
           ·
            simp only [Act.put, sA, sB, sC, i64_w, i32_w, sD]
            rfl
           refine pure_ (i := 34) (N := some 90) (v := undef) (a' := ?_) (fB 41 34359738367) rfl rfl (any_of HT_.out (by kernel_rfl)) (fun _ _ _ h => h) (Or.inr ⟨by rfl, rfl⟩) ?_ ?_
           rotate_left
           ·
            simp only [Act.put, sA, sB, sC, i64_w, i32_w, sD]
            rfl
           refine pure_ (i := 35) (N := some 91) (v := undef) (a' := ?_) (fB 41 68719476735) rfl rfl (any_of HT_.out (by kernel_rfl)) (fun _ _ _ h => h) (Or.inr ⟨by rfl, rfl⟩) ?_ ?_
           rotate_left
           ·
            simp only [Act.put, sA, sB, sC, i64_w, i32_w, sD]
            rfl
           refine pure_ (i := 36) (N := some 92) (v := undef) (a' := ?_) (fB 41 137438953471) rfl rfl (any_of HT_.out (by kernel_rfl)) (fun _ _ _ h => h) (Or.inr ⟨by rfl, rfl⟩) ?_ ?_
           rotate_left
           ·
            simp only [Act.put, sA, sB, sC, i64_w, i32_w, sD]
            rfl
           refine pure_ (i := 37) (N := some 93) (v := undef) (a' := ?_) (fB 41 274877906943) rfl rfl (any_of HT_.out (by kernel_rfl)) (fun _ _ _ h => h) (Or.inr ⟨by rfl, rfl⟩) ?_ ?_
           rotate_left
           ·
            simp only [Act.put, sA, sB, sC, i64_w, i32_w, sD]
            rfl
           refine pure_ (i := 38) (N := some 94) (v := undef) (a' := ?_) (fB 41 549755813887) rfl rfl (any_of HT_.out (by kernel_rfl)) (fun _ _ _ h => h) (Or.inr ⟨by rfl, rfl⟩) ?_ ?_
           rotate_left
           ·
            simp only [Act.put, sA, sB, sC, i64_w, i32_w, sD]
            rfl
           refine pure_ (i := 39) (N := some 95) (v := undef) (a' := ?_) (fB 41 1099511627775) rfl rfl (any_of HT_.out (by kernel_rfl)) (fun _ _ _ h => h) (Or.inr ⟨by rfl, rfl⟩) ?_ ?_
           rotate_left
           ·
            simp only [Act.put, sA, sB, sC, i64_w, i32_w, sD]
            rfl
           refine pure_ (i := 40) (N := some 96) (v := ?_) (a' := ?_) (fB 41 2199023255551) rfl rfl (any_of HT_.out (by kernel_rfl)) (fun _ _ _ h => h) (Or.inl ⟨by rfl, ?_⟩) ?_ ?_
           rotate_left; · intro w'; go_simp; with_reducible rfl
           rotate_left; · simp only [Act.put, sA, sB, sC, i64_w, i32_w, sD]; rfl
           refine done_ (done_of HT_.out (by kernel_rfl)) ?_
           try go_wp2
           go_ret
           exact ⟨by first | rfl | (simp [errW_none, errW_some] <;> rfl) | (simp [*, errW_none, errW_some] <;> rfl), by repeat (first | (with_reducible first | exact HB.out | apply below_alloc | apply pw_below_drewN | apply below_drew1 | refine below_set ?_ GE151.out) | exact HB.out)⟩
          ·
           rw [if_neg c24] at H
           have c24b0 : decide ((rd l0_2 x4_3) < 1) = false := decide_eq_false c24
           clear c24
           by_cases c27 : (rd l0_2 x4_3) > 15
           ·
            rw [if_pos c27] at H
            have c27b0 : decide (15 < (rd l0_2 x4_3)) = true := decide_eq_true c27
            clear c27
            obtain rfl := Option.some.inj H
            have hcz28_0 : wr.cell? ⟨gb151, 0, none⟩ = some (.string a0_0) := (blk_cell BK151.out 0).trans rfl
            have hcz28_1 : wr.cell? ⟨gb151, 1, none⟩ = some (.string a0_1) := (blk_cell BK151.out 1).trans rfl
            have hcz28_2 : wr.cell? ⟨gb151, 2, none⟩ = some (.slice A0_2 l0_2.length c0_2) := (blk_cell BK151.out 2).trans rfl
            have hcz28_3 : wr.cell? ⟨gb151, 3, none⟩ = some (.slice A0_3 l0_3.length c0_3) := (blk_cell BK151.out 3).trans rfl
            have hfz28_0 := blk_frozen BK151.out 0
            have hfz28_1 := blk_frozen BK151.out 1
            have hfz28_2 := blk_frozen BK151.out 2
            have hfz28_3 := blk_frozen BK151.out 3
            try go_wp2
            have n0_ := Aside0.mk (blk_drew BK151.out)
            have n1_ := Aside0.mk (below_drew1 HB.out)
            clear BK151
            clear HB
            have BK151 := n0_
            have HB := n1_
            clear n0_ n1_
            have p152 : 0 ≤ (x4_3 : Int) := of_decide_eq_true (by first | (with_reducible assumption) | assumption)
            have q152 : x4_3 < (l0_2.length : Int) := of_decide_eq_true (by first | (with_reducible assumption) | assumption)
            obtain ⟨ad152, e152, hx152_0⟩ := Kd.at_int HR0_2.out x4_3 p152 q152
            have hw152_0 := hx152_0
            cases e152
            replace hx152_0 := (HB.out.cell (World.block_lt_of_cell? w _ hx152_0)).trans hx152_0
            replace p152 := eq_true p152
            replace q152 := eq_true q152
            have p153 : 0 ≤ (x4_3 : Int) := of_decide_eq_true (by first | (with_reducible assumption) | assumption)
            have q153 : x4_3 < (l0_2.length : Int) := of_decide_eq_true (by first | (with_reducible assumption) | assumption)
            obtain ⟨ad153, e153, hx153_0⟩ := Kd.at_int HR0_2.out x4_3 p153 q153
            have hw153_0 := hx153_0
            obtain rfl : ad152 = ad153 := (by injection e153)
            replace hx153_0 := (HB.out.cell (World.block_lt_of_cell? w _ hx153_0)).trans hx153_0
            replace p153 := eq_true p153
            replace q153 := eq_true q153
            refine start_ (n := 41) (S := fun w' => w'.cell? ⟨gb151, 0, none⟩ = some (.string a0_0) ∧ w'.cell? ⟨gb151, 1, none⟩ = some (.string a0_1) ∧ w'.cell? ⟨gb151, 2, none⟩ = some (.slice (some ad152) l0_2.length c0_2) ∧ w'.cell? ⟨gb151, 3, none⟩ = some (.slice A0_3 l0_3.length c0_3) ∧ w'.cell? (ad152.add (x4_3).toNat) = some (.int .i64 (rd l0_2 x4_3)) ∧ w'.cell? (ad152.add (x4_3).toNat) = some (.int .i64 (rd l0_2 x4_3))) (ds := []) (fB 41 0) (by kernel_rfl) rfl rfl ⟨(blk_cell BK151.out 0).trans rfl, (blk_cell BK151.out 1).trans rfl, (blk_cell BK151.out 2).trans rfl, (blk_cell BK151.out 3).trans rfl, ((HB.out.cell (World.block_lt_of_cell? w _ hw152_0)).trans hw152_0), ((HB.out.cell (World.block_lt_of_cell? w _ hw153_0)).trans hw153_0)⟩ (fun hHeld => ?_); refine with_tabW mosaicref29_Check.tab11 mosaicref29_Check.bits11 (fun HT_ HW_ => ?_)
            generalize wr.drew = w29 at BK151 HB hx152_0 hx153_0 hHeld ⊢
            refine pure_ (i := 0) (N := some 56) (v := ?_) (a' := ?_) (fB 41 1) rfl rfl (any_of HT_.out (by kernel_rfl)) (fun _ _ _ h => h) (Or.inl ⟨by rfl, ?_⟩) ?_ ?_
            rotate_left; · intro w'; go_simp; with_reducible rfl
            rotate_left; · simp only [Act.put, sA, sB, sC, i64_w, i32_w, sD]; rfl
            refine pure_ (i := 2) (N := some 58) (v := ?_) (a' := ?_) (fB 41 5) rfl rfl (any_of HT_.out (by kernel_rfl)) (fun _ _ _ h => h) (Or.inl ⟨by rfl, ?_⟩) ?_ ?_
            rotate_left; · intro w'; go_simp; with_reducible rfl
            rotate_left; · simp only [Act.put, sA, sB, sC, i64_w, i32_w, sD]; rfl
            refine take_ (i := 1) (N := some 57) (v := ?_) (a' := ?_) (fB 41 7) rfl rfl (take_ofW HT_.out HW_.out (by kernel_rfl)) (fun _ _ _ h => h) (Or.inl ⟨by rfl, ?_⟩) hHeld ?_ ?_
            rotate_left; · rintro w' ⟨s0, s1, s2, s3, s4, s5⟩; go_simp; with_reducible rfl
            rotate_left; · simp only [Act.put, sA, sB, sC, i64_w, i32_w, sD]; rfl
            refine pure_ (i := 3) (N := some 59) (v := ?_) (a' := ?_) (fB 41 15) rfl rfl (any_of HT_.out (by kernel_rfl)) (fun _ _ _ h => h) (Or.inl ⟨by rfl, ?_⟩) ?_ ?_
            rotate_left; · intro w'; go_simp; with_reducible rfl
            rotate_left; · simp only [Act.put, sA, sB, sC, i64_w, i32_w, sD]; rfl
            refine take_ (i := 4) (N := some 60) (v := ?_) (a' := ?_) (fB 41 31) rfl rfl (take_ofW HT_.out HW_.out (by kernel_rfl)) (fun _ _ _ h => h) (Or.inl ⟨by rfl, ?_⟩) hHeld ?_ ?_
            rotate_left; · rintro w' ⟨s0, s1, s2, s3, s4, s5⟩; go_simp; with_reducible rfl
            rotate_left; · simp only [Act.put, sA, sB, sC, i64_w, i32_w, sD]; rfl
            refine pure_ (i := 5) (N := some 61) (v := ?_) (a' := ?_) (fB 41 63) rfl rfl (any_of HT_.out (by kernel_rfl)) (fun _ _ _ h => h) (Or.inl ⟨by rfl, ?_⟩) ?_ ?_
            rotate_left; · intro w'; go_simp; with_reducible rfl
            rotate_left; · simp only [Act.put, sA, sB, sC, i64_w, i32_w, sD]; rfl
            refine pure_ (i := 6) (N := some 62) (v := ?_) (a' := ?_) (fB 41 127) rfl rfl (any_of HT_.out (by kernel_rfl)) (fun _ _ _ h => h) (Or.inl ⟨by rfl, ?_⟩) ?_ ?_
            rotate_left; · intro w'; go_simp; with_reducible rfl
            rotate_left; · simp only [Act.put, sA, sB, sC, i64_w, i32_w, sD]; rfl
            refine pure_ (i := 7) (N := some 63) (v := ?_) (a' := ?_) (fB 41 255) rfl rfl (any_of HT_.out (by kernel_rfl)) (fun _ _ _ h => h) (Or.inl ⟨by rfl, ?_⟩) ?_ ?_
            rotate_left; · intro w'; go_simp; with_reducible rfl
            rotate_left; · simp only [Act.put, sA, sB, sC, i64_w, i32_w, sD]; rfl
            refine pure_ (i := 9) (N := some 65) (v := ?_) (a' := ?_) (fB 41 767) rfl rfl (any_of HT_.out (by kernel_rfl)) (fun _ _ _ h => h) (Or.inl ⟨by rfl, ?_⟩) ?_ ?_
            rotate_left; · intro w'; go_simp; with_reducible rfl
            rotate_left; · simp only [Act.put, sA, sB, sC, i64_w, i32_w, sD]; rfl
            refine take_ (i := 8) (N := some 64) (v := ?_) (a' := ?_) (fB 41 1023) rfl rfl (take_ofW HT_.out HW_.out (by kernel_rfl)) (fun _ _ _ h => h) (Or.inl ⟨by rfl, ?_⟩) hHeld ?_ ?_
            rotate_left; · rintro w' ⟨s0, s1, s2, s3, s4, s5⟩; go_simp; with_reducible rfl
            rotate_left; · simp only [Act.put, sA, sB, sC, i64_w, i32_w, sD]; rfl
            refine pure_ (i := 10) (N := some 66) (v := ?_) (a' := ?_) (fB 41 2047) rfl rfl (any_of HT_.out (by kernel_rfl)) (fun _ _ _ h => h) (Or.inl ⟨by rfl, ?_⟩) ?_ ?_
            rotate_left; · intro w'; go_simp; with_reducible rfl
            rotate_left; · simp only [Act.put, sA, sB, sC, i64_w, i32_w, sD]; rfl
            refine take_ (i := 11) (N := some 67) (v := ?_) (a' := ?_) (fB 41 4095) rfl rfl (take_ofW HT_.out HW_.out (by kernel_rfl)) (fun _ _ _ h => h) (Or.inl ⟨by rfl, ?_⟩) hHeld ?_ ?_
            rotate_left; · rintro w' ⟨s0, s1, s2, s3, s4, s5⟩; go_simp; with_reducible rfl
            rotate_left; · simp only [Act.put, sA, sB, sC, i64_w, i32_w, sD]; rfl
            refine pure_ (i := 12) (N := some 68) (v := ?_) (a' := ?_) (fB 41 8191) rfl rfl (any_of HT_.out (by kernel_rfl)) (fun _ _ _ h => h) (Or.inl ⟨by rfl, ?_⟩) ?_ ?_
            rotate_left; · intro w'; go_simp; with_reducible rfl
            rotate_left; · simp only [Act.put, sA, sB, sC, i64_w, i32_w, sD]; rfl
            refine pure_ (i := 13) (N := some 69) (v := ?_) (a' := ?_) (fB 41 16383) rfl rfl (any_of HT_.out (by kernel_rfl)) (fun _ _ _ h => h) (Or.inl ⟨by rfl, ?_⟩) ?_ ?_
            rotate_left; · intro w'; go_simp; with_reducible rfl
            rotate_left; · simp only [Act.put, sA, sB, sC, i64_w, i32_w, sD]; rfl
            refine pure_ (i := 14) (N := some 70) (v := ?_) (a' := ?_) (fB 41 32767) rfl rfl (any_of HT_.out (by kernel_rfl)) (fun _ _ _ h => h) (Or.inl ⟨by rfl, ?_⟩) ?_ ?_
            rotate_left; · intro w'; go_simp; with_reducible rfl
            rotate_left; · simp only [Act.put, sA, sB, sC, i64_w, i32_w, sD]; rfl
            refine pure_ (i := 15) (N := some 71) (v := undef) (a' := ?_) (fB 41 65535) rfl rfl (any_of HT_.out (by kernel_rfl)) (fun _ _ _ h => h) (Or.inr ⟨by rfl, rfl⟩) ?_ ?_
            rotate_left
            ·
             simp only [Act.put, sA, sB, sC, i64_w, i32_w, sD]
             rfl
            refine pure_ (i := 16) (N := some 72) (v := undef) (a' := ?_) (fB 41 131071) rfl rfl (any_of HT_.out (by kernel_rfl)) (fun _ _ _ h => h) (Or.inr ⟨by rfl, rfl⟩) ?_ ?_
            rotate_left
            ·
             simp only [Act.put, sA, sB, sC, i64_w, i32_w, sD]
             rfl
            refine pure_ (i := 17) (N := some 73) (v := undef) (a' := ?_) (fB 41 262143) rfl rfl (any_of HT_.out (by kernel_rfl)) (fun _ _ _ h => h) (Or.inr ⟨by rfl, rfl⟩) ?_ ?_
            rotate_left
            ·
             simp only [Act.put, sA, sB, sC, i64_w, i32_w, sD]
             rfl
            refine pure_ (i := 18) (N := some 74) (v := undef) (a' := ?_) (fB 41 524287) rfl rfl (any_of HT_.out (by kernel_rfl)) (fun _ _ _ h => h) (Or.inr ⟨by rfl, rfl⟩) ?_ ?_
            rotate_left
            ·
             simp only [Act.put, sA, sB, sC, i64_w, i32_w, sD]
             rfl
            refine pure_ (i := 19) (N := some 75) (v := undef) (a' := ?_) (fB 41 1048575) rfl rfl (any_of HT_.out (by kernel_rfl)) (fun _ _ _ h => h) (Or.inr ⟨by rfl, rfl⟩) ?_ ?_
            rotate_left
            ·
             simp only [Act.put, sA, sB, sC, i64_w, i32_w, sD]
             rfl
            refine pure_ (i := 20) (N := some 76) (v := undef) (a' := ?_) (fB 41 2097151) rfl rfl (any_of HT_.out (by kernel_rfl)) (fun _ _ _ h => h) (Or.inr ⟨by rfl, rfl⟩) ?_ ?_
            rotate_left
            ·
             simp only [Act.put, sA, sB, sC, i64_w, i32_w, sD]
             rfl
            refine pure_ (i := 21) (N := some 77) (v := undef) (a' := ?_) (fB 41 4194303) rfl rfl (any_of HT_.out (by kernel_rfl)) (fun _ _ _ h => h) (Or.inr ⟨by rfl, rfl⟩) ?_ ?_
            rotate_left
            ·
             simp only [Act.put, sA, sB, sC, i64_w, i32_w, sD]
             rfl
            refine pure_ (i := 22) (N := some 78) (v := undef) (a' := ?_) (fB 41 8388607) rfl rfl (any_of HT_.out (by kernel_rfl)) (fun _ _ _ h => h) (Or.inr ⟨by rfl, rfl⟩) ?_ ?_
            rotate_left
            ·
             simp only [Act.put, sA, sB, sC, i64_w, i32_w, sD]
             rfl
            refine pure_ (i := 23) (N := some 79) (v := undef) (a' := ?_) (fB 41 16777215) rfl rfl (any_of HT_.out (by kernel_rfl)) (fun _ _ _ h => h) (Or.inr ⟨by rfl, rfl⟩) ?_ ?_
            rotate_left
            ·
             simp only [Act.put, sA, sB, sC, i64_w, i32_w, sD]
             rfl
            refine pure_ (i := 24) (N := some 80) (v := undef) (a' := ?_) (fB 41 33554431) rfl rfl (any_of HT_.out (by kernel_rfl)) (fun _ _ _ h => h) (Or.inr ⟨by rfl, rfl⟩) ?_ ?_
            rotate_left
            ·
             simp only [Act.put, sA, sB, sC, i64_w, i32_w, sD]
             rfl
            refine pure_ (i := 25) (N := some 81) (v := undef) (a' := ?_) (fB 41 67108863) rfl rfl (any_of HT_.out (by kernel_rfl)) (fun _ _ _ h => h) (Or.inr ⟨by rfl, rfl⟩) ?_ ?_
            rotate_left
            ·
             simp only [Act.put, sA, sB, sC, i64_w, i32_w, sD]
             rfl
            refine pure_ (i := 26) (N := some 82) (v := undef) (a' := ?_) (fB 41 134217727) rfl rfl (any_of HT_.out (by kernel_rfl)) (fun _ _ _ h => h) (Or.inr ⟨by rfl, rfl⟩) ?_ ?_
            rotate_left
            ·
             simp only [Act.put, sA, sB, sC, i64_w, i32_w, sD]
             rfl
            refine pure_ (i := 27) (N := some 83) (v := undef) (a' := ?_) (fB 41 268435455) rfl rfl (any_of HT_.out (by kernel_rfl)) (fun _ _ _ h => h) (Or.inr ⟨by rfl, rfl⟩) ?_ ?_
            rotate_left
            ·
             simp only [Act.put, sA, sB, sC, i64_w, i32_w, sD]
             rfl
            refine pure_ (i := 28) (N := some 84) (v := undef) (a' := ?_) (fB 41 536870911) rfl rfl (any_of HT_.out (by kernel_rfl)) (fun _ _ _ h => h) (Or.inr ⟨by rfl, rfl⟩) ?_ ?_
            rotate_left
            ·
             simp only [Act.put, sA, sB, sC, i64_w, i32_w, sD]
             rfl
            refine pure_ (i := 29) (N := some 85) (v := undef) (a' := ?_) (fB 41 1073741823) rfl rfl (any_of HT_.out (by kernel_rfl)) (fun _ _ _ h => h) (Or.inr ⟨by rfl, rfl⟩) ?_ ?_
            rotate_left
            ·
             simp only [Act.put, sA, sB, sC, i64_w, i32_w, sD]
             rfl
            refine pure_ (i := 30) (N := some 86) (v := undef) (a' := ?_) (fB 41 2147483647) rfl rfl (any_of HT_.out (by kernel_rfl)) (fun _ _ _ h => h) (Or.inr ⟨by rfl, rfl⟩) ?_ ?_
            rotate_left
            ·
             simp only [Act.put, sA, sB, sC, i64_w, i32_w, sD]
             rfl
            refine pure_ (i := 31) (N := some 87) (v := ?_) (a' := ?_) (fB 41 4294967295) rfl rfl (any_of HT_.out (by kernel_rfl)) (fun _ _ _ h => h) (Or.inl ⟨by rfl, ?_⟩) ?_ ?_
            rotate_left; · intro w'; go_simp; with_reducible rfl
            rotate_left; · simp only [Act.put, sA, sB, sC, i64_w, i32_w, sD]; rfl
            refine pure_ (i := 32) (N := some 88) (v := ?_) (a' := ?_) (fB 41 8589934591) rfl rfl (any_of HT_.out (by kernel_rfl)) (fun _ _ _ h => h) (Or.inl ⟨by rfl, ?_⟩) ?_ ?_
            rotate_left; · intro w'; go_simp; with_reducible rfl
            rotate_left; · simp only [Act.put, sA, sB, sC, i64_w, i32_w, sD]; rfl
            refine pure_ (i := 33) (N := some 89) (v := undef) (a' := ?_) (fB 41 17179869183) rfl rfl (any_of HT_.out (by kernel_rfl)) (fun _ _ _ h => h) (Or.inr ⟨by rfl, rfl⟩) ?_ ?_
            rotate_left
            ·
             simp only [Act.put, sA, sB, sC, i64_w, i32_w, sD]
             rfl
            refine pure_ (i := 34) (N := some 90) (v := undef) (a' := ?_) (fB 41 34359738367) rfl rfl (any_of HT_.out (by kernel_rfl)) (fun _ _ _ h => h) (Or.inr ⟨by rfl, rfl⟩) ?_ ?_
            rotate_left
            ·
             simp only [Act.put, sA, sB, sC, i64_w, i32_w, sD]
             rfl
            refine pure_ (i := 35) (N := some 91) (v := undef) (a' := ?_) (fB 41 68719476735) rfl rfl (any_of HT_.out (by kernel_rfl)) (fun _ _ _ h => h) (Or.inr ⟨by rfl, rfl⟩) ?_ ?_
            rotate_left
            ·
             simp only [Act.put, sA, sB, sC, i64_w, i32_w, sD]
             rfl
            refine pure_ (i := 36) (N := some 92) (v := undef) (a' := ?_) (fB 41 137438953471) rfl rfl (any_of HT_.out (by kernel_rfl)) (fun _ _ _ h => h) (Or.inr ⟨by rfl, rfl⟩) ?_ ?_
            rotate_left
            ·
             simp only [Act.put, sA, sB, sC, i64_w, i32_w, sD]
             rfl
            refine pure_ (i := 37) (N := some 93) (v := undef) (a' := ?_) (fB 41 274877906943) rfl rfl (any_of HT_.out (by kernel_rfl)) (fun _ _ _ h => h) (Or.inr ⟨by rfl, rfl⟩) ?_ ?_
            rotate_left
            ·
             simp only [Act.put, sA, sB, sC, i64_w, i32_w, sD]
             rfl
            refine pure_ (i := 38) (N := some 94) (v := undef) (a' := ?_) (fB 41 549755813887) rfl rfl (any_of HT_.out (by kernel_rfl)) (fun _ _ _ h => h) (Or.inr ⟨by rfl, rfl⟩) ?_ ?_
            rotate_left
            ·
             simp only [Act.put, sA, sB, sC, i64_w, i32_w, sD]
             rfl
            refine pure_ (i := 39) (N := some 95) (v := undef) (a' := ?_) (fB 41 1099511627775) rfl rfl (any_of HT_.out (by kernel_rfl)) (fun _ _ _ h => h) (Or.inr ⟨by rfl, rfl⟩) ?_ ?_
            rotate_left
            ·
             simp only [Act.put, sA, sB, sC, i64_w, i32_w, sD]
             rfl
            refine pure_ (i := 40) (N := some 96) (v := ?_) (a' := ?_) (fB 41 2199023255551) rfl rfl (any_of HT_.out (by kernel_rfl)) (fun _ _ _ h => h) (Or.inl ⟨by rfl, ?_⟩) ?_ ?_
            rotate_left; · intro w'; go_simp; with_reducible rfl
            rotate_left; · simp only [Act.put, sA, sB, sC, i64_w, i32_w, sD]; rfl
            refine done_ (done_of HT_.out (by kernel_rfl)) ?_
            try go_wp2
            go_ret
            exact ⟨by first | rfl | (simp [errW_none, errW_some] <;> rfl) | (simp [*, errW_none, errW_some] <;> rfl), by repeat (first | (with_reducible first | exact HB.out | apply below_alloc | apply pw_below_drewN | apply below_drew1 | refine below_set ?_ GE151.out) | exact HB.out)⟩
           ·
            rw [if_neg c27] at H
            have c27b0 : decide (15 < (rd l0_2 x4_3)) = false := decide_eq_false c27
            clear c27
            by_cases c30 : x4_3 > 0
            ·
             rw [if_pos c30] at H
             have c30b0 : decide (0 < x4_3) = true := decide_eq_true c30
             clear c30
             obtain ⟨ji31, hji31⟩ : ∃ j_ : Int, (wrap64 (x4_3 - 1)) = j_ := ⟨_, rfl⟩
             replace H : (if 0 ≤ (ji31) then (if (ji31) < (l0_2.length : Int) then (if (rd l0_2 x4_3) ≤ (rd l0_2 (ji31)) then (some false) else (if x4_3 < (l0_3.length : Int) then ((mosaicref17_Check.f ((rd_T45 l0_3 x4_3).f0) ((rd_T45 l0_3 x4_3).f1)).bind fun t157 => (if t157 = true then (mosaicref29_Check.l1 k3 (wrap64 (x4_3 + 1)) a0_0 a0_1 l0_2 l0_3) else (some false))) else (none))) else (none)) else (none)) = some r := by first | (rw [hji31] at H; exact H) | (simp only [hji31] at H ⊢; exact H)
             have hji31w : (IntKind.i64.wrap (x4_3 - 1)) = ji31 := (i64_w _).trans hji31
             by_cases c32 : 0 ≤ (ji31)
             rotate_left; · rw [if_neg c32] at H; exact absurd H (by simp)
             rw [if_pos c32] at H
             have c32b0 : decide (0 ≤ (ji31)) = true := decide_eq_true c32
             clear c32
             by_cases c33 : (ji31) < (l0_2.length : Int)
             rotate_left; · rw [if_neg c33] at H; exact absurd H (by simp)
             rw [if_pos c33] at H
             have c33b0 : decide ((ji31) < (l0_2.length : Int)) = true := decide_eq_true c33
             clear c33
             by_cases c34 : (rd l0_2 x4_3) ≤ (rd l0_2 (ji31))
             ·
              rw [if_pos c34] at H
              have c34b0 : decide ((rd l0_2 x4_3) ≤ (rd l0_2 (ji31))) = true := decide_eq_true c34
              clear c34
              obtain rfl := Option.some.inj H
              have hcz35_0 : wr.cell? ⟨gb151, 0, none⟩ = some (.string a0_0) := (blk_cell BK151.out 0).trans rfl
              have hcz35_1 : wr.cell? ⟨gb151, 1, none⟩ = some (.string a0_1) := (blk_cell BK151.out 1).trans rfl
              have hcz35_2 : wr.cell? ⟨gb151, 2, none⟩ = some (.slice A0_2 l0_2.length c0_2) := (blk_cell BK151.out 2).trans rfl
              have hcz35_3 : wr.cell? ⟨gb151, 3, none⟩ = some (.slice A0_3 l0_3.length c0_3) := (blk_cell BK151.out 3).trans rfl
              have hfz35_0 := blk_frozen BK151.out 0
              have hfz35_1 := blk_frozen BK151.out 1
              have hfz35_2 := blk_frozen BK151.out 2
              have hfz35_3 := blk_frozen BK151.out 3
              try go_wp2
              have n0_ := Aside0.mk (blk_drew BK151.out)
              have n1_ := Aside0.mk (below_drew1 HB.out)
              clear BK151
              clear HB
              have BK151 := n0_
              have HB := n1_
              clear n0_ n1_
              have p152 : 0 ≤ (x4_3 : Int) := of_decide_eq_true (by first | (with_reducible assumption) | assumption)
              have q152 : x4_3 < (l0_2.length : Int) := of_decide_eq_true (by first | (with_reducible assumption) | assumption)
              obtain ⟨ad152, e152, hx152_0⟩ := Kd.at_int HR0_2.out x4_3 p152 q152
              have hw152_0 := hx152_0
              cases e152
              replace hx152_0 := (HB.out.cell (World.block_lt_of_cell? w _ hx152_0)).trans hx152_0
              replace p152 := eq_true p152
              replace q152 := eq_true q152
              have p153 : 0 ≤ (x4_3 : Int) := of_decide_eq_true (by first | (with_reducible assumption) | assumption)
              have q153 : x4_3 < (l0_2.length : Int) := of_decide_eq_true (by first | (with_reducible assumption) | assumption)
              obtain ⟨ad153, e153, hx153_0⟩ := Kd.at_int HR0_2.out x4_3 p153 q153
              have hw153_0 := hx153_0
              obtain rfl : ad152 = ad153 := (by injection e153)
              replace hx153_0 := (HB.out.cell (World.block_lt_of_cell? w _ hx153_0)).trans hx153_0
              replace p153 := eq_true p153
              replace q153 := eq_true q153
              have p154 : 0 ≤ (x4_3 : Int) := of_decide_eq_true (by first | (with_reducible assumption) | assumption)
              have q154 : x4_3 < (l0_2.length : Int) := of_decide_eq_true (by first | (with_reducible assumption) | assumption)
              obtain ⟨ad154, e154, hx154_0⟩ := Kd.at_int HR0_2.out x4_3 p154 q154
              have hw154_0 := hx154_0
              obtain rfl : ad152 = ad154 := (by injection e154)
              replace hx154_0 := (HB.out.cell (World.block_lt_of_cell? w _ hx154_0)).trans hx154_0
              replace p154 := eq_true p154
              replace q154 := eq_true q154
              have p155 : 0 ≤ ((ji31) : Int) := of_decide_eq_true (by first | (with_reducible assumption) | assumption)
              have q155 : (ji31) < (l0_2.length : Int) := of_decide_eq_true (by first | (with_reducible assumption) | assumption)
              obtain ⟨ad155, e155, hx155_0⟩ := Kd.at_int HR0_2.out (ji31) p155 q155
              have hw155_0 := hx155_0
              obtain rfl : ad152 = ad155 := (by injection e155)
              replace hx155_0 := (HB.out.cell (World.block_lt_of_cell? w _ hx155_0)).trans hx155_0
              replace p155 := eq_true p155
              replace q155 := eq_true q155
              refine start_ (n := 41) (S := fun w' => w'.cell? ⟨gb151, 0, none⟩ = some (.string a0_0) ∧ w'.cell? ⟨gb151, 1, none⟩ = some (.string a0_1) ∧ w'.cell? ⟨gb151, 2, none⟩ = some (.slice (some ad152) l0_2.length c0_2) ∧ w'.cell? ⟨gb151, 3, none⟩ = some (.slice A0_3 l0_3.length c0_3) ∧ w'.cell? (ad152.add (x4_3).toNat) = some (.int .i64 (rd l0_2 x4_3)) ∧ w'.cell? (ad152.add (x4_3).toNat) = some (.int .i64 (rd l0_2 x4_3)) ∧ w'.cell? (ad152.add (x4_3).toNat) = some (.int .i64 (rd l0_2 x4_3)) ∧ w'.cell? (ad152.add ((ji31)).toNat) = some (.int .i64 (rd l0_2 (ji31)))) (ds := []) (fB 41 0) (by kernel_rfl) rfl rfl ⟨(blk_cell BK151.out 0).trans rfl, (blk_cell BK151.out 1).trans rfl, (blk_cell BK151.out 2).trans rfl, (blk_cell BK151.out 3).trans rfl, ((HB.out.cell (World.block_lt_of_cell? w _ hw152_0)).trans hw152_0), ((HB.out.cell (World.block_lt_of_cell? w _ hw153_0)).trans hw153_0), ((HB.out.cell (World.block_lt_of_cell? w _ hw154_0)).trans hw154_0), ((HB.out.cell (World.block_lt_of_cell? w _ hw155_0)).trans hw155_0)⟩ (fun hHeld => ?_); refine with_tabW mosaicref29_Check.tab11 mosaicref29_Check.bits11 (fun HT_ HW_ => ?_)
              generalize wr.drew = w36 at BK151 HB hx152_0 hx153_0 hx154_0 hx155_0 hHeld ⊢
              refine pure_ (i := 0) (N := some 56) (v := ?_) (a' := ?_) (fB 41 1) rfl rfl (any_of HT_.out (by kernel_rfl)) (fun _ _ _ h => h) (Or.inl ⟨by rfl, ?_⟩) ?_ ?_
              rotate_left; · intro w'; go_simp; with_reducible rfl
              rotate_left; · simp only [Act.put, sA, sB, sC, i64_w, i32_w, sD]; rfl
              refine pure_ (i := 2) (N := some 58) (v := ?_) (a' := ?_) (fB 41 5) rfl rfl (any_of HT_.out (by kernel_rfl)) (fun _ _ _ h => h) (Or.inl ⟨by rfl, ?_⟩) ?_ ?_
              rotate_left; · intro w'; go_simp; with_reducible rfl
              rotate_left; · simp only [Act.put, sA, sB, sC, i64_w, i32_w, sD]; rfl
              refine take_ (i := 1) (N := some 57) (v := ?_) (a' := ?_) (fB 41 7) rfl rfl (take_ofW HT_.out HW_.out (by kernel_rfl)) (fun _ _ _ h => h) (Or.inl ⟨by rfl, ?_⟩) hHeld ?_ ?_
              rotate_left; · rintro w' ⟨s0, s1, s2, s3, s4, s5, s6, s7⟩; go_simp; with_reducible rfl
              rotate_left; · simp only [Act.put, sA, sB, sC, i64_w, i32_w, sD]; rfl
              refine pure_ (i := 3) (N := some 59) (v := ?_) (a' := ?_) (fB 41 15) rfl rfl (any_of HT_.out (by kernel_rfl)) (fun _ _ _ h => h) (Or.inl ⟨by rfl, ?_⟩) ?_ ?_
              rotate_left; · intro w'; go_simp; with_reducible rfl
              rotate_left; · simp only [Act.put, sA, sB, sC, i64_w, i32_w, sD]; rfl
              refine take_ (i := 4) (N := some 60) (v := ?_) (a' := ?_) (fB 41 31) rfl rfl (take_ofW HT_.out HW_.out (by kernel_rfl)) (fun _ _ _ h => h) (Or.inl ⟨by rfl, ?_⟩) hHeld ?_ ?_
              rotate_left; · rintro w' ⟨s0, s1, s2, s3, s4, s5, s6, s7⟩; go_simp; with_reducible rfl
              rotate_left; · simp only [Act.put, sA, sB, sC, i64_w, i32_w, sD]; rfl
              refine pure_ (i := 5) (N := some 61) (v := ?_) (a' := ?_) (fB 41 63) rfl rfl (any_of HT_.out (by kernel_rfl)) (fun _ _ _ h => h) (Or.inl ⟨by rfl, ?_⟩) ?_ ?_
              rotate_left; · intro w'; go_simp; with_reducible rfl
              rotate_left; · simp only [Act.put, sA, sB, sC, i64_w, i32_w, sD]; rfl
              refine pure_ (i := 6) (N := some 62) (v := ?_) (a' := ?_) (fB 41 127) rfl rfl (any_of HT_.out (by kernel_rfl)) (fun _ _ _ h => h) (Or.inl ⟨by rfl, ?_⟩) ?_ ?_
              rotate_left; · intro w'; go_simp; with_reducible rfl
              rotate_left; · simp only [Act.put, sA, sB, sC, i64_w, i32_w, sD]; rfl
              refine pure_ (i := 7) (N := some 63) (v := ?_) (a' := ?_) (fB 41 255) rfl rfl (any_of HT_.out (by kernel_rfl)) (fun _ _ _ h => h) (Or.inl ⟨by rfl, ?_⟩) ?_ ?_
              rotate_left; · intro w'; go_simp; with_reducible rfl
              rotate_left; · simp only [Act.put, sA, sB, sC, i64_w, i32_w, sD]; rfl
              refine pure_ (i := 9) (N := some 65) (v := ?_) (a' := ?_) (fB 41 767) rfl rfl (any_of HT_.out (by kernel_rfl)) (fun _ _ _ h => h) (Or.inl ⟨by rfl, ?_⟩) ?_ ?_
              rotate_left; · intro w'; go_simp; with_reducible rfl
              rotate_left; · simp only [Act.put, sA, sB, sC, i64_w, i32_w, sD]; rfl
              refine take_ (i := 8) (N := some 64) (v := ?_) (a' := ?_) (fB 41 1023) rfl rfl (take_ofW HT_.out HW_.out (by kernel_rfl)) (fun _ _ _ h => h) (Or.inl ⟨by rfl, ?_⟩) hHeld ?_ ?_
              rotate_left; · rintro w' ⟨s0, s1, s2, s3, s4, s5, s6, s7⟩; go_simp; with_reducible rfl
              rotate_left; · simp only [Act.put, sA, sB, sC, i64_w, i32_w, sD]; rfl
              refine pure_ (i := 10) (N := some 66) (v := ?_) (a' := ?_) (fB 41 2047) rfl rfl (any_of HT_.out (by kernel_rfl)) (fun _ _ _ h => h) (Or.inl ⟨by rfl, ?_⟩) ?_ ?_
              rotate_left; · intro w'; go_simp; with_reducible rfl
              rotate_left; · simp only [Act.put, sA, sB, sC, i64_w, i32_w, sD]; rfl
              refine take_ (i := 11) (N := some 67) (v := ?_) (a' := ?_) (fB 41 4095) rfl rfl (take_ofW HT_.out HW_.out (by kernel_rfl)) (fun _ _ _ h => h) (Or.inl ⟨by rfl, ?_⟩) hHeld ?_ ?_
              rotate_left; · rintro w' ⟨s0, s1, s2, s3, s4, s5, s6, s7⟩; go_simp; with_reducible rfl
              rotate_left; · simp only [Act.put, sA, sB, sC, i64_w, i32_w, sD]; rfl
              refine pure_ (i := 12) (N := some 68) (v := ?_) (a' := ?_) (fB 41 8191) rfl rfl (any_of HT_.out (by kernel_rfl)) (fun _ _ _ h => h) (Or.inl ⟨by rfl, ?_⟩) ?_ ?_
              rotate_left; · intro w'; go_simp; with_reducible rfl
              rotate_left; · simp only [Act.put, sA, sB, sC, i64_w, i32_w, sD]; rfl
              refine pure_ (i := 13) (N := some 69) (v := ?_) (a' := ?_) (fB 41 16383) rfl rfl (any_of HT_.out (by kernel_rfl)) (fun _ _ _ h => h) (Or.inl ⟨by rfl, ?_⟩) ?_ ?_
              rotate_left; · intro w'; go_simp; with_reducible rfl
              rotate_left; · simp only [Act.put, sA, sB, sC, i64_w, i32_w, sD]; rfl
              refine pure_ (i := 14) (N := some 70) (v := ?_) (a' := ?_) (fB 41 32767) rfl rfl (any_of HT_.out (by kernel_rfl)) (fun _ _ _ h => h) (Or.inl ⟨by rfl, ?_⟩) ?_ ?_
              rotate_left; · intro w'; go_simp; with_reducible rfl
              rotate_left; · simp only [Act.put, sA, sB, sC, i64_w, i32_w, sD]; rfl
              refine pure_ (i := 15) (N := some 71) (v := ?_) (a' := ?_) (fB 41 65535) rfl rfl (any_of HT_.out (by kernel_rfl)) (fun _ _ _ h => h) (Or.inl ⟨by rfl, ?_⟩) ?_ ?_
              rotate_left; · intro w'; go_simp; with_reducible rfl
              rotate_left; · simp only [Act.put, sA, sB, sC, i64_w, i32_w, sD]; rfl
              refine pure_ (i := 16) (N := some 72) (v := ?_) (a' := ?_) (fB 41 131071) rfl rfl (any_of HT_.out (by kernel_rfl)) (fun _ _ _ h => h) (Or.inl ⟨by rfl, ?_⟩) ?_ ?_
              rotate_left; · intro w'; go_simp; with_reducible rfl
              rotate_left; · simp only [Act.put, sA, sB, sC, i64_w, i32_w, sD]; rfl
              refine pure_ (i := 17) (N := some 73) (v := ?_) (a' := ?_) (fB 41 262143) rfl rfl (any_of HT_.out (by kernel_rfl)) (fun _ _ _ h => h) (Or.inl ⟨by rfl, ?_⟩) ?_ ?_
              rotate_left; · intro w'; go_simp; with_reducible rfl
              rotate_left; · simp only [Act.put, sA, sB, sC, i64_w, i32_w, sD]; rfl
              refine pure_ (i := 18) (N := some 74) (v := ?_) (a' := ?_) (fB 41 524287) rfl rfl (any_of HT_.out (by kernel_rfl)) (fun _ _ _ h => h) (Or.inl ⟨by rfl, ?_⟩) ?_ ?_
              rotate_left; · intro w'; go_simp; with_reducible rfl
              rotate_left; · simp only [Act.put, sA, sB, sC, i64_w, i32_w, sD]; rfl
              refine pure_ (i := 20) (N := some 76) (v := ?_) (a' := ?_) (fB 41 1572863) rfl rfl (any_of HT_.out (by kernel_rfl)) (fun _ _ _ h => h) (Or.inl ⟨by rfl, ?_⟩) ?_ ?_
              rotate_left; · intro w'; go_simp; with_reducible rfl
              rotate_left; · simp only [Act.put, sA, sB, sC, i64_w, i32_w, sD]; rfl
              refine pure_ (i := 23) (N := some 79) (v := ?_) (a' := ?_) (fB 41 9961471) rfl rfl (any_of HT_.out (by kernel_rfl)) (fun _ _ _ h => h) (Or.inl ⟨by rfl, ?_⟩) ?_ ?_
              rotate_left; · intro w'; go_simp; with_reducible rfl
              rotate_left; · simp only [Act.put, sA, sB, sC, i64_w, i32_w, sD]; rfl
              refine pure_ (i := 25) (N := some 81) (v := ?_) (a' := ?_) (fB 41 43515903) rfl rfl (any_of HT_.out (by kernel_rfl)) (fun _ _ _ h => h) (Or.inl ⟨by rfl, ?_⟩) ?_ ?_
              rotate_left; · intro w'; go_simp; with_reducible rfl
              rotate_left; · simp only [Act.put, sA, sB, sC, i64_w, i32_w, sD]; rfl
              refine pure_ (i := 26) (N := some 82) (v := ?_) (a' := ?_) (fB 41 110624767) rfl rfl (any_of HT_.out (by kernel_rfl)) (fun _ _ _ h => h) (Or.inl ⟨by rfl, ?_⟩) ?_ ?_
              rotate_left; · intro w'; go_simp; with_reducible rfl
              rotate_left; · simp only [Act.put, sA, sB, sC, i64_w, i32_w, sD]; rfl
              refine take_ (i := 19) (N := some 75) (v := ?_) (a' := ?_) (fB 41 111149055) rfl rfl (take_ofW HT_.out HW_.out (by kernel_rfl)) (fun _ _ _ h => h) (Or.inl ⟨by rfl, ?_⟩) hHeld ?_ ?_
              rotate_left; · rintro w' ⟨s0, s1, s2, s3, s4, s5, s6, s7⟩; go_simp; with_reducible rfl
              rotate_left; · simp only [Act.put, sA, sB, sC, i64_w, i32_w, sD]; rfl
              refine pure_ (i := 21) (N := some 77) (v := ?_) (a' := ?_) (fB 41 113246207) rfl rfl (any_of HT_.out (by kernel_rfl)) (fun _ _ _ h => h) (Or.inl ⟨by rfl, ?_⟩) ?_ ?_
              rotate_left; · intro w'; go_simp; with_reducible rfl
              rotate_left; · simp only [Act.put, sA, sB, sC, i64_w, i32_w, sD]; rfl
              refine take_ (i := 22) (N := some 78) (v := ?_) (a' := ?_) (fB 41 117440511) rfl rfl (take_ofW HT_.out HW_.out (by kernel_rfl)) (fun _ _ _ h => h) (Or.inl ⟨by rfl, ?_⟩) hHeld ?_ ?_
              rotate_left; · rintro w' ⟨s0, s1, s2, s3, s4, s5, s6, s7⟩; go_simp; with_reducible rfl
              rotate_left; · simp only [Act.put, sA, sB, sC, i64_w, i32_w, sD]; rfl
              refine take_ (i := 24) (N := some 80) (v := ?_) (a' := ?_) (fB 41 134217727) rfl rfl (take_ofW HT_.out HW_.out (by kernel_rfl)) (fun _ _ _ h => h) (Or.inl ⟨by rfl, ?_⟩) hHeld ?_ ?_
              rotate_left; · rintro w' ⟨s0, s1, s2, s3, s4, s5, s6, s7⟩; go_simp; with_reducible rfl
              rotate_left; · simp only [Act.put, sA, sB, sC, i64_w, i32_w, sD]; rfl
              refine pure_ (i := 27) (N := some 83) (v := ?_) (a' := ?_) (fB 41 268435455) rfl rfl (any_of HT_.out (by kernel_rfl)) (fun _ _ _ h => h) (Or.inl ⟨by rfl, ?_⟩) ?_ ?_
              rotate_left; · intro w'; go_simp; with_reducible rfl
              rotate_left; · simp only [Act.put, sA, sB, sC, i64_w, i32_w, sD]; rfl
              refine take_ (i := 28) (N := some 84) (v := ?_) (a' := ?_) (fB 41 536870911) rfl rfl (take_ofW HT_.out HW_.out (by kernel_rfl)) (fun _ _ _ h => h) (Or.inl ⟨by rfl, ?_⟩) hHeld ?_ ?_
              rotate_left; · rintro w' ⟨s0, s1, s2, s3, s4, s5, s6, s7⟩; go_simp; with_reducible rfl
              rotate_left; · simp only [Act.put, sA, sB, sC, i64_w, i32_w, sD]; rfl
              refine pure_ (i := 29) (N := some 85) (v := ?_) (a' := ?_) (fB 41 1073741823) rfl rfl (any_of HT_.out (by kernel_rfl)) (fun _ _ _ h => h) (Or.inl ⟨by rfl, ?_⟩) ?_ ?_
              rotate_left; · intro w'; go_simp; with_reducible rfl
              rotate_left; · simp only [Act.put, sA, sB, sC, i64_w, i32_w, sD]; rfl
              refine pure_ (i := 30) (N := some 86) (v := ?_) (a' := ?_) (fB 41 2147483647) rfl rfl (any_of HT_.out (by kernel_rfl)) (fun _ _ _ h => h) (Or.inl ⟨by rfl, ?_⟩) ?_ ?_
              rotate_left; · intro w'; go_simp; with_reducible rfl
              rotate_left; · simp only [Act.put, sA, sB, sC, i64_w, i32_w, sD]; rfl
              refine pure_ (i := 31) (N := some 87) (v := ?_) (a' := ?_) (fB 41 4294967295) rfl rfl (any_of HT_.out (by kernel_rfl)) (fun _ _ _ h => h) (Or.inl ⟨by rfl, ?_⟩) ?_ ?_
              rotate_left; · intro w'; go_simp; with_reducible rfl
              rotate_left; · simp only [Act.put, sA, sB, sC, i64_w, i32_w, sD]; rfl
              refine pure_ (i := 32) (N := some 88) (v := ?_) (a' := ?_) (fB 41 8589934591) rfl rfl (any_of HT_.out (by kernel_rfl)) (fun _ _ _ h => h) (Or.inl ⟨by rfl, ?_⟩) ?_ ?_
              rotate_left; · intro w'; go_simp; with_reducible rfl
              rotate_left; · simp only [Act.put, sA, sB, sC, i64_w, i32_w, sD]; rfl
              refine pure_ (i := 33) (N := some 89) (v := undef) (a' := ?_) (fB 41 17179869183) rfl rfl (any_of HT_.out (by kernel_rfl)) (fun _ _ _ h => h) (Or.inr ⟨by rfl, rfl⟩) ?_ ?_
              rotate_left
              ·
               simp only [Act.put, sA, sB, sC, i64_w, i32_w, sD]
               rfl
              refine pure_ (i := 34) (N := some 90) (v := undef) (a' := ?_) (fB 41 34359738367) rfl rfl (any_of HT_.out (by kernel_rfl)) (fun _ _ _ h => h) (Or.inr ⟨by rfl, rfl⟩) ?_ ?_
              rotate_left
              ·
               simp only [Act.put, sA, sB, sC, i64_w, i32_w, sD]
               rfl
              refine pure_ (i := 35) (N := some 91) (v := undef) (a' := ?_) (fB 41 68719476735) rfl rfl (any_of HT_.out (by kernel_rfl)) (fun _ _ _ h => h) (Or.inr ⟨by rfl, rfl⟩) ?_ ?_
              rotate_left
              ·
               simp only [Act.put, sA, sB, sC, i64_w, i32_w, sD]
               rfl
              refine pure_ (i := 36) (N := some 92) (v := undef) (a' := ?_) (fB 41 137438953471) rfl rfl (any_of HT_.out (by kernel_rfl)) (fun _ _ _ h => h) (Or.inr ⟨by rfl, rfl⟩) ?_ ?_
              rotate_left
              ·
               simp only [Act.put, sA, sB, sC, i64_w, i32_w, sD]
               rfl
              refine pure_ (i := 37) (N := some 93) (v := undef) (a' := ?_) (fB 41 274877906943) rfl rfl (any_of HT_.out (by kernel_rfl)) (fun _ _ _ h => h) (Or.inr ⟨by rfl, rfl⟩) ?_ ?_
              rotate_left
              ·
               simp only [Act.put, sA, sB, sC, i64_w, i32_w, sD]
               rfl
              refine pure_ (i := 38) (N := some 94) (v := undef) (a' := ?_) (fB 41 549755813887) rfl rfl (any_of HT_.out (by kernel_rfl)) (fun _ _ _ h => h) (Or.inr ⟨by rfl, rfl⟩) ?_ ?_
              rotate_left
              ·
               simp only [Act.put, sA, sB, sC, i64_w, i32_w, sD]
               rfl
              refine pure_ (i := 39) (N := some 95) (v := undef) (a' := ?_) (fB 41 1099511627775) rfl rfl (any_of HT_.out (by kernel_rfl)) (fun _ _ _ h => h) (Or.inr ⟨by rfl, rfl⟩) ?_ ?_
              rotate_left
              ·
               simp only [Act.put, sA, sB, sC, i64_w, i32_w, sD]
               rfl
              refine pure_ (i := 40) (N := some 96) (v := ?_) (a' := ?_) (fB 41 2199023255551) rfl rfl (any_of HT_.out (by kernel_rfl)) (fun _ _ _ h => h) (Or.inl ⟨by rfl, ?_⟩) ?_ ?_
              rotate_left; · intro w'; go_simp; with_reducible rfl
              rotate_left; · simp only [Act.put, sA, sB, sC, i64_w, i32_w, sD]; rfl
              refine done_ (done_of HT_.out (by kernel_rfl)) ?_
              try go_wp2
              go_ret
              exact ⟨by first | rfl | (simp [errW_none, errW_some] <;> rfl) | (simp only [← hji31]; first | rfl | (simp [errW_none, errW_some] <;> rfl)) | (simp [*, errW_none, errW_some] <;> rfl), by repeat (first | (with_reducible first | exact HB.out | apply below_alloc | apply pw_below_drewN | apply below_drew1 | refine below_set ?_ GE151.out) | exact HB.out)⟩
             ·
              rw [if_neg c34] at H
              have c34b0 : decide ((rd l0_2 x4_3) ≤ (rd l0_2 (ji31))) = false := decide_eq_false c34
              clear c34
              by_cases c37 : x4_3 < (l0_3.length : Int)
              rotate_left; · rw [if_neg c37] at H; exact absurd H (by simp)
              rw [if_pos c37] at H
              have c37b0 : decide (x4_3 < (l0_3.length : Int)) = true := decide_eq_true c37
              clear c37
              replace H := Option.bind_eq_some_iff.mp H
              obtain ⟨t157, A380, H⟩ := H
              replace H : (if t157 = true then (mosaicref29_Check.l1 k3 (wrap64 (x4_3 + 1)) a0_0 a0_1 l0_2 l0_3) else (some false)) = some r := H
              have A38 := Aside0.mk A380
              clear A380
              by_cases c39 : t157 = true
              ·
               subst c39
               have H1 : (mosaicref29_Check.l1 k3 (wrap64 (x4_3 + 1)) a0_0 a0_1 l0_2 l0_3) = some r := by rw [if_pos rfl] at H; exact H
               clear H
               have H := H1
               clear H1
               have H' := Aside0.mk H
               clear H
               have hcz40_0 : wr.cell? ⟨gb151, 0, none⟩ = some (.string a0_0) := (blk_cell BK151.out 0).trans rfl
               have hcz40_1 : wr.cell? ⟨gb151, 1, none⟩ = some (.string a0_1) := (blk_cell BK151.out 1).trans rfl
               have hcz40_2 : wr.cell? ⟨gb151, 2, none⟩ = some (.slice A0_2 l0_2.length c0_2) := (blk_cell BK151.out 2).trans rfl
               have hcz40_3 : wr.cell? ⟨gb151, 3, none⟩ = some (.slice A0_3 l0_3.length c0_3) := (blk_cell BK151.out 3).trans rfl
               have hfz40_0 := blk_frozen BK151.out 0
               have hfz40_1 := blk_frozen BK151.out 1
               have hfz40_2 := blk_frozen BK151.out 2
               have hfz40_3 := blk_frozen BK151.out 3
               try go_wp2
               have n0_ := Aside0.mk (blk_drew BK151.out)
               have n1_ := Aside0.mk (below_drew1 HB.out)
               clear BK151
               clear HB
               have BK151 := n0_
               have HB := n1_
               clear n0_ n1_
               have p152 : 0 ≤ (x4_3 : Int) := of_decide_eq_true (by first | (with_reducible assumption) | assumption)
               have q152 : x4_3 < (l0_2.length : Int) := of_decide_eq_true (by first | (with_reducible assumption) | assumption)
               obtain ⟨ad152, e152, hx152_0⟩ := Kd.at_int HR0_2.out x4_3 p152 q152
               have hw152_0 := hx152_0
               cases e152
               replace hx152_0 := (HB.out.cell (World.block_lt_of_cell? w _ hx152_0)).trans hx152_0
               replace p152 := eq_true p152
               replace q152 := eq_true q152
               have p153 : 0 ≤ (x4_3 : Int) := of_decide_eq_true (by first | (with_reducible assumption) | assumption)
               have q153 : x4_3 < (l0_2.length : Int) := of_decide_eq_true (by first | (with_reducible assumption) | assumption)
               obtain ⟨ad153, e153, hx153_0⟩ := Kd.at_int HR0_2.out x4_3 p153 q153
               have hw153_0 := hx153_0
               obtain rfl : ad152 = ad153 := (by injection e153)
               replace hx153_0 := (HB.out.cell (World.block_lt_of_cell? w _ hx153_0)).trans hx153_0
               replace p153 := eq_true p153
               replace q153 := eq_true q153
               have p154 : 0 ≤ (x4_3 : Int) := of_decide_eq_true (by first | (with_reducible assumption) | assumption)
               have q154 : x4_3 < (l0_2.length : Int) := of_decide_eq_true (by first | (with_reducible assumption) | assumption)
               obtain ⟨ad154, e154, hx154_0⟩ := Kd.at_int HR0_2.out x4_3 p154 q154
               have hw154_0 := hx154_0
               obtain rfl : ad152 = ad154 := (by injection e154)
               replace hx154_0 := (HB.out.cell (World.block_lt_of_cell? w _ hx154_0)).trans hx154_0
               replace p154 := eq_true p154
               replace q154 := eq_true q154
               have p155 : 0 ≤ ((ji31) : Int) := of_decide_eq_true (by first | (with_reducible assumption) | assumption)
               have q155 : (ji31) < (l0_2.length : Int) := of_decide_eq_true (by first | (with_reducible assumption) | assumption)
               obtain ⟨ad155, e155, hx155_0⟩ := Kd.at_int HR0_2.out (ji31) p155 q155
               have hw155_0 := hx155_0
               obtain rfl : ad152 = ad155 := (by injection e155)
               replace hx155_0 := (HB.out.cell (World.block_lt_of_cell? w _ hx155_0)).trans hx155_0
               replace p155 := eq_true p155
               replace q155 := eq_true q155
               have p156 : 0 ≤ (x4_3 : Int) := of_decide_eq_true (by first | (with_reducible assumption) | assumption)
               have q156 : x4_3 < (l0_3.length : Int) := of_decide_eq_true (by first | (with_reducible assumption) | assumption)
               obtain ⟨ad156, e156, hx156_0, hx156_1⟩ := at_T45 HR0_3.out x4_3 p156 q156
               have hw156_1 := hx156_1
               have hw156_0 := hx156_0
               cases e156
               replace hx156_0 := (HB.out.cell (World.block_lt_of_cell? w _ hx156_0)).trans hx156_0
               replace hx156_1 := (HB.out.cell (World.block_lt_of_cell? w _ hx156_1)).trans hx156_1
               replace p156 := eq_true p156
               replace q156 := eq_true q156
               refine start_ (n := 41) (S := fun w' => w'.cell? ⟨gb151, 0, none⟩ = some (.string a0_0) ∧ w'.cell? ⟨gb151, 1, none⟩ = some (.string a0_1) ∧ w'.cell? ⟨gb151, 2, none⟩ = some (.slice (some ad152) l0_2.length c0_2) ∧ w'.cell? ⟨gb151, 3, none⟩ = some (.slice (some ad156) l0_3.length c0_3) ∧ w'.cell? (ad152.add (x4_3).toNat) = some (.int .i64 (rd l0_2 x4_3)) ∧ w'.cell? (ad152.add (x4_3).toNat) = some (.int .i64 (rd l0_2 x4_3)) ∧ w'.cell? (ad152.add (x4_3).toNat) = some (.int .i64 (rd l0_2 x4_3)) ∧ w'.cell? (ad152.add ((ji31)).toNat) = some (.int .i64 (rd l0_2 (ji31))) ∧ w'.cell? (ad156.add ((x4_3).toNat * 2)) = some (.int .i64 ((rd_T45 l0_3 x4_3).f0)) ∧ w'.cell? ⟨(ad156.add ((x4_3).toNat * 2)).block, (ad156.add ((x4_3).toNat * 2)).off + 1, none⟩ = some (.int .i64 ((rd_T45 l0_3 x4_3).f1))) (ds := []) (fB 41 0) (by kernel_rfl) rfl rfl ⟨(blk_cell BK151.out 0).trans rfl, (blk_cell BK151.out 1).trans rfl, (blk_cell BK151.out 2).trans rfl, (blk_cell BK151.out 3).trans rfl, ((HB.out.cell (World.block_lt_of_cell? w _ hw152_0)).trans hw152_0), ((HB.out.cell (World.block_lt_of_cell? w _ hw153_0)).trans hw153_0), ((HB.out.cell (World.block_lt_of_cell? w _ hw154_0)).trans hw154_0), ((HB.out.cell (World.block_lt_of_cell? w _ hw155_0)).trans hw155_0), ((HB.out.cell (World.block_lt_of_cell? w _ hw156_0)).trans hw156_0), ((HB.out.cell (World.block_lt_of_cell? w _ hw156_1)).trans hw156_1)⟩ (fun hHeld => ?_); refine with_tabW mosaicref29_Check.tab11 mosaicref29_Check.bits11 (fun HT_ HW_ => ?_)
               generalize wr.drew = w41 at BK151 HB hx152_0 hx153_0 hx154_0 hx155_0 hx156_0 hx156_1 hHeld ⊢
               refine pure_ (i := 0) (N := some 56) (v := ?_) (a' := ?_) (fB 41 1) rfl rfl (any_of HT_.out (by kernel_rfl)) (fun _ _ _ h => h) (Or.inl ⟨by rfl, ?_⟩) ?_ ?_
               rotate_left; · intro w'; go_simp; with_reducible rfl
               rotate_left; · simp only [Act.put, sA, sB, sC, i64_w, i32_w, sD]; rfl
               refine pure_ (i := 2) (N := some 58) (v := ?_) (a' := ?_) (fB 41 5) rfl rfl (any_of HT_.out (by kernel_rfl)) (fun _ _ _ h => h) (Or.inl ⟨by rfl, ?_⟩) ?_ ?_
               rotate_left; · intro w'; go_simp; with_reducible rfl
               rotate_left; · simp only [Act.put, sA, sB, sC, i64_w, i32_w, sD]; rfl
               refine take_ (i := 1) (N := some 57) (v := ?_) (a' := ?_) (fB 41 7) rfl rfl (take_ofW HT_.out HW_.out (by kernel_rfl)) (fun _ _ _ h => h) (Or.inl ⟨by rfl, ?_⟩) hHeld ?_ ?_
               rotate_left; · rintro w' ⟨s0, s1, s2, s3, s4, s5, s6, s7, s8, s9⟩; go_simp; with_reducible rfl
               rotate_left; · simp only [Act.put, sA, sB, sC, i64_w, i32_w, sD]; rfl
               refine pure_ (i := 3) (N := some 59) (v := ?_) (a' := ?_) (fB 41 15) rfl rfl (any_of HT_.out (by kernel_rfl)) (fun _ _ _ h => h) (Or.inl ⟨by rfl, ?_⟩) ?_ ?_
               rotate_left; · intro w'; go_simp; with_reducible rfl
               rotate_left; · simp only [Act.put, sA, sB, sC, i64_w, i32_w, sD]; rfl
               refine take_ (i := 4) (N := some 60) (v := ?_) (a' := ?_) (fB 41 31) rfl rfl (take_ofW HT_.out HW_.out (by kernel_rfl)) (fun _ _ _ h => h) (Or.inl ⟨by rfl, ?_⟩) hHeld ?_ ?_
               rotate_left; · rintro w' ⟨s0, s1, s2, s3, s4, s5, s6, s7, s8, s9⟩; go_simp; with_reducible rfl
               rotate_left; · simp only [Act.put, sA, sB, sC, i64_w, i32_w, sD]; rfl
               refine pure_ (i := 5) (N := some 61) (v := ?_) (a' := ?_) (fB 41 63) rfl rfl (any_of HT_.out (by kernel_rfl)) (fun _ _ _ h => h) (Or.inl ⟨by rfl, ?_⟩) ?_ ?_
               rotate_left; · intro w'; go_simp; with_reducible rfl
               rotate_left; · simp only [Act.put, sA, sB, sC, i64_w, i32_w, sD]; rfl
               refine pure_ (i := 6) (N := some 62) (v := ?_) (a' := ?_) (fB 41 127) rfl rfl (any_of HT_.out (by kernel_rfl)) (fun _ _ _ h => h) (Or.inl ⟨by rfl, ?_⟩) ?_ ?_
               rotate_left; · intro w'; go_simp; with_reducible rfl
               rotate_left; · simp only [Act.put, sA, sB, sC, i64_w, i32_w, sD]; rfl
               refine pure_ (i := 7) (N := some 63) (v := ?_) (a' := ?_) (fB 41 255) rfl rfl (any_of HT_.out (by kernel_rfl)) (fun _ _ _ h => h) (Or.inl ⟨by rfl, ?_⟩) ?_ ?_
               rotate_left; · intro w'; go_simp; with_reducible rfl
               rotate_left; · simp only [Act.put, sA, sB, sC, i64_w, i32_w, sD]; rfl
               refine pure_ (i := 9) (N := some 65) (v := ?_) (a' := ?_) (fB 41 767) rfl rfl (any_of HT_.out (by kernel_rfl)) (fun _ _ _ h => h) (Or.inl ⟨by rfl, ?_⟩) ?_ ?_
               rotate_left; · intro w'; go_simp; with_reducible rfl
               rotate_left; · simp only [Act.put, sA, sB, sC, i64_w, i32_w, sD]; rfl
               refine take_ (i := 8) (N := some 64) (v := ?_) (a' := ?_) (fB 41 1023) rfl rfl (take_ofW HT_.out HW_.out (by kernel_rfl)) (fun _ _ _ h => h) (Or.inl ⟨by rfl, ?_⟩) hHeld ?_ ?_
               rotate_left; · rintro w' ⟨s0, s1, s2, s3, s4, s5, s6, s7, s8, s9⟩; go_simp; with_reducible rfl
               rotate_left; · simp only [Act.put, sA, sB, sC, i64_w, i32_w, sD]; rfl
               refine pure_ (i := 10) (N := some 66) (v := ?_) (a' := ?_) (fB 41 2047) rfl rfl (any_of HT_.out (by kernel_rfl)) (fun _ _ _ h => h) (Or.inl ⟨by rfl, ?_⟩) ?_ ?_
               rotate_left; · intro w'; go_simp; with_reducible rfl
               rotate_left; · simp only [Act.put, sA, sB, sC, i64_w, i32_w, sD]; rfl
               refine take_ (i := 11) (N := some 67) (v := ?_) (a' := ?_) (fB 41 4095) rfl rfl (take_ofW HT_.out HW_.out (by kernel_rfl)) (fun _ _ _ h => h) (Or.inl ⟨by rfl, ?_⟩) hHeld ?_ ?_
               rotate_left; · rintro w' ⟨s0, s1, s2, s3, s4, s5, s6, s7, s8, s9⟩; go_simp; with_reducible rfl
               rotate_left; · simp only [Act.put, sA, sB, sC, i64_w, i32_w, sD]; rfl
               refine pure_ (i := 12) (N := some 68) (v := ?_) (a' := ?_) (fB 41 8191) rfl rfl (any_of HT_.out (by kernel_rfl)) (fun _ _ _ h => h) (Or.inl ⟨by rfl, ?_⟩) ?_ ?_
               rotate_left; · intro w'; go_simp; with_reducible rfl
               rotate_left; · simp only [Act.put, sA, sB, sC, i64_w, i32_w, sD]; rfl
               refine pure_ (i := 13) (N := some 69) (v := ?_) (a' := ?_) (fB 41 16383) rfl rfl (any_of HT_.out (by kernel_rfl)) (fun _ _ _ h => h) (Or.inl ⟨by rfl, ?_⟩) ?_ ?_
               rotate_left; · intro w'; go_simp; with_reducible rfl
               rotate_left; · simp only [Act.put, sA, sB, sC, i64_w, i32_w, sD]; rfl
               refine pure_ (i := 14) (N := some 70) (v := ?_) (a' := ?_) (fB 41 32767) rfl rfl (any_of HT_.out (by kernel_rfl)) (fun _ _ _ h => h) (Or.inl ⟨by rfl, ?_⟩) ?_ ?_
               rotate_left; · intro w'; go_simp; with_reducible rfl
               rotate_left; · simp only [Act.put, sA, sB, sC, i64_w, i32_w, sD]; rfl
               refine pure_ (i := 15) (N := some 71) (v := ?_) (a' := ?_) (fB 41 65535) rfl rfl (any_of HT_.out (by kernel_rfl)) (fun _ _ _ h => h) (Or.inl ⟨by rfl, ?_⟩) ?_ ?_
               rotate_left; · intro w'; go_simp; with_reducible rfl
               rotate_left; · simp only [Act.put, sA, sB, sC, i64_w, i32_w, sD]; rfl
               refine pure_ (i := 16) (N := some 72) (v := ?_) (a' := ?_) (fB 41 131071) rfl rfl (any_of HT_.out (by kernel_rfl)) (fun _ _ _ h => h) (Or.inl ⟨by rfl, ?_⟩) ?_ ?_
               rotate_left; · intro w'; go_simp; with_reducible rfl
               rotate_left; · simp only [Act.put, sA, sB, sC, i64_w, i32_w, sD]; rfl
               refine pure_ (i := 17) (N := some 73) (v := ?_) (a' := ?_) (fB 41 262143) rfl rfl (any_of HT_.out (by kernel_rfl)) (fun _ _ _ h => h) (Or.inl ⟨by rfl, ?_⟩) ?_ ?_
               rotate_left; · intro w'; go_simp; with_reducible rfl
               rotate_left; · simp only [Act.put, sA, sB, sC, i64_w, i32_w, sD]; rfl
               refine pure_ (i := 18) (N := some 74) (v := ?_) (a' := ?_) (fB 41 524287) rfl rfl (any_of HT_.out (by kernel_rfl)) (fun _ _ _ h => h) (Or.inl ⟨by rfl, ?_⟩) ?_ ?_
               rotate_left; · intro w'; go_simp; with_reducible rfl
               rotate_left; · simp only [Act.put, sA, sB, sC, i64_w, i32_w, sD]; rfl
               refine pure_ (i := 20) (N := some 76) (v := ?_) (a' := ?_) (fB 41 1572863) rfl rfl (any_of HT_.out (by kernel_rfl)) (fun _ _ _ h => h) (Or.inl ⟨by rfl, ?_⟩) ?_ ?_
               rotate_left; · intro w'; go_simp; with_reducible rfl
               rotate_left; · simp only [Act.put, sA, sB, sC, i64_w, i32_w, sD]; rfl
               refine pure_ (i := 23) (N := some 79) (v := ?_) (a' := ?_) (fB 41 9961471) rfl rfl (any_of HT_.out (by kernel_rfl)) (fun _ _ _ h => h) (Or.inl ⟨by rfl, ?_⟩) ?_ ?_
               rotate_left; · intro w'; go_simp; with_reducible rfl
               rotate_left; · simp only [Act.put, sA, sB, sC, i64_w, i32_w, sD]; rfl
               refine pure_ (i := 25) (N := some 81) (v := ?_) (a' := ?_) (fB 41 43515903) rfl rfl (any_of HT_.out (by kernel_rfl)) (fun _ _ _ h => h) (Or.inl ⟨by rfl, ?_⟩) ?_ ?_
               rotate_left; · intro w'; go_simp; with_reducible rfl
               rotate_left; · simp only [Act.put, sA, sB, sC, i64_w, i32_w, sD]; rfl
               refine pure_ (i := 26) (N := some 82) (v := ?_) (a' := ?_) (fB 41 110624767) rfl rfl (any_of HT_.out (by kernel_rfl)) (fun _ _ _ h => h) (Or.inl ⟨by rfl, ?_⟩) ?_ ?_
               rotate_left; · intro w'; go_simp; with_reducible rfl
               rotate_left; · simp only [Act.put, sA, sB, sC, i64_w, i32_w, sD]; rfl
               refine take_ (i := 19) (N := some 75) (v := ?_) (a' := ?_) (fB 41 111149055) rfl rfl (take_ofW HT_.out HW_.out (by kernel_rfl)) (fun _ _ _ h => h) (Or.inl ⟨by rfl, ?_⟩) hHeld ?_ ?_
               rotate_left; · rintro w' ⟨s0, s1, s2, s3, s4, s5, s6, s7, s8, s9⟩; go_simp; with_reducible rfl
               rotate_left; · simp only [Act.put, sA, sB, sC, i64_w, i32_w, sD]; rfl
               refine pure_ (i := 21) (N := some 77) (v := ?_) (a' := ?_) (fB 41 113246207) rfl rfl (any_of HT_.out (by kernel_rfl)) (fun _ _ _ h => h) (Or.inl ⟨by rfl, ?_⟩) ?_ ?_
               rotate_left; · intro w'; go_simp; with_reducible rfl
               rotate_left; · simp only [Act.put, sA, sB, sC, i64_w, i32_w, sD]; rfl
               refine take_ (i := 22) (N := some 78) (v := ?_) (a' := ?_) (fB 41 117440511) rfl rfl (take_ofW HT_.out HW_.out (by kernel_rfl)) (fun _ _ _ h => h) (Or.inl ⟨by rfl, ?_⟩) hHeld ?_ ?_
               rotate_left; · rintro w' ⟨s0, s1, s2, s3, s4, s5, s6, s7, s8, s9⟩; go_simp; with_reducible rfl
               rotate_left; · simp only [Act.put, sA, sB, sC, i64_w, i32_w, sD]; rfl
               refine take_ (i := 24) (N := some 80) (v := ?_) (a' := ?_) (fB 41 134217727) rfl rfl (take_ofW HT_.out HW_.out (by kernel_rfl)) (fun _ _ _ h => h) (Or.inl ⟨by rfl, ?_⟩) hHeld ?_ ?_
               rotate_left; · rintro w' ⟨s0, s1, s2, s3, s4, s5, s6, s7, s8, s9⟩; go_simp; with_reducible rfl
               rotate_left; · simp only [Act.put, sA, sB, sC, i64_w, i32_w, sD]; rfl
               refine pure_ (i := 27) (N := some 83) (v := ?_) (a' := ?_) (fB 41 268435455) rfl rfl (any_of HT_.out (by kernel_rfl)) (fun _ _ _ h => h) (Or.inl ⟨by rfl, ?_⟩) ?_ ?_
               rotate_left; · intro w'; go_simp; with_reducible rfl
               rotate_left; · simp only [Act.put, sA, sB, sC, i64_w, i32_w, sD]; rfl
               refine take_ (i := 28) (N := some 84) (v := ?_) (a' := ?_) (fB 41 536870911) rfl rfl (take_ofW HT_.out HW_.out (by kernel_rfl)) (fun _ _ _ h => h) (Or.inl ⟨by rfl, ?_⟩) hHeld ?_ ?_
               rotate_left; · rintro w' ⟨s0, s1, s2, s3, s4, s5, s6, s7, s8, s9⟩; go_simp; with_reducible rfl
               rotate_left; · simp only [Act.put, sA, sB, sC, i64_w, i32_w, sD]; rfl
               refine pure_ (i := 29) (N := some 85) (v := ?_) (a' := ?_) (fB 41 1073741823) rfl rfl (any_of HT_.out (by kernel_rfl)) (fun _ _ _ h => h) (Or.inl ⟨by rfl, ?_⟩) ?_ ?_
               rotate_left; · intro w'; go_simp; with_reducible rfl
               rotate_left; · simp only [Act.put, sA, sB, sC, i64_w, i32_w, sD]; rfl
               refine pure_ (i := 30) (N := some 86) (v := ?_) (a' := ?_) (fB 41 2147483647) rfl rfl (any_of HT_.out (by kernel_rfl)) (fun _ _ _ h => h) (Or.inl ⟨by rfl, ?_⟩) ?_ ?_
               rotate_left; · intro w'; go_simp; with_reducible rfl
               rotate_left; · simp only [Act.put, sA, sB, sC, i64_w, i32_w, sD]; rfl
               refine pure_ (i := 31) (N := some 87) (v := ?_) (a' := ?_) (fB 41 4294967295) rfl rfl (any_of HT_.out (by kernel_rfl)) (fun _ _ _ h => h) (Or.inl ⟨by rfl, ?_⟩) ?_ ?_
               rotate_left; · intro w'; go_simp; with_reducible rfl
               rotate_left; · simp only [Act.put, sA, sB, sC, i64_w, i32_w, sD]; rfl
               refine pure_ (i := 32) (N := some 88) (v := ?_) (a' := ?_) (fB 41 8589934591) rfl rfl (any_of HT_.out (by kernel_rfl)) (fun _ _ _ h => h) (Or.inl ⟨by rfl, ?_⟩) ?_ ?_
               rotate_left; · intro w'; go_simp; with_reducible rfl
               rotate_left; · simp only [Act.put, sA, sB, sC, i64_w, i32_w, sD]; rfl
               refine pure_ (i := 33) (N := some 89) (v := ?_) (a' := ?_) (fB 41 17179869183) rfl rfl (any_of HT_.out (by kernel_rfl)) (fun _ _ _ h => h) (Or.inl ⟨by rfl, ?_⟩) ?_ ?_
               rotate_left; · intro w'; go_simp; with_reducible rfl
               rotate_left; · simp only [Act.put, sA, sB, sC, i64_w, i32_w, sD]; rfl
               refine pure_ (i := 35) (N := some 91) (v := ?_) (a' := ?_) (fB 41 51539607551) rfl rfl (any_of HT_.out (by kernel_rfl)) (fun _ _ _ h => h) (Or.inl ⟨by rfl, ?_⟩) ?_ ?_
               rotate_left; · intro w'; go_simp; with_reducible rfl
               rotate_left; · simp only [Act.put, sA, sB, sC, i64_w, i32_w, sD]; rfl
               refine take_ (i := 34) (N := some 90) (v := ?_) (a' := ?_) (fB 41 68719476735) rfl rfl (take_ofW HT_.out HW_.out (by kernel_rfl)) (fun _ _ _ h => h) (Or.inl ⟨by rfl, ?_⟩) hHeld ?_ ?_
               rotate_left; · rintro w' ⟨s0, s1, s2, s3, s4, s5, s6, s7, s8, s9⟩; go_simp; with_reducible rfl
               rotate_left; · simp only [Act.put, sA, sB, sC, i64_w, i32_w, sD]; rfl
               refine pure_ (i := 36) (N := some 92) (v := ?_) (a' := ?_) (fB 41 137438953471) rfl rfl (any_of HT_.out (by kernel_rfl)) (fun _ _ _ h => h) (Or.inl ⟨by rfl, ?_⟩) ?_ ?_
               rotate_left; · intro w'; go_simp; with_reducible rfl
               rotate_left; · simp only [Act.put, sA, sB, sC, i64_w, i32_w, sD]; rfl
               refine take_ (i := 37) (N := some 93) (v := ?_) (a' := ?_) (fB 41 274877906943) rfl rfl (take_ofW HT_.out HW_.out (by kernel_rfl)) (fun _ _ _ h => h) (Or.inl ⟨by rfl, ?_⟩) hHeld ?_ ?_
               rotate_left; · rintro w' ⟨s0, s1, s2, s3, s4, s5, s6, s7, s8, s9⟩; go_simp; with_reducible rfl
               rotate_left; · simp only [Act.put, sA, sB, sC, i64_w, i32_w, sD]; rfl
               refine one_ (i := 38) (N := some 94) (fB 41 549755813887) rfl rfl (one_of HT_.out (by kernel_rfl)) (by decide) (fun K hK => ?_)
               refine goes_ Tryd.func36 (by kernel_rfl) rfl #[.agg #[.int .i64 ((rd_T45 l0_3 x4_3).f0), .int .i64 ((rd_T45 l0_3 x4_3).f1)]] (by rfl) rfl rfl (by (try simp only [List.map_toArray, List.map_cons, List.map_nil]); first | done | rfl | (simp only [List.length_drop, List.length_take]; rfl)) ?_
               with_reducible refine (mosaicref17_Check.calls ((rd_T45 l0_3 x4_3).f0) ((rd_T45 l0_3 x4_3).f1) true _ A38.out).mono ?_
               rintro e w42 ⟨rfl, hb⟩
               refine ⟨_, rfl, ?_⟩
               have n0_ := bB BK151 hb
               have n1_ := hS HB hb
               clear BK151
               clear HB
               have BK151 := n0_
               have HB := n1_
               clear n0_ n1_
               (try clear hb); (try clear hb2); (try clear hk); (try clear hi)
               refine hK.out _ _ ⟨(blk_cell BK151.out 0).trans rfl, (blk_cell BK151.out 1).trans rfl, (blk_cell BK151.out 2).trans rfl, (blk_cell BK151.out 3).trans rfl, ((HB.out.cell (World.block_lt_of_cell? w _ hw152_0)).trans hw152_0), ((HB.out.cell (World.block_lt_of_cell? w _ hw153_0)).trans hw153_0), ((HB.out.cell (World.block_lt_of_cell? w _ hw154_0)).trans hw154_0), ((HB.out.cell (World.block_lt_of_cell? w _ hw155_0)).trans hw155_0), ((HB.out.cell (World.block_lt_of_cell? w _ hw156_0)).trans hw156_0), ((HB.out.cell (World.block_lt_of_cell? w _ hw156_1)).trans hw156_1)⟩ (fun hHeld => ?_)
               clear hK K
               refine norm_ (a' := ?_) ?_ ?_
               rotate_left; · show Act.put _ (some 94) _ = _; simp only [Act.put, sA, sB, sC, i64_w, i32_w, sD]; rfl
               refine pure_ (i := 39) (N := some 95) (v := ?_) (a' := ?_) (fB 41 1099511627775) rfl rfl (any_of HT_.out (by kernel_rfl)) (fun _ _ _ h => h) (Or.inl ⟨by rfl, ?_⟩) ?_ ?_
               rotate_left; · intro w'; go_simp; with_reducible rfl
               rotate_left; · simp only [Act.put, sA, sB, sC, i64_w, i32_w, sD]; rfl
               refine pure_ (i := 40) (N := some 96) (v := ?_) (a' := ?_) (fB 41 2199023255551) rfl rfl (any_of HT_.out (by kernel_rfl)) (fun _ _ _ h => h) (Or.inl ⟨by rfl, ?_⟩) ?_ ?_
               rotate_left; · intro w'; go_simp; with_reducible rfl
               rotate_left; · simp only [Act.put, sA, sB, sC, i64_w, i32_w, sD]; rfl
               refine done_ (done_of HT_.out (by kernel_rfl)) ?_
               try go_wp2
               go_roundg k3
               case measure => have := HJ1.out; have := HK2.out; have := HK3.out; omega
               case rel => exact ⟨(wrap64 (x4_3 + 1)), (by first | rfl | (simp; done) | (simp [*]; done)), H', ⟨by have := HJ1.out; have := HK2.out; have := HK3.out; omega⟩, ⟨by (with_reducible repeat (first | refine blk_drewN ?_ _ | refine blk_drew ?_ | refine blk_alloc ?_ _)); exact BK151.out⟩, ⟨by repeat (first | (with_reducible first | exact HB.out | apply below_alloc | apply pw_below_drewN | apply below_drew1 | refine below_set ?_ GE151.out) | exact HB.out)⟩⟩
              ·
               replace c39 := Bool.eq_false_iff.mpr c39
               subst c39
               have H1 : (some false) = some r := by rw [if_neg (show ¬ (false = true) by decide)] at H; exact H
               clear H
               have H := H1
               clear H1
               obtain rfl := Option.some.inj H
               have hcz43_0 : wr.cell? ⟨gb151, 0, none⟩ = some (.string a0_0) := (blk_cell BK151.out 0).trans rfl
               have hcz43_1 : wr.cell? ⟨gb151, 1, none⟩ = some (.string a0_1) := (blk_cell BK151.out 1).trans rfl
               have hcz43_2 : wr.cell? ⟨gb151, 2, none⟩ = some (.slice A0_2 l0_2.length c0_2) := (blk_cell BK151.out 2).trans rfl
               have hcz43_3 : wr.cell? ⟨gb151, 3, none⟩ = some (.slice A0_3 l0_3.length c0_3) := (blk_cell BK151.out 3).trans rfl
               have hfz43_0 := blk_frozen BK151.out 0
               have hfz43_1 := blk_frozen BK151.out 1
               have hfz43_2 := blk_frozen BK151.out 2
               have hfz43_3 := blk_frozen BK151.out 3
               try go_wp2
               have n0_ := Aside0.mk (blk_drew BK151.out)
               have n1_ := Aside0.mk (below_drew1 HB.out)
               clear BK151
               clear HB
               have BK151 := n0_
               have HB := n1_
               clear n0_ n1_
               have p152 : 0 ≤ (x4_3 : Int) := of_decide_eq_true (by first | (with_reducible assumption) | assumption)
               have q152 : x4_3 < (l0_2.length : Int) := of_decide_eq_true (by first | (with_reducible assumption) | assumption)
               obtain ⟨ad152, e152, hx152_0⟩ := Kd.at_int HR0_2.out x4_3 p152 q152
               have hw152_0 := hx152_0
               cases e152
               replace hx152_0 := (HB.out.cell (World.block_lt_of_cell? w _ hx152_0)).trans hx152_0
               replace p152 := eq_true p152
               replace q152 := eq_true q152
               have p153 : 0 ≤ (x4_3 : Int) := of_decide_eq_true (by first | (with_reducible assumption) | assumption)
               have q153 : x4_3 < (l0_2.length : Int) := of_decide_eq_true (by first | (with_reducible assumption) | assumption)
               obtain ⟨ad153, e153, hx153_0⟩ := Kd.at_int HR0_2.out x4_3 p153 q153
               have hw153_0 := hx153_0
               obtain rfl : ad152 = ad153 := (by injection e153)
               replace hx153_0 := (HB.out.cell (World.block_lt_of_cell? w _ hx153_0)).trans hx153_0
               replace p153 := eq_true p153
               replace q153 := eq_true q153
               have p154 : 0 ≤ (x4_3 : Int) := of_decide_eq_true (by first | (with_reducible assumption) | assumption)
               have q154 : x4_3 < (l0_2.length : Int) := of_decide_eq_true (by first | (with_reducible assumption) | assumption)
               obtain ⟨ad154, e154, hx154_0⟩ := Kd.at_int HR0_2.out x4_3 p154 q154
               have hw154_0 := hx154_0
               obtain rfl : ad152 = ad154 := (by injection e154)
               replace hx154_0 := (HB.out.cell (World.block_lt_of_cell? w _ hx154_0)).trans hx154_0
               replace p154 := eq_true p154
               replace q154 := eq_true q154
               have p155 : 0 ≤ ((ji31) : Int) := of_decide_eq_true (by first | (with_reducible assumption) | assumption)
               have q155 : (ji31) < (l0_2.length : Int) := of_decide_eq_true (by first | (with_reducible assumption) | assumption)
               obtain ⟨ad155, e155, hx155_0⟩ := Kd.at_int HR0_2.out (ji31) p155 q155
               have hw155_0 := hx155_0
               obtain rfl : ad152 = ad155 := (by injection e155)
               replace hx155_0 := (HB.out.cell (World.block_lt_of_cell? w _ hx155_0)).trans hx155_0
               replace p155 := eq_true p155
               replace q155 := eq_true q155
               have p156 : 0 ≤ (x4_3 : Int) := of_decide_eq_true (by first | (with_reducible assumption) | assumption)
               have q156 : x4_3 < (l0_3.length : Int) := of_decide_eq_true (by first | (with_reducible assumption) | assumption)
               obtain ⟨ad156, e156, hx156_0, hx156_1⟩ := at_T45 HR0_3.out x4_3 p156 q156
               have hw156_1 := hx156_1
               have hw156_0 := hx156_0
               cases e156
               replace hx156_0 := (HB.out.cell (World.block_lt_of_cell? w _ hx156_0)).trans hx156_0
               replace hx156_1 := (HB.out.cell (World.block_lt_of_cell? w _ hx156_1)).trans hx156_1
               replace p156 := eq_true p156
               replace q156 := eq_true q156
               refine start_ (n := 41) (S := fun w' => w'.cell? ⟨gb151, 0, none⟩ = some (.string a0_0) ∧ w'.cell? ⟨gb151, 1, none⟩ = some (.string a0_1) ∧ w'.cell? ⟨gb151, 2, none⟩ = some (.slice (some ad152) l0_2.length c0_2) ∧ w'.cell? ⟨gb151, 3, none⟩ = some (.slice (some ad156) l0_3.length c0_3) ∧ w'.cell? (ad152.add (x4_3).toNat) = some (.int .i64 (rd l0_2 x4_3)) ∧ w'.cell? (ad152.add (x4_3).toNat) = some (.int .i64 (rd l0_2 x4_3)) ∧ w'.cell? (ad152.add (x4_3).toNat) = some (.int .i64 (rd l0_2 x4_3)) ∧ w'.cell? (ad152.add ((ji31)).toNat) = some (.int .i64 (rd l0_2 (ji31))) ∧ w'.cell? (ad156.add ((x4_3).toNat * 2)) = some (.int .i64 ((rd_T45 l0_3 x4_3).f0)) ∧ w'.cell? ⟨(ad156.add ((x4_3).toNat * 2)).block, (ad156.add ((x4_3).toNat * 2)).off + 1, none⟩ = some (.int .i64 ((rd_T45 l0_3 x4_3).f1))) (ds := []) (fB 41 0) (by kernel_rfl) rfl rfl ⟨(blk_cell BK151.out 0).trans rfl, (blk_cell BK151.out 1).trans rfl, (blk_cell BK151.out 2).trans rfl, (blk_cell BK151.out 3).trans rfl, ((HB.out.cell (World.block_lt_of_cell? w _ hw152_0)).trans hw152_0), ((HB.out.cell (World.block_lt_of_cell? w _ hw153_0)).trans hw153_0), ((HB.out.cell (World.block_lt_of_cell? w _ hw154_0)).trans hw154_0), ((HB.out.cell (World.block_lt_of_cell? w _ hw155_0)).trans hw155_0), ((HB.out.cell (World.block_lt_of_cell? w _ hw156_0)).trans hw156_0), ((HB.out.cell (World.block_lt_of_cell? w _ hw156_1)).trans hw156_1)⟩ (fun hHeld => ?_); refine with_tabW mosaicref29_Check.tab11 mosaicref29_Check.bits11 (fun HT_ HW_ => ?_)
               generalize wr.drew = w44 at BK151 HB hx152_0 hx153_0 hx154_0 hx155_0 hx156_0 hx156_1 hHeld ⊢
               refine pure_ (i := 0) (N := some 56) (v := ?_) (a' := ?_) (fB 41 1) rfl rfl (any_of HT_.out (by kernel_rfl)) (fun _ _ _ h => h) (Or.inl ⟨by rfl, ?_⟩) ?_ ?_
               rotate_left; · intro w'; go_simp; with_reducible rfl
               rotate_left; · simp only [Act.put, sA, sB, sC, i64_w, i32_w, sD]; rfl
               refine pure_ (i := 2) (N := some 58) (v := ?_) (a' := ?_) (fB 41 5) rfl rfl (any_of HT_.out (by kernel_rfl)) (fun _ _ _ h => h) (Or.inl ⟨by rfl, ?_⟩) ?_ ?_
               rotate_left; · intro w'; go_simp; with_reducible rfl
               rotate_left; · simp only [Act.put, sA, sB, sC, i64_w, i32_w, sD]; rfl
               refine take_ (i := 1) (N := some 57) (v := ?_) (a' := ?_) (fB 41 7) rfl rfl (take_ofW HT_.out HW_.out (by kernel_rfl)) (fun _ _ _ h => h) (Or.inl ⟨by rfl, ?_⟩) hHeld ?_ ?_
               rotate_left; · rintro w' ⟨s0, s1, s2, s3, s4, s5, s6, s7, s8, s9⟩; go_simp; with_reducible rfl
               rotate_left; · simp only [Act.put, sA, sB, sC, i64_w, i32_w, sD]; rfl
               refine pure_ (i := 3) (N := some 59) (v := ?_) (a' := ?_) (fB 41 15) rfl rfl (any_of HT_.out (by kernel_rfl)) (fun _ _ _ h => h) (Or.inl ⟨by rfl, ?_⟩) ?_ ?_
               rotate_left; · intro w'; go_simp; with_reducible rfl
               rotate_left; · simp only [Act.put, sA, sB, sC, i64_w, i32_w, sD]; rfl
               refine take_ (i := 4) (N := some 60) (v := ?_) (a' := ?_) (fB 41 31) rfl rfl (take_ofW HT_.out HW_.out (by kernel_rfl)) (fun _ _ _ h => h) (Or.inl ⟨by rfl, ?_⟩) hHeld ?_ ?_
               rotate_left; · rintro w' ⟨s0, s1, s2, s3, s4, s5, s6, s7, s8, s9⟩; go_simp; with_reducible rfl
               rotate_left; · simp only [Act.put, sA, sB, sC, i64_w, i32_w, sD]; rfl
               refine pure_ (i := 5) (N := some 61) (v := ?_) (a' := ?_) (fB 41 63) rfl rfl (any_of HT_.out (by kernel_rfl)) (fun _ _ _ h => h) (Or.inl ⟨by rfl, ?_⟩) ?_ ?_
               rotate_left; · intro w'; go_simp; with_reducible rfl
               rotate_left; · simp only [Act.put, sA, sB, sC, i64_w, i32_w, sD]; rfl
               refine pure_ (i := 6) (N := some 62) (v := ?_) (a' := ?_) (fB 41 127) rfl rfl (any_of HT_.out (by kernel_rfl)) (fun _ _ _ h => h) (Or.inl ⟨by rfl, ?_⟩) ?_ ?_
               rotate_left; · intro w'; go_simp; with_reducible rfl
               rotate_left; · simp only [Act.put, sA, sB, sC, i64_w, i32_w, sD]; rfl
               refine pure_ (i := 7) (N := some 63) (v := ?_) (a' := ?_) (fB 41 255) rfl rfl (any_of HT_.out (by kernel_rfl)) (fun _ _ _ h => h) (Or.inl ⟨by rfl, ?_⟩) ?_ ?_
               rotate_left; · intro w'; go_simp; with_reducible rfl
               rotate_left; · simp only [Act.put, sA, sB, sC, i64_w, i32_w, sD]; rfl
               refine pure_ (i := 9) (N := some 65) (v := ?_) (a' := ?_) (fB 41 767) rfl rfl (any_of HT_.out (by kernel_rfl)) (fun _ _ _ h => h) (Or.inl ⟨by rfl, ?_⟩) ?_ ?_
               rotate_left; · intro w'; go_simp; with_reducible rfl
               rotate_left; · simp only [Act.put, sA, sB, sC, i64_w, i32_w, sD]; rfl
               refine take_ (i := 8) (N := some 64) (v := ?_) (a' := ?_) (fB 41 1023) rfl rfl (take_ofW HT_.out HW_.out (by kernel_rfl)) (fun _ _ _ h => h) (Or.inl ⟨by rfl, ?_⟩) hHeld ?_ ?_
               rotate_left; · rintro w' ⟨s0, s1, s2, s3, s4, s5, s6, s7, s8, s9⟩; go_simp; with_reducible rfl
               rotate_left; · simp only [Act.put, sA, sB, sC, i64_w, i32_w, sD]; rfl
               refine pure_ (i := 10) (N := some 66) (v := ?_) (a' := ?_) (fB 41 2047) rfl rfl (any_of HT_.out (by kernel_rfl)) (fun _ _ _ h => h) (Or.inl ⟨by rfl, ?_⟩) ?_ ?_
               rotate_left; · intro w'; go_simp; with_reducible rfl
               rotate_left; · simp only [Act.put, sA, sB, sC, i64_w, i32_w, sD]; rfl
               refine take_ (i := 11) (N := some 67) (v := ?_) (a' := ?_) (fB 41 4095) rfl rfl (take_ofW HT_.out HW_.out (by kernel_rfl)) (fun _ _ _ h => h) (Or.inl ⟨by rfl, ?_⟩) hHeld ?_ ?_
               rotate_left; · rintro w' ⟨s0, s1, s2, s3, s4, s5, s6, s7, s8, s9⟩; go_simp; with_reducible rfl
               rotate_left; · simp only [Act.put, sA, sB, sC, i64_w, i32_w, sD]; rfl
               refine pure_ (i := 12) (N := some 68) (v := ?_) (a' := ?_) (fB 41 8191) rfl rfl (any_of HT_.out (by kernel_rfl)) (fun _ _ _ h => h) (Or.inl ⟨by rfl, ?_⟩) ?_ ?_
               rotate_left; · intro w'; go_simp; with_reducible rfl
               rotate_left; · simp only [Act.put, sA, sB, sC, i64_w, i32_w, sD]; rfl
               refine pure_ (i := 13) (N := some 69) (v := ?_) (a' := ?_) (fB 41 16383) rfl rfl (any_of HT_.out (by kernel_rfl)) (fun _ _ _ h => h) (Or.inl ⟨by rfl, ?_⟩) ?_ ?_
               rotate_left; · intro w'; go_simp; with_reducible rfl
               rotate_left; · simp only [Act.put, sA, sB, sC, i64_w, i32_w, sD]; rfl
               refine pure_ (i := 14) (N := some 70) (v := ?_) (a' := ?_) (fB 41 32767) rfl rfl (any_of HT_.out (by kernel_rfl)) (fun _ _ _ h => h) (Or.inl ⟨by rfl, ?_⟩) ?_ ?_
               rotate_left; · intro w'; go_simp; with_reducible rfl
               rotate_left; · simp only [Act.put, sA, sB, sC, i64_w, i32_w, sD]; rfl
               refine pure_ (i := 15) (N := some 71) (v := ?_) (a' := ?_) (fB 41 65535) rfl rfl (any_of HT_.out (by kernel_rfl)) (fun _ _ _ h => h) (Or.inl ⟨by rfl, ?_⟩) ?_ ?_
               rotate_left; · intro w'; go_simp; with_reducible rfl
               rotate_left; · simp only [Act.put, sA, sB, sC, i64_w, i32_w, sD]; rfl
               refine pure_ (i := 16) (N := some 72) (v := ?_) (a' := ?_) (fB 41 131071) rfl rfl (any_of HT_.out (by kernel_rfl)) (fun _ _ _ h => h) (Or.inl ⟨by rfl, ?_⟩) ?_ ?_
               rotate_left; · intro w'; go_simp; with_reducible rfl
               rotate_left; · simp only [Act.put, sA, sB, sC, i64_w, i32_w, sD]; rfl
               refine pure_ (i := 17) (N := some 73) (v := ?_) (a' := ?_) (fB 41 262143) rfl rfl (any_of HT_.out (by kernel_rfl)) (fun _ _ _ h => h) (Or.inl ⟨by rfl, ?_⟩) ?_ ?_
               rotate_left; · intro w'; go_simp; with_reducible rfl
               rotate_left; · simp only [Act.put, sA, sB, sC, i64_w, i32_w, sD]; rfl
               refine pure_ (i := 18) (N := some 74) (v := ?_) (a' := ?_) (fB 41 524287) rfl rfl (any_of HT_.out (by kernel_rfl)) (fun _ _ _ h => h) (Or.inl ⟨by rfl, ?_⟩) ?_ ?_
               rotate_left; · intro w'; go_simp; with_reducible rfl
               rotate_left; · simp only [Act.put, sA, sB, sC, i64_w, i32_w, sD]; rfl
               refine pure_ (i := 20) (N := some 76) (v := ?_) (a' := ?_) (fB 41 1572863) rfl rfl (any_of HT_.out (by kernel_rfl)) (fun _ _ _ h => h) (Or.inl ⟨by rfl, ?_⟩) ?_ ?_
               rotate_left; · intro w'; go_simp; with_reducible rfl
               rotate_left; · simp only [Act.put, sA, sB, sC, i64_w, i32_w, sD]; rfl
               refine pure_ (i := 23) (N := some 79) (v := ?_) (a' := ?_) (fB 41 9961471) rfl rfl (any_of HT_.out (by kernel_rfl)) (fun _ _ _ h => h) (Or.inl ⟨by rfl, ?_⟩) ?_ ?_
               rotate_left; · intro w'; go_simp; with_reducible rfl
               rotate_left; · simp only [Act.put, sA, sB, sC, i64_w, i32_w, sD]; rfl
               refine pure_ (i := 25) (N := some 81) (v := ?_) (a' := ?_) (fB 41 43515903) rfl rfl (any_of HT_.out (by kernel_rfl)) (fun _ _ _ h => h) (Or.inl ⟨by rfl, ?_⟩) ?_ ?_
               rotate_left; · intro w'; go_simp; with_reducible rfl
               rotate_left; · simp only [Act.put, sA, sB, sC, i64_w, i32_w, sD]; rfl
               refine pure_ (i := 26) (N := some 82) (v := ?_) (a' := ?_) (fB 41 110624767) rfl rfl (any_of HT_.out (by kernel_rfl)) (fun _ _ _ h => h) (Or.inl ⟨by rfl, ?_⟩) ?_ ?_
               rotate_left; · intro w'; go_simp; with_reducible rfl
               rotate_left; · simp only [Act.put, sA, sB, sC, i64_w, i32_w, sD]; rfl
               refine take_ (i := 19) (N := some 75) (v := ?_) (a' := ?_) (fB 41 111149055) rfl rfl (take_ofW HT_.out HW_.out (by kernel_rfl)) (fun _ _ _ h => h) (Or.inl ⟨by rfl, ?_⟩) hHeld ?_ ?_
               rotate_left; · rintro w' ⟨s0, s1, s2, s3, s4, s5, s6, s7, s8, s9⟩; go_simp; with_reducible rfl
               rotate_left; · simp only [Act.put, sA, sB, sC, i64_w, i32_w, sD]; rfl
               refine pure_ (i := 21) (N := some 77) (v := ?_) (a' := ?_) (fB 41 113246207) rfl rfl (any_of HT_.out (by kernel_rfl)) (fun _ _ _ h => h) (Or.inl ⟨by rfl, ?_⟩) ?_ ?_
               rotate_left; · intro w'; go_simp; with_reducible rfl
               rotate_left; · simp only [Act.put, sA, sB, sC, i64_w, i32_w, sD]; rfl
               refine take_ (i := 22) (N := some 78) (v := ?_) (a' := ?_) (fB 41 117440511) rfl rfl (take_ofW HT_.out HW_.out (by kernel_rfl)) (fun _ _ _ h => h) (Or.inl ⟨by rfl, ?_⟩) hHeld ?_ ?_
               rotate_left; · rintro w' ⟨s0, s1, s2, s3, s4, s5, s6, s7, s8, s9⟩; go_simp; with_reducible rfl
               rotate_left; · simp only [Act.put, sA, sB, sC, i64_w, i32_w, sD]; rfl
               refine take_ (i := 24) (N := some 80) (v := ?_) (a' := ?_) (fB 41 134217727) rfl rfl (take_ofW HT_.out HW_.out (by kernel_rfl)) (fun _ _ _ h => h) (Or.inl ⟨by rfl, ?_⟩) hHeld ?_ ?_
               rotate_left; · rintro w' ⟨s0, s1, s2, s3, s4, s5, s6, s7, s8, s9⟩; go_simp; with_reducible rfl
               rotate_left; · simp only [Act.put, sA, sB, sC, i64_w, i32_w, sD]; rfl
               refine pure_ (i := 27) (N := some 83) (v := ?_) (a' := ?_) (fB 41 268435455) rfl rfl (any_of HT_.out (by kernel_rfl)) (fun _ _ _ h => h) (Or.inl ⟨by rfl, ?_⟩) ?_ ?_
               rotate_left; · intro w'; go_simp; with_reducible rfl
               rotate_left; · simp only [Act.put, sA, sB, sC, i64_w, i32_w, sD]; rfl
               refine take_ (i := 28) (N := some 84) (v := ?_) (a' := ?_) (fB 41 536870911) rfl rfl (take_ofW HT_.out HW_.out (by kernel_rfl)) (fun _ _ _ h => h) (Or.inl ⟨by rfl, ?_⟩) hHeld ?_ ?_
               rotate_left; · rintro w' ⟨s0, s1, s2, s3, s4, s5, s6, s7, s8, s9⟩; go_simp; with_reducible rfl
               rotate_left; · simp only [Act.put, sA, sB, sC, i64_w, i32_w, sD]; rfl
               refine pure_ (i := 29) (N := some 85) (v := ?_) (a' := ?_) (fB 41 1073741823) rfl rfl (any_of HT_.out (by kernel_rfl)) (fun _ _ _ h => h) (Or.inl ⟨by rfl, ?_⟩) ?_ ?_
               rotate_left; · intro w'; go_simp; with_reducible rfl
               rotate_left; · simp only [Act.put, sA, sB, sC, i64_w, i32_w, sD]; rfl
               refine pure_ (i := 30) (N := some 86) (v := ?_) (a' := ?_) (fB 41 2147483647) rfl rfl (any_of HT_.out (by kernel_rfl)) (fun _ _ _ h => h) (Or.inl ⟨by rfl, ?_⟩) ?_ ?_
               rotate_left; · intro w'; go_simp; with_reducible rfl
               rotate_left; · simp only [Act.put, sA, sB, sC, i64_w, i32_w, sD]; rfl
               refine pure_ (i := 31) (N := some 87) (v := ?_) (a' := ?_) (fB 41 4294967295) rfl rfl (any_of HT_.out (by kernel_rfl)) (fun _ _ _ h => h) (Or.inl ⟨by rfl, ?_⟩) ?_ ?_
               rotate_left; · intro w'; go_simp; with_reducible rfl
               rotate_left; · simp only [Act.put, sA, sB, sC, i64_w, i32_w, sD]; rfl
               refine pure_ (i := 32) (N := some 88) (v := ?_) (a' := ?_) (fB 41 8589934591) rfl rfl (any_of HT_.out (by kernel_rfl)) (fun _ _ _ h => h) (Or.inl ⟨by rfl, ?_⟩) ?_ ?_
               rotate_left; · intro w'; go_simp; with_reducible rfl
               rotate_left; · simp only [Act.put, sA, sB, sC, i64_w, i32_w, sD]; rfl
               refine pure_ (i := 33) (N := some 89) (v := ?_) (a' := ?_) (fB 41 17179869183) rfl rfl (any_of HT_.out (by kernel_rfl)) (fun _ _ _ h => h) (Or.inl ⟨by rfl, ?_⟩) ?_ ?_
               rotate_left; · intro w'; go_simp; with_reducible rfl
               rotate_left; · simp only [Act.put, sA, sB, sC, i64_w, i32_w, sD]; rfl
               refine pure_ (i := 35) (N := some 91) (v := ?_) (a' := ?_) (fB 41 51539607551) rfl rfl (any_of HT_.out (by kernel_rfl)) (fun _ _ _ h => h) (Or.inl ⟨by rfl, ?_⟩) ?_ ?_
               rotate_left; · intro w'; go_simp; with_reducible rfl
               rotate_left; · simp only [Act.put, sA, sB, sC, i64_w, i32_w, sD]; rfl
               refine take_ (i := 34) (N := some 90) (v := ?_) (a' := ?_) (fB 41 68719476735) rfl rfl (take_ofW HT_.out HW_.out (by kernel_rfl)) (fun _ _ _ h => h) (Or.inl ⟨by rfl, ?_⟩) hHeld ?_ ?_
               rotate_left; · rintro w' ⟨s0, s1, s2, s3, s4, s5, s6, s7, s8, s9⟩; go_simp; with_reducible rfl
               rotate_left; · simp only [Act.put, sA, sB, sC, i64_w, i32_w, sD]; rfl
               refine pure_ (i := 36) (N := some 92) (v := ?_) (a' := ?_) (fB 41 137438953471) rfl rfl (any_of HT_.out (by kernel_rfl)) (fun _ _ _ h => h) (Or.inl ⟨by rfl, ?_⟩) ?_ ?_
               rotate_left; · intro w'; go_simp; with_reducible rfl
               rotate_left; · simp only [Act.put, sA, sB, sC, i64_w, i32_w, sD]; rfl
               refine take_ (i := 37) (N := some 93) (v := ?_) (a' := ?_) (fB 41 274877906943) rfl rfl (take_ofW HT_.out HW_.out (by kernel_rfl)) (fun _ _ _ h => h) (Or.inl ⟨by rfl, ?_⟩) hHeld ?_ ?_
               rotate_left; · rintro w' ⟨s0, s1, s2, s3, s4, s5, s6, s7, s8, s9⟩; go_simp; with_reducible rfl
               rotate_left; · simp only [Act.put, sA, sB, sC, i64_w, i32_w, sD]; rfl
               refine one_ (i := 38) (N := some 94) (fB 41 549755813887) rfl rfl (one_of HT_.out (by kernel_rfl)) (by decide) (fun K hK => ?_)
               refine goes_ Tryd.func36 (by kernel_rfl) rfl #[.agg #[.int .i64 ((rd_T45 l0_3 x4_3).f0), .int .i64 ((rd_T45 l0_3 x4_3).f1)]] (by rfl) rfl rfl (by (try simp only [List.map_toArray, List.map_cons, List.map_nil]); first | done | rfl | (simp only [List.length_drop, List.length_take]; rfl)) ?_
               with_reducible refine (mosaicref17_Check.calls ((rd_T45 l0_3 x4_3).f0) ((rd_T45 l0_3 x4_3).f1) false _ A38.out).mono ?_
               rintro e w45 ⟨rfl, hb⟩
               refine ⟨_, rfl, ?_⟩
               have n0_ := bB BK151 hb
               have n1_ := hS HB hb
               clear BK151
               clear HB
               have BK151 := n0_
               have HB := n1_
               clear n0_ n1_
               (try clear hb); (try clear hb2); (try clear hk); (try clear hi)
               refine hK.out _ _ ⟨(blk_cell BK151.out 0).trans rfl, (blk_cell BK151.out 1).trans rfl, (blk_cell BK151.out 2).trans rfl, (blk_cell BK151.out 3).trans rfl, ((HB.out.cell (World.block_lt_of_cell? w _ hw152_0)).trans hw152_0), ((HB.out.cell (World.block_lt_of_cell? w _ hw153_0)).trans hw153_0), ((HB.out.cell (World.block_lt_of_cell? w _ hw154_0)).trans hw154_0), ((HB.out.cell (World.block_lt_of_cell? w _ hw155_0)).trans hw155_0), ((HB.out.cell (World.block_lt_of_cell? w _ hw156_0)).trans hw156_0), ((HB.out.cell (World.block_lt_of_cell? w _ hw156_1)).trans hw156_1)⟩ (fun hHeld => ?_)
               clear hK K
               refine norm_ (a' := ?_) ?_ ?_
               rotate_left; · show Act.put _ (some 94) _ = _; simp only [Act.put, sA, sB, sC, i64_w, i32_w, sD]; rfl
               refine pure_ (i := 39) (N := some 95) (v := ?_) (a' := ?_) (fB 41 1099511627775) rfl rfl (any_of HT_.out (by kernel_rfl)) (fun _ _ _ h => h) (Or.inl ⟨by rfl, ?_⟩) ?_ ?_
               rotate_left; · intro w'; go_simp; with_reducible rfl
               rotate_left; · simp only [Act.put, sA, sB, sC, i64_w, i32_w, sD]; rfl
               refine pure_ (i := 40) (N := some 96) (v := ?_) (a' := ?_) (fB 41 2199023255551) rfl rfl (any_of HT_.out (by kernel_rfl)) (fun _ _ _ h => h) (Or.inl ⟨by rfl, ?_⟩) ?_ ?_
               rotate_left; · intro w'; go_simp; with_reducible rfl
               rotate_left; · simp only [Act.put, sA, sB, sC, i64_w, i32_w, sD]; rfl
               refine done_ (done_of HT_.out (by kernel_rfl)) ?_
               try go_wp2
               go_ret
               exact ⟨by first | rfl | (simp [errW_none, errW_some] <;> rfl) | (simp only [← hji31]; first | rfl | (simp [errW_none, errW_some] <;> rfl)) | (simp [*, errW_none, errW_some] <;> rfl), by repeat (first | (with_reducible first | exact HB.out | apply below_alloc | apply pw_below_drewN | apply below_drew1 | refine below_set ?_ GE151.out) | exact HB.out)⟩
            ·
             rw [if_neg c30] at H
             have c30b0 : decide (0 < x4_3) = false := decide_eq_false c30
             clear c30
             by_cases c46 : x4_3 < (l0_3.length : Int)
             rotate_left; · rw [if_neg c46] at H; exact absurd H (by simp)
             rw [if_pos c46] at H
             have c46b0 : decide (x4_3 < (l0_3.length : Int)) = true := decide_eq_true c46
             clear c46
             replace H := Option.bind_eq_some_iff.mp H
             obtain ⟨t159, A470, H⟩ := H
             replace H : (if t159 = true then (mosaicref29_Check.l1 k3 (wrap64 (x4_3 + 1)) a0_0 a0_1 l0_2 l0_3) else (some false)) = some r := H
             have A47 := Aside0.mk A470
             clear A470
             by_cases c48 : t159 = true
             ·
              subst c48
              have H1 : (mosaicref29_Check.l1 k3 (wrap64 (x4_3 + 1)) a0_0 a0_1 l0_2 l0_3) = some r := by rw [if_pos rfl] at H; exact H
              clear H
              have H := H1
              clear H1
              have H' := Aside0.mk H
              clear H
              have hcz49_0 : wr.cell? ⟨gb151, 0, none⟩ = some (.string a0_0) := (blk_cell BK151.out 0).trans rfl
              have hcz49_1 : wr.cell? ⟨gb151, 1, none⟩ = some (.string a0_1) := (blk_cell BK151.out 1).trans rfl
              have hcz49_2 : wr.cell? ⟨gb151, 2, none⟩ = some (.slice A0_2 l0_2.length c0_2) := (blk_cell BK151.out 2).trans rfl
              have hcz49_3 : wr.cell? ⟨gb151, 3, none⟩ = some (.slice A0_3 l0_3.length c0_3) := (blk_cell BK151.out 3).trans rfl
              have hfz49_0 := blk_frozen BK151.out 0
              have hfz49_1 := blk_frozen BK151.out 1
              have hfz49_2 := blk_frozen BK151.out 2
              have hfz49_3 := blk_frozen BK151.out 3
              try go_wp2
              have n0_ := Aside0.mk (blk_drew BK151.out)
              have n1_ := Aside0.mk (below_drew1 HB.out)
              clear BK151
              clear HB
              have BK151 := n0_
              have HB := n1_
              clear n0_ n1_
              have p152 : 0 ≤ (x4_3 : Int) := of_decide_eq_true (by first | (with_reducible assumption) | assumption)
              have q152 : x4_3 < (l0_2.length : Int) := of_decide_eq_true (by first | (with_reducible assumption) | assumption)
              obtain ⟨ad152, e152, hx152_0⟩ := Kd.at_int HR0_2.out x4_3 p152 q152
              have hw152_0 := hx152_0
              cases e152
              replace hx152_0 := (HB.out.cell (World.block_lt_of_cell? w _ hx152_0)).trans hx152_0
              replace p152 := eq_true p152
              replace q152 := eq_true q152
              have p153 : 0 ≤ (x4_3 : Int) := of_decide_eq_true (by first | (with_reducible assumption) | assumption)
              have q153 : x4_3 < (l0_2.length : Int) := of_decide_eq_true (by first | (with_reducible assumption) | assumption)
              obtain ⟨ad153, e153, hx153_0⟩ := Kd.at_int HR0_2.out x4_3 p153 q153
              have hw153_0 := hx153_0
              obtain rfl : ad152 = ad153 := (by injection e153)
              replace hx153_0 := (HB.out.cell (World.block_lt_of_cell? w _ hx153_0)).trans hx153_0
              replace p153 := eq_true p153
              replace q153 := eq_true q153
              have p158 : 0 ≤ (x4_3 : Int) := of_decide_eq_true (by first | (with_reducible assumption) | assumption)
              have q158 : x4_3 < (l0_3.length : Int) := of_decide_eq_true (by first | (with_reducible assumption) | assumption)
              obtain ⟨ad158, e158, hx158_0, hx158_1⟩ := at_T45 HR0_3.out x4_3 p158 q158
              have hw158_1 := hx158_1
              have hw158_0 := hx158_0
              cases e158
              replace hx158_0 := (HB.out.cell (World.block_lt_of_cell? w _ hx158_0)).trans hx158_0
              replace hx158_1 := (HB.out.cell (World.block_lt_of_cell? w _ hx158_1)).trans hx158_1
              replace p158 := eq_true p158
              replace q158 := eq_true q158
              refine start_ (n := 41) (S := fun w' => w'.cell? ⟨gb151, 0, none⟩ = some (.string a0_0) ∧ w'.cell? ⟨gb151, 1, none⟩ = some (.string a0_1) ∧ w'.cell? ⟨gb151, 2, none⟩ = some (.slice (some ad152) l0_2.length c0_2) ∧ w'.cell? ⟨gb151, 3, none⟩ = some (.slice (some ad158) l0_3.length c0_3) ∧ w'.cell? (ad152.add (x4_3).toNat) = some (.int .i64 (rd l0_2 x4_3)) ∧ w'.cell? (ad152.add (x4_3).toNat) = some (.int .i64 (rd l0_2 x4_3)) ∧ w'.cell? (ad158.add ((x4_3).toNat * 2)) = some (.int .i64 ((rd_T45 l0_3 x4_3).f0)) ∧ w'.cell? ⟨(ad158.add ((x4_3).toNat * 2)).block, (ad158.add ((x4_3).toNat * 2)).off + 1, none⟩ = some (.int .i64 ((rd_T45 l0_3 x4_3).f1))) (ds := []) (fB 41 0) (by kernel_rfl) rfl rfl ⟨(blk_cell BK151.out 0).trans rfl, (blk_cell BK151.out 1).trans rfl, (blk_cell BK151.out 2).trans rfl, (blk_cell BK151.out 3).trans rfl, ((HB.out.cell (World.block_lt_of_cell? w _ hw152_0)).trans hw152_0), ((HB.out.cell (World.block_lt_of_cell? w _ hw153_0)).trans hw153_0), ((HB.out.cell (World.block_lt_of_cell? w _ hw158_0)).trans hw158_0), ((HB.out.cell (World.block_lt_of_cell? w _ hw158_1)).trans hw158_1)⟩ (fun hHeld => ?_); refine with_tabW mosaicref29_Check.tab11 mosaicref29_Check.bits11 (fun HT_ HW_ => ?_)
              generalize wr.drew = w50 at BK151 HB hx152_0 hx153_0 hx158_0 hx158_1 hHeld ⊢
              refine pure_ (i := 0) (N := some 56) (v := ?_) (a' := ?_) (fB 41 1) rfl rfl (any_of HT_.out (by kernel_rfl)) (fun _ _ _ h => h) (Or.inl ⟨by rfl, ?_⟩) ?_ ?_
              rotate_left; · intro w'; go_simp; with_reducible rfl
              rotate_left; · simp only [Act.put, sA, sB, sC, i64_w, i32_w, sD]; rfl
              refine pure_ (i := 2) (N := some 58) (v := ?_) (a' := ?_) (fB 41 5) rfl rfl (any_of HT_.out (by kernel_rfl)) (fun _ _ _ h => h) (Or.inl ⟨by rfl, ?_⟩) ?_ ?_
              rotate_left; · intro w'; go_simp; with_reducible rfl
              rotate_left; · simp only [Act.put, sA, sB, sC, i64_w, i32_w, sD]; rfl
              refine take_ (i := 1) (N := some 57) (v := ?_) (a' := ?_) (fB 41 7) rfl rfl (take_ofW HT_.out HW_.out (by kernel_rfl)) (fun _ _ _ h => h) (Or.inl ⟨by rfl, ?_⟩) hHeld ?_ ?_
              rotate_left; · rintro w' ⟨s0, s1, s2, s3, s4, s5, s6, s7⟩; go_simp; with_reducible rfl
              rotate_left; · simp only [Act.put, sA, sB, sC, i64_w, i32_w, sD]; rfl
              refine pure_ (i := 3) (N := some 59) (v := ?_) (a' := ?_) (fB 41 15) rfl rfl (any_of HT_.out (by kernel_rfl)) (fun _ _ _ h => h) (Or.inl ⟨by rfl, ?_⟩) ?_ ?_
              rotate_left; · intro w'; go_simp; with_reducible rfl
              rotate_left; · simp only [Act.put, sA, sB, sC, i64_w, i32_w, sD]; rfl
              refine take_ (i := 4) (N := some 60) (v := ?_) (a' := ?_) (fB 41 31) rfl rfl (take_ofW HT_.out HW_.out (by kernel_rfl)) (fun _ _ _ h => h) (Or.inl ⟨by rfl, ?_⟩) hHeld ?_ ?_
              rotate_left; · rintro w' ⟨s0, s1, s2, s3, s4, s5, s6, s7⟩; go_simp; with_reducible rfl
              rotate_left; · simp only [Act.put, sA, sB, sC, i64_w, i32_w, sD]; rfl
              refine pure_ (i := 5) (N := some 61) (v := ?_) (a' := ?_) (fB 41 63) rfl rfl (any_of HT_.out (by kernel_rfl)) (fun _ _ _ h => h) (Or.inl ⟨by rfl, ?_⟩) ?_ ?_
              rotate_left; · intro w'; go_simp; with_reducible rfl
              rotate_left; · simp only [Act.put, sA, sB, sC, i64_w, i32_w, sD]; rfl
              refine pure_ (i := 6) (N := some 62) (v := ?_) (a' := ?_) (fB 41 127) rfl rfl (any_of HT_.out (by kernel_rfl)) (fun _ _ _ h => h) (Or.inl ⟨by rfl, ?_⟩) ?_ ?_
              rotate_left; · intro w'; go_simp; with_reducible rfl
              rotate_left; · simp only [Act.put, sA, sB, sC, i64_w, i32_w, sD]; rfl
              refine pure_ (i := 7) (N := some 63) (v := ?_) (a' := ?_) (fB 41 255) rfl rfl (any_of HT_.out (by kernel_rfl)) (fun _ _ _ h => h) (Or.inl ⟨by rfl, ?_⟩) ?_ ?_
              rotate_left; · intro w'; go_simp; with_reducible rfl
              rotate_left; · simp only [Act.put, sA, sB, sC, i64_w, i32_w, sD]; rfl
              refine pure_ (i := 9) (N := some 65) (v := ?_) (a' := ?_) (fB 41 767) rfl rfl (any_of HT_.out (by kernel_rfl)) (fun _ _ _ h => h) (Or.inl ⟨by rfl, ?_⟩) ?_ ?_
              rotate_left; · intro w'; go_simp; with_reducible rfl
              rotate_left; · simp only [Act.put, sA, sB, sC, i64_w, i32_w, sD]; rfl
              refine take_ (i := 8) (N := some 64) (v := ?_) (a' := ?_) (fB 41 1023) rfl rfl (take_ofW HT_.out HW_.out (by kernel_rfl)) (fun _ _ _ h => h) (Or.inl ⟨by rfl, ?_⟩) hHeld ?_ ?_
              rotate_left; · rintro w' ⟨s0, s1, s2, s3, s4, s5, s6, s7⟩; go_simp; with_reducible rfl
              rotate_left; · simp only [Act.put, sA, sB, sC, i64_w, i32_w, sD]; rfl
              refine pure_ (i := 10) (N := some 66) (v := ?_) (a' := ?_) (fB 41 2047) rfl rfl (any_of HT_.out (by kernel_rfl)) (fun _ _ _ h => h) (Or.inl ⟨by rfl, ?_⟩) ?_ ?_
              rotate_left; · intro w'; go_simp; with_reducible rfl
              rotate_left; · simp only [Act.put, sA, sB, sC, i64_w, i32_w, sD]; rfl
              refine take_ (i := 11) (N := some 67) (v := ?_) (a' := ?_) (fB 41 4095) rfl rfl (take_ofW HT_.out HW_.out (by kernel_rfl)) (fun _ _ _ h => h) (Or.inl ⟨by rfl, ?_⟩) hHeld ?_ ?_
              rotate_left; · rintro w' ⟨s0, s1, s2, s3, s4, s5, s6, s7⟩; go_simp; with_reducible rfl
              rotate_left; · simp only [Act.put, sA, sB, sC, i64_w, i32_w, sD]; rfl
              refine pure_ (i := 12) (N := some 68) (v := ?_) (a' := ?_) (fB 41 8191) rfl rfl (any_of HT_.out (by kernel_rfl)) (fun _ _ _ h => h) (Or.inl ⟨by rfl, ?_⟩) ?_ ?_
              rotate_left; · intro w'; go_simp; with_reducible rfl
              rotate_left; · simp only [Act.put, sA, sB, sC, i64_w, i32_w, sD]; rfl
              refine pure_ (i := 13) (N := some 69) (v := ?_) (a' := ?_) (fB 41 16383) rfl rfl (any_of HT_.out (by kernel_rfl)) (fun _ _ _ h => h) (Or.inl ⟨by rfl, ?_⟩) ?_ ?_
              rotate_left; · intro w'; go_simp; with_reducible rfl
              rotate_left; · simp only [Act.put, sA, sB, sC, i64_w, i32_w, sD]; rfl
              refine pure_ (i := 14) (N := some 70) (v := ?_) (a' := ?_) (fB 41 32767) rfl rfl (any_of HT_.out (by kernel_rfl)) (fun _ _ _ h => h) (Or.inl ⟨by rfl, ?_⟩) ?_ ?_
              rotate_left; · intro w'; go_simp; with_reducible rfl
              rotate_left; · simp only [Act.put, sA, sB, sC, i64_w, i32_w, sD]; rfl
              refine pure_ (i := 15) (N := some 71) (v := ?_) (a' := ?_) (fB 41 65535) rfl rfl (any_of HT_.out (by kernel_rfl)) (fun _ _ _ h => h) (Or.inl ⟨by rfl, ?_⟩) ?_ ?_
              rotate_left; · intro w'; go_simp; with_reducible rfl
              rotate_left; · simp only [Act.put, sA, sB, sC, i64_w, i32_w, sD]; rfl
              refine pure_ (i := 16) (N := some 72) (v := ?_) (a' := ?_) (fB 41 131071) rfl rfl (any_of HT_.out (by kernel_rfl)) (fun _ _ _ h => h) (Or.inl ⟨by rfl, ?_⟩) ?_ ?_
              rotate_left; · intro w'; go_simp; with_reducible rfl
              rotate_left; · simp only [Act.put, sA, sB, sC, i64_w, i32_w, sD]; rfl
              refine pure_ (i := 17) (N := some 73) (v := ?_) (a' := ?_) (fB 41 262143) rfl rfl (any_of HT_.out (by kernel_rfl)) (fun _ _ _ h => h) (Or.inl ⟨by rfl, ?_⟩) ?_ ?_
              rotate_left; · intro w'; go_simp; with_reducible rfl
              rotate_left; · simp only [Act.put, sA, sB, sC, i64_w, i32_w, sD]; rfl
              refine pure_ (i := 18) (N := some 74) (v := undef) (a' := ?_) (fB 41 524287) rfl rfl (any_of HT_.out (by kernel_rfl)) (fun _ _ _ h => h) (Or.inr ⟨by rfl, rfl⟩) ?_ ?_
              rotate_left
              ·
               simp only [Act.put, sA, sB, sC, i64_w, i32_w, sD]
               rfl
              refine pure_ (i := 19) (N := some 75) (v := undef) (a' := ?_) (fB 41 1048575) rfl rfl (any_of HT_.out (by kernel_rfl)) (fun _ _ _ h => h) (Or.inr ⟨by rfl, rfl⟩) ?_ ?_
              rotate_left
              ·
               simp only [Act.put, sA, sB, sC, i64_w, i32_w, sD]
               rfl
              refine pure_ (i := 20) (N := some 76) (v := undef) (a' := ?_) (fB 41 2097151) rfl rfl (any_of HT_.out (by kernel_rfl)) (fun _ _ _ h => h) (Or.inr ⟨by rfl, rfl⟩) ?_ ?_
              rotate_left
              ·
               simp only [Act.put, sA, sB, sC, i64_w, i32_w, sD]
               rfl
              refine pure_ (i := 21) (N := some 77) (v := undef) (a' := ?_) (fB 41 4194303) rfl rfl (any_of HT_.out (by kernel_rfl)) (fun _ _ _ h => h) (Or.inr ⟨by rfl, rfl⟩) ?_ ?_
              rotate_left
              ·
               simp only [Act.put, sA, sB, sC, i64_w, i32_w, sD]
               rfl
              refine pure_ (i := 22) (N := some 78) (v := undef) (a' := ?_) (fB 41 8388607) rfl rfl (any_of HT_.out (by kernel_rfl)) (fun _ _ _ h => h) (Or.inr ⟨by rfl, rfl⟩) ?_ ?_
              rotate_left
              ·
               simp only [Act.put, sA, sB, sC, i64_w, i32_w, sD]
               rfl
              refine pure_ (i := 23) (N := some 79) (v := undef) (a' := ?_) (fB 41 16777215) rfl rfl (any_of HT_.out (by kernel_rfl)) (fun _ _ _ h => h) (Or.inr ⟨by rfl, rfl⟩) ?_ ?_
              rotate_left
              ·
               simp only [Act.put, sA, sB, sC, i64_w, i32_w, sD]
               rfl
              refine pure_ (i := 24) (N := some 80) (v := undef) (a' := ?_) (fB 41 33554431) rfl rfl (any_of HT_.out (by kernel_rfl)) (fun _ _ _ h => h) (Or.inr ⟨by rfl, rfl⟩) ?_ ?_
              rotate_left
              ·
               simp only [Act.put, sA, sB, sC, i64_w, i32_w, sD]
               rfl
              refine pure_ (i := 25) (N := some 81) (v := undef) (a' := ?_) (fB 41 67108863) rfl rfl (any_of HT_.out (by kernel_rfl)) (fun _ _ _ h => h) (Or.inr ⟨by rfl, rfl⟩) ?_ ?_
              rotate_left
              ·
               simp only [Act.put, sA, sB, sC, i64_w, i32_w, sD]
               rfl
              refine pure_ (i := 26) (N := some 82) (v := undef) (a' := ?_) (fB 41 134217727) rfl rfl (any_of HT_.out (by kernel_rfl)) (fun _ _ _ h => h) (Or.inr ⟨by rfl, rfl⟩) ?_ ?_
              rotate_left
              ·
               simp only [Act.put, sA, sB, sC, i64_w, i32_w, sD]
               rfl
              refine pure_ (i := 27) (N := some 83) (v := undef) (a' := ?_) (fB 41 268435455) rfl rfl (any_of HT_.out (by kernel_rfl)) (fun _ _ _ h => h) (Or.inr ⟨by rfl, rfl⟩) ?_ ?_
              rotate_left
              ·
               simp only [Act.put, sA, sB, sC, i64_w, i32_w, sD]
               rfl
              refine pure_ (i := 28) (N := some 84) (v := undef) (a' := ?_) (fB 41 536870911) rfl rfl (any_of HT_.out (by kernel_rfl)) (fun _ _ _ h => h) (Or.inr ⟨by rfl, rfl⟩) ?_ ?_
              rotate_left
              ·
               simp only [Act.put, sA, sB, sC, i64_w, i32_w, sD]
               rfl
              refine pure_ (i := 29) (N := some 85) (v := undef) (a' := ?_) (fB 41 1073741823) rfl rfl (any_of HT_.out (by kernel_rfl)) (fun _ _ _ h => h) (Or.inr ⟨by rfl, rfl⟩) ?_ ?_
              rotate_left
              ·
               simp only [Act.put, sA, sB, sC, i64_w, i32_w, sD]
               rfl
              refine pure_ (i := 30) (N := some 86) (v := ?_) (a' := ?_) (fB 41 2147483647) rfl rfl (any_of HT_.out (by kernel_rfl)) (fun _ _ _ h => h) (Or.inl ⟨by rfl, ?_⟩) ?_ ?_
              rotate_left; · intro w'; go_simp; with_reducible rfl
              rotate_left; · simp only [Act.put, sA, sB, sC, i64_w, i32_w, sD]; rfl
              refine pure_ (i := 31) (N := some 87) (v := ?_) (a' := ?_) (fB 41 4294967295) rfl rfl (any_of HT_.out (by kernel_rfl)) (fun _ _ _ h => h) (Or.inl ⟨by rfl, ?_⟩) ?_ ?_
              rotate_left; · intro w'; go_simp; with_reducible rfl
              rotate_left; · simp only [Act.put, sA, sB, sC, i64_w, i32_w, sD]; rfl
              refine pure_ (i := 32) (N := some 88) (v := ?_) (a' := ?_) (fB 41 8589934591) rfl rfl (any_of HT_.out (by kernel_rfl)) (fun _ _ _ h => h) (Or.inl ⟨by rfl, ?_⟩) ?_ ?_
              rotate_left; · intro w'; go_simp; with_reducible rfl
              rotate_left; · simp only [Act.put, sA, sB, sC, i64_w, i32_w, sD]; rfl
              refine pure_ (i := 33) (N := some 89) (v := ?_) (a' := ?_) (fB 41 17179869183) rfl rfl (any_of HT_.out (by kernel_rfl)) (fun _ _ _ h => h) (Or.inl ⟨by rfl, ?_⟩) ?_ ?_
              rotate_left; · intro w'; go_simp; with_reducible rfl
              rotate_left; · simp only [Act.put, sA, sB, sC, i64_w, i32_w, sD]; rfl
              refine pure_ (i := 35) (N := some 91) (v := ?_) (a' := ?_) (fB 41 51539607551) rfl rfl (any_of HT_.out (by kernel_rfl)) (fun _ _ _ h => h) (Or.inl ⟨by rfl, ?_⟩) ?_ ?_
              rotate_left; · intro w'; go_simp; with_reducible rfl
              rotate_left; · simp only [Act.put, sA, sB, sC, i64_w, i32_w, sD]; rfl
              refine take_ (i := 34) (N := some 90) (v := ?_) (a' := ?_) (fB 41 68719476735) rfl rfl (take_ofW HT_.out HW_.out (by kernel_rfl)) (fun _ _ _ h => h) (Or.inl ⟨by rfl, ?_⟩) hHeld ?_ ?_
              rotate_left; · rintro w' ⟨s0, s1, s2, s3, s4, s5, s6, s7⟩; go_simp; with_reducible rfl
              rotate_left; · simp only [Act.put, sA, sB, sC, i64_w, i32_w, sD]; rfl
              refine pure_ (i := 36) (N := some 92) (v := ?_) (a' := ?_) (fB 41 137438953471) rfl rfl (any_of HT_.out (by kernel_rfl)) (fun _ _ _ h => h) (Or.inl ⟨by rfl, ?_⟩) ?_ ?_
              rotate_left; · intro w'; go_simp; with_reducible rfl
              rotate_left; · simp only [Act.put, sA, sB, sC, i64_w, i32_w, sD]; rfl
              refine take_ (i := 37) (N := some 93) (v := ?_) (a' := ?_) (fB 41 274877906943) rfl rfl (take_ofW HT_.out HW_.out (by kernel_rfl)) (fun _ _ _ h => h) (Or.inl ⟨by rfl, ?_⟩) hHeld ?_ ?_
              rotate_left; · rintro w' ⟨s0, s1, s2, s3, s4, s5, s6, s7⟩; go_simp; with_reducible rfl
              rotate_left; · simp only [Act.put, sA, sB, sC, i64_w, i32_w, sD]; rfl
              refine one_ (i := 38) (N := some 94) (fB 41 549755813887) rfl rfl (one_of HT_.out (by kernel_rfl)) (by decide) (fun K hK => ?_)
              refine goes_ Tryd.func36 (by kernel_rfl) rfl #[.agg #[.int .i64 ((rd_T45 l0_3 x4_3).f0), .int .i64 ((rd_T45 l0_3 x4_3).f1)]] (by rfl) rfl rfl (by (try simp only [List.map_toArray, List.map_cons, List.map_nil]); first | done | rfl | (simp only [List.length_drop, List.length_take]; rfl)) ?_
              with_reducible refine (mosaicref17_Check.calls ((rd_T45 l0_3 x4_3).f0) ((rd_T45 l0_3 x4_3).f1) true _ A47.out).mono ?_
              rintro e w51 ⟨rfl, hb⟩
              refine ⟨_, rfl, ?_⟩
              have n0_ := bB BK151 hb
              have n1_ := hS HB hb
              clear BK151
              clear HB
              have BK151 := n0_
              have HB := n1_
              clear n0_ n1_
              (try clear hb); (try clear hb2); (try clear hk); (try clear hi)
              refine hK.out _ _ ⟨(blk_cell BK151.out 0).trans rfl, (blk_cell BK151.out 1).trans rfl, (blk_cell BK151.out 2).trans rfl, (blk_cell BK151.out 3).trans rfl, ((HB.out.cell (World.block_lt_of_cell? w _ hw152_0)).trans hw152_0), ((HB.out.cell (World.block_lt_of_cell? w _ hw153_0)).trans hw153_0), ((HB.out.cell (World.block_lt_of_cell? w _ hw158_0)).trans hw158_0), ((HB.out.cell (World.block_lt_of_cell? w _ hw158_1)).trans hw158_1)⟩ (fun hHeld => ?_)
              clear hK K
              refine norm_ (a' := ?_) ?_ ?_
              rotate_left; · show Act.put _ (some 94) _ = _; simp only [Act.put, sA, sB, sC, i64_w, i32_w, sD]; rfl
              refine pure_ (i := 39) (N := some 95) (v := ?_) (a' := ?_) (fB 41 1099511627775) rfl rfl (any_of HT_.out (by kernel_rfl)) (fun _ _ _ h => h) (Or.inl ⟨by rfl, ?_⟩) ?_ ?_
              rotate_left; · intro w'; go_simp; with_reducible rfl
              rotate_left; · simp only [Act.put, sA, sB, sC, i64_w, i32_w, sD]; rfl
              refine pure_ (i := 40) (N := some 96) (v := ?_) (a' := ?_) (fB 41 2199023255551) rfl rfl (any_of HT_.out (by kernel_rfl)) (fun _ _ _ h => h) (Or.inl ⟨by rfl, ?_⟩) ?_ ?_
              rotate_left; · intro w'; go_simp; with_reducible rfl
              rotate_left; · simp only [Act.put, sA, sB, sC, i64_w, i32_w, sD]; rfl
              refine done_ (done_of HT_.out (by kernel_rfl)) ?_
              try go_wp2
              go_roundg k3
              case measure => have := HJ1.out; have := HK2.out; have := HK3.out; omega
              case rel => exact ⟨(wrap64 (x4_3 + 1)), (by first | rfl | (simp; done) | (simp [*]; done)), H', ⟨by have := HJ1.out; have := HK2.out; have := HK3.out; omega⟩, ⟨by (with_reducible repeat (first | refine blk_drewN ?_ _ | refine blk_drew ?_ | refine blk_alloc ?_ _)); exact BK151.out⟩, ⟨by repeat (first | (with_reducible first | exact HB.out | apply below_alloc | apply pw_below_drewN | apply below_drew1 | refine below_set ?_ GE151.out) | exact HB.out)⟩⟩
             ·
              replace c48 := Bool.eq_false_iff.mpr c48
              subst c48
              have H1 : (some false) = some r := by rw [if_neg (show ¬ (false = true) by decide)] at H; exact H
              clear H
              have H := H1
              clear H1
              obtain rfl := Option.some.inj H
              have hcz52_0 : wr.cell? ⟨gb151, 0, none⟩ = some (.string a0_0) := (blk_cell BK151.out 0).trans rfl
              have hcz52_1 : wr.cell? ⟨gb151, 1, none⟩ = some (.string a0_1) := (blk_cell BK151.out 1).trans rfl
              have hcz52_2 : wr.cell? ⟨gb151, 2, none⟩ = some (.slice A0_2 l0_2.length c0_2) := (blk_cell BK151.out 2).trans rfl
              have hcz52_3 : wr.cell? ⟨gb151, 3, none⟩ = some (.slice A0_3 l0_3.length c0_3) := (blk_cell BK151.out 3).trans rfl
              have hfz52_0 := blk_frozen BK151.out 0
              have hfz52_1 := blk_frozen BK151.out 1
              have hfz52_2 := blk_frozen BK151.out 2
              have hfz52_3 := blk_frozen BK151.out 3
              try go_wp2
              have n0_ := Aside0.mk (blk_drew BK151.out)
              have n1_ := Aside0.mk (below_drew1 HB.out)
              clear BK151
              clear HB
              have BK151 := n0_
              have HB := n1_
              clear n0_ n1_
              have p152 : 0 ≤ (x4_3 : Int) := of_decide_eq_true (by first | (with_reducible assumption) | assumption)
              have q152 : x4_3 < (l0_2.length : Int) := of_decide_eq_true (by first | (with_reducible assumption) | assumption)
              obtain ⟨ad152, e152, hx152_0⟩ := Kd.at_int HR0_2.out x4_3 p152 q152
              have hw152_0 := hx152_0
              cases e152
              replace hx152_0 := (HB.out.cell (World.block_lt_of_cell? w _ hx152_0)).trans hx152_0
              replace p152 := eq_true p152
              replace q152 := eq_true q152
              have p153 : 0 ≤ (x4_3 : Int) := of_decide_eq_true (by first | (with_reducible assumption) | assumption)
              have q153 : x4_3 < (l0_2.length : Int) := of_decide_eq_true (by first | (with_reducible assumption) | assumption)
              obtain ⟨ad153, e153, hx153_0⟩ := Kd.at_int HR0_2.out x4_3 p153 q153
              have hw153_0 := hx153_0
              obtain rfl : ad152 = ad153 := (by injection e153)
              replace hx153_0 := (HB.out.cell (World.block_lt_of_cell? w _ hx153_0)).trans hx153_0
              replace p153 := eq_true p153
              replace q153 := eq_true q153
              have p158 : 0 ≤ (x4_3 : Int) := of_decide_eq_true (by first | (with_reducible assumption) | assumption)
              have q158 : x4_3 < (l0_3.length : Int) := of_decide_eq_true (by first | (with_reducible assumption) | assumption)
              obtain ⟨ad158, e158, hx158_0, hx158_1⟩ := at_T45 HR0_3.out x4_3 p158 q158
              have hw158_1 := hx158_1
              have hw158_0 := hx158_0
              cases e158
              replace hx158_0 := (HB.out.cell (World.block_lt_of_cell? w _ hx158_0)).trans hx158_0
              replace hx158_1 := (HB.out.cell (World.block_lt_of_cell? w _ hx158_1)).trans hx158_1
              replace p158 := eq_true p158
              replace q158 := eq_true q158
              refine start_ (n := 41) (S := fun w' => w'.cell? ⟨gb151, 0, none⟩ = some (.string a0_0) ∧ w'.cell? ⟨gb151, 1, none⟩ = some (.string a0_1) ∧ w'.cell? ⟨gb151, 2, none⟩ = some (.slice (some ad152) l0_2.length c0_2) ∧ w'.cell? ⟨gb151, 3, none⟩ = some (.slice (some ad158) l0_3.length c0_3) ∧ w'.cell? (ad152.add (x4_3).toNat) = some (.int .i64 (rd l0_2 x4_3)) ∧ w'.cell? (ad152.add (x4_3).toNat) = some (.int .i64 (rd l0_2 x4_3)) ∧ w'.cell? (ad158.add ((x4_3).toNat * 2)) = some (.int .i64 ((rd_T45 l0_3 x4_3).f0)) ∧ w'.cell? ⟨(ad158.add ((x4_3).toNat * 2)).block, (ad158.add ((x4_3).toNat * 2)).off + 1, none⟩ = some (.int .i64 ((rd_T45 l0_3 x4_3).f1))) (ds := []) (fB 41 0) (by kernel_rfl) rfl rfl ⟨(blk_cell BK151.out 0).trans rfl, (blk_cell BK151.out 1).trans rfl, (blk_cell BK151.out 2).trans rfl, (blk_cell BK151.out 3).trans rfl, ((HB.out.cell (World.block_lt_of_cell? w _ hw152_0)).trans hw152_0), ((HB.out.cell (World.block_lt_of_cell? w _ hw153_0)).trans hw153_0), ((HB.out.cell (World.block_lt_of_cell? w _ hw158_0)).trans hw158_0), ((HB.out.cell (World.block_lt_of_cell? w _ hw158_1)).trans hw158_1)⟩ (fun hHeld => ?_); refine with_tabW mosaicref29_Check.tab11 mosaicref29_Check.bits11 (fun HT_ HW_ => ?_)
              generalize wr.drew = w53 at BK151 HB hx152_0 hx153_0 hx158_0 hx158_1 hHeld ⊢
              refine pure_ (i := 0) (N := some 56) (v := ?_) (a' := ?_) (fB 41 1) rfl rfl (any_of HT_.out (by kernel_rfl)) (fun _ _ _ h => h) (Or.inl ⟨by rfl, ?_⟩) ?_ ?_
              rotate_left; · intro w'; go_simp; with_reducible rfl
              rotate_left; · simp only [Act.put, sA, sB, sC, i64_w, i32_w, sD]; rfl
              refine pure_ (i := 2) (N := some 58) (v := ?_) (a' := ?_) (fB 41 5) rfl rfl (any_of HT_.out (by kernel_rfl)) (fun _ _ _ h => h) (Or.inl ⟨by rfl, ?_⟩) ?_ ?_
              rotate_left; · intro w'; go_simp; with_reducible rfl
              rotate_left; · simp only [Act.put, sA, sB, sC, i64_w, i32_w, sD]; rfl
              refine take_ (i := 1) (N := some 57) (v := ?_) (a' := ?_) (fB 41 7) rfl rfl (take_ofW HT_.out HW_.out (by kernel_rfl)) (fun _ _ _ h => h) (Or.inl ⟨by rfl, ?_⟩) hHeld ?_ ?_
              rotate_left; · rintro w' ⟨s0, s1, s2, s3, s4, s5, s6, s7⟩; go_simp; with_reducible rfl
              rotate_left; · simp only [Act.put, sA, sB, sC, i64_w, i32_w, sD]; rfl
              refine pure_ (i := 3) (N := some 59) (v := ?_) (a' := ?_) (fB 41 15) rfl rfl (any_of HT_.out (by kernel_rfl)) (fun _ _ _ h => h) (Or.inl ⟨by rfl, ?_⟩) ?_ ?_
              rotate_left; · intro w'; go_simp; with_reducible rfl
              rotate_left; · simp only [Act.put, sA, sB, sC, i64_w, i32_w, sD]; rfl
              refine take_ (i := 4) (N := some 60) (v := ?_) (a' := ?_) (fB 41 31) rfl rfl (take_ofW HT_.out HW_.out (by kernel_rfl)) (fun _ _ _ h => h) (Or.inl ⟨by rfl, ?_⟩) hHeld ?_ ?_
              rotate_left; · rintro w' ⟨s0, s1, s2, s3, s4, s5, s6, s7⟩; go_simp; with_reducible rfl
              rotate_left; · simp only [Act.put, sA, sB, sC, i64_w, i32_w, sD]; rfl
              refine pure_ (i := 5) (N := some 61) (v := ?_) (a' := ?_) (fB 41 63) rfl rfl (any_of HT_.out (by kernel_rfl)) (fun _ _ _ h => h) (Or.inl ⟨by rfl, ?_⟩) ?_ ?_
              rotate_left; · intro w'; go_simp; with_reducible rfl
              rotate_left; · simp only [Act.put, sA, sB, sC, i64_w, i32_w, sD]; rfl
              refine pure_ (i := 6) (N := some 62) (v := ?_) (a' := ?_) (fB 41 127) rfl rfl (any_of HT_.out (by kernel_rfl)) (fun _ _ _ h => h) (Or.inl ⟨by rfl, ?_⟩) ?_ ?_
              rotate_left; · intro w'; go_simp; with_reducible rfl
              rotate_left; · simp only [Act.put, sA, sB, sC, i64_w, i32_w, sD]; rfl
              refine pure_ (i := 7) (N := some 63) (v := ?_) (a' := ?_) (fB 41 255) rfl rfl (any_of HT_.out (by kernel_rfl)) (fun _ _ _ h => h) (Or.inl ⟨by rfl, ?_⟩) ?_ ?_
              rotate_left; · intro w'; go_simp; with_reducible rfl
              rotate_left; · simp only [Act.put, sA, sB, sC, i64_w, i32_w, sD]; rfl
              refine pure_ (i := 9) (N := some 65) (v := ?_) (a' := ?_) (fB 41 767) rfl rfl (any_of HT_.out (by kernel_rfl)) (fun _ _ _ h => h) (Or.inl ⟨by rfl, ?_⟩) ?_ ?_
              rotate_left; · intro w'; go_simp; with_reducible rfl
              rotate_left; · simp only [Act.put, sA, sB, sC, i64_w, i32_w, sD]; rfl
              refine take_ (i := 8) (N := some 64) (v := ?_) (a' := ?_) (fB 41 1023) rfl rfl (take_ofW HT_.out HW_.out (by kernel_rfl)) (fun _ _ _ h => h) (Or.inl ⟨by rfl, ?_⟩) hHeld ?_ ?_
              rotate_left; · rintro w' ⟨s0, s1, s2, s3, s4, s5, s6, s7⟩; go_simp; with_reducible rfl
              rotate_left; · simp only [Act.put, sA, sB, sC, i64_w, i32_w, sD]; rfl
              refine pure_ (i := 10) (N := some 66) (v := ?_) (a' := ?_) (fB 41 2047) rfl rfl (any_of HT_.out (by kernel_rfl)) (fun _ _ _ h => h) (Or.inl ⟨by rfl, ?_⟩) ?_ ?_
              rotate_left; · intro w'; go_simp; with_reducible rfl
              rotate_left; · simp only [Act.put, sA, sB, sC, i64_w, i32_w, sD]; rfl
              refine take_ (i := 11) (N := some 67) (v := ?_) (a' := ?_) (fB 41 4095) rfl rfl (take_ofW HT_.out HW_.out (by kernel_rfl)) (fun _ _ _ h => h) (Or.inl ⟨by rfl, ?_⟩) hHeld ?_ ?_
              rotate_left; · rintro w' ⟨s0, s1, s2, s3, s4, s5, s6, s7⟩; go_simp; with_reducible rfl
              rotate_left; · simp only [Act.put, sA, sB, sC, i64_w, i32_w, sD]; rfl
              refine pure_ (i := 12) (N := some 68) (v := ?_) (a' := ?_) (fB 41 8191) rfl rfl (any_of HT_.out (by kernel_rfl)) (fun _ _ _ h => h) (Or.inl ⟨by rfl, ?_⟩) ?_ ?_
              rotate_left; · intro w'; go_simp; with_reducible rfl
              rotate_left; · simp only [Act.put, sA, sB, sC, i64_w, i32_w, sD]; rfl
              refine pure_ (i := 13) (N := some 69) (v := ?_) (a' := ?_) (fB 41 16383) rfl rfl (any_of HT_.out (by kernel_rfl)) (fun _ _ _ h => h) (Or.inl ⟨by rfl, ?_⟩) ?_ ?_
              rotate_left; · intro w'; go_simp; with_reducible rfl
              rotate_left; · simp only [Act.put, sA, sB, sC, i64_w, i32_w, sD]; rfl
              refine pure_ (i := 14) (N := some 70) (v := ?_) (a' := ?_) (fB 41 32767) rfl rfl (any_of HT_.out (by kernel_rfl)) (fun _ _ _ h => h) (Or.inl ⟨by rfl, ?_⟩) ?_ ?_
              rotate_left; · intro w'; go_simp; with_reducible rfl
              rotate_left; · simp only [Act.put, sA, sB, sC, i64_w, i32_w, sD]; rfl
              refine pure_ (i := 15) (N := some 71) (v := ?_) (a' := ?_) (fB 41 65535) rfl rfl (any_of HT_.out (by kernel_rfl)) (fun _ _ _ h => h) (Or.inl ⟨by rfl, ?_⟩) ?_ ?_
              rotate_left; · intro w'; go_simp; with_reducible rfl
              rotate_left; · simp only [Act.put, sA, sB, sC, i64_w, i32_w, sD]; rfl
              refine pure_ (i := 16) (N := some 72) (v := ?_) (a' := ?_) (fB 41 131071) rfl rfl (any_of HT_.out (by kernel_rfl)) (fun _ _ _ h => h) (Or.inl ⟨by rfl, ?_⟩) ?_ ?_
              rotate_left; · intro w'; go_simp; with_reducible rfl
              rotate_left; · simp only [Act.put, sA, sB, sC, i64_w, i32_w, sD]; rfl
              refine pure_ (i := 17) (N := some 73) (v := ?_) (a' := ?_) (fB 41 262143) rfl rfl (any_of HT_.out (by kernel_rfl)) (fun _ _ _ h => h) (Or.inl ⟨by rfl, ?_⟩) ?_ ?_
              rotate_left; · intro w'; go_simp; with_reducible rfl
              rotate_left; · simp only [Act.put, sA, sB, sC, i64_w, i32_w, sD]; rfl
              refine pure_ (i := 18) (N := some 74) (v := undef) (a' := ?_) (fB 41 524287) rfl rfl (any_of HT_.out (by kernel_rfl)) (fun _ _ _ h => h) (Or.inr ⟨by rfl, rfl⟩) ?_ ?_
              rotate_left
              ·
               simp only [Act.put, sA, sB, sC, i64_w, i32_w, sD]
               rfl
              refine pure_ (i := 19) (N := some 75) (v := undef) (a' := ?_) (fB 41 1048575) rfl rfl (any_of HT_.out (by kernel_rfl)) (fun _ _ _ h => h) (Or.inr ⟨by rfl, rfl⟩) ?_ ?_
              rotate_left
              ·
               simp only [Act.put, sA, sB, sC, i64_w, i32_w, sD]
               rfl
              refine pure_ (i := 20) (N := some 76) (v := undef) (a' := ?_) (fB 41 2097151) rfl rfl (any_of HT_.out (by kernel_rfl)) (fun _ _ _ h => h) (Or.inr ⟨by rfl, rfl⟩) ?_ ?_
              rotate_left
              ·
               simp only [Act.put, sA, sB, sC, i64_w, i32_w, sD]
               rfl
              refine pure_ (i := 21) (N := some 77) (v := undef) (a' := ?_) (fB 41 4194303) rfl rfl (any_of HT_.out (by kernel_rfl)) (fun _ _ _ h => h) (Or.inr ⟨by rfl, rfl⟩) ?_ ?_
              rotate_left
              ·
               simp only [Act.put, sA, sB, sC, i64_w, i32_w, sD]
               rfl
              refine pure_ (i := 22) (N := some 78) (v := undef) (a' := ?_) (fB 41 8388607) rfl rfl (any_of HT_.out (by kernel_rfl)) (fun _ _ _ h => h) (Or.inr ⟨by rfl, rfl⟩) ?_ ?_
              rotate_left
              ·
               simp only [Act.put, sA, sB, sC, i64_w, i32_w, sD]
               rfl
              refine pure_ (i := 23) (N := some 79) (v := undef) (a' := ?_) (fB 41 16777215) rfl rfl (any_of HT_.out (by kernel_rfl)) (fun _ _ _ h => h) (Or.inr ⟨by rfl, rfl⟩) ?_ ?_
              rotate_left
              ·
               simp only [Act.put, sA, sB, sC, i64_w, i32_w, sD]
               rfl
              refine pure_ (i := 24) (N := some 80) (v := undef) (a' := ?_) (fB 41 33554431) rfl rfl (any_of HT_.out (by kernel_rfl)) (fun _ _ _ h => h) (Or.inr ⟨by rfl, rfl⟩) ?_ ?_
              rotate_left
              ·
               simp only [Act.put, sA, sB, sC, i64_w, i32_w, sD]
               rfl
              refine pure_ (i := 25) (N := some 81) (v := undef) (a' := ?_) (fB 41 67108863) rfl rfl (any_of HT_.out (by kernel_rfl)) (fun _ _ _ h => h) (Or.inr ⟨by rfl, rfl⟩) ?_ ?_
              rotate_left
              ·
               simp only [Act.put, sA, sB, sC, i64_w, i32_w, sD]
               rfl
              refine pure_ (i := 26) (N := some 82) (v := undef) (a' := ?_) (fB 41 134217727) rfl rfl (any_of HT_.out (by kernel_rfl)) (fun _ _ _ h => h) (Or.inr ⟨by rfl, rfl⟩) ?_ ?_
              rotate_left
              ·
               simp only [Act.put, sA, sB, sC, i64_w, i32_w, sD]
               rfl
              refine pure_ (i := 27) (N := some 83) (v := undef) (a' := ?_) (fB 41 268435455) rfl rfl (any_of HT_.out (by kernel_rfl)) (fun _ _ _ h => h) (Or.inr ⟨by rfl, rfl⟩) ?_ ?_
              rotate_left
              ·
               simp only [Act.put, sA, sB, sC, i64_w, i32_w, sD]
               rfl
              refine pure_ (i := 28) (N := some 84) (v := undef) (a' := ?_) (fB 41 536870911) rfl rfl (any_of HT_.out (by kernel_rfl)) (fun _ _ _ h => h) (Or.inr ⟨by rfl, rfl⟩) ?_ ?_
              rotate_left
              ·
               simp only [Act.put, sA, sB, sC, i64_w, i32_w, sD]
               rfl
              refine pure_ (i := 29) (N := some 85) (v := undef) (a' := ?_) (fB 41 1073741823) rfl rfl (any_of HT_.out (by kernel_rfl)) (fun _ _ _ h => h) (Or.inr ⟨by rfl, rfl⟩) ?_ ?_
              rotate_left
              ·
               simp only [Act.put, sA, sB, sC, i64_w, i32_w, sD]
               rfl
              refine pure_ (i := 30) (N := some 86) (v := ?_) (a' := ?_) (fB 41 2147483647) rfl rfl (any_of HT_.out (by kernel_rfl)) (fun _ _ _ h => h) (Or.inl ⟨by rfl, ?_⟩) ?_ ?_
              rotate_left; · intro w'; go_simp; with_reducible rfl
              rotate_left; · simp only [Act.put, sA, sB, sC, i64_w, i32_w, sD]; rfl
              refine pure_ (i := 31) (N := some 87) (v := ?_) (a' := ?_) (fB 41 4294967295) rfl rfl (any_of HT_.out (by kernel_rfl)) (fun _ _ _ h => h) (Or.inl ⟨by rfl, ?_⟩) ?_ ?_
              rotate_left; · intro w'; go_simp; with_reducible rfl
              rotate_left; · simp only [Act.put, sA, sB, sC, i64_w, i32_w, sD]; rfl
              refine pure_ (i := 32) (N := some 88) (v := ?_) (a' := ?_) (fB 41 8589934591) rfl rfl (any_of HT_.out (by kernel_rfl)) (fun _ _ _ h => h) (Or.inl ⟨by rfl, ?_⟩) ?_ ?_
              rotate_left; · intro w'; go_simp; with_reducible rfl
              rotate_left; · simp only [Act.put, sA, sB, sC, i64_w, i32_w, sD]; rfl
              refine pure_ (i := 33) (N := some 89) (v := ?_) (a' := ?_) (fB 41 17179869183) rfl rfl (any_of HT_.out (by kernel_rfl)) (fun _ _ _ h => h) (Or.inl ⟨by rfl, ?_⟩) ?_ ?_
              rotate_left; · intro w'; go_simp; with_reducible rfl
              rotate_left; · simp only [Act.put, sA, sB, sC, i64_w, i32_w, sD]; rfl
              refine pure_ (i := 35) (N := some 91) (v := ?_) (a' := ?_) (fB 41 51539607551) rfl rfl (any_of HT_.out (by kernel_rfl)) (fun _ _ _ h => h) (Or.inl ⟨by rfl, ?_⟩) ?_ ?_
              rotate_left; · intro w'; go_simp; with_reducible rfl
              rotate_left; · simp only [Act.put, sA, sB, sC, i64_w, i32_w, sD]; rfl
              refine take_ (i := 34) (N := some 90) (v := ?_) (a' := ?_) (fB 41 68719476735) rfl rfl (take_ofW HT_.out HW_.out (by kernel_rfl)) (fun _ _ _ h => h) (Or.inl ⟨by rfl, ?_⟩) hHeld ?_ ?_
              rotate_left; · rintro w' ⟨s0, s1, s2, s3, s4, s5, s6, s7⟩; go_simp; with_reducible rfl
              rotate_left; · simp only [Act.put, sA, sB, sC, i64_w, i32_w, sD]; rfl
              refine pure_ (i := 36) (N := some 92) (v := ?_) (a' := ?_) (fB 41 137438953471) rfl rfl (any_of HT_.out (by kernel_rfl)) (fun _ _ _ h => h) (Or.inl ⟨by rfl, ?_⟩) ?_ ?_
              rotate_left; · intro w'; go_simp; with_reducible rfl
              rotate_left; · simp only [Act.put, sA, sB, sC, i64_w, i32_w, sD]; rfl
              refine take_ (i := 37) (N := some 93) (v := ?_) (a' := ?_) (fB 41 274877906943) rfl rfl (take_ofW HT_.out HW_.out (by kernel_rfl)) (fun _ _ _ h => h) (Or.inl ⟨by rfl, ?_⟩) hHeld ?_ ?_
              rotate_left; · rintro w' ⟨s0, s1, s2, s3, s4, s5, s6, s7⟩; go_simp; with_reducible rfl
              rotate_left; · simp only [Act.put, sA, sB, sC, i64_w, i32_w, sD]; rfl
              refine one_ (i := 38) (N := some 94) (fB 41 549755813887) rfl rfl (one_of HT_.out (by kernel_rfl)) (by decide) (fun K hK => ?_)
              refine goes_ Tryd.func36 (by kernel_rfl) rfl #[.agg #[.int .i64 ((rd_T45 l0_3 x4_3).f0), .int .i64 ((rd_T45 l0_3 x4_3).f1)]] (by rfl) rfl rfl (by (try simp only [List.map_toArray, List.map_cons, List.map_nil]); first | done | rfl | (simp only [List.length_drop, List.length_take]; rfl)) ?_
              with_reducible refine (mosaicref17_Check.calls ((rd_T45 l0_3 x4_3).f0) ((rd_T45 l0_3 x4_3).f1) false _ A47.out).mono ?_
              rintro e w54 ⟨rfl, hb⟩
              refine ⟨_, rfl, ?_⟩
              have n0_ := bB BK151 hb
              have n1_ := hS HB hb
              clear BK151
              clear HB
              have BK151 := n0_
              have HB := n1_
              clear n0_ n1_
              (try clear hb); (try clear hb2); (try clear hk); (try clear hi)
              refine hK.out _ _ ⟨(blk_cell BK151.out 0).trans rfl, (blk_cell BK151.out 1).trans rfl, (blk_cell BK151.out 2).trans rfl, (blk_cell BK151.out 3).trans rfl, ((HB.out.cell (World.block_lt_of_cell? w _ hw152_0)).trans hw152_0), ((HB.out.cell (World.block_lt_of_cell? w _ hw153_0)).trans hw153_0), ((HB.out.cell (World.block_lt_of_cell? w _ hw158_0)).trans hw158_0), ((HB.out.cell (World.block_lt_of_cell? w _ hw158_1)).trans hw158_1)⟩ (fun hHeld => ?_)
              clear hK K
              refine norm_ (a' := ?_) ?_ ?_
              rotate_left; · show Act.put _ (some 94) _ = _; simp only [Act.put, sA, sB, sC, i64_w, i32_w, sD]; rfl
              refine pure_ (i := 39) (N := some 95) (v := ?_) (a' := ?_) (fB 41 1099511627775) rfl rfl (any_of HT_.out (by kernel_rfl)) (fun _ _ _ h => h) (Or.inl ⟨by rfl, ?_⟩) ?_ ?_
              rotate_left; · intro w'; go_simp; with_reducible rfl
              rotate_left; · simp only [Act.put, sA, sB, sC, i64_w, i32_w, sD]; rfl
              refine pure_ (i := 40) (N := some 96) (v := ?_) (a' := ?_) (fB 41 2199023255551) rfl rfl (any_of HT_.out (by kernel_rfl)) (fun _ _ _ h => h) (Or.inl ⟨by rfl, ?_⟩) ?_ ?_
              rotate_left; · intro w'; go_simp; with_reducible rfl
              rotate_left; · simp only [Act.put, sA, sB, sC, i64_w, i32_w, sD]; rfl
              refine done_ (done_of HT_.out (by kernel_rfl)) ?_
              try go_wp2
              go_ret
              exact ⟨by first | rfl | (simp [errW_none, errW_some] <;> rfl) | (simp [*, errW_none, errW_some] <;> rfl), by repeat (first | (with_reducible first | exact HB.out | apply below_alloc | apply pw_below_drewN | apply below_drew1 | refine below_set ?_ GE151.out) | exact HB.out)⟩
         ·
          rw [if_neg c22] at H
          have c22b0 : decide (x4_3 < (l0_2.length : Int)) = false := decide_eq_false c22
          clear c22
          obtain rfl := Option.some.inj H
          have hcz55_0 : wr.cell? ⟨gb151, 0, none⟩ = some (.string a0_0) := (blk_cell BK151.out 0).trans rfl
          have hcz55_1 : wr.cell? ⟨gb151, 1, none⟩ = some (.string a0_1) := (blk_cell BK151.out 1).trans rfl
          have hcz55_2 : wr.cell? ⟨gb151, 2, none⟩ = some (.slice A0_2 l0_2.length c0_2) := (blk_cell BK151.out 2).trans rfl
          have hcz55_3 : wr.cell? ⟨gb151, 3, none⟩ = some (.slice A0_3 l0_3.length c0_3) := (blk_cell BK151.out 3).trans rfl
          have hfz55_0 := blk_frozen BK151.out 0
          have hfz55_1 := blk_frozen BK151.out 1
          have hfz55_2 := blk_frozen BK151.out 2
          have hfz55_3 := blk_frozen BK151.out 3
          go_wp2
          go_ret
          exact ⟨by first | rfl | (simp [errW_none, errW_some] <;> rfl) | (simp [*, errW_none, errW_some] <;> rfl), by repeat (first | (with_reducible first | exact HB.out | apply below_alloc | apply pw_below_drewN | apply below_drew1 | refine below_set ?_ GE151.out) | exact HB.out)⟩

end Go.Proofs.YtdccglkmkahblaaDoor.P
