-- Written for this claim by the session's own turn of the kit's print program (wip/tools/xprint.py).
import Derived.Test.YtmimnlbkllgfpaaGreatDoorSg
import Derived.Test.YtmimnlbkllgfpaaGreatDoorAx0
import Derived.Test.YtmimnlbkllgfpaaGreatDoorAx11
import Derived.Test.YtmimnlbkllgfpaaGreatDoorAx12
import Derived.Test.YtmimnlbkllgfpaaGreatDoorAx13
namespace Go.Proofs.YtmimnlbkllgfpaaGreatDoor.A
open Go.RowKit Go.Proofs.YtmimnlbkllgfpaaGreatDoor.Sg Go.Proofs.YtmimnlbkllgfpaaGreatDoor.Fl Go.Proofs.YtmimnlbkllgfpaaGreatDoor.Sq Go.Proofs.YtmimnlbkllgfpaaGreatDoor.Hand Go.Proofs.YtmimnlbkllgfpaaGreatDoorW.PrintWords Go.Proofs.YtmimnlbkllgfpaaGreatDoorW.PrintLast Go.Proofs.YtmimnlbkllgfpaaGreatDoorW.PrintMore
attribute [local go_sem] max2_int min2_int max_two min_two max_three min_three max_four min_four   -- for this text's walks alone
set_option linter.unusedVariables false
set_option linter.unusedSimpArgs false

/-! ### mosaicref29_Text: function 43 -/
mutual
def mosaicref29_Text.j0 : Nat → ByteArray → ByteArray → ByteArray → ByteArray → List Int → List (S40) → Option (ByteArray × Int)
 | 0, _, _, _, _, _, _ => none
 | k + 1, x4, x5, x259000, x259001, x259002, x259003 => mosaicref29_Text.l0 k x4 x5 0 x259000 x259001 x259002 x259003
def mosaicref29_Text.l0 : Nat → ByteArray → ByteArray → Int → ByteArray → ByteArray → List Int → List (S40) → Option (ByteArray × Int)
 | 0, _, _, _, _, _, _, _ => none
 | k + 1, x4, x5, x6, x259000, x259001, x259002, x259003 => if x6 < (x259002.length : Int) then (mosaicref29_Text.j2 k x4 x5 x6 (decide (x6 < (x259003.length : Int))) x259000 x259001 x259002 x259003) else (mosaicref29_Text.j2 k x4 x5 x6 false x259000 x259001 x259002 x259003)
def mosaicref29_Text.j2 : Nat → ByteArray → ByteArray → Int → Bool → ByteArray → ByteArray → List Int → List (S40) → Option (ByteArray × Int)
 | 0, _, _, _, _, _, _, _, _ => none
 | k + 1, x4, x5, x6, x36, x259000, x259001, x259002, x259003 => if x36 = true then (if x4.size + x5.size ≤ 9223372036854775807 then (if (x4 ++ x5).size + 5 ≤ 9223372036854775807 then (if 0 ≤ x6 then (if x6 < (x259002.length : Int) then ((mosaicref23_Num.f k (rd x259002 x6)).bind fun t263 => (if ((x4 ++ x5) ++ (⟨#[110, 111, 100, 101, 61]⟩ : ByteArray)).size + t263.size ≤ 9223372036854775807 then (if (((x4 ++ x5) ++ (⟨#[110, 111, 100, 101, 61]⟩ : ByteArray)) ++ t263).size + 1 ≤ 9223372036854775807 then (if x6 < (x259003.length : Int) then ((mosaicref23_Num.f k ((rd_T40 x259003 x6).f0)).bind fun t265 => (if ((((x4 ++ x5) ++ (⟨#[110, 111, 100, 101, 61]⟩ : ByteArray)) ++ t263) ++ (⟨#[44]⟩ : ByteArray)).size + t265.size ≤ 9223372036854775807 then (if (((((x4 ++ x5) ++ (⟨#[110, 111, 100, 101, 61]⟩ : ByteArray)) ++ t263) ++ (⟨#[44]⟩ : ByteArray)) ++ t265).size + 1 ≤ 9223372036854775807 then ((mosaicref23_Num.f k ((rd_T40 x259003 x6).f1)).bind fun t267 => (if ((((((x4 ++ x5) ++ (⟨#[110, 111, 100, 101, 61]⟩ : ByteArray)) ++ t263) ++ (⟨#[44]⟩ : ByteArray)) ++ t265) ++ (⟨#[44]⟩ : ByteArray)).size + t267.size ≤ 9223372036854775807 then (mosaicref29_Text.l0 k (((((((x4 ++ x5) ++ (⟨#[110, 111, 100, 101, 61]⟩ : ByteArray)) ++ t263) ++ (⟨#[44]⟩ : ByteArray)) ++ t265) ++ (⟨#[44]⟩ : ByteArray)) ++ t267) (⟨#[38]⟩ : ByteArray) (wrap64 (x6 + 1)) x259000 x259001 x259002 x259003) else (none))) else (none)) else (none))) else (none)) else (none)) else (none))) else (none)) else (none)) else (none)) else (none)) else (some (x4, 0))
end
def mosaicref29_Text.f (k : Nat) (a0_0 : ByteArray) (a0_1 : ByteArray) (l0_2 : List Int) (l0_3 : List (S40)) : Option (ByteArray × Int) := (mosaicref29_Check.f k a0_0 a0_1 l0_2 l0_3).bind fun t259 => (if t259 = true then ((mosaicref29_Base32.f k a0_0).bind fun t260 => (if 7 + t260.size ≤ 9223372036854775807 then (if a0_1.toList = ([] : List UInt8) then (mosaicref29_Text.j0 k ((⟨#[109, 111, 115, 97, 105, 99, 58]⟩ : ByteArray) ++ t260) (⟨#[63]⟩ : ByteArray) a0_0 a0_1 l0_2 l0_3) else (if ((⟨#[109, 111, 115, 97, 105, 99, 58]⟩ : ByteArray) ++ t260).size + 1 ≤ 9223372036854775807 then (if (((⟨#[109, 111, 115, 97, 105, 99, 58]⟩ : ByteArray) ++ t260) ++ (⟨#[63]⟩ : ByteArray)).size + 6 ≤ 9223372036854775807 then ((mosaicref29_Escape.f k a0_1).bind fun t261 => (if ((((⟨#[109, 111, 115, 97, 105, 99, 58]⟩ : ByteArray) ++ t260) ++ (⟨#[63]⟩ : ByteArray)) ++ (⟨#[116, 105, 116, 108, 101, 61]⟩ : ByteArray)).size + t261.size ≤ 9223372036854775807 then (mosaicref29_Text.j0 k (((((⟨#[109, 111, 115, 97, 105, 99, 58]⟩ : ByteArray) ++ t260) ++ (⟨#[63]⟩ : ByteArray)) ++ (⟨#[116, 105, 116, 108, 101, 61]⟩ : ByteArray)) ++ t261) (⟨#[38]⟩ : ByteArray) a0_0 a0_1 l0_2 l0_3) else (none))) else (none)) else (none))) else (none))) else (some ((⟨#[]⟩ : ByteArray), 1)))
def mosaicref29_Text.T11 : Bool × List (List Nat × List Nat) := (true, [([], []), ([], []), ([0, 1], [0, 1]), ([2], [2]), ([], []), ([4], [4]), ([], []), ([5, 6], [5, 6]), ([7], [7]), ([8], [8]), ([3, 9], [3, 9]), ([10], [10]), ([], []), ([12], [12]), ([], []), ([13, 14], [13, 14]), ([15], [15]), ([16], [16]), ([17, 9], [17]), ([11, 18], [11, 18]), ([19], [19]), ([], []), ([21], [21]), ([], []), ([22, 23], [22, 23]), ([24], [24]), ([25], [25]), ([26, 18], [26]), ([20, 27], [20, 27]), ([28, 27, 0, 1, 2, 3, 4, 5, 6, 7, 8, 9, 10, 11, 12, 13, 14, 15, 16, 17, 18, 19, 20, 21, 22, 23, 24, 25, 26, 27, 28], [0, 28])])
def mosaicref29_Text.B11 : List Nat := [0, 0, 3, 7, 0, 16, 0, 112, 240, 496, 1023, 2047, 0, 4096, 0, 28672, 61440, 126976, 259056, 524287, 1048575, 0, 2097152, 0, 14680064, 31457280, 65011712, 132641776, 268435455, 536870911]
theorem mosaicref29_Text.tab11 : rtab .any (opsOf Tryz.f43 11) = mosaicref29_Text.T11 := by kernel_rfl
theorem mosaicref29_Text.bits11 : waitsOk mosaicref29_Text.T11.2 mosaicref29_Text.B11 = true := by kernel_rfl
namespace BAx14
theorem b0 {p : Prop} (h : p := by repeat (first | (with_reducible first | exact HB.out | apply below_alloc | apply pw_below_drewN | apply below_drew1 | refine below_set ?_ GE258.out) | exact HB.out)) : p := h
theorem b1 {p : Prop} (h : p := by (try simp only [List.map_toArray, List.map_cons, List.map_nil]); first | done | rfl | (simp only [List.length_drop, List.length_take]; rfl)) : p := h
theorem b2 {p : Prop} (h : p := by (with_reducible repeat (first | refine blk_drewN ?_ _ | refine blk_drew ?_ | refine blk_alloc ?_ _)); exact BK258.out) : p := h
theorem b3 {p : Prop} (h : p := by first | rfl | (simp; done) | (simp [*]; done)) : p := h
theorem b4 {p : Prop} (h : p := by repeat (first | (with_reducible first | exact HB.out | apply below_alloc | apply pw_below_drewN | apply below_drew1) | exact HB.out)) : p := h
theorem b5 {p : Prop} (h : p := by first | (with_reducible assumption) | assumption) : p := h
end BAx14
open BAx14
set_option maxHeartbeats 8000000 in
set_option maxRecDepth 100000 in
theorem mosaicref29_Text.calls (k : Nat) (a0_0 : ByteArray) (a0_1 : ByteArray) (A0_2 : Option Addr) (c0_2 : Nat) (l0_2 : List Int) (A0_3 : Option Addr) (c0_3 : Nat) (l0_3 : List (S40)) (r1 : ByteArray) (r2 : Int) (w : World) (hr0_2 : Kd.C (Kd.int .i64) w A0_2 l0_2.length l0_2) (hc0_2 : l0_2.length ≤ c0_2) (hr0_3 : Kd.C k40 w A0_3 l0_3.length l0_3) (hc0_3 : l0_3.length ≤ c0_3) (h : mosaicref29_Text.f k a0_0 a0_1 l0_2 l0_3 = some (r1, r2)) :
  Calls Tryz.prog 43 #[.agg #[.string a0_0, .string a0_1, .slice A0_2 l0_2.length c0_2, .slice A0_3 l0_3.length c0_3]] w fun e w' => e = .returned (.tuple #[.string r1, .int .i64 r2]) ∧ Below w.heap.size w w' := by
 have hu95 := Tryz.underlying95
 have HR0_2 := Aside0.mk hr0_2
 have HC0_2 := Aside0.mk hc0_2
 clear hr0_2 hc0_2
 have HR0_3 := Aside0.mk hr0_3
 have HC0_3 := Aside0.mk hc0_3
 clear hr0_3 hc0_3
 have HB := Aside0.mk (Below.refl w.heap.size w)
 have H : ((mosaicref29_Check.f k a0_0 a0_1 l0_2 l0_3).bind fun t259 => (if t259 = true then ((mosaicref29_Base32.f k a0_0).bind fun t260 => (if 7 + t260.size ≤ 9223372036854775807 then (if a0_1.toList = ([] : List UInt8) then (mosaicref29_Text.j0 k ((⟨#[109, 111, 115, 97, 105, 99, 58]⟩ : ByteArray) ++ t260) (⟨#[63]⟩ : ByteArray) a0_0 a0_1 l0_2 l0_3) else (if ((⟨#[109, 111, 115, 97, 105, 99, 58]⟩ : ByteArray) ++ t260).size + 1 ≤ 9223372036854775807 then (if (((⟨#[109, 111, 115, 97, 105, 99, 58]⟩ : ByteArray) ++ t260) ++ (⟨#[63]⟩ : ByteArray)).size + 6 ≤ 9223372036854775807 then ((mosaicref29_Escape.f k a0_1).bind fun t261 => (if ((((⟨#[109, 111, 115, 97, 105, 99, 58]⟩ : ByteArray) ++ t260) ++ (⟨#[63]⟩ : ByteArray)) ++ (⟨#[116, 105, 116, 108, 101, 61]⟩ : ByteArray)).size + t261.size ≤ 9223372036854775807 then (mosaicref29_Text.j0 k (((((⟨#[109, 111, 115, 97, 105, 99, 58]⟩ : ByteArray) ++ t260) ++ (⟨#[63]⟩ : ByteArray)) ++ (⟨#[116, 105, 116, 108, 101, 61]⟩ : ByteArray)) ++ t261) (⟨#[38]⟩ : ByteArray) a0_0 a0_1 l0_2 l0_3) else (none))) else (none)) else (none))) else (none))) else (some ((⟨#[]⟩ : ByteArray), 1)))) = some (r1, r2) := h
 clear h
 replace H := Option.bind_eq_some_iff.mp H
 obtain ⟨t259, A20, H⟩ := H
 have A2 := Aside0.mk A20
 clear A20
 by_cases c3 : t259 = true
 ·
  subst c3
  rw [if_pos rfl] at H
  replace H := Option.bind_eq_some_iff.mp H
  obtain ⟨t260, A40, H⟩ := H
  have A4 := Aside0.mk A40
  clear A40
  by_cases c5 : 7 + t260.size ≤ 9223372036854775807
  rotate_left; · rw [if_neg c5] at H; exact absurd H (by simp)
  rw [if_pos c5] at H
  have c5b0 := eq_true c5
  have c5b1 := decide_eq_true c5
  try have c5b2 : (9223372036854775807 < 7 + t260.size) = False := eq_false (Nat.not_lt.2 c5)
  have HC6 := Aside0.mk H
  clear H
  go_enter Tryz.func43, Tryz.ntmps43
  go_upto_if 16 with (first | ((with_reducible refine gate_dst (N := 1) rfl ?_); (try (refine gate_guard (by rfl) ?_; dsimp only)); refine box_event ?hg (N := 1) ?hd (cs := #[.string a0_0, .string a0_1, .slice A0_2 l0_2.length c0_2, .slice A0_3 l0_3.length c0_3]) (t := 95) ?hr ?_; (case hd => rfl); (case hg => rfl); (case hr => first | (go_simp; done) | (go_simp; rfl)); intro gb258 hg w7 hbox hb; have BK258 := Aside0.mk (hbox); have GW258 := hG HB hg; have GE258 := hG HB hg; replace HB := hS HB hb; clear hb hbox hg; have ⟨_, _, _, _, _, _, _, _⟩ := cc4 BK258) | ((with_reducible refine gate_callee (f := 67) rfl ?_); refine goesL_ (some 8) rfl rfl Tryz.func67 (by kernel_rfl) rfl #[.agg #[.string a0_0, .string a0_1, .slice A0_2 l0_2.length c0_2, .slice A0_3 l0_3.length c0_3]] rfl b1 ?_; (with_reducible refine (mosaicref29_Check.calls k a0_0 a0_1 _ _ l0_2 _ _ l0_3 true _ ?side1 ?side2 ?side3 ?side4 A2.out).mono ?_); (case side1 => repeat (first | exact (Kd.C_below HR0_2.out HB.out) | (with_reducible refine Kd.C_alloc ?_ _) | (with_reducible refine Kd.C_drewN ?_ _) | (with_reducible refine Kd.C_drew ?_))); (case side2 => exact HC0_2.out); (case side3 => repeat (first | exact (Kd.C_below HR0_3.out HB.out) | (with_reducible refine Kd.C_alloc ?_ _) | (with_reducible refine Kd.C_drewN ?_ _) | (with_reducible refine Kd.C_drew ?_))); (case side4 => exact HC0_3.out); rintro e w9 ⟨rfl, hb⟩; refine ⟨_, rfl, ?_⟩; replace BK258 := bB BK258 hb; replace HB := hS HB hb; (try clear hb); (try clear hb2); (try clear hk); (try clear hi); have ⟨_, _, _, _, _, _, _, _⟩ := cc4 BK258) | ((with_reducible refine gate_callee (f := 68) rfl ?_); refine goesL_ (some 12) rfl rfl Tryz.func68 (by kernel_rfl) rfl #[.string a0_0] rfl b1 ?_; (with_reducible refine (mosaicref29_Base32.calls k a0_0 t260 _ A4.out).mono ?_); rintro e w' ⟨rfl, ⟨nd, rfl⟩⟩; refine ⟨_, rfl, ?_⟩))
  (try simp only [Act.put, List.setIfInBounds_toArray, List.set_cons_zero, List.set_cons_succ])
  go_cut [4, 5] (fun v4 v5 wc => ∃ (kq : Nat) (x4_5 : ByteArray) (x5_5 : ByteArray), v4 = .string x4_5 ∧ v5 = .string x5_5 ∧ Aside0 (mosaicref29_Text.j0 kq x4_5 x5_5 a0_0 a0_1 l0_2 l0_3 = some (r1, r2)) ∧ Aside0 (kq ≤ k) ∧ Aside0 (wc.heap[gb258]? = some (.cells #[.string a0_0, .string a0_1, (.slice A0_2 l0_2.length c0_2), (.slice A0_3 l0_3.length c0_3)] 95 (0, 0))) ∧ Aside0 (Below w.heap.size w wc))
  case first =>
   have H := HC6.out
   clear HC6
   by_cases c11 : a0_1.toList = ([] : List UInt8)
   ·
    rw [if_pos c11] at H
    have c11b0 := beq_iff_eq.mpr c11
    have c11b1 := bne_eq_false_iff_eq.mpr c11
    have c11b2 : a0_1.toList.isEmpty = true := by simpa using c11
    clear c11
    (first | rw [c11b0] | (simp only [i64_w, i32_w, IntKind.wrap_u8]; rw [c11b0]) | rw [c11b2] | skip)
    have H' := Aside0.mk H
    clear H
    go_wp2
    go_meet
    case rel => exact ⟨_, ((⟨#[109, 111, 115, 97, 105, 99, 58]⟩ : ByteArray) ++ t260), ((⟨#[63]⟩ : ByteArray)), b3, b3, H', ⟨by first | omega | exact Nat.le_refl _⟩, ⟨b2⟩, ⟨b0⟩⟩
   ·
    rw [if_neg c11] at H
    have c11b0 := beq_eq_false_iff_ne.mpr c11
    have c11b1 := bne_iff_ne.mpr c11
    have c11b2 : a0_1.toList.isEmpty = false := by simpa using c11
    (first | rw [c11b0] | (simp only [i64_w, i32_w, IntKind.wrap_u8]; rw [c11b0]) | rw [c11b2] | skip)
    by_cases c12 : ((⟨#[109, 111, 115, 97, 105, 99, 58]⟩ : ByteArray) ++ t260).size + 1 ≤ 9223372036854775807
    rotate_left; · rw [if_neg c12] at H; exact absurd H (by simp)
    rw [if_pos c12] at H
    have c12b0 := eq_true c12
    have c12b1 := decide_eq_true c12
    try have c12b2 : (9223372036854775807 < ((⟨#[109, 111, 115, 97, 105, 99, 58]⟩ : ByteArray) ++ t260).size + 1) = False := eq_false (Nat.not_lt.2 c12)
    try have c12b3 : (9223372036854775807 < 7 + t260.size + 1) = False := eq_false (by have h_ := c12; simp only [ByteArray.size_append] at h_; have e0_ : (⟨#[109, 111, 115, 97, 105, 99, 58]⟩ : ByteArray).size = 7 := rfl; omega)
    by_cases c13 : (((⟨#[109, 111, 115, 97, 105, 99, 58]⟩ : ByteArray) ++ t260) ++ (⟨#[63]⟩ : ByteArray)).size + 6 ≤ 9223372036854775807
    rotate_left; · rw [if_neg c13] at H; exact absurd H (by simp)
    rw [if_pos c13] at H
    have c13b0 := eq_true c13
    have c13b1 := decide_eq_true c13
    try have c13b2 : (9223372036854775807 < (((⟨#[109, 111, 115, 97, 105, 99, 58]⟩ : ByteArray) ++ t260) ++ (⟨#[63]⟩ : ByteArray)).size + 6) = False := eq_false (Nat.not_lt.2 c13)
    try have c13b3 : (9223372036854775807 < 7 + t260.size + 1 + 6) = False := eq_false (by have h_ := c13; simp only [ByteArray.size_append] at h_; have e0_ : (⟨#[109, 111, 115, 97, 105, 99, 58]⟩ : ByteArray).size = 7 := rfl; have e1_ : (⟨#[63]⟩ : ByteArray).size = 1 := rfl; omega)
    replace H := Option.bind_eq_some_iff.mp H
    obtain ⟨t261, A140, H⟩ := H
    have A14 := Aside0.mk A140
    clear A140
    by_cases c15 : ((((⟨#[109, 111, 115, 97, 105, 99, 58]⟩ : ByteArray) ++ t260) ++ (⟨#[63]⟩ : ByteArray)) ++ (⟨#[116, 105, 116, 108, 101, 61]⟩ : ByteArray)).size + t261.size ≤ 9223372036854775807
    rotate_left; · rw [if_neg c15] at H; exact absurd H (by simp)
    rw [if_pos c15] at H
    have c15b0 := eq_true c15
    have c15b1 := decide_eq_true c15
    try have c15b2 : (9223372036854775807 < ((((⟨#[109, 111, 115, 97, 105, 99, 58]⟩ : ByteArray) ++ t260) ++ (⟨#[63]⟩ : ByteArray)) ++ (⟨#[116, 105, 116, 108, 101, 61]⟩ : ByteArray)).size + t261.size) = False := eq_false (Nat.not_lt.2 c15)
    try have c15b3 : (9223372036854775807 < 7 + t260.size + 1 + 6 + t261.size) = False := eq_false (by have h_ := c15; simp only [ByteArray.size_append] at h_; have e0_ : (⟨#[109, 111, 115, 97, 105, 99, 58]⟩ : ByteArray).size = 7 := rfl; have e1_ : (⟨#[63]⟩ : ByteArray).size = 1 := rfl; have e2_ : (⟨#[116, 105, 116, 108, 101, 61]⟩ : ByteArray).size = 6 := rfl; omega)
    have H' := Aside0.mk H
    clear H
    have ⟨_, _, _, _, _, _, _, _⟩ := cc4 BK258
    go_wp2_with (first | ((with_reducible refine gate_callee (f := 69) rfl ?_); refine goesL_ (some 23) rfl rfl Tryz.func69 (by kernel_rfl) rfl #[.string a0_1] rfl b1 ?_; (with_reducible refine (mosaicref29_Escape.calls k a0_1 t261 _ A14.out).mono ?_); rintro e w17 ⟨rfl, hb⟩; refine ⟨_, rfl, ?_⟩; replace BK258 := bB BK258 hb; replace HB := Aside0.mk (below_step b0 hb); (try clear hb); (try clear hb2); (try clear hk); (try clear hi)))
    go_meet
    case rel => exact ⟨_, (((((⟨#[109, 111, 115, 97, 105, 99, 58]⟩ : ByteArray) ++ t260) ++ (⟨#[63]⟩ : ByteArray)) ++ (⟨#[116, 105, 116, 108, 101, 61]⟩ : ByteArray)) ++ t261), ((⟨#[38]⟩ : ByteArray)), b3, b3, H', ⟨by first | omega | exact Nat.le_refl _⟩, ⟨b2⟩, ⟨b0⟩⟩
  case rest =>
   clear HC6
   try clear c3
   try clear c5
   try clear c5b0
   try clear c5b1
   try clear c5b2
   try clear hcz10_0
   try clear hcz10_1
   try clear hcz10_2
   try clear hcz10_3
   try clear hcz8_0
   try clear hcz8_1
   try clear hcz8_2
   try clear hcz8_3
   try clear hfz10_0
   try clear hfz10_1
   try clear hfz10_2
   try clear hfz10_3
   try clear hfz8_0
   try clear hfz8_1
   try clear hfz8_2
   try clear hfz8_3
   obtain ⟨kq, x4_5, x5_5, rfl, rfl, HA, HJ5, BK258, HB⟩ := hcut
   cases kq with
   | zero => exact absurd HA.out (by simp [mosaicref29_Text.j0])
   | succ kj5 =>
    have H := HA.out
    clear HA
    simp only [mosaicref29_Text.j0] at H
    have H' := Aside0.mk H
    clear H
    go_wp2
    go_loopg [4, 5, 6] kj5 (fun kq v4 v5 v6 w' => ∃ (x4_2 : ByteArray) (x5_2 : ByteArray) (x6_2 : Int), v4 = .string x4_2 ∧ v5 = .string x5_2 ∧ v6 = .int .i64 x6_2 ∧ Aside0 (mosaicref29_Text.l0 kq x4_2 x5_2 x6_2 a0_0 a0_1 l0_2 l0_3 = some (r1, r2)) ∧ Aside0 (kq ≤ kj5) ∧ Aside0 (w'.heap[gb258]? = some (.cells #[.string a0_0, .string a0_1, (.slice A0_2 l0_2.length c0_2), (.slice A0_3 l0_3.length c0_3)] 95 (0, 0))) ∧ Aside0 (Below w.heap.size w w'))
    case atStart => exact ⟨(x4_5), (x5_5), (0), b3, b3, b3, H', ⟨Nat.le_refl _⟩, ⟨b2⟩, ⟨b0⟩⟩
    case round =>
     clear H'
     try clear c3
     try clear c5
     try clear c5b0
     try clear c5b1
     try clear c5b2
     try clear hcz10_0
     try clear hcz10_1
     try clear hcz10_2
     try clear hcz10_3
     try clear hcz8_0
     try clear hcz8_1
     try clear hcz8_2
     try clear hcz8_3
     try clear hfz10_0
     try clear hfz10_1
     try clear hfz10_2
     try clear hfz10_3
     try clear hfz8_0
     try clear hfz8_1
     try clear hfz8_2
     try clear hfz8_3
     obtain ⟨x4_2, x5_2, x6_2, rfl, rfl, rfl, HA, HK2, BK258, HB⟩ := hrel
     cases gk with
     | zero => exact absurd HA.out (by simp [mosaicref29_Text.l0])
     | succ k2 =>
      have H := HA.out
      clear HA
      simp only [mosaicref29_Text.l0] at H
      have HC18 := Aside0.mk H
      clear H
      go_upto_region 9 with (fail)
      go_cut [36] (fun v36 wc => ∃ (kq : Nat) (x36_17 : Bool), v36 = .bool x36_17 ∧ Aside0 (mosaicref29_Text.j2 kq x4_2 x5_2 x6_2 x36_17 a0_0 a0_1 l0_2 l0_3 = some (r1, r2)) ∧ Aside0 (kq ≤ k2) ∧ Aside0 (wc.heap[gb258]? = some (.cells #[.string a0_0, .string a0_1, (.slice A0_2 l0_2.length c0_2), (.slice A0_3 l0_3.length c0_3)] 95 (0, 0))) ∧ Aside0 (Below w.heap.size w wc))
      case first =>
       have H := HC18.out
       clear HC18
       by_cases c19 : x6_2 < (l0_2.length : Int)
       ·
        rw [if_pos c19] at H
        have c19b0 := decide_eq_true c19
        clear c19
        (first | rw [c19b0] | (simp only [i64_w, i32_w, IntKind.wrap_u8]; rw [c19b0]) | skip)
        have H' := Aside0.mk H
        clear H
        have ⟨_, _, _, _, _, _, _, _⟩ := cc4 BK258
        go_wp2
        go_meet
        case rel => exact ⟨_, (decide (x6_2 < (l0_3.length : Int))), b3, H', ⟨by have := HJ5.out; have := HK2.out; first | omega | exact Nat.le_refl _⟩, ⟨b2⟩, ⟨b0⟩⟩
       ·
        rw [if_neg c19] at H
        have c19b0 := decide_eq_false c19
        clear c19
        (first | rw [c19b0] | (simp only [i64_w, i32_w, IntKind.wrap_u8]; rw [c19b0]) | skip)
        have H' := Aside0.mk H
        clear H
        have ⟨_, _, _, _, _, _, _, _⟩ := cc4 BK258
        go_wp2
        go_meet
        case rel => exact ⟨_, (false), b3, H', ⟨by have := HJ5.out; have := HK2.out; first | omega | exact Nat.le_refl _⟩, ⟨b2⟩, ⟨b0⟩⟩
      case rest =>
       clear HC18
       try clear c3
       try clear c5
       try clear c5b0
       try clear c5b1
       try clear c5b2
       try clear hcz10_0
       try clear hcz10_1
       try clear hcz10_2
       try clear hcz10_3
       try clear hcz8_0
       try clear hcz8_1
       try clear hcz8_2
       try clear hcz8_3
       try clear hfz10_0
       try clear hfz10_1
       try clear hfz10_2
       try clear hfz10_3
       try clear hfz8_0
       try clear hfz8_1
       try clear hfz8_2
       try clear hfz8_3
       obtain ⟨kq, x36_17, rfl, HA, HJ17, BK258, HB⟩ := hcut
       cases kq with
       | zero => exact absurd HA.out (by simp [mosaicref29_Text.j2])
       | succ kj17 =>
        have H := HA.out
        clear HA
        simp only [mosaicref29_Text.j2] at H
        by_cases c22 : x36_17 = true
        ·
         subst c22
         rw [if_pos rfl] at H
         by_cases c23 : x4_2.size + x5_2.size ≤ 9223372036854775807
         rotate_left; · rw [if_neg c23] at H; exact absurd H (by simp)
         rw [if_pos c23] at H
         have c23b0 := eq_true c23
         have c23b1 := decide_eq_true c23
         try have c23b2 : (9223372036854775807 < x4_2.size + x5_2.size) = False := eq_false (Nat.not_lt.2 c23)
         by_cases c24 : (x4_2 ++ x5_2).size + 5 ≤ 9223372036854775807
         rotate_left; · rw [if_neg c24] at H; exact absurd H (by simp)
         rw [if_pos c24] at H
         have c24b0 := eq_true c24
         have c24b1 := decide_eq_true c24
         try have c24b2 : (9223372036854775807 < (x4_2 ++ x5_2).size + 5) = False := eq_false (Nat.not_lt.2 c24)
         try have c24b3 : (9223372036854775807 < x4_2.size + x5_2.size + 5) = False := eq_false (by have h_ := c24; simp only [ByteArray.size_append] at h_; omega)
         by_cases c25 : 0 ≤ x6_2
         rotate_left; · rw [if_neg c25] at H; exact absurd H (by simp)
         rw [if_pos c25] at H
         have c25b0 := decide_eq_true c25
         clear c25
         by_cases c26 : x6_2 < (l0_2.length : Int)
         rotate_left; · rw [if_neg c26] at H; exact absurd H (by simp)
         rw [if_pos c26] at H
         have c26b0 := decide_eq_true c26
         clear c26
         replace H := Option.bind_eq_some_iff.mp H
         obtain ⟨t263, A270, H⟩ := H
         have A27 := Aside0.mk A270
         clear A270
         by_cases c28 : ((x4_2 ++ x5_2) ++ (⟨#[110, 111, 100, 101, 61]⟩ : ByteArray)).size + t263.size ≤ 9223372036854775807
         rotate_left; · rw [if_neg c28] at H; exact absurd H (by simp)
         rw [if_pos c28] at H
         have c28b0 := eq_true c28
         have c28b1 := decide_eq_true c28
         try have c28b2 : (9223372036854775807 < ((x4_2 ++ x5_2) ++ (⟨#[110, 111, 100, 101, 61]⟩ : ByteArray)).size + t263.size) = False := eq_false (Nat.not_lt.2 c28)
         try have c28b3 : (9223372036854775807 < x4_2.size + x5_2.size + 5 + t263.size) = False := eq_false (by have h_ := c28; simp only [ByteArray.size_append] at h_; have e0_ : (⟨#[110, 111, 100, 101, 61]⟩ : ByteArray).size = 5 := rfl; omega)
         by_cases c29 : (((x4_2 ++ x5_2) ++ (⟨#[110, 111, 100, 101, 61]⟩ : ByteArray)) ++ t263).size + 1 ≤ 9223372036854775807
         rotate_left; · rw [if_neg c29] at H; exact absurd H (by simp)
         rw [if_pos c29] at H
         have c29b0 := eq_true c29
         have c29b1 := decide_eq_true c29
         try have c29b2 : (9223372036854775807 < (((x4_2 ++ x5_2) ++ (⟨#[110, 111, 100, 101, 61]⟩ : ByteArray)) ++ t263).size + 1) = False := eq_false (Nat.not_lt.2 c29)
         try have c29b3 : (9223372036854775807 < x4_2.size + x5_2.size + 5 + t263.size + 1) = False := eq_false (by have h_ := c29; simp only [ByteArray.size_append] at h_; have e0_ : (⟨#[110, 111, 100, 101, 61]⟩ : ByteArray).size = 5 := rfl; omega)
         by_cases c30 : x6_2 < (l0_3.length : Int)
         rotate_left; · rw [if_neg c30] at H; exact absurd H (by simp)
         rw [if_pos c30] at H
         have c30b0 := decide_eq_true c30
         clear c30
         replace H := Option.bind_eq_some_iff.mp H
         obtain ⟨t265, A310, H⟩ := H
         have A31 := Aside0.mk A310
         clear A310
         by_cases c32 : ((((x4_2 ++ x5_2) ++ (⟨#[110, 111, 100, 101, 61]⟩ : ByteArray)) ++ t263) ++ (⟨#[44]⟩ : ByteArray)).size + t265.size ≤ 9223372036854775807
         rotate_left; · rw [if_neg c32] at H; exact absurd H (by simp)
         rw [if_pos c32] at H
         have c32b0 := eq_true c32
         have c32b1 := decide_eq_true c32
         try have c32b2 : (9223372036854775807 < ((((x4_2 ++ x5_2) ++ (⟨#[110, 111, 100, 101, 61]⟩ : ByteArray)) ++ t263) ++ (⟨#[44]⟩ : ByteArray)).size + t265.size) = False := eq_false (Nat.not_lt.2 c32)
         try have c32b3 : (9223372036854775807 < x4_2.size + x5_2.size + 5 + t263.size + 1 + t265.size) = False := eq_false (by have h_ := c32; simp only [ByteArray.size_append] at h_; have e0_ : (⟨#[110, 111, 100, 101, 61]⟩ : ByteArray).size = 5 := rfl; have e1_ : (⟨#[44]⟩ : ByteArray).size = 1 := rfl; omega)
         by_cases c33 : (((((x4_2 ++ x5_2) ++ (⟨#[110, 111, 100, 101, 61]⟩ : ByteArray)) ++ t263) ++ (⟨#[44]⟩ : ByteArray)) ++ t265).size + 1 ≤ 9223372036854775807
         rotate_left; · rw [if_neg c33] at H; exact absurd H (by simp)
         rw [if_pos c33] at H
         have c33b0 := eq_true c33
         have c33b1 := decide_eq_true c33
         try have c33b2 : (9223372036854775807 < (((((x4_2 ++ x5_2) ++ (⟨#[110, 111, 100, 101, 61]⟩ : ByteArray)) ++ t263) ++ (⟨#[44]⟩ : ByteArray)) ++ t265).size + 1) = False := eq_false (Nat.not_lt.2 c33)
         try have c33b3 : (9223372036854775807 < x4_2.size + x5_2.size + 5 + t263.size + 1 + t265.size + 1) = False := eq_false (by have h_ := c33; simp only [ByteArray.size_append] at h_; have e0_ : (⟨#[110, 111, 100, 101, 61]⟩ : ByteArray).size = 5 := rfl; have e1_ : (⟨#[44]⟩ : ByteArray).size = 1 := rfl; omega)
         replace H := Option.bind_eq_some_iff.mp H
         obtain ⟨t267, A340, H⟩ := H
         have A34 := Aside0.mk A340
         clear A340
         by_cases c35 : ((((((x4_2 ++ x5_2) ++ (⟨#[110, 111, 100, 101, 61]⟩ : ByteArray)) ++ t263) ++ (⟨#[44]⟩ : ByteArray)) ++ t265) ++ (⟨#[44]⟩ : ByteArray)).size + t267.size ≤ 9223372036854775807
         rotate_left; · rw [if_neg c35] at H; exact absurd H (by simp)
         rw [if_pos c35] at H
         have c35b0 := eq_true c35
         have c35b1 := decide_eq_true c35
         try have c35b2 : (9223372036854775807 < ((((((x4_2 ++ x5_2) ++ (⟨#[110, 111, 100, 101, 61]⟩ : ByteArray)) ++ t263) ++ (⟨#[44]⟩ : ByteArray)) ++ t265) ++ (⟨#[44]⟩ : ByteArray)).size + t267.size) = False := eq_false (Nat.not_lt.2 c35)
         try have c35b3 : (9223372036854775807 < x4_2.size + x5_2.size + 5 + t263.size + 1 + t265.size + 1 + t267.size) = False := eq_false (by have h_ := c35; simp only [ByteArray.size_append] at h_; have e0_ : (⟨#[110, 111, 100, 101, 61]⟩ : ByteArray).size = 5 := rfl; have e1_ : (⟨#[44]⟩ : ByteArray).size = 1 := rfl; omega)
         have H' := Aside0.mk H
         clear H
         try go_wp2
         have n0_ := Aside0.mk (blk_drew BK258.out)
         have n1_ := Aside0.mk (below_drew1 HB.out)
         clear BK258 HB
         have BK258 := n0_
         have HB := n1_
         clear n0_ n1_
         have p262 : 0 ≤ (x6_2 : Int) := of_decide_eq_true b5
         have q262 : x6_2 < (l0_2.length : Int) := of_decide_eq_true b5
         obtain ⟨ad262, e262, hx262_0⟩ := Kd.at_int HR0_2.out x6_2 p262 q262
         have hw262_0 := hx262_0
         cases e262
         replace hx262_0 := (HB.out.cell (World.block_lt_of_cell? w _ hx262_0)).trans hx262_0
         replace p262 := eq_true p262
         replace q262 := eq_true q262
         have p264 : 0 ≤ (x6_2 : Int) := of_decide_eq_true b5
         have q264 : x6_2 < (l0_3.length : Int) := of_decide_eq_true b5
         obtain ⟨ad264, e264, hx264_0, hx264_1⟩ := at_T40 HR0_3.out x6_2 p264 q264
         have hw264_1 := hx264_1
         have hw264_0 := hx264_0
         cases e264
         replace hx264_0 := (HB.out.cell (World.block_lt_of_cell? w _ hx264_0)).trans hx264_0
         replace hx264_1 := (HB.out.cell (World.block_lt_of_cell? w _ hx264_1)).trans hx264_1
         replace p264 := eq_true p264
         replace q264 := eq_true q264
         have p266 : 0 ≤ (x6_2 : Int) := of_decide_eq_true b5
         have q266 : x6_2 < (l0_3.length : Int) := of_decide_eq_true b5
         obtain ⟨ad266, e266, hx266_0, hx266_1⟩ := at_T40 HR0_3.out x6_2 p266 q266
         have hw266_1 := hx266_1
         have hw266_0 := hx266_0
         obtain rfl : ad264 = ad266 := (by injection e266)
         replace hx266_0 := (HB.out.cell (World.block_lt_of_cell? w _ hx266_0)).trans hx266_0
         replace hx266_1 := (HB.out.cell (World.block_lt_of_cell? w _ hx266_1)).trans hx266_1
         replace p266 := eq_true p266
         replace q266 := eq_true q266
         refine start_ (n := 30) (S := fun w' => w'.cell? ⟨gb258, 0, none⟩ = some (.string a0_0) ∧ w'.cell? ⟨gb258, 1, none⟩ = some (.string a0_1) ∧ w'.cell? ⟨gb258, 2, none⟩ = some (.slice (some ad262) l0_2.length c0_2) ∧ w'.cell? ⟨gb258, 3, none⟩ = some (.slice (some ad264) l0_3.length c0_3) ∧ w'.cell? (ad262.add (x6_2).toNat) = some (.int .i64 (rd l0_2 x6_2)) ∧ w'.cell? (ad264.add ((x6_2).toNat * 2)) = some (.int .i64 ((rd_T40 l0_3 x6_2).f0)) ∧ w'.cell? ⟨(ad264.add ((x6_2).toNat * 2)).block, (ad264.add ((x6_2).toNat * 2)).off + 1, none⟩ = some (.int .i64 ((rd_T40 l0_3 x6_2).f1)) ∧ w'.cell? (ad264.add ((x6_2).toNat * 2)) = some (.int .i64 ((rd_T40 l0_3 x6_2).f0)) ∧ w'.cell? ⟨(ad264.add ((x6_2).toNat * 2)).block, (ad264.add ((x6_2).toNat * 2)).off + 1, none⟩ = some (.int .i64 ((rd_T40 l0_3 x6_2).f1))) (ds := []) (fB 30 0) (by kernel_rfl) rfl rfl ⟨(blk_cell BK258.out 0).trans rfl, (blk_cell BK258.out 1).trans rfl, (blk_cell BK258.out 2).trans rfl, (blk_cell BK258.out 3).trans rfl, ((HB.out.cell (World.block_lt_of_cell? w _ hw262_0)).trans hw262_0), ((HB.out.cell (World.block_lt_of_cell? w _ hw264_0)).trans hw264_0), ((HB.out.cell (World.block_lt_of_cell? w _ hw264_1)).trans hw264_1), ((HB.out.cell (World.block_lt_of_cell? w _ hw266_0)).trans hw266_0), ((HB.out.cell (World.block_lt_of_cell? w _ hw266_1)).trans hw266_1)⟩ (fun hHeld => ?_); refine with_tabW mosaicref29_Text.tab11 mosaicref29_Text.bits11 (fun HT_ HW_ => ?_)
         generalize wc.drew = w36 at BK258 HB hx262_0 hx264_0 hx264_1 hx266_0 hx266_1 hHeld ⊢
         refine pS 0 39 30 1 HT_ ?_
         refine pS 1 40 30 3 HT_ ?_
         refine pS 2 41 30 7 HT_ ?_
         refine pS 3 42 30 15 HT_ ?_
         refine pS 4 43 30 31 HT_ ?_
         refine pS 6 45 30 95 HT_ ?_
         refine pS 12 51 30 4191 HT_ ?_
         refine pS 14 53 30 20575 HT_ ?_
         refine pS 21 60 30 2117727 HT_ ?_
         refine pS 23 62 30 10506335 HT_ ?_
         refine tS 5 44 30 10506367 HT_ HW_ hHeld ?_
         refine pS 7 46 30 10506495 HT_ ?_
         refine tS 8 47 30 10506751 HT_ HW_ hHeld ?_
         refine tS 13 52 30 10514943 HT_ HW_ hHeld ?_
         refine pS 15 54 30 10547711 HT_ ?_
         refine pS 16 55 30 10613247 HT_ ?_
         refine tS 17 56 30 10744319 HT_ HW_ hHeld ?_
         refine tS 22 61 30 14938623 HT_ HW_ hHeld ?_
         refine pS 24 63 30 31715839 HT_ ?_
         refine pS 25 64 30 65270271 HT_ ?_
         refine tS 26 65 30 132379135 HT_ HW_ hHeld ?_
         refine one_ (i := 9) (N := some 48) (fB 30 132379647) rfl rfl (one_of HT_.out (by kernel_rfl)) (by decide) (fun K hK => ?_)
         refine goes_ Tryz.func70 (by kernel_rfl) rfl #[.int .i64 (rd l0_2 x6_2)] (by rfl) rfl rfl b1 ?_
         with_reducible refine (mosaicref23_Num.calls kj17 (rd l0_2 x6_2) t263 _ A27.out).mono ?_
         rintro e w37 ⟨rfl, hb⟩
         refine ⟨_, rfl, ?_⟩
         have n0_ := bB BK258 hb
         have n1_ := hS HB hb
         clear BK258 HB
         have BK258 := n0_
         have HB := n1_
         clear n0_ n1_
         (try clear hb); (try clear hb2); (try clear hk); (try clear hi)
         refine hK.out _ _ ⟨(blk_cell BK258.out 0).trans rfl, (blk_cell BK258.out 1).trans rfl, (blk_cell BK258.out 2).trans rfl, (blk_cell BK258.out 3).trans rfl, ((HB.out.cell (World.block_lt_of_cell? w _ hw262_0)).trans hw262_0), ((HB.out.cell (World.block_lt_of_cell? w _ hw264_0)).trans hw264_0), ((HB.out.cell (World.block_lt_of_cell? w _ hw264_1)).trans hw264_1), ((HB.out.cell (World.block_lt_of_cell? w _ hw266_0)).trans hw266_0), ((HB.out.cell (World.block_lt_of_cell? w _ hw266_1)).trans hw266_1)⟩ (fun hHeld => ?_)
         clear hK K
         refine norm_ (a' := ?_) ?_ ?_
         rotate_left; · show Act.put _ (some 48) _ = _; simp only [Act.put, sA, sB, sC, i64_w, i32_w, sD]; rfl
         refine pS 10 49 30 132380671 HT_ ?_
         refine pS 11 50 30 132382719 HT_ ?_
         refine one_ (i := 18) (N := some 57) (fB 30 132644863) rfl rfl (one_of HT_.out (by kernel_rfl)) (by decide) (fun K hK => ?_)
         refine goes_ Tryz.func70 (by kernel_rfl) rfl #[.int .i64 ((rd_T40 l0_3 x6_2).f0)] (by rfl) rfl rfl b1 ?_
         with_reducible refine (mosaicref23_Num.calls kj17 ((rd_T40 l0_3 x6_2).f0) t265 _ A31.out).mono ?_
         rintro e w38 ⟨rfl, hb⟩
         refine ⟨_, rfl, ?_⟩
         have n0_ := bB BK258 hb
         have n1_ := hS HB hb
         clear BK258 HB
         have BK258 := n0_
         have HB := n1_
         clear n0_ n1_
         (try clear hb); (try clear hb2); (try clear hk); (try clear hi)
         refine hK.out _ _ ⟨(blk_cell BK258.out 0).trans rfl, (blk_cell BK258.out 1).trans rfl, (blk_cell BK258.out 2).trans rfl, (blk_cell BK258.out 3).trans rfl, ((HB.out.cell (World.block_lt_of_cell? w _ hw262_0)).trans hw262_0), ((HB.out.cell (World.block_lt_of_cell? w _ hw264_0)).trans hw264_0), ((HB.out.cell (World.block_lt_of_cell? w _ hw264_1)).trans hw264_1), ((HB.out.cell (World.block_lt_of_cell? w _ hw266_0)).trans hw266_0), ((HB.out.cell (World.block_lt_of_cell? w _ hw266_1)).trans hw266_1)⟩ (fun hHeld => ?_)
         clear hK K
         refine norm_ (a' := ?_) ?_ ?_
         rotate_left; · show Act.put _ (some 57) _ = _; simp only [Act.put, sA, sB, sC, i64_w, i32_w, sD]; rfl
         refine pS 19 58 30 133169151 HT_ ?_
         refine pS 20 59 30 134217727 HT_ ?_
         refine one_ (i := 27) (N := some 66) (fB 30 268435455) rfl rfl (one_of HT_.out (by kernel_rfl)) (by decide) (fun K hK => ?_)
         refine goes_ Tryz.func70 (by kernel_rfl) rfl #[.int .i64 ((rd_T40 l0_3 x6_2).f1)] (by rfl) rfl rfl b1 ?_
         with_reducible refine (mosaicref23_Num.calls kj17 ((rd_T40 l0_3 x6_2).f1) t267 _ A34.out).mono ?_
         rintro e w39 ⟨rfl, hb⟩
         refine ⟨_, rfl, ?_⟩
         have n0_ := bB BK258 hb
         have n1_ := hS HB hb
         clear BK258 HB
         have BK258 := n0_
         have HB := n1_
         clear n0_ n1_
         (try clear hb); (try clear hb2); (try clear hk); (try clear hi)
         refine hK.out _ _ ⟨(blk_cell BK258.out 0).trans rfl, (blk_cell BK258.out 1).trans rfl, (blk_cell BK258.out 2).trans rfl, (blk_cell BK258.out 3).trans rfl, ((HB.out.cell (World.block_lt_of_cell? w _ hw262_0)).trans hw262_0), ((HB.out.cell (World.block_lt_of_cell? w _ hw264_0)).trans hw264_0), ((HB.out.cell (World.block_lt_of_cell? w _ hw264_1)).trans hw264_1), ((HB.out.cell (World.block_lt_of_cell? w _ hw266_0)).trans hw266_0), ((HB.out.cell (World.block_lt_of_cell? w _ hw266_1)).trans hw266_1)⟩ (fun hHeld => ?_)
         clear hK K
         refine norm_ (a' := ?_) ?_ ?_
         rotate_left; · show Act.put _ (some 66) _ = _; simp only [Act.put, sA, sB, sC, i64_w, i32_w, sD]; rfl
         refine pS 28 67 30 536870911 HT_ ?_
         refine pS 29 4 30 1073741823 HT_ ?_
         refine done_ (done_of HT_.out (by kernel_rfl)) ?_
         try go_wp2
         go_roundg kj17
         case measure => have := HJ5.out; have := HK2.out; have := HJ17.out; omega
         case rel => exact ⟨(((((((x4_2 ++ x5_2) ++ (⟨#[110, 111, 100, 101, 61]⟩ : ByteArray)) ++ t263) ++ (⟨#[44]⟩ : ByteArray)) ++ t265) ++ (⟨#[44]⟩ : ByteArray)) ++ t267), ((⟨#[38]⟩ : ByteArray)), (wrap64 (x6_2 + 1)), b3, b3, b3, H', ⟨by have := HJ5.out; have := HK2.out; have := HJ17.out; omega⟩, ⟨b2⟩, ⟨b0⟩⟩
        ·
         replace c22 := Bool.eq_false_iff.mpr c22
         subst c22
         rw [if_neg (show ¬ (false = true) by decide)] at H
         simp only [Option.some.injEq, Prod.mk.injEq] at H
         obtain ⟨rfl, rfl⟩ := H
         go_wp2
         go_ret2
         exact ⟨by first | rfl | (simp [errW_none, errW_some] <;> rfl) | (simp [*, errW_none, errW_some] <;> rfl), b0⟩
 ·
  replace c3 := Bool.eq_false_iff.mpr c3
  subst c3
  rw [if_neg (show ¬ (false = true) by decide)] at H
  simp only [Option.some.injEq, Prod.mk.injEq] at H
  obtain ⟨rfl, rfl⟩ := H
  go_enter Tryz.func43, Tryz.ntmps43
  go_wp2_with (first | ((with_reducible refine gate_dst (N := 1) rfl ?_); (try (refine gate_guard (by rfl) ?_; dsimp only)); refine box_event ?hg (N := 1) ?hd (cs := #[.string a0_0, .string a0_1, .slice A0_2 l0_2.length c0_2, .slice A0_3 l0_3.length c0_3]) (t := 95) ?hr ?_; (case hd => rfl); (case hg => rfl); (case hr => first | (go_simp; done) | (go_simp; rfl)); intro gb258 hg w40 hbox hb; have BK258 := Aside0.mk (hbox); have GW258 := Aside0.mk ((by rw [hg]; exact (below_size b4) : w.heap.size ≤ gb258)); have GE258 := Aside0.mk ((by rw [hg]; exact (below_size b4) : w.heap.size ≤ gb258)); replace HB := Aside0.mk (below_step b4 hb); clear hb hbox hg; have ⟨_, _, _, _, _, _, _, _⟩ := cc4 BK258) | ((with_reducible refine gate_callee (f := 67) rfl ?_); refine goesL_ (some 8) rfl rfl Tryz.func67 (by kernel_rfl) rfl #[.agg #[.string a0_0, .string a0_1, .slice A0_2 l0_2.length c0_2, .slice A0_3 l0_3.length c0_3]] rfl b1 ?_; (with_reducible refine (mosaicref29_Check.calls k a0_0 a0_1 _ _ l0_2 _ _ l0_3 false _ ?side1 ?side2 ?side3 ?side4 A2.out).mono ?_); (case side1 => repeat (first | exact (Kd.C_below HR0_2.out HB.out) | (with_reducible refine Kd.C_alloc ?_ _) | (with_reducible refine Kd.C_drewN ?_ _) | (with_reducible refine Kd.C_drew ?_))); (case side2 => exact HC0_2.out); (case side3 => repeat (first | exact (Kd.C_below HR0_3.out HB.out) | (with_reducible refine Kd.C_alloc ?_ _) | (with_reducible refine Kd.C_drewN ?_ _) | (with_reducible refine Kd.C_drew ?_))); (case side4 => exact HC0_3.out); rintro e w42 ⟨rfl, hb⟩; refine ⟨_, rfl, ?_⟩; replace BK258 := bB BK258 hb; replace HB := Aside0.mk (below_step b0 hb); (try clear hb); (try clear hb2); (try clear hk); (try clear hi)))
  go_ret2
  exact ⟨by first | rfl | (simp [errW_none, errW_some] <;> rfl) | (simp [*, errW_none, errW_some] <;> rfl), b0⟩

end Go.Proofs.YtmimnlbkllgfpaaGreatDoor.A
