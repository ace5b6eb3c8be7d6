-- Written for this claim by the session's own turn of the kit's print program (wip/tools/xprint.py).
import Derived.Test.YtdccglkmkahblaaDoorPx0
import Derived.Test.YtdccglkmkahblaaDoorPx6
import Derived.Test.YtdccglkmkahblaaDoorPx8
namespace Go.Proofs.YtdccglkmkahblaaDoor.P
open Go.RowKit Go.Proofs.YtdccglkmkahblaaDoor.Sq Go.Proofs.YtdccglkmkahblaaDoor.Hand Go.Proofs.YtdccglkmkahblaaDoorW.PrintWords Go.Proofs.YtdccglkmkahblaaDoorW.PrintLast Go.Proofs.YtdccglkmkahblaaDoorW.PrintMore
attribute [local go_sem] max2_int min2_int max_two min_two max_three min_three max_four min_four   -- for this text's walks alone
set_option linter.unusedVariables false
set_option linter.unusedSimpArgs false

/-! ### mosaicref29_Text: function 12 -/
mutual
def mosaicref29_Text.j0 : Nat → ByteArray → ByteArray → ByteArray → ByteArray → List Int → List (S45) → Option (ByteArray × Int)
 | 0, _, _, _, _, _, _ => none
 | k + 1, x4, x5, x180000, x180001, x180002, x180003 => mosaicref29_Text.l0 k x4 x5 0 x180000 x180001 x180002 x180003
def mosaicref29_Text.l0 : Nat → ByteArray → ByteArray → Int → ByteArray → ByteArray → List Int → List (S45) → Option (ByteArray × Int)
 | 0, _, _, _, _, _, _, _ => none
 | k + 1, x4, x5, x6, x180000, x180001, x180002, x180003 => if x6 < (x180002.length : Int) then (mosaicref29_Text.j2 k x4 x5 x6 (decide (x6 < (x180003.length : Int))) x180000 x180001 x180002 x180003) else (mosaicref29_Text.j2 k x4 x5 x6 false x180000 x180001 x180002 x180003)
def mosaicref29_Text.j2 : Nat → ByteArray → ByteArray → Int → Bool → ByteArray → ByteArray → List Int → List (S45) → Option (ByteArray × Int)
 | 0, _, _, _, _, _, _, _, _ => none
 | k + 1, x4, x5, x6, x36, x180000, x180001, x180002, x180003 => if x36 = true then (if x4.size + x5.size ≤ 9223372036854775807 then (if (x4 ++ x5).size + 5 ≤ 9223372036854775807 then (if 0 ≤ x6 then (if x6 < (x180002.length : Int) then ((mosaicref23_Num.f k (rd x180002 x6)).bind fun t184 => (if ((x4 ++ x5) ++ (⟨#[110, 111, 100, 101, 61]⟩ : ByteArray)).size + t184.size ≤ 9223372036854775807 then (if (((x4 ++ x5) ++ (⟨#[110, 111, 100, 101, 61]⟩ : ByteArray)) ++ t184).size + 1 ≤ 9223372036854775807 then (if x6 < (x180003.length : Int) then ((mosaicref23_Num.f k ((rd_T45 x180003 x6).f0)).bind fun t186 => (if ((((x4 ++ x5) ++ (⟨#[110, 111, 100, 101, 61]⟩ : ByteArray)) ++ t184) ++ (⟨#[44]⟩ : ByteArray)).size + t186.size ≤ 9223372036854775807 then (if (((((x4 ++ x5) ++ (⟨#[110, 111, 100, 101, 61]⟩ : ByteArray)) ++ t184) ++ (⟨#[44]⟩ : ByteArray)) ++ t186).size + 1 ≤ 9223372036854775807 then ((mosaicref23_Num.f k ((rd_T45 x180003 x6).f1)).bind fun t188 => (if ((((((x4 ++ x5) ++ (⟨#[110, 111, 100, 101, 61]⟩ : ByteArray)) ++ t184) ++ (⟨#[44]⟩ : ByteArray)) ++ t186) ++ (⟨#[44]⟩ : ByteArray)).size + t188.size ≤ 9223372036854775807 then (mosaicref29_Text.l0 k (((((((x4 ++ x5) ++ (⟨#[110, 111, 100, 101, 61]⟩ : ByteArray)) ++ t184) ++ (⟨#[44]⟩ : ByteArray)) ++ t186) ++ (⟨#[44]⟩ : ByteArray)) ++ t188) (⟨#[38]⟩ : ByteArray) (wrap64 (x6 + 1)) x180000 x180001 x180002 x180003) else (none))) else (none)) else (none))) else (none)) else (none)) else (none))) else (none)) else (none)) else (none)) else (none)) else (some (x4, 0))
end
def mosaicref29_Text.f (k : Nat) (a0_0 : ByteArray) (a0_1 : ByteArray) (l0_2 : List Int) (l0_3 : List (S45)) : Option (ByteArray × Int) := (mosaicref29_Check.f k a0_0 a0_1 l0_2 l0_3).bind fun t180 => (if t180 = true then ((mosaicref29_Base32.f k a0_0).bind fun t181 => (if 7 + t181.size ≤ 9223372036854775807 then (if a0_1.toList = ([] : List UInt8) then (mosaicref29_Text.j0 k ((⟨#[109, 111, 115, 97, 105, 99, 58]⟩ : ByteArray) ++ t181) (⟨#[63]⟩ : ByteArray) a0_0 a0_1 l0_2 l0_3) else (if ((⟨#[109, 111, 115, 97, 105, 99, 58]⟩ : ByteArray) ++ t181).size + 1 ≤ 9223372036854775807 then (if (((⟨#[109, 111, 115, 97, 105, 99, 58]⟩ : ByteArray) ++ t181) ++ (⟨#[63]⟩ : ByteArray)).size + 6 ≤ 9223372036854775807 then ((mosaicref29_Escape.f k a0_1).bind fun t182 => (if ((((⟨#[109, 111, 115, 97, 105, 99, 58]⟩ : ByteArray) ++ t181) ++ (⟨#[63]⟩ : ByteArray)) ++ (⟨#[116, 105, 116, 108, 101, 61]⟩ : ByteArray)).size + t182.size ≤ 9223372036854775807 then (mosaicref29_Text.j0 k (((((⟨#[109, 111, 115, 97, 105, 99, 58]⟩ : ByteArray) ++ t181) ++ (⟨#[63]⟩ : ByteArray)) ++ (⟨#[116, 105, 116, 108, 101, 61]⟩ : ByteArray)) ++ t182) (⟨#[38]⟩ : ByteArray) a0_0 a0_1 l0_2 l0_3) else (none))) else (none)) else (none))) else (none))) else (some ((⟨#[]⟩ : ByteArray), 1)))
def mosaicref29_Text.T11 : Bool × List (List Nat × List Nat) := (true, [([], []), ([], []), ([0, 1], [0, 1]), ([2], [2]), ([], []), ([4], [4]), ([], []), ([5, 6], [5, 6]), ([7], [7]), ([8], [8]), ([3, 9], [3, 9]), ([10], [10]), ([], []), ([12], [12]), ([], []), ([13, 14], [13, 14]), ([15], [15]), ([16], [16]), ([17, 9], [17]), ([11, 18], [11, 18]), ([19], [19]), ([], []), ([21], [21]), ([], []), ([22, 23], [22, 23]), ([24], [24]), ([25], [25]), ([26, 18], [26]), ([20, 27], [20, 27]), ([28, 27, 0, 1, 2, 3, 4, 5, 6, 7, 8, 9, 10, 11, 12, 13, 14, 15, 16, 17, 18, 19, 20, 21, 22, 23, 24, 25, 26, 27, 28], [0, 28])])
def mosaicref29_Text.B11 : List Nat := [0, 0, 3, 7, 0, 16, 0, 112, 240, 496, 1023, 2047, 0, 4096, 0, 28672, 61440, 126976, 259056, 524287, 1048575, 0, 2097152, 0, 14680064, 31457280, 65011712, 132641776, 268435455, 536870911]
theorem mosaicref29_Text.tab11 : rtab .any (opsOf Tryd.f12 11) = mosaicref29_Text.T11 := by kernel_rfl
theorem mosaicref29_Text.bits11 : waitsOk mosaicref29_Text.T11.2 mosaicref29_Text.B11 = true := by kernel_rfl
set_option maxHeartbeats 8000000 in
set_option maxRecDepth 100000 in
theorem mosaicref29_Text.calls (k : Nat) (a0_0 : ByteArray) (a0_1 : ByteArray) (A0_2 : Option Addr) (c0_2 : Nat) (l0_2 : List Int) (A0_3 : Option Addr) (c0_3 : Nat) (l0_3 : List (S45)) (r1 : ByteArray) (r2 : Int) (w : World) (hr0_2 : Kd.C (Kd.int .i64) w A0_2 l0_2.length l0_2) (hc0_2 : l0_2.length ≤ c0_2) (hr0_3 : Kd.C k45 w A0_3 l0_3.length l0_3) (hc0_3 : l0_3.length ≤ c0_3) (h : mosaicref29_Text.f k a0_0 a0_1 l0_2 l0_3 = some (r1, r2)) :
  Calls Tryd.prog 12 #[.agg #[.string a0_0, .string a0_1, .slice A0_2 l0_2.length c0_2, .slice A0_3 l0_3.length c0_3]] w fun e w' => e = .returned (.tuple #[.string r1, .int .i64 r2]) ∧ Below w.heap.size w w' := by
 have hu39 := Tryd.underlying39
 have HR0_2 := Aside0.mk hr0_2
 have HC0_2 := Aside0.mk hc0_2
 clear hr0_2 hc0_2
 have HR0_3 := Aside0.mk hr0_3
 have HC0_3 := Aside0.mk hc0_3
 clear hr0_3 hc0_3
 have HB := Aside0.mk (Below.refl w.heap.size w)
 have H : ((mosaicref29_Check.f k a0_0 a0_1 l0_2 l0_3).bind fun t180 => (if t180 = true then ((mosaicref29_Base32.f k a0_0).bind fun t181 => (if 7 + t181.size ≤ 9223372036854775807 then (if a0_1.toList = ([] : List UInt8) then (mosaicref29_Text.j0 k ((⟨#[109, 111, 115, 97, 105, 99, 58]⟩ : ByteArray) ++ t181) (⟨#[63]⟩ : ByteArray) a0_0 a0_1 l0_2 l0_3) else (if ((⟨#[109, 111, 115, 97, 105, 99, 58]⟩ : ByteArray) ++ t181).size + 1 ≤ 9223372036854775807 then (if (((⟨#[109, 111, 115, 97, 105, 99, 58]⟩ : ByteArray) ++ t181) ++ (⟨#[63]⟩ : ByteArray)).size + 6 ≤ 9223372036854775807 then ((mosaicref29_Escape.f k a0_1).bind fun t182 => (if ((((⟨#[109, 111, 115, 97, 105, 99, 58]⟩ : ByteArray) ++ t181) ++ (⟨#[63]⟩ : ByteArray)) ++ (⟨#[116, 105, 116, 108, 101, 61]⟩ : ByteArray)).size + t182.size ≤ 9223372036854775807 then (mosaicref29_Text.j0 k (((((⟨#[109, 111, 115, 97, 105, 99, 58]⟩ : ByteArray) ++ t181) ++ (⟨#[63]⟩ : ByteArray)) ++ (⟨#[116, 105, 116, 108, 101, 61]⟩ : ByteArray)) ++ t182) (⟨#[38]⟩ : ByteArray) a0_0 a0_1 l0_2 l0_3) else (none))) else (none)) else (none))) else (none))) else (some ((⟨#[]⟩ : ByteArray), 1)))) = some (r1, r2) := h
 clear h
 replace H := Option.bind_eq_some_iff.mp H
 obtain ⟨t180, A20, H⟩ := H
 replace H : (if t180 = true then ((mosaicref29_Base32.f k a0_0).bind fun t181 => (if 7 + t181.size ≤ 9223372036854775807 then (if a0_1.toList = ([] : List UInt8) then (mosaicref29_Text.j0 k ((⟨#[109, 111, 115, 97, 105, 99, 58]⟩ : ByteArray) ++ t181) (⟨#[63]⟩ : ByteArray) a0_0 a0_1 l0_2 l0_3) else (if ((⟨#[109, 111, 115, 97, 105, 99, 58]⟩ : ByteArray) ++ t181).size + 1 ≤ 9223372036854775807 then (if (((⟨#[109, 111, 115, 97, 105, 99, 58]⟩ : ByteArray) ++ t181) ++ (⟨#[63]⟩ : ByteArray)).size + 6 ≤ 9223372036854775807 then ((mosaicref29_Escape.f k a0_1).bind fun t182 => (if ((((⟨#[109, 111, 115, 97, 105, 99, 58]⟩ : ByteArray) ++ t181) ++ (⟨#[63]⟩ : ByteArray)) ++ (⟨#[116, 105, 116, 108, 101, 61]⟩ : ByteArray)).size + t182.size ≤ 9223372036854775807 then (mosaicref29_Text.j0 k (((((⟨#[109, 111, 115, 97, 105, 99, 58]⟩ : ByteArray) ++ t181) ++ (⟨#[63]⟩ : ByteArray)) ++ (⟨#[116, 105, 116, 108, 101, 61]⟩ : ByteArray)) ++ t182) (⟨#[38]⟩ : ByteArray) a0_0 a0_1 l0_2 l0_3) else (none))) else (none)) else (none))) else (none))) else (some ((⟨#[]⟩ : ByteArray), 1))) = some (r1, r2) := H
 have A2 := Aside0.mk A20
 clear A20
 by_cases c3 : t180 = true
 ·
  subst c3
  have H1 : ((mosaicref29_Base32.f k a0_0).bind fun t181 => (if 7 + t181.size ≤ 9223372036854775807 then (if a0_1.toList = ([] : List UInt8) then (mosaicref29_Text.j0 k ((⟨#[109, 111, 115, 97, 105, 99, 58]⟩ : ByteArray) ++ t181) (⟨#[63]⟩ : ByteArray) a0_0 a0_1 l0_2 l0_3) else (if ((⟨#[109, 111, 115, 97, 105, 99, 58]⟩ : ByteArray) ++ t181).size + 1 ≤ 9223372036854775807 then (if (((⟨#[109, 111, 115, 97, 105, 99, 58]⟩ : ByteArray) ++ t181) ++ (⟨#[63]⟩ : ByteArray)).size + 6 ≤ 9223372036854775807 then ((mosaicref29_Escape.f k a0_1).bind fun t182 => (if ((((⟨#[109, 111, 115, 97, 105, 99, 58]⟩ : ByteArray) ++ t181) ++ (⟨#[63]⟩ : ByteArray)) ++ (⟨#[116, 105, 116, 108, 101, 61]⟩ : ByteArray)).size + t182.size ≤ 9223372036854775807 then (mosaicref29_Text.j0 k (((((⟨#[109, 111, 115, 97, 105, 99, 58]⟩ : ByteArray) ++ t181) ++ (⟨#[63]⟩ : ByteArray)) ++ (⟨#[116, 105, 116, 108, 101, 61]⟩ : ByteArray)) ++ t182) (⟨#[38]⟩ : ByteArray) a0_0 a0_1 l0_2 l0_3) else (none))) else (none)) else (none))) else (none))) = some (r1, r2) := by rw [if_pos rfl] at H; exact H
  clear H
  have H := H1
  clear H1
  replace H := Option.bind_eq_some_iff.mp H
  obtain ⟨t181, A40, H⟩ := H
  replace H : (if 7 + t181.size ≤ 9223372036854775807 then (if a0_1.toList = ([] : List UInt8) then (mosaicref29_Text.j0 k ((⟨#[109, 111, 115, 97, 105, 99, 58]⟩ : ByteArray) ++ t181) (⟨#[63]⟩ : ByteArray) a0_0 a0_1 l0_2 l0_3) else (if ((⟨#[109, 111, 115, 97, 105, 99, 58]⟩ : ByteArray) ++ t181).size + 1 ≤ 9223372036854775807 then (if (((⟨#[109, 111, 115, 97, 105, 99, 58]⟩ : ByteArray) ++ t181) ++ (⟨#[63]⟩ : ByteArray)).size + 6 ≤ 9223372036854775807 then ((mosaicref29_Escape.f k a0_1).bind fun t182 => (if ((((⟨#[109, 111, 115, 97, 105, 99, 58]⟩ : ByteArray) ++ t181) ++ (⟨#[63]⟩ : ByteArray)) ++ (⟨#[116, 105, 116, 108, 101, 61]⟩ : ByteArray)).size + t182.size ≤ 9223372036854775807 then (mosaicref29_Text.j0 k (((((⟨#[109, 111, 115, 97, 105, 99, 58]⟩ : ByteArray) ++ t181) ++ (⟨#[63]⟩ : ByteArray)) ++ (⟨#[116, 105, 116, 108, 101, 61]⟩ : ByteArray)) ++ t182) (⟨#[38]⟩ : ByteArray) a0_0 a0_1 l0_2 l0_3) else (none))) else (none)) else (none))) else (none)) = some (r1, r2) := H
  have A4 := Aside0.mk A40
  clear A40
  by_cases c5 : 7 + t181.size ≤ 9223372036854775807
  rotate_left; · rw [if_neg c5] at H; exact absurd H (by simp)
  rw [if_pos c5] at H
  have c5b0 := eq_true c5
  have c5b1 : decide (7 + t181.size ≤ 9223372036854775807) = true := decide_eq_true c5
  try have c5b2 : (9223372036854775807 < 7 + t181.size) = False := eq_false (Nat.not_lt.2 c5)
  have HC6 := Aside0.mk H
  clear H
  go_enter Tryd.func12, Tryd.ntmps12
  go_upto_if 16 with (first | ((with_reducible refine gate_dst (N := 1) rfl ?_); (try (refine gate_guard (by rfl) ?_; dsimp only)); refine box_event ?hg (N := 1) ?hd (cs := #[.string a0_0, .string a0_1, .slice A0_2 l0_2.length c0_2, .slice A0_3 l0_3.length c0_3]) (t := 39) ?hr ?_; (case hd => rfl); (case hg => rfl); (case hr => first | (go_simp; done) | (go_simp; rfl)); intro gb179 hg w7 hbox hb; have n0_ := hS HB hb; have n1_ := Aside0.mk (hbox); have n2_ := hG HB hg; have n3_ := hG HB hg; clear HB; have HB := n0_; have BK179 := n1_; have GW179 := n2_; have GE179 := n3_; clear n0_ n1_ n2_ n3_; clear hb hbox hg; have hcz8_0 : w7.cell? ⟨gb179, 0, none⟩ = some (.string a0_0) := (blk_cell BK179.out 0).trans rfl; have hcz8_1 : w7.cell? ⟨gb179, 1, none⟩ = some (.string a0_1) := (blk_cell BK179.out 1).trans rfl; have hcz8_2 : w7.cell? ⟨gb179, 2, none⟩ = some (.slice A0_2 l0_2.length c0_2) := (blk_cell BK179.out 2).trans rfl; have hcz8_3 : w7.cell? ⟨gb179, 3, none⟩ = some (.slice A0_3 l0_3.length c0_3) := (blk_cell BK179.out 3).trans rfl; have hfz8_0 := blk_frozen BK179.out 0; have hfz8_1 := blk_frozen BK179.out 1; have hfz8_2 := blk_frozen BK179.out 2; have hfz8_3 := blk_frozen BK179.out 3) | ((with_reducible refine gate_callee (f := 18) rfl ?_); refine goesL_ (some 8) rfl rfl Tryd.func18 (by kernel_rfl) rfl #[.agg #[.string a0_0, .string a0_1, .slice A0_2 l0_2.length c0_2, .slice A0_3 l0_3.length c0_3]] rfl (by (try simp only [List.map_toArray, List.map_cons, List.map_nil]); first | done | rfl | (simp only [List.length_drop, List.length_take]; rfl)) ?_; (with_reducible refine (mosaicref29_Check.calls k a0_0 a0_1 _ _ l0_2 _ _ l0_3 true _ ?side1 ?side2 ?side3 ?side4 A2.out).mono ?_); (case side1 => repeat (first | exact (Kd.C_below HR0_2.out HB.out) | (with_reducible refine Kd.C_alloc ?_ _) | (with_reducible refine Kd.C_drewN ?_ _) | (with_reducible refine Kd.C_drew ?_))); (case side2 => exact HC0_2.out); (case side3 => repeat (first | exact (Kd.C_below HR0_3.out HB.out) | (with_reducible refine Kd.C_alloc ?_ _) | (with_reducible refine Kd.C_drewN ?_ _) | (with_reducible refine Kd.C_drew ?_))); (case side4 => exact HC0_3.out); rintro e w9 ⟨rfl, hb⟩; refine ⟨_, rfl, ?_⟩; have n0_ := bB BK179 hb; have n1_ := hS HB hb; clear BK179; clear HB; have BK179 := n0_; have HB := n1_; clear n0_ n1_; (try clear hb); (try clear hb2); (try clear hk); (try clear hi); have hcz10_0 : w9.cell? ⟨gb179, 0, none⟩ = some (.string a0_0) := (blk_cell BK179.out 0).trans rfl; have hcz10_1 : w9.cell? ⟨gb179, 1, none⟩ = some (.string a0_1) := (blk_cell BK179.out 1).trans rfl; have hcz10_2 : w9.cell? ⟨gb179, 2, none⟩ = some (.slice A0_2 l0_2.length c0_2) := (blk_cell BK179.out 2).trans rfl; have hcz10_3 : w9.cell? ⟨gb179, 3, none⟩ = some (.slice A0_3 l0_3.length c0_3) := (blk_cell BK179.out 3).trans rfl; have hfz10_0 := blk_frozen BK179.out 0; have hfz10_1 := blk_frozen BK179.out 1; have hfz10_2 := blk_frozen BK179.out 2; have hfz10_3 := blk_frozen BK179.out 3) | ((with_reducible refine gate_callee (f := 30) rfl ?_); refine goesL_ (some 12) rfl rfl Tryd.func30 (by kernel_rfl) rfl #[.string a0_0] rfl (by (try simp only [List.map_toArray, List.map_cons, List.map_nil]); first | done | rfl | (simp only [List.length_drop, List.length_take]; rfl)) ?_; (with_reducible refine (mosaicref29_Base32.calls k a0_0 t181 _ A4.out).mono ?_); rintro e w' ⟨rfl, ⟨nd, rfl⟩⟩; refine ⟨_, rfl, ?_⟩))
  (try simp only [Act.put, List.setIfInBounds_toArray, List.set_cons_zero, List.set_cons_succ])
  go_cut [4, 5] (fun v4 v5 wc => ∃ (kq : Nat) (x4_5 : ByteArray) (x5_5 : ByteArray), v4 = .string x4_5 ∧ v5 = .string x5_5 ∧ Aside0 (mosaicref29_Text.j0 kq x4_5 x5_5 a0_0 a0_1 l0_2 l0_3 = some (r1, r2)) ∧ Aside0 (kq ≤ k) ∧ Aside0 (wc.heap[gb179]? = some (.cells #[.string a0_0, .string a0_1, (.slice A0_2 l0_2.length c0_2), (.slice A0_3 l0_3.length c0_3)] 39 (0, 0))) ∧ Aside0 (Below w.heap.size w wc))
  case first =>
   have H := HC6.out
   clear HC6
   by_cases c11 : a0_1.toList = ([] : List UInt8)
   ·
    rw [if_pos c11] at H
    have c11b0 : (a0_1.toList == ([] : List UInt8)) = true := beq_iff_eq.mpr c11
    have c11b1 : (a0_1.toList != ([] : List UInt8)) = false := bne_eq_false_iff_eq.mpr c11
    have c11b2 : a0_1.toList.isEmpty = true := by simpa using c11
    clear c11
    (first | rw [c11b0] | (simp only [i64_w, i32_w, IntKind.wrap_u8]; rw [c11b0]) | rw [c11b2] | skip)
    have H' := Aside0.mk H
    clear H
    go_wp2
    go_meet
    case rel => exact ⟨_, ((⟨#[109, 111, 115, 97, 105, 99, 58]⟩ : ByteArray) ++ t181), ((⟨#[63]⟩ : ByteArray)), (by first | rfl | (simp; done) | (simp [*]; done)), (by first | rfl | (simp; done) | (simp [*]; done)), H', ⟨by first | omega | exact Nat.le_refl _⟩, ⟨by (with_reducible repeat (first | refine blk_drewN ?_ _ | refine blk_drew ?_ | refine blk_alloc ?_ _)); exact BK179.out⟩, ⟨by repeat (first | (with_reducible first | exact HB.out | apply below_alloc | apply pw_below_drewN | apply below_drew1 | refine below_set ?_ GE179.out) | exact HB.out)⟩⟩
   ·
    rw [if_neg c11] at H
    have c11b0 : (a0_1.toList == ([] : List UInt8)) = false := beq_eq_false_iff_ne.mpr c11
    have c11b1 : (a0_1.toList != ([] : List UInt8)) = true := bne_iff_ne.mpr c11
    have c11b2 : a0_1.toList.isEmpty = false := by simpa using c11
    (first | rw [c11b0] | (simp only [i64_w, i32_w, IntKind.wrap_u8]; rw [c11b0]) | rw [c11b2] | skip)
    by_cases c12 : ((⟨#[109, 111, 115, 97, 105, 99, 58]⟩ : ByteArray) ++ t181).size + 1 ≤ 9223372036854775807
    rotate_left; · rw [if_neg c12] at H; exact absurd H (by simp)
    rw [if_pos c12] at H
    have c12b0 := eq_true c12
    have c12b1 : decide (((⟨#[109, 111, 115, 97, 105, 99, 58]⟩ : ByteArray) ++ t181).size + 1 ≤ 9223372036854775807) = true := decide_eq_true c12
    try have c12b2 : (9223372036854775807 < ((⟨#[109, 111, 115, 97, 105, 99, 58]⟩ : ByteArray) ++ t181).size + 1) = False := eq_false (Nat.not_lt.2 c12)
    try have c12b3 : (9223372036854775807 < 7 + t181.size + 1) = False := eq_false (by have h_ := c12; simp only [ByteArray.size_append] at h_; have e0_ : (⟨#[109, 111, 115, 97, 105, 99, 58]⟩ : ByteArray).size = 7 := rfl; omega)
    by_cases c13 : (((⟨#[109, 111, 115, 97, 105, 99, 58]⟩ : ByteArray) ++ t181) ++ (⟨#[63]⟩ : ByteArray)).size + 6 ≤ 9223372036854775807
    rotate_left; · rw [if_neg c13] at H; exact absurd H (by simp)
    rw [if_pos c13] at H
    have c13b0 := eq_true c13
    have c13b1 : decide ((((⟨#[109, 111, 115, 97, 105, 99, 58]⟩ : ByteArray) ++ t181) ++ (⟨#[63]⟩ : ByteArray)).size + 6 ≤ 9223372036854775807) = true := decide_eq_true c13
    try have c13b2 : (9223372036854775807 < (((⟨#[109, 111, 115, 97, 105, 99, 58]⟩ : ByteArray) ++ t181) ++ (⟨#[63]⟩ : ByteArray)).size + 6) = False := eq_false (Nat.not_lt.2 c13)
    try have c13b3 : (9223372036854775807 < 7 + t181.size + 1 + 6) = False := eq_false (by have h_ := c13; simp only [ByteArray.size_append] at h_; have e0_ : (⟨#[109, 111, 115, 97, 105, 99, 58]⟩ : ByteArray).size = 7 := rfl; have e1_ : (⟨#[63]⟩ : ByteArray).size = 1 := rfl; omega)
    replace H := Option.bind_eq_some_iff.mp H
    obtain ⟨t182, A140, H⟩ := H
    replace H : (if ((((⟨#[109, 111, 115, 97, 105, 99, 58]⟩ : ByteArray) ++ t181) ++ (⟨#[63]⟩ : ByteArray)) ++ (⟨#[116, 105, 116, 108, 101, 61]⟩ : ByteArray)).size + t182.size ≤ 9223372036854775807 then (mosaicref29_Text.j0 k (((((⟨#[109, 111, 115, 97, 105, 99, 58]⟩ : ByteArray) ++ t181) ++ (⟨#[63]⟩ : ByteArray)) ++ (⟨#[116, 105, 116, 108, 101, 61]⟩ : ByteArray)) ++ t182) (⟨#[38]⟩ : ByteArray) a0_0 a0_1 l0_2 l0_3) else (none)) = some (r1, r2) := H
    have A14 := Aside0.mk A140
    clear A140
    by_cases c15 : ((((⟨#[109, 111, 115, 97, 105, 99, 58]⟩ : ByteArray) ++ t181) ++ (⟨#[63]⟩ : ByteArray)) ++ (⟨#[116, 105, 116, 108, 101, 61]⟩ : ByteArray)).size + t182.size ≤ 9223372036854775807
    rotate_left; · rw [if_neg c15] at H; exact absurd H (by simp)
    rw [if_pos c15] at H
    have c15b0 := eq_true c15
    have c15b1 : decide (((((⟨#[109, 111, 115, 97, 105, 99, 58]⟩ : ByteArray) ++ t181) ++ (⟨#[63]⟩ : ByteArray)) ++ (⟨#[116, 105, 116, 108, 101, 61]⟩ : ByteArray)).size + t182.size ≤ 9223372036854775807) = true := decide_eq_true c15
    try have c15b2 : (9223372036854775807 < ((((⟨#[109, 111, 115, 97, 105, 99, 58]⟩ : ByteArray) ++ t181) ++ (⟨#[63]⟩ : ByteArray)) ++ (⟨#[116, 105, 116, 108, 101, 61]⟩ : ByteArray)).size + t182.size) = False := eq_false (Nat.not_lt.2 c15)
    try have c15b3 : (9223372036854775807 < 7 + t181.size + 1 + 6 + t182.size) = False := eq_false (by have h_ := c15; simp only [ByteArray.size_append] at h_; have e0_ : (⟨#[109, 111, 115, 97, 105, 99, 58]⟩ : ByteArray).size = 7 := rfl; have e1_ : (⟨#[63]⟩ : ByteArray).size = 1 := rfl; have e2_ : (⟨#[116, 105, 116, 108, 101, 61]⟩ : ByteArray).size = 6 := rfl; omega)
    have H' := Aside0.mk H
    clear H
    have hcz16_0 : w9.cell? ⟨gb179, 0, none⟩ = some (.string a0_0) := (blk_cell BK179.out 0).trans rfl
    have hcz16_1 : w9.cell? ⟨gb179, 1, none⟩ = some (.string a0_1) := (blk_cell BK179.out 1).trans rfl
    have hcz16_2 : w9.cell? ⟨gb179, 2, none⟩ = some (.slice A0_2 l0_2.length c0_2) := (blk_cell BK179.out 2).trans rfl
    have hcz16_3 : w9.cell? ⟨gb179, 3, none⟩ = some (.slice A0_3 l0_3.length c0_3) := (blk_cell BK179.out 3).trans rfl
    have hfz16_0 := blk_frozen BK179.out 0
    have hfz16_1 := blk_frozen BK179.out 1
    have hfz16_2 := blk_frozen BK179.out 2
    have hfz16_3 := blk_frozen BK179.out 3
    go_wp2_with (first | ((with_reducible refine gate_callee (f := 31) rfl ?_); refine goesL_ (some 23) rfl rfl Tryd.func31 (by kernel_rfl) rfl #[.string a0_1] rfl (by (try simp only [List.map_toArray, List.map_cons, List.map_nil]); first | done | rfl | (simp only [List.length_drop, List.length_take]; rfl)) ?_; (with_reducible refine (mosaicref29_Escape.calls k a0_1 t182 _ A14.out).mono ?_); rintro e w17 ⟨rfl, hb⟩; refine ⟨_, rfl, ?_⟩; have n0_ := bB BK179 hb; have n1_ := Aside0.mk (below_step (by repeat (first | (with_reducible first | exact HB.out | apply below_alloc | apply pw_below_drewN | apply below_drew1 | refine below_set ?_ GE179.out) | exact HB.out)) hb); clear BK179; clear HB; have BK179 := n0_; have HB := n1_; clear n0_ n1_; (try clear hb); (try clear hb2); (try clear hk); (try clear hi)))
    go_meet
    case rel => exact ⟨_, (((((⟨#[109, 111, 115, 97, 105, 99, 58]⟩ : ByteArray) ++ t181) ++ (⟨#[63]⟩ : ByteArray)) ++ (⟨#[116, 105, 116, 108, 101, 61]⟩ : ByteArray)) ++ t182), ((⟨#[38]⟩ : ByteArray)), (by first | rfl | (simp; done) | (simp [*]; done)), (by first | rfl | (simp; done) | (simp [*]; done)), H', ⟨by first | omega | exact Nat.le_refl _⟩, ⟨by (with_reducible repeat (first | refine blk_drewN ?_ _ | refine blk_drew ?_ | refine blk_alloc ?_ _)); exact BK179.out⟩, ⟨by repeat (first | (with_reducible first | exact HB.out | apply below_alloc | apply pw_below_drewN | apply below_drew1 | refine below_set ?_ GE179.out) | exact HB.out)⟩⟩
  case rest =>
   clear HC6
   try clear c1
   try clear p2
   try clear c3
   try clear c5
   try clear c5b0
   try clear c5b1
   try clear c5b2
   try clear c11
   try clear c11b0
   try clear c11b1
   try clear c11b2
   try clear c12
   try clear c12b0
   try clear c12b1
   try clear c12b2
   try clear c13
   try clear c13b0
   try clear c13b1
   try clear c13b2
   try clear c15
   try clear c15b0
   try clear c15b1
   try clear c15b2
   try clear hcz10_0
   try clear hcz10_1
   try clear hcz10_2
   try clear hcz10_3
   try clear hcz16_0
   try clear hcz16_1
   try clear hcz16_2
   try clear hcz16_3
   try clear hcz8_0
   try clear hcz8_1
   try clear hcz8_2
   try clear hcz8_3
   try clear hfz10_0
   try clear hfz10_1
   try clear hfz10_2
   try clear hfz10_3
   try clear hfz16_0
   try clear hfz16_1
   try clear hfz16_2
   try clear hfz16_3
   try clear hfz8_0
   try clear hfz8_1
   try clear hfz8_2
   try clear hfz8_3
   obtain ⟨kq, x4_5, x5_5, rfl, rfl, HA, HJ5, BK179, HB⟩ := hcut
   cases kq with
   | zero => exact absurd HA.out (by simp [mosaicref29_Text.j0])
   | succ kj5 =>
    have H := HA.out
    clear HA
    simp only [mosaicref29_Text.j0] at H
    have H' := Aside0.mk H
    clear H
    go_wp2
    go_loopg [4, 5, 6] kj5 (fun kq v4 v5 v6 w' => ∃ (x4_2 : ByteArray) (x5_2 : ByteArray) (x6_2 : Int), v4 = .string x4_2 ∧ v5 = .string x5_2 ∧ v6 = .int .i64 x6_2 ∧ Aside0 (mosaicref29_Text.l0 kq x4_2 x5_2 x6_2 a0_0 a0_1 l0_2 l0_3 = some (r1, r2)) ∧ Aside0 (kq ≤ kj5) ∧ Aside0 (w'.heap[gb179]? = some (.cells #[.string a0_0, .string a0_1, (.slice A0_2 l0_2.length c0_2), (.slice A0_3 l0_3.length c0_3)] 39 (0, 0))) ∧ Aside0 (Below w.heap.size w w'))
    case atStart => exact ⟨(x4_5), (x5_5), (0), (by first | rfl | (simp; done) | (simp [*]; done)), (by first | rfl | (simp; done) | (simp [*]; done)), (by first | rfl | (simp; done) | (simp [*]; done)), H', ⟨Nat.le_refl _⟩, ⟨by (with_reducible repeat (first | refine blk_drewN ?_ _ | refine blk_drew ?_ | refine blk_alloc ?_ _)); exact BK179.out⟩, ⟨by repeat (first | (with_reducible first | exact HB.out | apply below_alloc | apply pw_below_drewN | apply below_drew1 | refine below_set ?_ GE179.out) | exact HB.out)⟩⟩
    case round =>
     clear H'
     try clear c1
     try clear p2
     try clear c3
     try clear c5
     try clear c5b0
     try clear c5b1
     try clear c5b2
     try clear c11
     try clear c11b0
     try clear c11b1
     try clear c11b2
     try clear c12
     try clear c12b0
     try clear c12b1
     try clear c12b2
     try clear c13
     try clear c13b0
     try clear c13b1
     try clear c13b2
     try clear c15
     try clear c15b0
     try clear c15b1
     try clear c15b2
     try clear hcz10_0
     try clear hcz10_1
     try clear hcz10_2
     try clear hcz10_3
     try clear hcz16_0
     try clear hcz16_1
     try clear hcz16_2
     try clear hcz16_3
     try clear hcz8_0
     try clear hcz8_1
     try clear hcz8_2
     try clear hcz8_3
     try clear hfz10_0
     try clear hfz10_1
     try clear hfz10_2
     try clear hfz10_3
     try clear hfz16_0
     try clear hfz16_1
     try clear hfz16_2
     try clear hfz16_3
     try clear hfz8_0
     try clear hfz8_1
     try clear hfz8_2
     try clear hfz8_3
     try clear p2
     obtain ⟨x4_2, x5_2, x6_2, rfl, rfl, rfl, HA, HK2, BK179, HB⟩ := hrel
     cases gk with
     | zero => exact absurd HA.out (by simp [mosaicref29_Text.l0])
     | succ k2 =>
      have H := HA.out
      clear HA
      simp only [mosaicref29_Text.l0] at H
      have HC18 := Aside0.mk H
      clear H
      go_upto_region 9 with (fail)
      go_cut [36] (fun v36 wc => ∃ (kq : Nat) (x36_17 : Bool), v36 = .bool x36_17 ∧ Aside0 (mosaicref29_Text.j2 kq x4_2 x5_2 x6_2 x36_17 a0_0 a0_1 l0_2 l0_3 = some (r1, r2)) ∧ Aside0 (kq ≤ k2) ∧ Aside0 (wc.heap[gb179]? = some (.cells #[.string a0_0, .string a0_1, (.slice A0_2 l0_2.length c0_2), (.slice A0_3 l0_3.length c0_3)] 39 (0, 0))) ∧ Aside0 (Below w.heap.size w wc))
      case first =>
       have H := HC18.out
       clear HC18
       by_cases c19 : x6_2 < (l0_2.length : Int)
       ·
        rw [if_pos c19] at H
        have c19b0 : decide (x6_2 < (l0_2.length : Int)) = true := decide_eq_true c19
        clear c19
        (first | rw [c19b0] | (simp only [i64_w, i32_w, IntKind.wrap_u8]; rw [c19b0]) | skip)
        have H' := Aside0.mk H
        clear H
        have hcz20_0 : wr.cell? ⟨gb179, 0, none⟩ = some (.string a0_0) := (blk_cell BK179.out 0).trans rfl
        have hcz20_1 : wr.cell? ⟨gb179, 1, none⟩ = some (.string a0_1) := (blk_cell BK179.out 1).trans rfl
        have hcz20_2 : wr.cell? ⟨gb179, 2, none⟩ = some (.slice A0_2 l0_2.length c0_2) := (blk_cell BK179.out 2).trans rfl
        have hcz20_3 : wr.cell? ⟨gb179, 3, none⟩ = some (.slice A0_3 l0_3.length c0_3) := (blk_cell BK179.out 3).trans rfl
        have hfz20_0 := blk_frozen BK179.out 0
        have hfz20_1 := blk_frozen BK179.out 1
        have hfz20_2 := blk_frozen BK179.out 2
        have hfz20_3 := blk_frozen BK179.out 3
        go_wp2
        go_meet
        case rel => exact ⟨_, (decide (x6_2 < (l0_3.length : Int))), (by first | rfl | (simp; done) | (simp [*]; done)), H', ⟨by have := HJ5.out; have := HK2.out; first | omega | exact Nat.le_refl _⟩, ⟨by (with_reducible repeat (first | refine blk_drewN ?_ _ | refine blk_drew ?_ | refine blk_alloc ?_ _)); exact BK179.out⟩, ⟨by repeat (first | (with_reducible first | exact HB.out | apply below_alloc | apply pw_below_drewN | apply below_drew1 | refine below_set ?_ GE179.out) | exact HB.out)⟩⟩
       ·
        rw [if_neg c19] at H
        have c19b0 : decide (x6_2 < (l0_2.length : Int)) = false := decide_eq_false c19
        clear c19
        (first | rw [c19b0] | (simp only [i64_w, i32_w, IntKind.wrap_u8]; rw [c19b0]) | skip)
        have H' := Aside0.mk H
        clear H
        have hcz21_0 : wr.cell? ⟨gb179, 0, none⟩ = some (.string a0_0) := (blk_cell BK179.out 0).trans rfl
        have hcz21_1 : wr.cell? ⟨gb179, 1, none⟩ = some (.string a0_1) := (blk_cell BK179.out 1).trans rfl
        have hcz21_2 : wr.cell? ⟨gb179, 2, none⟩ = some (.slice A0_2 l0_2.length c0_2) := (blk_cell BK179.out 2).trans rfl
        have hcz21_3 : wr.cell? ⟨gb179, 3, none⟩ = some (.slice A0_3 l0_3.length c0_3) := (blk_cell BK179.out 3).trans rfl
        have hfz21_0 := blk_frozen BK179.out 0
        have hfz21_1 := blk_frozen BK179.out 1
        have hfz21_2 := blk_frozen BK179.out 2
        have hfz21_3 := blk_frozen BK179.out 3
        go_wp2
        go_meet
        case rel => exact ⟨_, (false), (by first | rfl | (simp; done) | (simp [*]; done)), H', ⟨by have := HJ5.out; have := HK2.out; first | omega | exact Nat.le_refl _⟩, ⟨by (with_reducible repeat (first | refine blk_drewN ?_ _ | refine blk_drew ?_ | refine blk_alloc ?_ _)); exact BK179.out⟩, ⟨by repeat (first | (with_reducible first | exact HB.out | apply below_alloc | apply pw_below_drewN | apply below_drew1 | refine below_set ?_ GE179.out) | exact HB.out)⟩⟩
      case rest =>
       clear HC18
       try clear c1
       try clear p2
       try clear c3
       try clear c5
       try clear c5b0
       try clear c5b1
       try clear c5b2
       try clear c11
       try clear c11b0
       try clear c11b1
       try clear c11b2
       try clear c12
       try clear c12b0
       try clear c12b1
       try clear c12b2
       try clear c13
       try clear c13b0
       try clear c13b1
       try clear c13b2
       try clear c15
       try clear c15b0
       try clear c15b1
       try clear c15b2
       try clear c18
       try clear c19
       try clear c19b0
       try clear hcz10_0
       try clear hcz10_1
       try clear hcz10_2
       try clear hcz10_3
       try clear hcz16_0
       try clear hcz16_1
       try clear hcz16_2
       try clear hcz16_3
       try clear hcz20_0
       try clear hcz20_1
       try clear hcz20_2
       try clear hcz20_3
       try clear hcz21_0
       try clear hcz21_1
       try clear hcz21_2
       try clear hcz21_3
       try clear hcz8_0
       try clear hcz8_1
       try clear hcz8_2
       try clear hcz8_3
       try clear hfz10_0
       try clear hfz10_1
       try clear hfz10_2
       try clear hfz10_3
       try clear hfz16_0
       try clear hfz16_1
       try clear hfz16_2
       try clear hfz16_3
       try clear hfz20_0
       try clear hfz20_1
       try clear hfz20_2
       try clear hfz20_3
       try clear hfz21_0
       try clear hfz21_1
       try clear hfz21_2
       try clear hfz21_3
       try clear hfz8_0
       try clear hfz8_1
       try clear hfz8_2
       try clear hfz8_3
       try clear p2
       obtain ⟨kq, x36_17, rfl, HA, HJ17, BK179, HB⟩ := hcut
       cases kq with
       | zero => exact absurd HA.out (by simp [mosaicref29_Text.j2])
       | succ kj17 =>
        have H := HA.out
        clear HA
        simp only [mosaicref29_Text.j2] at H
        by_cases c22 : x36_17 = true
        ·
         subst c22
         have H1 : (if x4_2.size + x5_2.size ≤ 9223372036854775807 then (if (x4_2 ++ x5_2).size + 5 ≤ 9223372036854775807 then (if 0 ≤ x6_2 then (if x6_2 < (l0_2.length : Int) then ((mosaicref23_Num.f kj17 (rd l0_2 x6_2)).bind fun t184 => (if ((x4_2 ++ x5_2) ++ (⟨#[110, 111, 100, 101, 61]⟩ : ByteArray)).size + t184.size ≤ 9223372036854775807 then (if (((x4_2 ++ x5_2) ++ (⟨#[110, 111, 100, 101, 61]⟩ : ByteArray)) ++ t184).size + 1 ≤ 9223372036854775807 then (if x6_2 < (l0_3.length : Int) then ((mosaicref23_Num.f kj17 ((rd_T45 l0_3 x6_2).f0)).bind fun t186 => (if ((((x4_2 ++ x5_2) ++ (⟨#[110, 111, 100, 101, 61]⟩ : ByteArray)) ++ t184) ++ (⟨#[44]⟩ : ByteArray)).size + t186.size ≤ 9223372036854775807 then (if (((((x4_2 ++ x5_2) ++ (⟨#[110, 111, 100, 101, 61]⟩ : ByteArray)) ++ t184) ++ (⟨#[44]⟩ : ByteArray)) ++ t186).size + 1 ≤ 9223372036854775807 then ((mosaicref23_Num.f kj17 ((rd_T45 l0_3 x6_2).f1)).bind fun t188 => (if ((((((x4_2 ++ x5_2) ++ (⟨#[110, 111, 100, 101, 61]⟩ : ByteArray)) ++ t184) ++ (⟨#[44]⟩ : ByteArray)) ++ t186) ++ (⟨#[44]⟩ : ByteArray)).size + t188.size ≤ 9223372036854775807 then (mosaicref29_Text.l0 kj17 (((((((x4_2 ++ x5_2) ++ (⟨#[110, 111, 100, 101, 61]⟩ : ByteArray)) ++ t184) ++ (⟨#[44]⟩ : ByteArray)) ++ t186) ++ (⟨#[44]⟩ : ByteArray)) ++ t188) (⟨#[38]⟩ : ByteArray) (wrap64 (x6_2 + 1)) a0_0 a0_1 l0_2 l0_3) else (none))) else (none)) else (none))) else (none)) else (none)) else (none))) else (none)) else (none)) else (none)) else (none)) = some (r1, r2) := by rw [if_pos rfl] at H; exact H
         clear H
         have H := H1
         clear H1
         by_cases c23 : x4_2.size + x5_2.size ≤ 9223372036854775807
         rotate_left; · rw [if_neg c23] at H; exact absurd H (by simp)
         rw [if_pos c23] at H
         have c23b0 := eq_true c23
         have c23b1 : decide (x4_2.size + x5_2.size ≤ 9223372036854775807) = true := decide_eq_true c23
         try have c23b2 : (9223372036854775807 < x4_2.size + x5_2.size) = False := eq_false (Nat.not_lt.2 c23)
         by_cases c24 : (x4_2 ++ x5_2).size + 5 ≤ 9223372036854775807
         rotate_left; · rw [if_neg c24] at H; exact absurd H (by simp)
         rw [if_pos c24] at H
         have c24b0 := eq_true c24
         have c24b1 : decide ((x4_2 ++ x5_2).size + 5 ≤ 9223372036854775807) = true := decide_eq_true c24
         try have c24b2 : (9223372036854775807 < (x4_2 ++ x5_2).size + 5) = False := eq_false (Nat.not_lt.2 c24)
         try have c24b3 : (9223372036854775807 < x4_2.size + x5_2.size + 5) = False := eq_false (by have h_ := c24; simp only [ByteArray.size_append] at h_; omega)
         by_cases c25 : 0 ≤ x6_2
         rotate_left; · rw [if_neg c25] at H; exact absurd H (by simp)
         rw [if_pos c25] at H
         have c25b0 : decide (0 ≤ x6_2) = true := decide_eq_true c25
         clear c25
         by_cases c26 : x6_2 < (l0_2.length : Int)
         rotate_left; · rw [if_neg c26] at H; exact absurd H (by simp)
         rw [if_pos c26] at H
         have c26b0 : decide (x6_2 < (l0_2.length : Int)) = true := decide_eq_true c26
         clear c26
         replace H := Option.bind_eq_some_iff.mp H
         obtain ⟨t184, A270, H⟩ := H
         replace H : (if ((x4_2 ++ x5_2) ++ (⟨#[110, 111, 100, 101, 61]⟩ : ByteArray)).size + t184.size ≤ 9223372036854775807 then (if (((x4_2 ++ x5_2) ++ (⟨#[110, 111, 100, 101, 61]⟩ : ByteArray)) ++ t184).size + 1 ≤ 9223372036854775807 then (if x6_2 < (l0_3.length : Int) then ((mosaicref23_Num.f kj17 ((rd_T45 l0_3 x6_2).f0)).bind fun t186 => (if ((((x4_2 ++ x5_2) ++ (⟨#[110, 111, 100, 101, 61]⟩ : ByteArray)) ++ t184) ++ (⟨#[44]⟩ : ByteArray)).size + t186.size ≤ 9223372036854775807 then (if (((((x4_2 ++ x5_2) ++ (⟨#[110, 111, 100, 101, 61]⟩ : ByteArray)) ++ t184) ++ (⟨#[44]⟩ : ByteArray)) ++ t186).size + 1 ≤ 9223372036854775807 then ((mosaicref23_Num.f kj17 ((rd_T45 l0_3 x6_2).f1)).bind fun t188 => (if ((((((x4_2 ++ x5_2) ++ (⟨#[110, 111, 100, 101, 61]⟩ : ByteArray)) ++ t184) ++ (⟨#[44]⟩ : ByteArray)) ++ t186) ++ (⟨#[44]⟩ : ByteArray)).size + t188.size ≤ 9223372036854775807 then (mosaicref29_Text.l0 kj17 (((((((x4_2 ++ x5_2) ++ (⟨#[110, 111, 100, 101, 61]⟩ : ByteArray)) ++ t184) ++ (⟨#[44]⟩ : ByteArray)) ++ t186) ++ (⟨#[44]⟩ : ByteArray)) ++ t188) (⟨#[38]⟩ : ByteArray) (wrap64 (x6_2 + 1)) a0_0 a0_1 l0_2 l0_3) else (none))) else (none)) else (none))) else (none)) else (none)) else (none)) = some (r1, r2) := H
         have A27 := Aside0.mk A270
         clear A270
         by_cases c28 : ((x4_2 ++ x5_2) ++ (⟨#[110, 111, 100, 101, 61]⟩ : ByteArray)).size + t184.size ≤ 9223372036854775807
         rotate_left; · rw [if_neg c28] at H; exact absurd H (by simp)
         rw [if_pos c28] at H
         have c28b0 := eq_true c28
         have c28b1 : decide (((x4_2 ++ x5_2) ++ (⟨#[110, 111, 100, 101, 61]⟩ : ByteArray)).size + t184.size ≤ 9223372036854775807) = true := decide_eq_true c28
         try have c28b2 : (9223372036854775807 < ((x4_2 ++ x5_2) ++ (⟨#[110, 111, 100, 101, 61]⟩ : ByteArray)).size + t184.size) = False := eq_false (Nat.not_lt.2 c28)
         try have c28b3 : (9223372036854775807 < x4_2.size + x5_2.size + 5 + t184.size) = False := eq_false (by have h_ := c28; simp only [ByteArray.size_append] at h_; have e0_ : (⟨#[110, 111, 100, 101, 61]⟩ : ByteArray).size = 5 := rfl; omega)
         by_cases c29 : (((x4_2 ++ x5_2) ++ (⟨#[110, 111, 100, 101, 61]⟩ : ByteArray)) ++ t184).size + 1 ≤ 9223372036854775807
         rotate_left; · rw [if_neg c29] at H; exact absurd H (by simp)
         rw [if_pos c29] at H
         have c29b0 := eq_true c29
         have c29b1 : decide ((((x4_2 ++ x5_2) ++ (⟨#[110, 111, 100, 101, 61]⟩ : ByteArray)) ++ t184).size + 1 ≤ 9223372036854775807) = true := decide_eq_true c29
         try have c29b2 : (9223372036854775807 < (((x4_2 ++ x5_2) ++ (⟨#[110, 111, 100, 101, 61]⟩ : ByteArray)) ++ t184).size + 1) = False := eq_false (Nat.not_lt.2 c29)
         try have c29b3 : (9223372036854775807 < x4_2.size + x5_2.size + 5 + t184.size + 1) = False := eq_false (by have h_ := c29; simp only [ByteArray.size_append] at h_; have e0_ : (⟨#[110, 111, 100, 101, 61]⟩ : ByteArray).size = 5 := rfl; omega)
         by_cases c30 : x6_2 < (l0_3.length : Int)
         rotate_left; · rw [if_neg c30] at H; exact absurd H (by simp)
         rw [if_pos c30] at H
         have c30b0 : decide (x6_2 < (l0_3.length : Int)) = true := decide_eq_true c30
         clear c30
         replace H := Option.bind_eq_some_iff.mp H
         obtain ⟨t186, A310, H⟩ := H
         replace H : (if ((((x4_2 ++ x5_2) ++ (⟨#[110, 111, 100, 101, 61]⟩ : ByteArray)) ++ t184) ++ (⟨#[44]⟩ : ByteArray)).size + t186.size ≤ 9223372036854775807 then (if (((((x4_2 ++ x5_2) ++ (⟨#[110, 111, 100, 101, 61]⟩ : ByteArray)) ++ t184) ++ (⟨#[44]⟩ : ByteArray)) ++ t186).size + 1 ≤ 9223372036854775807 then ((mosaicref23_Num.f kj17 ((rd_T45 l0_3 x6_2).f1)).bind fun t188 => (if ((((((x4_2 ++ x5_2) ++ (⟨#[110, 111, 100, 101, 61]⟩ : ByteArray)) ++ t184) ++ (⟨#[44]⟩ : ByteArray)) ++ t186) ++ (⟨#[44]⟩ : ByteArray)).size + t188.size ≤ 9223372036854775807 then (mosaicref29_Text.l0 kj17 (((((((x4_2 ++ x5_2) ++ (⟨#[110, 111, 100, 101, 61]⟩ : ByteArray)) ++ t184) ++ (⟨#[44]⟩ : ByteArray)) ++ t186) ++ (⟨#[44]⟩ : ByteArray)) ++ t188) (⟨#[38]⟩ : ByteArray) (wrap64 (x6_2 + 1)) a0_0 a0_1 l0_2 l0_3) else (none))) else (none)) else (none)) = some (r1, r2) := H
         have A31 := Aside0.mk A310
         clear A310
         by_cases c32 : ((((x4_2 ++ x5_2) ++ (⟨#[110, 111, 100, 101, 61]⟩ : ByteArray)) ++ t184) ++ (⟨#[44]⟩ : ByteArray)).size + t186.size ≤ 9223372036854775807
         rotate_left; · rw [if_neg c32] at H; exact absurd H (by simp)
         rw [if_pos c32] at H
         have c32b0 := eq_true c32
         have c32b1 : decide (((((x4_2 ++ x5_2) ++ (⟨#[110, 111, 100, 101, 61]⟩ : ByteArray)) ++ t184) ++ (⟨#[44]⟩ : ByteArray)).size + t186.size ≤ 9223372036854775807) = true := decide_eq_true c32
         try have c32b2 : (9223372036854775807 < ((((x4_2 ++ x5_2) ++ (⟨#[110, 111, 100, 101, 61]⟩ : ByteArray)) ++ t184) ++ (⟨#[44]⟩ : ByteArray)).size + t186.size) = False := eq_false (Nat.not_lt.2 c32)
         try have c32b3 : (9223372036854775807 < x4_2.size + x5_2.size + 5 + t184.size + 1 + t186.size) = False := eq_false (by have h_ := c32; simp only [ByteArray.size_append] at h_; have e0_ : (⟨#[110, 111, 100, 101, 61]⟩ : ByteArray).size = 5 := rfl; have e1_ : (⟨#[44]⟩ : ByteArray).size = 1 := rfl; omega)
         by_cases c33 : (((((x4_2 ++ x5_2) ++ (⟨#[110, 111, 100, 101, 61]⟩ : ByteArray)) ++ t184) ++ (⟨#[44]⟩ : ByteArray)) ++ t186).size + 1 ≤ 9223372036854775807
         rotate_left; · rw [if_neg c33] at H; exact absurd H (by simp)
         rw [if_pos c33] at H
         have c33b0 := eq_true c33
         have c33b1 : decide ((((((x4_2 ++ x5_2) ++ (⟨#[110, 111, 100, 101, 61]⟩ : ByteArray)) ++ t184) ++ (⟨#[44]⟩ : ByteArray)) ++ t186).size + 1 ≤ 9223372036854775807) = true := decide_eq_true c33
         try have c33b2 : (9223372036854775807 < (((((x4_2 ++ x5_2) ++ (⟨#[110, 111, 100, 101, 61]⟩ : ByteArray)) ++ t184) ++ (⟨#[44]⟩ : ByteArray)) ++ t186).size + 1) = False := eq_false (Nat.not_lt.2 c33)
         try have c33b3 : (9223372036854775807 < x4_2.size + x5_2.size + 5 + t184.size + 1 + t186.size + 1) = False := eq_false (by have h_ := c33; simp only [ByteArray.size_append] at h_; have e0_ : (⟨#[110, 111, 100, 101, 61]⟩ : ByteArray).size = 5 := rfl; have e1_ : (⟨#[44]⟩ : ByteArray).size = 1 := rfl; omega)
         replace H := Option.bind_eq_some_iff.mp H
         obtain ⟨t188, A340, H⟩ := H
         replace H : (if ((((((x4_2 ++ x5_2) ++ (⟨#[110, 111, 100, 101, 61]⟩ : ByteArray)) ++ t184) ++ (⟨#[44]⟩ : ByteArray)) ++ t186) ++ (⟨#[44]⟩ : ByteArray)).size + t188.size ≤ 9223372036854775807 then (mosaicref29_Text.l0 kj17 (((((((x4_2 ++ x5_2) ++ (⟨#[110, 111, 100, 101, 61]⟩ : ByteArray)) ++ t184) ++ (⟨#[44]⟩ : ByteArray)) ++ t186) ++ (⟨#[44]⟩ : ByteArray)) ++ t188) (⟨#[38]⟩ : ByteArray) (wrap64 (x6_2 + 1)) a0_0 a0_1 l0_2 l0_3) else (none)) = some (r1, r2) := H
         have A34 := Aside0.mk A340
         clear A340
         by_cases c35 : ((((((x4_2 ++ x5_2) ++ (⟨#[110, 111, 100, 101, 61]⟩ : ByteArray)) ++ t184) ++ (⟨#[44]⟩ : ByteArray)) ++ t186) ++ (⟨#[44]⟩ : ByteArray)).size + t188.size ≤ 9223372036854775807
         rotate_left; · rw [if_neg c35] at H; exact absurd H (by simp)
         rw [if_pos c35] at H
         have c35b0 := eq_true c35
         have c35b1 : decide (((((((x4_2 ++ x5_2) ++ (⟨#[110, 111, 100, 101, 61]⟩ : ByteArray)) ++ t184) ++ (⟨#[44]⟩ : ByteArray)) ++ t186) ++ (⟨#[44]⟩ : ByteArray)).size + t188.size ≤ 9223372036854775807) = true := decide_eq_true c35
         try have c35b2 : (9223372036854775807 < ((((((x4_2 ++ x5_2) ++ (⟨#[110, 111, 100, 101, 61]⟩ : ByteArray)) ++ t184) ++ (⟨#[44]⟩ : ByteArray)) ++ t186) ++ (⟨#[44]⟩ : ByteArray)).size + t188.size) = False := eq_false (Nat.not_lt.2 c35)
         try have c35b3 : (9223372036854775807 < x4_2.size + x5_2.size + 5 + t184.size + 1 + t186.size + 1 + t188.size) = False := eq_false (by have h_ := c35; simp only [ByteArray.size_append] at h_; have e0_ : (⟨#[110, 111, 100, 101, 61]⟩ : ByteArray).size = 5 := rfl; have e1_ : (⟨#[44]⟩ : ByteArray).size = 1 := rfl; omega)
         have H' := Aside0.mk H
         clear H
         try go_wp2
         have n0_ := Aside0.mk (blk_drew BK179.out)
         have n1_ := Aside0.mk (below_drew1 HB.out)
         clear BK179
         clear HB
         have BK179 := n0_
         have HB := n1_
         clear n0_ n1_
         have p183 : 0 ≤ (x6_2 : Int) := of_decide_eq_true (by first | (with_reducible assumption) | assumption)
         have q183 : x6_2 < (l0_2.length : Int) := of_decide_eq_true (by first | (with_reducible assumption) | assumption)
         obtain ⟨ad183, e183, hx183_0⟩ := Kd.at_int HR0_2.out x6_2 p183 q183
         have hw183_0 := hx183_0
         cases e183
         replace hx183_0 := (HB.out.cell (World.block_lt_of_cell? w _ hx183_0)).trans hx183_0
         replace p183 := eq_true p183
         replace q183 := eq_true q183
         have p185 : 0 ≤ (x6_2 : Int) := of_decide_eq_true (by first | (with_reducible assumption) | assumption)
         have q185 : x6_2 < (l0_3.length : Int) := of_decide_eq_true (by first | (with_reducible assumption) | assumption)
         obtain ⟨ad185, e185, hx185_0, hx185_1⟩ := at_T45 HR0_3.out x6_2 p185 q185
         have hw185_1 := hx185_1
         have hw185_0 := hx185_0
         cases e185
         replace hx185_0 := (HB.out.cell (World.block_lt_of_cell? w _ hx185_0)).trans hx185_0
         replace hx185_1 := (HB.out.cell (World.block_lt_of_cell? w _ hx185_1)).trans hx185_1
         replace p185 := eq_true p185
         replace q185 := eq_true q185
         have p187 : 0 ≤ (x6_2 : Int) := of_decide_eq_true (by first | (with_reducible assumption) | assumption)
         have q187 : x6_2 < (l0_3.length : Int) := of_decide_eq_true (by first | (with_reducible assumption) | assumption)
         obtain ⟨ad187, e187, hx187_0, hx187_1⟩ := at_T45 HR0_3.out x6_2 p187 q187
         have hw187_1 := hx187_1
         have hw187_0 := hx187_0
         obtain rfl : ad185 = ad187 := (by injection e187)
         replace hx187_0 := (HB.out.cell (World.block_lt_of_cell? w _ hx187_0)).trans hx187_0
         replace hx187_1 := (HB.out.cell (World.block_lt_of_cell? w _ hx187_1)).trans hx187_1
         replace p187 := eq_true p187
         replace q187 := eq_true q187
         refine start_ (n := 30) (S := fun w' => w'.cell? ⟨gb179, 0, none⟩ = some (.string a0_0) ∧ w'.cell? ⟨gb179, 1, none⟩ = some (.string a0_1) ∧ w'.cell? ⟨gb179, 2, none⟩ = some (.slice (some ad183) l0_2.length c0_2) ∧ w'.cell? ⟨gb179, 3, none⟩ = some (.slice (some ad185) l0_3.length c0_3) ∧ w'.cell? (ad183.add (x6_2).toNat) = some (.int .i64 (rd l0_2 x6_2)) ∧ w'.cell? (ad185.add ((x6_2).toNat * 2)) = some (.int .i64 ((rd_T45 l0_3 x6_2).f0)) ∧ w'.cell? ⟨(ad185.add ((x6_2).toNat * 2)).block, (ad185.add ((x6_2).toNat * 2)).off + 1, none⟩ = some (.int .i64 ((rd_T45 l0_3 x6_2).f1)) ∧ w'.cell? (ad185.add ((x6_2).toNat * 2)) = some (.int .i64 ((rd_T45 l0_3 x6_2).f0)) ∧ w'.cell? ⟨(ad185.add ((x6_2).toNat * 2)).block, (ad185.add ((x6_2).toNat * 2)).off + 1, none⟩ = some (.int .i64 ((rd_T45 l0_3 x6_2).f1))) (ds := []) (fB 30 0) (by kernel_rfl) rfl rfl ⟨(blk_cell BK179.out 0).trans rfl, (blk_cell BK179.out 1).trans rfl, (blk_cell BK179.out 2).trans rfl, (blk_cell BK179.out 3).trans rfl, ((HB.out.cell (World.block_lt_of_cell? w _ hw183_0)).trans hw183_0), ((HB.out.cell (World.block_lt_of_cell? w _ hw185_0)).trans hw185_0), ((HB.out.cell (World.block_lt_of_cell? w _ hw185_1)).trans hw185_1), ((HB.out.cell (World.block_lt_of_cell? w _ hw187_0)).trans hw187_0), ((HB.out.cell (World.block_lt_of_cell? w _ hw187_1)).trans hw187_1)⟩ (fun hHeld => ?_); refine with_tabW mosaicref29_Text.tab11 mosaicref29_Text.bits11 (fun HT_ HW_ => ?_)
         generalize wc.drew = w36 at BK179 HB hx183_0 hx185_0 hx185_1 hx187_0 hx187_1 hHeld ⊢
         refine pure_ (i := 0) (N := some 39) (v := ?_) (a' := ?_) (fB 30 1) rfl rfl (any_of HT_.out (by kernel_rfl)) (fun _ _ _ h => h) (Or.inl ⟨by rfl, ?_⟩) ?_ ?_
         rotate_left; · intro w'; go_simp; with_reducible rfl
         rotate_left; · simp only [Act.put, sA, sB, sC, i64_w, i32_w, sD]; rfl
         refine pure_ (i := 1) (N := some 40) (v := ?_) (a' := ?_) (fB 30 3) rfl rfl (any_of HT_.out (by kernel_rfl)) (fun _ _ _ h => h) (Or.inl ⟨by rfl, ?_⟩) ?_ ?_
         rotate_left; · intro w'; go_simp; with_reducible rfl
         rotate_left; · simp only [Act.put, sA, sB, sC, i64_w, i32_w, sD]; rfl
         refine pure_ (i := 2) (N := some 41) (v := ?_) (a' := ?_) (fB 30 7) rfl rfl (any_of HT_.out (by kernel_rfl)) (fun _ _ _ h => h) (Or.inl ⟨by rfl, ?_⟩) ?_ ?_
         rotate_left; · intro w'; go_simp; with_reducible rfl
         rotate_left; · simp only [Act.put, sA, sB, sC, i64_w, i32_w, sD]; rfl
         refine pure_ (i := 3) (N := some 42) (v := ?_) (a' := ?_) (fB 30 15) rfl rfl (any_of HT_.out (by kernel_rfl)) (fun _ _ _ h => h) (Or.inl ⟨by rfl, ?_⟩) ?_ ?_
         rotate_left; · intro w'; go_simp; with_reducible rfl
         rotate_left; · simp only [Act.put, sA, sB, sC, i64_w, i32_w, sD]; rfl
         refine pure_ (i := 4) (N := some 43) (v := ?_) (a' := ?_) (fB 30 31) rfl rfl (any_of HT_.out (by kernel_rfl)) (fun _ _ _ h => h) (Or.inl ⟨by rfl, ?_⟩) ?_ ?_
         rotate_left; · intro w'; go_simp; with_reducible rfl
         rotate_left; · simp only [Act.put, sA, sB, sC, i64_w, i32_w, sD]; rfl
         refine pure_ (i := 6) (N := some 45) (v := ?_) (a' := ?_) (fB 30 95) rfl rfl (any_of HT_.out (by kernel_rfl)) (fun _ _ _ h => h) (Or.inl ⟨by rfl, ?_⟩) ?_ ?_
         rotate_left; · intro w'; go_simp; with_reducible rfl
         rotate_left; · simp only [Act.put, sA, sB, sC, i64_w, i32_w, sD]; rfl
         refine pure_ (i := 12) (N := some 51) (v := ?_) (a' := ?_) (fB 30 4191) rfl rfl (any_of HT_.out (by kernel_rfl)) (fun _ _ _ h => h) (Or.inl ⟨by rfl, ?_⟩) ?_ ?_
         rotate_left; · intro w'; go_simp; with_reducible rfl
         rotate_left; · simp only [Act.put, sA, sB, sC, i64_w, i32_w, sD]; rfl
         refine pure_ (i := 14) (N := some 53) (v := ?_) (a' := ?_) (fB 30 20575) rfl rfl (any_of HT_.out (by kernel_rfl)) (fun _ _ _ h => h) (Or.inl ⟨by rfl, ?_⟩) ?_ ?_
         rotate_left; · intro w'; go_simp; with_reducible rfl
         rotate_left; · simp only [Act.put, sA, sB, sC, i64_w, i32_w, sD]; rfl
         refine pure_ (i := 21) (N := some 60) (v := ?_) (a' := ?_) (fB 30 2117727) rfl rfl (any_of HT_.out (by kernel_rfl)) (fun _ _ _ h => h) (Or.inl ⟨by rfl, ?_⟩) ?_ ?_
         rotate_left; · intro w'; go_simp; with_reducible rfl
         rotate_left; · simp only [Act.put, sA, sB, sC, i64_w, i32_w, sD]; rfl
         refine pure_ (i := 23) (N := some 62) (v := ?_) (a' := ?_) (fB 30 10506335) rfl rfl (any_of HT_.out (by kernel_rfl)) (fun _ _ _ h => h) (Or.inl ⟨by rfl, ?_⟩) ?_ ?_
         rotate_left; · intro w'; go_simp; with_reducible rfl
         rotate_left; · simp only [Act.put, sA, sB, sC, i64_w, i32_w, sD]; rfl
         refine take_ (i := 5) (N := some 44) (v := ?_) (a' := ?_) (fB 30 10506367) rfl rfl (take_ofW HT_.out HW_.out (by kernel_rfl)) (fun _ _ _ h => h) (Or.inl ⟨by rfl, ?_⟩) hHeld ?_ ?_
         rotate_left; · rintro w' ⟨s0, s1, s2, s3, s4, s5, s6, s7, s8⟩; go_simp; with_reducible rfl
         rotate_left; · simp only [Act.put, sA, sB, sC, i64_w, i32_w, sD]; rfl
         refine pure_ (i := 7) (N := some 46) (v := ?_) (a' := ?_) (fB 30 10506495) rfl rfl (any_of HT_.out (by kernel_rfl)) (fun _ _ _ h => h) (Or.inl ⟨by rfl, ?_⟩) ?_ ?_
         rotate_left; · intro w'; go_simp; with_reducible rfl
         rotate_left; · simp only [Act.put, sA, sB, sC, i64_w, i32_w, sD]; rfl
         refine take_ (i := 8) (N := some 47) (v := ?_) (a' := ?_) (fB 30 10506751) rfl rfl (take_ofW HT_.out HW_.out (by kernel_rfl)) (fun _ _ _ h => h) (Or.inl ⟨by rfl, ?_⟩) hHeld ?_ ?_
         rotate_left; · rintro w' ⟨s0, s1, s2, s3, s4, s5, s6, s7, s8⟩; go_simp; with_reducible rfl
         rotate_left; · simp only [Act.put, sA, sB, sC, i64_w, i32_w, sD]; rfl
         refine take_ (i := 13) (N := some 52) (v := ?_) (a' := ?_) (fB 30 10514943) rfl rfl (take_ofW HT_.out HW_.out (by kernel_rfl)) (fun _ _ _ h => h) (Or.inl ⟨by rfl, ?_⟩) hHeld ?_ ?_
         rotate_left; · rintro w' ⟨s0, s1, s2, s3, s4, s5, s6, s7, s8⟩; go_simp; with_reducible rfl
         rotate_left; · simp only [Act.put, sA, sB, sC, i64_w, i32_w, sD]; rfl
         refine pure_ (i := 15) (N := some 54) (v := ?_) (a' := ?_) (fB 30 10547711) rfl rfl (any_of HT_.out (by kernel_rfl)) (fun _ _ _ h => h) (Or.inl ⟨by rfl, ?_⟩) ?_ ?_
         rotate_left; · intro w'; go_simp; with_reducible rfl
         rotate_left; · simp only [Act.put, sA, sB, sC, i64_w, i32_w, sD]; rfl
         refine pure_ (i := 16) (N := some 55) (v := ?_) (a' := ?_) (fB 30 10613247) rfl rfl (any_of HT_.out (by kernel_rfl)) (fun _ _ _ h => h) (Or.inl ⟨by rfl, ?_⟩) ?_ ?_
         rotate_left; · intro w'; go_simp; with_reducible rfl
         rotate_left; · simp only [Act.put, sA, sB, sC, i64_w, i32_w, sD]; rfl
         refine take_ (i := 17) (N := some 56) (v := ?_) (a' := ?_) (fB 30 10744319) rfl rfl (take_ofW HT_.out HW_.out (by kernel_rfl)) (fun _ _ _ h => h) (Or.inl ⟨by rfl, ?_⟩) hHeld ?_ ?_
         rotate_left; · rintro w' ⟨s0, s1, s2, s3, s4, s5, s6, s7, s8⟩; go_simp; with_reducible rfl
         rotate_left; · simp only [Act.put, sA, sB, sC, i64_w, i32_w, sD]; rfl
         refine take_ (i := 22) (N := some 61) (v := ?_) (a' := ?_) (fB 30 14938623) rfl rfl (take_ofW HT_.out HW_.out (by kernel_rfl)) (fun _ _ _ h => h) (Or.inl ⟨by rfl, ?_⟩) hHeld ?_ ?_
         rotate_left; · rintro w' ⟨s0, s1, s2, s3, s4, s5, s6, s7, s8⟩; go_simp; with_reducible rfl
         rotate_left; · simp only [Act.put, sA, sB, sC, i64_w, i32_w, sD]; rfl
         refine pure_ (i := 24) (N := some 63) (v := ?_) (a' := ?_) (fB 30 31715839) rfl rfl (any_of HT_.out (by kernel_rfl)) (fun _ _ _ h => h) (Or.inl ⟨by rfl, ?_⟩) ?_ ?_
         rotate_left; · intro w'; go_simp; with_reducible rfl
         rotate_left; · simp only [Act.put, sA, sB, sC, i64_w, i32_w, sD]; rfl
         refine pure_ (i := 25) (N := some 64) (v := ?_) (a' := ?_) (fB 30 65270271) rfl rfl (any_of HT_.out (by kernel_rfl)) (fun _ _ _ h => h) (Or.inl ⟨by rfl, ?_⟩) ?_ ?_
         rotate_left; · intro w'; go_simp; with_reducible rfl
         rotate_left; · simp only [Act.put, sA, sB, sC, i64_w, i32_w, sD]; rfl
         refine take_ (i := 26) (N := some 65) (v := ?_) (a' := ?_) (fB 30 132379135) rfl rfl (take_ofW HT_.out HW_.out (by kernel_rfl)) (fun _ _ _ h => h) (Or.inl ⟨by rfl, ?_⟩) hHeld ?_ ?_
         rotate_left; · rintro w' ⟨s0, s1, s2, s3, s4, s5, s6, s7, s8⟩; go_simp; with_reducible rfl
         rotate_left; · simp only [Act.put, sA, sB, sC, i64_w, i32_w, sD]; rfl
         refine one_ (i := 9) (N := some 48) (fB 30 132379647) rfl rfl (one_of HT_.out (by kernel_rfl)) (by decide) (fun K hK => ?_)
         refine goes_ Tryd.func32 (by kernel_rfl) rfl #[.int .i64 (rd l0_2 x6_2)] (by rfl) rfl rfl (by (try simp only [List.map_toArray, List.map_cons, List.map_nil]); first | done | rfl | (simp only [List.length_drop, List.length_take]; rfl)) ?_
         with_reducible refine (mosaicref23_Num.calls kj17 (rd l0_2 x6_2) t184 _ A27.out).mono ?_
         rintro e w37 ⟨rfl, hb⟩
         refine ⟨_, rfl, ?_⟩
         have n0_ := bB BK179 hb
         have n1_ := hS HB hb
         clear BK179
         clear HB
         have BK179 := n0_
         have HB := n1_
         clear n0_ n1_
         (try clear hb); (try clear hb2); (try clear hk); (try clear hi)
         refine hK.out _ _ ⟨(blk_cell BK179.out 0).trans rfl, (blk_cell BK179.out 1).trans rfl, (blk_cell BK179.out 2).trans rfl, (blk_cell BK179.out 3).trans rfl, ((HB.out.cell (World.block_lt_of_cell? w _ hw183_0)).trans hw183_0), ((HB.out.cell (World.block_lt_of_cell? w _ hw185_0)).trans hw185_0), ((HB.out.cell (World.block_lt_of_cell? w _ hw185_1)).trans hw185_1), ((HB.out.cell (World.block_lt_of_cell? w _ hw187_0)).trans hw187_0), ((HB.out.cell (World.block_lt_of_cell? w _ hw187_1)).trans hw187_1)⟩ (fun hHeld => ?_)
         clear hK K
         refine norm_ (a' := ?_) ?_ ?_
         rotate_left; · show Act.put _ (some 48) _ = _; simp only [Act.put, sA, sB, sC, i64_w, i32_w, sD]; rfl
         refine pure_ (i := 10) (N := some 49) (v := ?_) (a' := ?_) (fB 30 132380671) rfl rfl (any_of HT_.out (by kernel_rfl)) (fun _ _ _ h => h) (Or.inl ⟨by rfl, ?_⟩) ?_ ?_
         rotate_left; · intro w'; go_simp; with_reducible rfl
         rotate_left; · simp only [Act.put, sA, sB, sC, i64_w, i32_w, sD]; rfl
         refine pure_ (i := 11) (N := some 50) (v := ?_) (a' := ?_) (fB 30 132382719) rfl rfl (any_of HT_.out (by kernel_rfl)) (fun _ _ _ h => h) (Or.inl ⟨by rfl, ?_⟩) ?_ ?_
         rotate_left; · intro w'; go_simp; with_reducible rfl
         rotate_left; · simp only [Act.put, sA, sB, sC, i64_w, i32_w, sD]; rfl
         refine one_ (i := 18) (N := some 57) (fB 30 132644863) rfl rfl (one_of HT_.out (by kernel_rfl)) (by decide) (fun K hK => ?_)
         refine goes_ Tryd.func32 (by kernel_rfl) rfl #[.int .i64 ((rd_T45 l0_3 x6_2).f0)] (by rfl) rfl rfl (by (try simp only [List.map_toArray, List.map_cons, List.map_nil]); first | done | rfl | (simp only [List.length_drop, List.length_take]; rfl)) ?_
         with_reducible refine (mosaicref23_Num.calls kj17 ((rd_T45 l0_3 x6_2).f0) t186 _ A31.out).mono ?_
         rintro e w38 ⟨rfl, hb⟩
         refine ⟨_, rfl, ?_⟩
         have n0_ := bB BK179 hb
         have n1_ := hS HB hb
         clear BK179
         clear HB
         have BK179 := n0_
         have HB := n1_
         clear n0_ n1_
         (try clear hb); (try clear hb2); (try clear hk); (try clear hi)
         refine hK.out _ _ ⟨(blk_cell BK179.out 0).trans rfl, (blk_cell BK179.out 1).trans rfl, (blk_cell BK179.out 2).trans rfl, (blk_cell BK179.out 3).trans rfl, ((HB.out.cell (World.block_lt_of_cell? w _ hw183_0)).trans hw183_0), ((HB.out.cell (World.block_lt_of_cell? w _ hw185_0)).trans hw185_0), ((HB.out.cell (World.block_lt_of_cell? w _ hw185_1)).trans hw185_1), ((HB.out.cell (World.block_lt_of_cell? w _ hw187_0)).trans hw187_0), ((HB.out.cell (World.block_lt_of_cell? w _ hw187_1)).trans hw187_1)⟩ (fun hHeld => ?_)
         clear hK K
         refine norm_ (a' := ?_) ?_ ?_
         rotate_left; · show Act.put _ (some 57) _ = _; simp only [Act.put, sA, sB, sC, i64_w, i32_w, sD]; rfl
         refine pure_ (i := 19) (N := some 58) (v := ?_) (a' := ?_) (fB 30 133169151) rfl rfl (any_of HT_.out (by kernel_rfl)) (fun _ _ _ h => h) (Or.inl ⟨by rfl, ?_⟩) ?_ ?_
         rotate_left; · intro w'; go_simp; with_reducible rfl
         rotate_left; · simp only [Act.put, sA, sB, sC, i64_w, i32_w, sD]; rfl
         refine pure_ (i := 20) (N := some 59) (v := ?_) (a' := ?_) (fB 30 134217727) rfl rfl (any_of HT_.out (by kernel_rfl)) (fun _ _ _ h => h) (Or.inl ⟨by rfl, ?_⟩) ?_ ?_
         rotate_left; · intro w'; go_simp; with_reducible rfl
         rotate_left; · simp only [Act.put, sA, sB, sC, i64_w, i32_w, sD]; rfl
         refine one_ (i := 27) (N := some 66) (fB 30 268435455) rfl rfl (one_of HT_.out (by kernel_rfl)) (by decide) (fun K hK => ?_)
         refine goes_ Tryd.func32 (by kernel_rfl) rfl #[.int .i64 ((rd_T45 l0_3 x6_2).f1)] (by rfl) rfl rfl (by (try simp only [List.map_toArray, List.map_cons, List.map_nil]); first | done | rfl | (simp only [List.length_drop, List.length_take]; rfl)) ?_
         with_reducible refine (mosaicref23_Num.calls kj17 ((rd_T45 l0_3 x6_2).f1) t188 _ A34.out).mono ?_
         rintro e w39 ⟨rfl, hb⟩
         refine ⟨_, rfl, ?_⟩
         have n0_ := bB BK179 hb
         have n1_ := hS HB hb
         clear BK179
         clear HB
         have BK179 := n0_
         have HB := n1_
         clear n0_ n1_
         (try clear hb); (try clear hb2); (try clear hk); (try clear hi)
         refine hK.out _ _ ⟨(blk_cell BK179.out 0).trans rfl, (blk_cell BK179.out 1).trans rfl, (blk_cell BK179.out 2).trans rfl, (blk_cell BK179.out 3).trans rfl, ((HB.out.cell (World.block_lt_of_cell? w _ hw183_0)).trans hw183_0), ((HB.out.cell (World.block_lt_of_cell? w _ hw185_0)).trans hw185_0), ((HB.out.cell (World.block_lt_of_cell? w _ hw185_1)).trans hw185_1), ((HB.out.cell (World.block_lt_of_cell? w _ hw187_0)).trans hw187_0), ((HB.out.cell (World.block_lt_of_cell? w _ hw187_1)).trans hw187_1)⟩ (fun hHeld => ?_)
         clear hK K
         refine norm_ (a' := ?_) ?_ ?_
         rotate_left; · show Act.put _ (some 66) _ = _; simp only [Act.put, sA, sB, sC, i64_w, i32_w, sD]; rfl
         refine pure_ (i := 28) (N := some 67) (v := ?_) (a' := ?_) (fB 30 536870911) rfl rfl (any_of HT_.out (by kernel_rfl)) (fun _ _ _ h => h) (Or.inl ⟨by rfl, ?_⟩) ?_ ?_
         rotate_left; · intro w'; go_simp; with_reducible rfl
         rotate_left; · simp only [Act.put, sA, sB, sC, i64_w, i32_w, sD]; rfl
         refine pure_ (i := 29) (N := some 4) (v := ?_) (a' := ?_) (fB 30 1073741823) rfl rfl (any_of HT_.out (by kernel_rfl)) (fun _ _ _ h => h) (Or.inl ⟨by rfl, ?_⟩) ?_ ?_
         rotate_left; · intro w'; go_simp; with_reducible rfl
         rotate_left; · simp only [Act.put, sA, sB, sC, i64_w, i32_w, sD]; rfl
         refine done_ (done_of HT_.out (by kernel_rfl)) ?_
         try go_wp2
         go_roundg kj17
         case measure => have := HJ5.out; have := HK2.out; have := HJ17.out; omega
         case rel => exact ⟨(((((((x4_2 ++ x5_2) ++ (⟨#[110, 111, 100, 101, 61]⟩ : ByteArray)) ++ t184) ++ (⟨#[44]⟩ : ByteArray)) ++ t186) ++ (⟨#[44]⟩ : ByteArray)) ++ t188), ((⟨#[38]⟩ : ByteArray)), (wrap64 (x6_2 + 1)), (by first | rfl | (simp; done) | (simp [*]; done)), (by first | rfl | (simp; done) | (simp [*]; done)), (by first | rfl | (simp; done) | (simp [*]; done)), H', ⟨by have := HJ5.out; have := HK2.out; have := HJ17.out; omega⟩, ⟨by (with_reducible repeat (first | refine blk_drewN ?_ _ | refine blk_drew ?_ | refine blk_alloc ?_ _)); exact BK179.out⟩, ⟨by repeat (first | (with_reducible first | exact HB.out | apply below_alloc | apply pw_below_drewN | apply below_drew1 | refine below_set ?_ GE179.out) | exact HB.out)⟩⟩
        ·
         replace c22 := Bool.eq_false_iff.mpr c22
         subst c22
         have H1 : (some (x4_2, 0)) = some (r1, r2) := by rw [if_neg (show ¬ (false = true) by decide)] at H; exact H
         clear H
         have H := H1
         clear H1
         simp only [Option.some.injEq, Prod.mk.injEq] at H
         obtain ⟨rfl, rfl⟩ := H
         go_wp2
         go_ret2
         exact ⟨by first | rfl | (simp [errW_none, errW_some] <;> rfl) | (simp [*, errW_none, errW_some] <;> rfl), by repeat (first | (with_reducible first | exact HB.out | apply below_alloc | apply pw_below_drewN | apply below_drew1 | refine below_set ?_ GE179.out) | exact HB.out)⟩
 ·
  replace c3 := Bool.eq_false_iff.mpr c3
  subst c3
  have H1 : (some ((⟨#[]⟩ : ByteArray), 1)) = some (r1, r2) := by rw [if_neg (show ¬ (false = true) by decide)] at H; exact H
  clear H
  have H := H1
  clear H1
  simp only [Option.some.injEq, Prod.mk.injEq] at H
  obtain ⟨rfl, rfl⟩ := H
  go_enter Tryd.func12, Tryd.ntmps12
  go_wp2_with (first | ((with_reducible refine gate_dst (N := 1) rfl ?_); (try (refine gate_guard (by rfl) ?_; dsimp only)); refine box_event ?hg (N := 1) ?hd (cs := #[.string a0_0, .string a0_1, .slice A0_2 l0_2.length c0_2, .slice A0_3 l0_3.length c0_3]) (t := 39) ?hr ?_; (case hd => rfl); (case hg => rfl); (case hr => first | (go_simp; done) | (go_simp; rfl)); intro gb179 hg w40 hbox hb; have n0_ := Aside0.mk (below_step (by repeat (first | (with_reducible first | exact HB.out | apply below_alloc | apply pw_below_drewN | apply below_drew1) | exact HB.out)) hb); have n1_ := Aside0.mk (hbox); have n2_ := Aside0.mk ((by rw [hg]; exact (below_size (by repeat (first | (with_reducible first | exact HB.out | apply below_alloc | apply pw_below_drewN | apply below_drew1) | exact HB.out))) : w.heap.size ≤ gb179)); have n3_ := Aside0.mk ((by rw [hg]; exact (below_size (by repeat (first | (with_reducible first | exact HB.out | apply below_alloc | apply pw_below_drewN | apply below_drew1) | exact HB.out))) : w.heap.size ≤ gb179)); clear HB; have HB := n0_; have BK179 := n1_; have GW179 := n2_; have GE179 := n3_; clear n0_ n1_ n2_ n3_; clear hb hbox hg; have hcz41_0 : w40.cell? ⟨gb179, 0, none⟩ = some (.string a0_0) := (blk_cell BK179.out 0).trans rfl; have hcz41_1 : w40.cell? ⟨gb179, 1, none⟩ = some (.string a0_1) := (blk_cell BK179.out 1).trans rfl; have hcz41_2 : w40.cell? ⟨gb179, 2, none⟩ = some (.slice A0_2 l0_2.length c0_2) := (blk_cell BK179.out 2).trans rfl; have hcz41_3 : w40.cell? ⟨gb179, 3, none⟩ = some (.slice A0_3 l0_3.length c0_3) := (blk_cell BK179.out 3).trans rfl; have hfz41_0 := blk_frozen BK179.out 0; have hfz41_1 := blk_frozen BK179.out 1; have hfz41_2 := blk_frozen BK179.out 2; have hfz41_3 := blk_frozen BK179.out 3) | ((with_reducible refine gate_callee (f := 18) rfl ?_); refine goesL_ (some 8) rfl rfl Tryd.func18 (by kernel_rfl) rfl #[.agg #[.string a0_0, .string a0_1, .slice A0_2 l0_2.length c0_2, .slice A0_3 l0_3.length c0_3]] rfl (by (try simp only [List.map_toArray, List.map_cons, List.map_nil]); first | done | rfl | (simp only [List.length_drop, List.length_take]; rfl)) ?_; (with_reducible refine (mosaicref29_Check.calls k a0_0 a0_1 _ _ l0_2 _ _ l0_3 false _ ?side1 ?side2 ?side3 ?side4 A2.out).mono ?_); (case side1 => repeat (first | exact (Kd.C_below HR0_2.out HB.out) | (with_reducible refine Kd.C_alloc ?_ _) | (with_reducible refine Kd.C_drewN ?_ _) | (with_reducible refine Kd.C_drew ?_))); (case side2 => exact HC0_2.out); (case side3 => repeat (first | exact (Kd.C_below HR0_3.out HB.out) | (with_reducible refine Kd.C_alloc ?_ _) | (with_reducible refine Kd.C_drewN ?_ _) | (with_reducible refine Kd.C_drew ?_))); (case side4 => exact HC0_3.out); rintro e w42 ⟨rfl, hb⟩; refine ⟨_, rfl, ?_⟩; have n0_ := bB BK179 hb; have n1_ := Aside0.mk (below_step (by repeat (first | (with_reducible first | exact HB.out | apply below_alloc | apply pw_below_drewN | apply below_drew1 | refine below_set ?_ GE179.out) | exact HB.out)) hb); clear BK179; clear HB; have BK179 := n0_; have HB := n1_; clear n0_ n1_; (try clear hb); (try clear hb2); (try clear hk); (try clear hi)))
  go_ret2
  exact ⟨by first | rfl | (simp [errW_none, errW_some] <;> rfl) | (simp [*, errW_none, errW_some] <;> rfl), by repeat (first | (with_reducible first | exact HB.out | apply below_alloc | apply pw_below_drewN | apply below_drew1 | refine below_set ?_ GE179.out) | exact HB.out)⟩

end Go.Proofs.YtdccglkmkahblaaDoor.P
