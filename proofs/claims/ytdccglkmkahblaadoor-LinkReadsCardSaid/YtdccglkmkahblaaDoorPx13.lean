-- Written for this claim by the session's own turn of the kit's print program (wip/tools/xprint.py).
import Derived.Test.YtdccglkmkahblaaDoorPx0
import Derived.Test.YtdccglkmkahblaaDoorPx9
import Derived.Test.YtdccglkmkahblaaDoorPx11
import Derived.Test.YtdccglkmkahblaaDoorPx12
namespace Go.Proofs.YtdccglkmkahblaaDoor.P
open Go.RowKit Go.Proofs.YtdccglkmkahblaaDoor.Sq Go.Proofs.YtdccglkmkahblaaDoor.Hand Go.Proofs.YtdccglkmkahblaaDoorW.PrintWords Go.Proofs.YtdccglkmkahblaaDoorW.PrintLast Go.Proofs.YtdccglkmkahblaaDoorW.PrintMore
attribute [local go_sem] max2_int min2_int max_two min_two max_three min_three max_four min_four   -- for this text's walks alone
set_option linter.unusedVariables false
set_option linter.unusedSimpArgs false

/-! ### mosaicref29_Read: function 20 -/
mutual
def mosaicref29_Read.j0 : Nat → ByteArray → Bool → ByteArray → ByteArray → Option (ByteArray × ByteArray × List Int × (List (S45)) × Int)
 | 0, _, _, _, _ => none
 | k + 1, x0, x24, x208000, x208001 => if x24 = true then (some ((⟨#[]⟩ : ByteArray), (⟨#[]⟩ : ByteArray), ([] : List Int), ([] : List (S45)), 3)) else (if 7 ≤ 59 then (if 59 ≤ (x0.size : Int) then ((mosaicref29_Unbase32.f k (x0.extract 7 59)).bind fun bt208 => (mosaicref29_Read.l0 k x0 59 0 bt208.1 x208001 ([] : List Int) ([] : List (S45)))) else (none)) else (none))
def mosaicref29_Read.l0 : Nat → ByteArray → Int → Int → ByteArray → ByteArray → List Int → List (S45) → Option (ByteArray × ByteArray × List Int × (List (S45)) × Int)
 | 0, _, _, _, _, _, _, _ => none
 | k + 1, x0, x7, x8, x208000, x208001, x208002, x208003 => if x8 < 8 then (mosaicref29_Read.j2 k x0 x7 x8 (decide (x7 < (x0.size : Int))) x208000 x208001 x208002 x208003) else (mosaicref29_Read.j2 k x0 x7 x8 false x208000 x208001 x208002 x208003)
def mosaicref29_Read.j2 : Nat → ByteArray → Int → Int → Bool → ByteArray → ByteArray → List Int → List (S45) → Option (ByteArray × ByteArray × List Int × (List (S45)) × Int)
 | 0, _, _, _, _, _, _, _, _ => none
 | k + 1, x0, x7, x8, x41, x208000, x208001, x208002, x208003 => if x41 = true then ((mosaicref29_upTo.f k x0 (wrap64 (x7 + 1)) 38 38).bind fun t212 => (if 0 ≤ (wrap64 (x7 + 1)) then (if (wrap64 (x7 + 1)) ≤ t212 then (if t212 ≤ (x0.size : Int) then (if ((x0.extract ((wrap64 (x7 + 1)) : Int).toNat (t212 : Int).toNat).size : Int) ≥ 6 then (if 0 ≤ 6 then (if 6 ≤ ((x0.extract ((wrap64 (x7 + 1)) : Int).toNat (t212 : Int).toNat).size : Int) then (mosaicref29_Read.j3 k x0 x8 t212 (x0.extract ((wrap64 (x7 + 1)) : Int).toNat (t212 : Int).toNat) (((x0.extract ((wrap64 (x7 + 1)) : Int).toNat (t212 : Int).toNat).extract 0 6).toList == ([116, 105, 116, 108, 101, 61] : List UInt8)) x208000 x208001 x208002 x208003) else (none)) else (none)) else (mosaicref29_Read.j3 k x0 x8 t212 (x0.extract ((wrap64 (x7 + 1)) : Int).toNat (t212 : Int).toNat) false x208000 x208001 x208002 x208003)) else (none)) else (none)) else (none))) else ((mosaicref29_Text.f k x208000 x208001 x208002 x208003).bind fun bt210 => (if bt210.1.toList = x0.toList then (some (x208000, x208001, x208002, x208003, 0)) else (some ((⟨#[]⟩ : ByteArray), (⟨#[]⟩ : ByteArray), ([] : List Int), ([] : List (S45)), 3))))
def mosaicref29_Read.j3 : Nat → ByteArray → Int → Int → ByteArray → Bool → ByteArray → ByteArray → List Int → List (S45) → Option (ByteArray × ByteArray × List Int × (List (S45)) × Int)
 | 0, _, _, _, _, _, _, _, _, _ => none
 | k + 1, x0, x8, x9, x10, x60, x208000, x208001, x208002, x208003 => if x60 = true then (if 6 ≤ (x10.size : Int) then ((mosaicref29_Unescape.f k (x10.extract 6 x10.size)).bind fun bt213 => (mosaicref29_Read.j4 k x0 x8 x9 x10 x208000 bt213.1 x208002 x208003)) else (none)) else (mosaicref29_Read.j4 k x0 x8 x9 x10 x208000 x208001 x208002 x208003)
def mosaicref29_Read.j4 : Nat → ByteArray → Int → Int → ByteArray → ByteArray → ByteArray → List Int → List (S45) → Option (ByteArray × ByteArray × List Int × (List (S45)) × Int)
 | 0, _, _, _, _, _, _, _, _ => none
 | k + 1, x0, x8, x9, x10, x208000, x208001, x208002, x208003 => if (x10.size : Int) ≥ 5 then (if 0 ≤ 5 then (if 5 ≤ (x10.size : Int) then (mosaicref29_Read.j5 k x0 x8 x9 x10 ((x10.extract 0 5).toList == ([110, 111, 100, 101, 61] : List UInt8)) x208000 x208001 x208002 x208003) else (none)) else (none)) else (mosaicref29_Read.j5 k x0 x8 x9 x10 false x208000 x208001 x208002 x208003)
def mosaicref29_Read.j5 : Nat → ByteArray → Int → Int → ByteArray → Bool → ByteArray → ByteArray → List Int → List (S45) → Option (ByteArray × ByteArray × List Int × (List (S45)) × Int)
 | 0, _, _, _, _, _, _, _, _, _ => none
 | k + 1, x0, x8, x9, x10, x76, x208000, x208001, x208002, x208003 => if x76 = true then ((mosaicref29_upTo.f k x10 5 44 44).bind fun t215 => ((mosaicref29_upTo.f k x10 (wrap64 (t215 + 1)) 44 44).bind fun t216 => (if t216 < (x10.size : Int) then (if 5 ≤ t215 then (if t215 ≤ (x10.size : Int) then ((mosaicref29_whole.f k (x10.extract 5 (t215 : Int).toNat)).bind fun t217 => (if x208002.length < 17592186044416 then (if 0 ≤ (wrap64 (t215 + 1)) then (if (wrap64 (t215 + 1)) ≤ t216 then (if t216 ≤ (x10.size : Int) then ((mosaicref29_whole.f k (x10.extract ((wrap64 (t215 + 1)) : Int).toNat (t216 : Int).toNat)).bind fun t221 => (if 0 ≤ (wrap64 (t216 + 1)) then (if (wrap64 (t216 + 1)) ≤ (x10.size : Int) then ((mosaicref29_whole.f k (x10.extract ((wrap64 (t216 + 1)) : Int).toNat x10.size)).bind fun t222 => (if x208003.length < 8796093022208 then (mosaicref29_Read.l0 k x0 x9 (wrap64 (x8 + 1)) x208000 x208001 (x208002 ++ [t217]) (x208003 ++ [(⟨t221, t222⟩ : S45)])) else (none))) else (none)) else (none))) else (none)) else (none)) else (none)) else (none))) else (none)) else (none)) else (mosaicref29_Read.l0 k x0 x9 (wrap64 (x8 + 1)) x208000 x208001 x208002 x208003)))) else (mosaicref29_Read.l0 k x0 x9 (wrap64 (x8 + 1)) x208000 x208001 x208002 x208003)
end
def mosaicref29_Read.f (k : Nat) (a0 : ByteArray) : Option (ByteArray × ByteArray × List Int × (List (S45)) × Int) := if (a0.size : Int) < 59 then (mosaicref29_Read.j0 k a0 true (⟨#[]⟩ : ByteArray) (⟨#[]⟩ : ByteArray)) else (if 0 ≤ 7 then (if 7 ≤ (a0.size : Int) then (mosaicref29_Read.j0 k a0 ((a0.extract 0 7).toList != ([109, 111, 115, 97, 105, 99, 58] : List UInt8)) (⟨#[]⟩ : ByteArray) (⟨#[]⟩ : ByteArray)) else (none)) else (none))
def mosaicref29_Read.T19 : Bool × List (List Nat × List Nat) := (true, [([], []), ([0], [0]), ([], []), ([], []), ([2, 3], [2, 3]), ([4], [4]), ([5], [5]), ([1, 6, 5], [1, 6]), ([0, 1, 2, 3, 4, 5, 6, 7], []), ([8, 7, 7, 0, 1, 2, 3, 4, 5, 6, 7], [7, 8])])
def mosaicref29_Read.B19 : List Nat := [0, 1, 0, 0, 12, 28, 60, 127, 255, 511]
theorem mosaicref29_Read.tab19 : rtab .any (opsOf Tryd.f20 19) = mosaicref29_Read.T19 := by kernel_rfl
theorem mosaicref29_Read.bits19 : waitsOk mosaicref29_Read.T19.2 mosaicref29_Read.B19 = true := by kernel_rfl
def mosaicref29_Read.T20 : Bool × List (List Nat × List Nat) := (true, [([], []), ([0], [0]), ([], []), ([], []), ([3], [3]), ([], []), ([2, 4, 5], [2, 4, 5]), ([6], [6]), ([], []), ([], []), ([9], [9]), ([8, 10], [8, 10]), ([11, 7], [11]), ([7, 12], [7, 12]), ([13], [13]), ([1, 14, 12], [1, 14]), ([0, 1, 2, 3, 4, 5, 6, 7, 8, 9, 10, 11, 12, 13, 14, 15], []), ([16, 15, 15, 0, 1, 2, 3, 4, 5, 6, 7, 8, 9, 10, 11, 12, 13, 14, 15], [15, 16])])
def mosaicref29_Read.B20 : List Nat := [0, 1, 0, 0, 8, 0, 60, 124, 0, 0, 512, 1792, 4092, 8188, 16380, 32767, 65535, 131071]
theorem mosaicref29_Read.tab20 : rtab .any (opsOf Tryd.f20 20) = mosaicref29_Read.T20 := by kernel_rfl
theorem mosaicref29_Read.bits20 : waitsOk mosaicref29_Read.T20.2 mosaicref29_Read.B20 = true := by kernel_rfl
set_option maxHeartbeats 8000000 in
set_option maxRecDepth 100000 in
theorem mosaicref29_Read.calls (k : Nat) (a0 : ByteArray) (r1 : ByteArray) (r2 : ByteArray) (r3 : List Int) (r4 : List (S45)) (r5 : Int) (w : World) (h : mosaicref29_Read.f k a0 = some (r1, r2, r3, r4, r5)) :
  Calls Tryd.prog 20 #[.string a0] w fun e w' => ∃ v2_ v3_ : Value, e = .returned (.tuple #[.agg #[.string r1, .string r2, v2_, v3_], .int .i64 r5]) ∧ Kd.R (Kd.int .i64) 3 w' w.heap.size (fun _ => True) v2_ r3 ∧ Kd.R k45 45 w' w.heap.size (fun _ => True) v3_ r4 ∧ Below w.heap.size w w' := by
 have hu39 := Tryd.underlying39
 have hu45 := Tryd.underlying45
 have HB := Aside0.mk (Below.refl w.heap.size w)
 have H : (if (a0.size : Int) < 59 then (mosaicref29_Read.j0 k a0 true (⟨#[]⟩ : ByteArray) (⟨#[]⟩ : ByteArray)) else (if 0 ≤ 7 then (if 7 ≤ (a0.size : Int) then (mosaicref29_Read.j0 k a0 ((a0.extract 0 7).toList != ([109, 111, 115, 97, 105, 99, 58] : List UInt8)) (⟨#[]⟩ : ByteArray) (⟨#[]⟩ : ByteArray)) else (none)) else (none))) = some (r1, r2, r3, r4, r5) := h
 clear h
 have HC2 := Aside0.mk H
 clear H
 go_enter Tryd.func20, Tryd.ntmps20
 go_upto_region 2 with (first | ((with_reducible refine gate_dst (N := 2) rfl ?_); (try (refine gate_guard (by rfl) ?_; dsimp only)); refine box_event ?hg (N := 2) ?hd (cs := #[.string (⟨#[]⟩ : ByteArray), .string (⟨#[]⟩ : ByteArray), .slice none 0 0, .slice none 0 0]) (t := 39) ?hr ?_; (case hd => rfl); (case hg => rfl); (case hr => first | (go_simp; done) | (go_simp; rfl)); intro gb206 hg w3 hbox hb; have n0_ := hS HB hb; have n1_ := Aside0.mk (hbox); have n2_ := hG HB hg; have n3_ := hG HB hg; clear HB; have HB := n0_; have BK206 := n1_; have GW206 := n2_; have GE206 := n3_; clear n0_ n1_ n2_ n3_; clear hb hbox hg) | ((with_reducible refine gate_dst (N := 4) rfl ?_); (try (refine gate_guard (by rfl) ?_; dsimp only)); refine box_event ?hg (N := 4) ?hd (cs := #[.string (⟨#[]⟩ : ByteArray), .string (⟨#[]⟩ : ByteArray), .slice none 0 0, .slice none 0 0]) (t := 39) ?hr ?_; (case hd => rfl); (case hg => rfl); (case hr => first | (go_simp; done) | (go_simp; rfl)); intro gb207 hg w4 hbox hb; have n0_ := bB BK206 hb; have n1_ := hS HB hb; have n2_ := Aside0.mk (hbox); have n3_ := hG HB hg; have n4_ := hG HB hg; have n5_ := bNl BK206 hg; have n6_ := bNg BK206 hg; clear BK206; clear HB; have BK206 := n0_; have HB := n1_; have BK207 := n2_; have GW207 := n3_; have GE207 := n4_; have NB206_207 := n5_; have NB207_206 := n6_; clear n0_ n1_ n2_ n3_ n4_ n5_ n6_; clear hb hbox hg))
 (try simp only [Act.put, List.setIfInBounds_toArray, List.set_cons_zero, List.set_cons_succ])
 go_cut [24] (fun v24 wc => ∃ (kq : Nat) (x24_1 : Bool), v24 = .bool x24_1 ∧ Aside0 (mosaicref29_Read.j0 kq a0 x24_1 (⟨#[]⟩ : ByteArray) (⟨#[]⟩ : ByteArray) = some (r1, r2, r3, r4, r5)) ∧ Aside0 (kq ≤ k) ∧ Aside0 (wc.heap[gb206]? = some (.cells #[.string (⟨#[]⟩ : ByteArray), .string (⟨#[]⟩ : ByteArray), (.slice none 0 0), (.slice none 0 0)] 39 (0, 0))) ∧ Aside0 (wc.heap[gb207]? = some (.cells #[.string (⟨#[]⟩ : ByteArray), .string (⟨#[]⟩ : ByteArray), (.slice none 0 0), (.slice none 0 0)] 39 (0, 0))) ∧ Aside0 (Below w.heap.size w wc))
 case first =>
  have H := HC2.out
  clear HC2
  by_cases c5 : (a0.size : Int) < 59
  ·
   rw [if_pos c5] at H
   have c5b0 : decide ((a0.size : Int) < 59) = true := decide_eq_true c5
   have c5b1 : decide (a0.size < 59) = true := decide_eq_true (by omega)
   clear c5
   (first | rw [c5b0] | (simp only [i64_w, i32_w, IntKind.wrap_u8]; rw [c5b0]) | skip)
   have H' := Aside0.mk H
   clear H
   go_wp2
   go_meet
   case rel => exact ⟨_, (true), (by first | rfl | (simp; done) | (simp [*]; done)), H', ⟨by first | omega | exact Nat.le_refl _⟩, ⟨by (with_reducible repeat (first | refine blk_drewN ?_ _ | refine blk_drew ?_ | refine blk_alloc ?_ _)); exact BK206.out⟩, ⟨by (with_reducible repeat (first | refine blk_drewN ?_ _ | refine blk_drew ?_ | refine blk_alloc ?_ _)); exact BK207.out⟩, ⟨by repeat (first | (with_reducible first | exact HB.out | apply below_alloc | apply pw_below_drewN | apply below_drew1 | refine below_set ?_ GE206.out | refine below_set ?_ GE207.out) | exact HB.out)⟩⟩
  ·
   rw [if_neg c5] at H
   have c5b0 : decide ((a0.size : Int) < 59) = false := decide_eq_false c5
   have c5b1 : decide (a0.size < 59) = false := decide_eq_false (by omega)
   clear c5
   (first | rw [c5b0] | (simp only [i64_w, i32_w, IntKind.wrap_u8]; rw [c5b0]) | skip)
   by_cases c6 : 0 ≤ 7
   rotate_left; · rw [if_neg c6] at H; exact absurd H (by simp)
   rw [if_pos c6] at H
   have c6b0 := eq_true c6
   have c6b1 : decide (0 ≤ 7) = true := decide_eq_true c6
   clear c6
   by_cases c7 : 7 ≤ (a0.size : Int)
   rotate_left; · rw [if_neg c7] at H; exact absurd H (by simp)
   rw [if_pos c7] at H
   have c7b0 := eq_true c7
   have c7b1 : decide (7 ≤ (a0.size : Int)) = true := decide_eq_true c7
   clear c7
   have H' := Aside0.mk H
   clear H
   go_wp2
   go_meet
   case rel => exact ⟨_, (((a0.extract 0 7).toList != ([109, 111, 115, 97, 105, 99, 58] : List UInt8))), (by first | rfl | (simp; done) | (simp [*]; done)), H', ⟨by first | omega | exact Nat.le_refl _⟩, ⟨by (with_reducible repeat (first | refine blk_drewN ?_ _ | refine blk_drew ?_ | refine blk_alloc ?_ _)); exact BK206.out⟩, ⟨by (with_reducible repeat (first | refine blk_drewN ?_ _ | refine blk_drew ?_ | refine blk_alloc ?_ _)); exact BK207.out⟩, ⟨by repeat (first | (with_reducible first | exact HB.out | apply below_alloc | apply pw_below_drewN | apply below_drew1 | refine below_set ?_ GE206.out | refine below_set ?_ GE207.out) | exact HB.out)⟩⟩
 case rest =>
  clear HC2
  try clear c2
  try clear p2
  try clear c5
  try clear c5b0
  try clear c5b1
  try clear c6
  try clear c6b0
  try clear c6b1
  try clear c7
  try clear c7b0
  try clear c7b1
  obtain ⟨kq, x24_1, rfl, HA, HJ1, BK206, BK207, HB⟩ := hcut
  cases kq with
  | zero => exact absurd HA.out (by simp [mosaicref29_Read.j0])
  | succ kj1 =>
   have H := HA.out
   clear HA
   simp only [mosaicref29_Read.j0] at H
   by_cases c8 : x24_1 = true
   ·
    subst c8
    have H1 : (some ((⟨#[]⟩ : ByteArray), (⟨#[]⟩ : ByteArray), ([] : List Int), ([] : List (S45)), 3)) = some (r1, r2, r3, r4, r5) := by rw [if_pos rfl] at H; exact H
    clear H
    have H := H1
    clear H1
    simp only [Option.some.injEq, Prod.mk.injEq] at H
    obtain ⟨rfl, rfl, rfl, rfl, rfl⟩ := H
    have hnb9 := NB206_207.out
    have hnc9 := NB207_206.out
    have hcz10_0 : wc.cell? ⟨gb206, 0, none⟩ = some (.string (⟨#[]⟩ : ByteArray)) := (blk_cell BK206.out 0).trans rfl
    have hcz10_1 : wc.cell? ⟨gb206, 1, none⟩ = some (.string (⟨#[]⟩ : ByteArray)) := (blk_cell BK206.out 1).trans rfl
    have hcz10_2 : wc.cell? ⟨gb206, 2, none⟩ = some (.slice none 0 0) := (blk_cell BK206.out 2).trans rfl
    have hcz10_3 : wc.cell? ⟨gb206, 3, none⟩ = some (.slice none 0 0) := (blk_cell BK206.out 3).trans rfl
    have hfz10_0 := blk_frozen BK206.out 0
    have hfz10_1 := blk_frozen BK206.out 1
    have hfz10_2 := blk_frozen BK206.out 2
    have hfz10_3 := blk_frozen BK206.out 3
    go_wp2
    refine bodyPost_ret (results_ct rfl _ _ gb206 39 #[.string (⟨#[]⟩ : ByteArray), .string (⟨#[]⟩ : ByteArray), .slice none 0 0, .slice none 0 0] (0, 0) _ rfl (by (with_reducible repeat (first | refine blk_drewN ?_ _ | refine blk_drew ?_ | refine blk_alloc ?_ _)); refine blk_put (cs := #[.string (⟨#[]⟩ : ByteArray), .string (⟨#[]⟩ : ByteArray), .slice none 0 0, .slice none 0 0]) ?_ 3 _ rfl; (with_reducible repeat (first | refine blk_drewN ?_ _ | refine blk_drew ?_ | refine blk_alloc ?_ _)); refine blk_put (cs := #[.string (⟨#[]⟩ : ByteArray), .string (⟨#[]⟩ : ByteArray), .slice none 0 0, .slice none 0 0]) ?_ 2 _ rfl; (with_reducible repeat (first | refine blk_drewN ?_ _ | refine blk_drew ?_ | refine blk_alloc ?_ _)); refine blk_put (cs := #[.string (⟨#[]⟩ : ByteArray), .string (⟨#[]⟩ : ByteArray), .slice none 0 0, .slice none 0 0]) ?_ 1 _ rfl; (with_reducible repeat (first | refine blk_drewN ?_ _ | refine blk_drew ?_ | refine blk_alloc ?_ _)); refine blk_put (cs := #[.string (⟨#[]⟩ : ByteArray), .string (⟨#[]⟩ : ByteArray), .slice none 0 0, .slice none 0 0]) ?_ 0 _ rfl; (with_reducible repeat (first | refine blk_drewN ?_ _ | refine blk_drew ?_ | refine blk_alloc ?_ _)); exact BK206.out) Tryd.underlying39 rfl (by kernel_rfl)) rfl ?_
    exact ⟨_, _, by first | rfl | (simp [errW_none, errW_some] <;> rfl) | (simp [*, errW_none, errW_some] <;> rfl), by first | exact Kd.R_nil _ _ _ _ _ | exact Kd.N_nil _ _ _ _ _ | exact Kd.V_nil _ _ _ _ _ | exact Kd.Q_nil _ _ _ _ _ | exact Kd.S_nil _ _ _ _ _, by first | exact Kd.R_nil _ _ _ _ _ | exact Kd.N_nil _ _ _ _ _ | exact Kd.V_nil _ _ _ _ _ | exact Kd.Q_nil _ _ _ _ _ | exact Kd.S_nil _ _ _ _ _, by repeat (first | (with_reducible first | exact HB.out | apply below_alloc | apply pw_below_drewN | apply below_drew1 | refine below_set ?_ GE206.out | refine below_set ?_ GE207.out) | exact HB.out)⟩
   ·
    replace c8 := Bool.eq_false_iff.mpr c8
    subst c8
    have H1 : (if 7 ≤ 59 then (if 59 ≤ (a0.size : Int) then ((mosaicref29_Unbase32.f kj1 (a0.extract 7 59)).bind fun bt208 => (mosaicref29_Read.l0 kj1 a0 59 0 bt208.1 (⟨#[]⟩ : ByteArray) ([] : List Int) ([] : List (S45)))) else (none)) else (none)) = some (r1, r2, r3, r4, r5) := by rw [if_neg (show ¬ (false = true) by decide)] at H; exact H
    clear H
    have H := H1
    clear H1
    by_cases c11 : 7 ≤ 59
    rotate_left; · rw [if_neg c11] at H; exact absurd H (by simp)
    rw [if_pos c11] at H
    have c11b0 := eq_true c11
    have c11b1 : decide (7 ≤ 59) = true := decide_eq_true c11
    clear c11
    by_cases c12 : 59 ≤ (a0.size : Int)
    rotate_left; · rw [if_neg c12] at H; exact absurd H (by simp)
    rw [if_pos c12] at H
    have c12b0 := eq_true c12
    have c12b1 : decide (59 ≤ (a0.size : Int)) = true := decide_eq_true c12
    clear c12
    replace H := Option.bind_eq_some_iff.mp H
    obtain ⟨⟨t208, t209⟩, A130, H⟩ := H
    replace H : (mosaicref29_Read.l0 kj1 a0 59 0 t208 (⟨#[]⟩ : ByteArray) ([] : List Int) ([] : List (S45))) = some (r1, r2, r3, r4, r5) := H
    have A13 := Aside0.mk A130
    clear A130
    have H' := Aside0.mk H
    clear H
    go_wp2_with (first | ((with_reducible refine gate_callee (f := 43) rfl ?_); refine goesL_ (some 29) rfl rfl Tryd.func43 (by kernel_rfl) rfl #[.string (a0.extract 7 59)] rfl (by (try simp only [List.map_toArray, List.map_cons, List.map_nil]); first | done | rfl | (simp only [List.length_drop, List.length_take]; rfl)) ?_; (with_reducible refine (mosaicref29_Unbase32.calls kj1 (a0.extract 7 59) t208 t209 _ A13.out).mono ?_); rintro e w14 ⟨rfl, hb⟩; refine ⟨_, rfl, ?_⟩; have n0_ := bB BK206 hb; have n1_ := bB BK207 hb; have n2_ := Aside0.mk (below_step (by repeat (first | (with_reducible first | exact HB.out | apply below_alloc | apply pw_below_drewN | apply below_drew1 | refine below_set ?_ GE206.out | refine below_set ?_ GE207.out) | exact HB.out)) hb); clear BK206; clear BK207; clear HB; have BK206 := n0_; have BK207 := n1_; have HB := n2_; clear n0_ n1_ n2_; (try clear hb); (try clear hb2); (try clear hk); (try clear hi); have hnb15 := NB207_206.out; have hnc15 := NB206_207.out; have hcz16_0 : w14.cell? ⟨gb207, 0, none⟩ = some (.string (⟨#[]⟩ : ByteArray)) := (blk_cell BK207.out 0).trans rfl; have hcz16_1 : w14.cell? ⟨gb207, 1, none⟩ = some (.string (⟨#[]⟩ : ByteArray)) := (blk_cell BK207.out 1).trans rfl; have hcz16_2 : w14.cell? ⟨gb207, 2, none⟩ = some (.slice none 0 0) := (blk_cell BK207.out 2).trans rfl; have hcz16_3 : w14.cell? ⟨gb207, 3, none⟩ = some (.slice none 0 0) := (blk_cell BK207.out 3).trans rfl; have hfz16_0 := blk_frozen BK207.out 0; have hfz16_1 := blk_frozen BK207.out 1; have hfz16_2 := blk_frozen BK207.out 2; have hfz16_3 := blk_frozen BK207.out 3))
    go_loopg [7, 8] kj1 (fun kq v7 v8 w' => ∃ (x7_2 : Int) (x8_2 : Int) (x208001_2 : ByteArray) (x208002_2 : List Int) (x208003_2 : List (S45)) (u208002 : Value) (u208003 : Value), v7 = .int .i64 x7_2 ∧ v8 = .int .i64 x8_2 ∧ Aside0 (mosaicref29_Read.l0 kq a0 x7_2 x8_2 t208 x208001_2 x208002_2 x208003_2 = some (r1, r2, r3, r4, r5)) ∧ Aside0 (kq ≤ kj1) ∧ Aside0 (Kd.R (Kd.int .i64) 3 w' w.heap.size (fun _ => True) u208002 x208002_2) ∧ Aside0 (Kd.R k45 45 w' w.heap.size (fun _ => True) u208003 x208003_2) ∧ Aside0 (w'.heap[gb206]? = some (.cells #[.string (⟨#[]⟩ : ByteArray), .string (⟨#[]⟩ : ByteArray), (.slice none 0 0), (.slice none 0 0)] 39 (0, 0))) ∧ Aside0 (w'.heap[gb207]? = some (.cells #[.string t208, .string x208001_2, u208002, u208003] 39 (0, 0))) ∧ Aside0 (Below w.heap.size w w'))
    case atStart => exact ⟨(59), (0), ((⟨#[]⟩ : ByteArray)), (([] : List Int)), (([] : List (S45))), (.slice none 0 0), (.slice none 0 0), (by first | rfl | (simp; done) | (simp [*]; done)), (by first | rfl | (simp; done) | (simp [*]; done)), H', ⟨Nat.le_refl _⟩, ⟨by first | exact Kd.R_nil _ _ _ _ _ | exact Kd.N_nil _ _ _ _ _ | exact Kd.V_nil _ _ _ _ _ | exact Kd.Q_nil _ _ _ _ _ | exact Kd.S_nil _ _ _ _ _⟩, ⟨by first | exact Kd.R_nil _ _ _ _ _ | exact Kd.N_nil _ _ _ _ _ | exact Kd.V_nil _ _ _ _ _ | exact Kd.Q_nil _ _ _ _ _ | exact Kd.S_nil _ _ _ _ _⟩, ⟨by (with_reducible repeat (first | refine blk_drewN ?_ _ | refine blk_drew ?_ | refine blk_alloc ?_ _)); refine blk_far ?_ NB206_207.out _; (with_reducible repeat (first | refine blk_drewN ?_ _ | refine blk_drew ?_ | refine blk_alloc ?_ _)); exact BK206.out⟩, ⟨by (with_reducible repeat (first | refine blk_drewN ?_ _ | refine blk_drew ?_ | refine blk_alloc ?_ _)); refine blk_put (cs := #[.string (⟨#[]⟩ : ByteArray), .string (⟨#[]⟩ : ByteArray), .slice none 0 0, .slice none 0 0]) ?_ 0 _ rfl; (with_reducible repeat (first | refine blk_drewN ?_ _ | refine blk_drew ?_ | refine blk_alloc ?_ _)); exact BK207.out⟩, ⟨by repeat (first | (with_reducible first | exact HB.out | apply below_alloc | apply pw_below_drewN | apply below_drew1 | refine below_set ?_ GE206.out | refine below_set ?_ GE207.out) | exact HB.out)⟩⟩
    case round =>
     clear H'
     try clear c1
     try clear c2
     try clear p2
     try clear c4
     try clear c5
     try clear c5b0
     try clear c5b1
     try clear c6
     try clear c6b0
     try clear c6b1
     try clear c7
     try clear c7b0
     try clear c7b1
     try clear c8
     try clear c9
     try clear c11
     try clear c11b0
     try clear c11b1
     try clear c12
     try clear c12b0
     try clear c12b1
     try clear c15
     try clear hcz10_0
     try clear hcz10_1
     try clear hcz10_2
     try clear hcz10_3
     try clear hcz16_0
     try clear hcz16_1
     try clear hcz16_2
     try clear hcz16_3
     try clear hfz10_0
     try clear hfz10_1
     try clear hfz10_2
     try clear hfz10_3
     try clear hfz16_0
     try clear hfz16_1
     try clear hfz16_2
     try clear hfz16_3
     try clear p2
     obtain ⟨x7_2, x8_2, x208001_2, x208002_2, x208003_2, u208002, u208003, rfl, rfl, HA, HK2, HO_208002, HO_208003, BK206, BK207, HB⟩ := hrel
     cases gk with
     | zero => exact absurd HA.out (by simp [mosaicref29_Read.l0])
     | succ k2 =>
      have H := HA.out
      clear HA
      simp only [mosaicref29_Read.l0] at H
      have HC17 := Aside0.mk H
      clear H
      go_upto_region 8 with (fail)
      go_cut [41] (fun v41 wc => ∃ (kq : Nat) (x41_16 : Bool), v41 = .bool x41_16 ∧ Aside0 (mosaicref29_Read.j2 kq a0 x7_2 x8_2 x41_16 t208 x208001_2 x208002_2 x208003_2 = some (r1, r2, r3, r4, r5)) ∧ Aside0 (kq ≤ k2) ∧ Aside0 (Kd.R (Kd.int .i64) 3 wc w.heap.size (fun _ => True) u208002 x208002_2) ∧ Aside0 (Kd.R k45 45 wc w.heap.size (fun _ => True) u208003 x208003_2) ∧ Aside0 (wc.heap[gb206]? = some (.cells #[.string (⟨#[]⟩ : ByteArray), .string (⟨#[]⟩ : ByteArray), (.slice none 0 0), (.slice none 0 0)] 39 (0, 0))) ∧ Aside0 (wc.heap[gb207]? = some (.cells #[.string t208, .string x208001_2, u208002, u208003] 39 (0, 0))) ∧ Aside0 (Below w.heap.size w wc))
      case first =>
       have H := HC17.out
       clear HC17
       by_cases c18 : x8_2 < 8
       ·
        rw [if_pos c18] at H
        have c18b0 : decide (x8_2 < 8) = true := decide_eq_true c18
        clear c18
        (first | rw [c18b0] | (simp only [i64_w, i32_w, IntKind.wrap_u8]; rw [c18b0]) | skip)
        have H' := Aside0.mk H
        clear H
        go_wp2
        go_meet
        case rel => exact ⟨_, (decide (x7_2 < (a0.size : Int))), (by first | rfl | (simp; done) | (simp [*]; done)), H', ⟨by have := HJ1.out; have := HK2.out; first | omega | exact Nat.le_refl _⟩, ⟨by (with_reducible repeat (first | apply Kd.R_alloc | apply Kd.R_drewN | apply Kd.R_drew)); exact HO_208002.out⟩, ⟨by (with_reducible repeat (first | apply Kd.R_alloc | apply Kd.R_drewN | apply Kd.R_drew)); exact HO_208003.out⟩, ⟨by (with_reducible repeat (first | refine blk_drewN ?_ _ | refine blk_drew ?_ | refine blk_alloc ?_ _)); exact BK206.out⟩, ⟨by (with_reducible repeat (first | refine blk_drewN ?_ _ | refine blk_drew ?_ | refine blk_alloc ?_ _)); exact BK207.out⟩, ⟨by repeat (first | (with_reducible first | exact HB.out | apply below_alloc | apply pw_below_drewN | apply below_drew1 | refine below_set ?_ GE206.out | refine below_set ?_ GE207.out) | exact HB.out)⟩⟩
       ·
        rw [if_neg c18] at H
        have c18b0 : decide (x8_2 < 8) = false := decide_eq_false c18
        clear c18
        (first | rw [c18b0] | (simp only [i64_w, i32_w, IntKind.wrap_u8]; rw [c18b0]) | skip)
        have H' := Aside0.mk H
        clear H
        go_wp2
        go_meet
        case rel => exact ⟨_, (false), (by first | rfl | (simp; done) | (simp [*]; done)), H', ⟨by have := HJ1.out; have := HK2.out; first | omega | exact Nat.le_refl _⟩, ⟨by (with_reducible repeat (first | apply Kd.R_alloc | apply Kd.R_drewN | apply Kd.R_drew)); exact HO_208002.out⟩, ⟨by (with_reducible repeat (first | apply Kd.R_alloc | apply Kd.R_drewN | apply Kd.R_drew)); exact HO_208003.out⟩, ⟨by (with_reducible repeat (first | refine blk_drewN ?_ _ | refine blk_drew ?_ | refine blk_alloc ?_ _)); exact BK206.out⟩, ⟨by (with_reducible repeat (first | refine blk_drewN ?_ _ | refine blk_drew ?_ | refine blk_alloc ?_ _)); exact BK207.out⟩, ⟨by repeat (first | (with_reducible first | exact HB.out | apply below_alloc | apply pw_below_drewN | apply below_drew1 | refine below_set ?_ GE206.out | refine below_set ?_ GE207.out) | exact HB.out)⟩⟩
      case rest =>
       clear HC17
       try clear c1
       try clear c2
       try clear p2
       try clear c4
       try clear c5
       try clear c5b0
       try clear c5b1
       try clear c6
       try clear c6b0
       try clear c6b1
       try clear c7
       try clear c7b0
       try clear c7b1
       try clear c8
       try clear c9
       try clear c11
       try clear c11b0
       try clear c11b1
       try clear c12
       try clear c12b0
       try clear c12b1
       try clear c15
       try clear c18
       try clear c18b0
       try clear hcz10_0
       try clear hcz10_1
       try clear hcz10_2
       try clear hcz10_3
       try clear hcz16_0
       try clear hcz16_1
       try clear hcz16_2
       try clear hcz16_3
       try clear hfz10_0
       try clear hfz10_1
       try clear hfz10_2
       try clear hfz10_3
       try clear hfz16_0
       try clear hfz16_1
       try clear hfz16_2
       try clear hfz16_3
       try clear p2
       obtain ⟨kq, x41_16, rfl, HA, HJ16, HO_208002, HO_208003, BK206, BK207, HB⟩ := hcut
       cases kq with
       | zero => exact absurd HA.out (by simp [mosaicref29_Read.j2])
       | succ kj16 =>
        have H := HA.out
        clear HA
        simp only [mosaicref29_Read.j2] at H
        by_cases c19 : x41_16 = true
        ·
         subst c19
         have H1 : ((mosaicref29_upTo.f kj16 a0 (wrap64 (x7_2 + 1)) 38 38).bind fun t212 => (if 0 ≤ (wrap64 (x7_2 + 1)) then (if (wrap64 (x7_2 + 1)) ≤ t212 then (if t212 ≤ (a0.size : Int) then (if ((a0.extract ((wrap64 (x7_2 + 1)) : Int).toNat (t212 : Int).toNat).size : Int) ≥ 6 then (if 0 ≤ 6 then (if 6 ≤ ((a0.extract ((wrap64 (x7_2 + 1)) : Int).toNat (t212 : Int).toNat).size : Int) then (mosaicref29_Read.j3 kj16 a0 x8_2 t212 (a0.extract ((wrap64 (x7_2 + 1)) : Int).toNat (t212 : Int).toNat) (((a0.extract ((wrap64 (x7_2 + 1)) : Int).toNat (t212 : Int).toNat).extract 0 6).toList == ([116, 105, 116, 108, 101, 61] : List UInt8)) t208 x208001_2 x208002_2 x208003_2) else (none)) else (none)) else (mosaicref29_Read.j3 kj16 a0 x8_2 t212 (a0.extract ((wrap64 (x7_2 + 1)) : Int).toNat (t212 : Int).toNat) false t208 x208001_2 x208002_2 x208003_2)) else (none)) else (none)) else (none))) = some (r1, r2, r3, r4, r5) := by rw [if_pos rfl] at H; exact H
         clear H
         have H := H1
         clear H1
         replace H := Option.bind_eq_some_iff.mp H
         obtain ⟨t212, A200, H⟩ := H
         replace H : (if 0 ≤ (wrap64 (x7_2 + 1)) then (if (wrap64 (x7_2 + 1)) ≤ t212 then (if t212 ≤ (a0.size : Int) then (if ((a0.extract ((wrap64 (x7_2 + 1)) : Int).toNat (t212 : Int).toNat).size : Int) ≥ 6 then (if 0 ≤ 6 then (if 6 ≤ ((a0.extract ((wrap64 (x7_2 + 1)) : Int).toNat (t212 : Int).toNat).size : Int) then (mosaicref29_Read.j3 kj16 a0 x8_2 t212 (a0.extract ((wrap64 (x7_2 + 1)) : Int).toNat (t212 : Int).toNat) (((a0.extract ((wrap64 (x7_2 + 1)) : Int).toNat (t212 : Int).toNat).extract 0 6).toList == ([116, 105, 116, 108, 101, 61] : List UInt8)) t208 x208001_2 x208002_2 x208003_2) else (none)) else (none)) else (mosaicref29_Read.j3 kj16 a0 x8_2 t212 (a0.extract ((wrap64 (x7_2 + 1)) : Int).toNat (t212 : Int).toNat) false t208 x208001_2 x208002_2 x208003_2)) else (none)) else (none)) else (none)) = some (r1, r2, r3, r4, r5) := H
         have A20 := Aside0.mk A200
         clear A200
         obtain ⟨ji21, hji21⟩ : ∃ j_ : Int, (wrap64 (x7_2 + 1)) = j_ := ⟨_, rfl⟩
         replace H : (if 0 ≤ (ji21) then (if (ji21) ≤ t212 then (if t212 ≤ (a0.size : Int) then (if ((a0.extract ((ji21) : Int).toNat (t212 : Int).toNat).size : Int) ≥ 6 then (if 0 ≤ 6 then (if 6 ≤ ((a0.extract ((ji21) : Int).toNat (t212 : Int).toNat).size : Int) then (mosaicref29_Read.j3 kj16 a0 x8_2 t212 (a0.extract ((ji21) : Int).toNat (t212 : Int).toNat) (((a0.extract ((ji21) : Int).toNat (t212 : Int).toNat).extract 0 6).toList == ([116, 105, 116, 108, 101, 61] : List UInt8)) t208 x208001_2 x208002_2 x208003_2) else (none)) else (none)) else (mosaicref29_Read.j3 kj16 a0 x8_2 t212 (a0.extract ((ji21) : Int).toNat (t212 : Int).toNat) false t208 x208001_2 x208002_2 x208003_2)) else (none)) else (none)) else (none)) = some (r1, r2, r3, r4, r5) := by first | (rw [hji21] at H; exact H) | (simp only [hji21] at H ⊢; exact H)
         (try rw [hji21] at A20)
         have hji21w : (IntKind.i64.wrap (x7_2 + 1)) = ji21 := (i64_w _).trans hji21
         by_cases c22 : 0 ≤ (ji21)
         rotate_left; · rw [if_neg c22] at H; exact absurd H (by simp)
         rw [if_pos c22] at H
         have c22b0 := eq_true c22
         have c22b1 : decide (0 ≤ (ji21)) = true := decide_eq_true c22
         clear c22
         by_cases c23 : (ji21) ≤ t212
         rotate_left; · rw [if_neg c23] at H; exact absurd H (by simp)
         rw [if_pos c23] at H
         have c23b0 := eq_true c23
         have c23b1 : decide ((ji21) ≤ t212) = true := decide_eq_true c23
         clear c23
         by_cases c24 : t212 ≤ (a0.size : Int)
         rotate_left; · rw [if_neg c24] at H; exact absurd H (by simp)
         rw [if_pos c24] at H
         have c24b0 := eq_true c24
         have c24b1 : decide (t212 ≤ (a0.size : Int)) = true := decide_eq_true c24
         clear c24
         have HC25 := Aside0.mk H
         clear H
         go_upto_region 12 with (first | ((with_reducible refine gate_callee (f := 44) rfl ?_); refine goesL_ (some 47) rfl rfl Tryd.func44 (by kernel_rfl) rfl #[.string a0, .int .i64 ji21, .int .u8 38, .int .u8 38] rfl (by (try simp only [List.map_toArray, List.map_cons, List.map_nil]); first | done | (simp only [hji21]; rfl) | rfl | (simp only [List.length_drop, List.length_take]; rfl)) ?_; (with_reducible refine (mosaicref29_upTo.calls kj16 a0 ji21 38 38 t212 _ A20.out).mono ?_); rintro e w' ⟨rfl, ⟨nd, rfl⟩⟩; refine ⟨_, rfl, ?_⟩))
         (try simp only [Act.put, List.setIfInBounds_toArray, List.set_cons_zero, List.set_cons_succ])
         generalize a0.extract ((ji21) : Int).toNat (t212 : Int).toNat = PX at HC25 ⊢
         go_cut [60] (fun v60 wc => ∃ (kq : Nat) (x60_24 : Bool), v60 = .bool x60_24 ∧ Aside0 (mosaicref29_Read.j3 kq a0 x8_2 t212 PX x60_24 t208 x208001_2 x208002_2 x208003_2 = some (r1, r2, r3, r4, r5)) ∧ Aside0 (kq ≤ kj16) ∧ Aside0 (Kd.R (Kd.int .i64) 3 wc w.heap.size (fun _ => True) u208002 x208002_2) ∧ Aside0 (Kd.R k45 45 wc w.heap.size (fun _ => True) u208003 x208003_2) ∧ Aside0 (wc.heap[gb206]? = some (.cells #[.string (⟨#[]⟩ : ByteArray), .string (⟨#[]⟩ : ByteArray), (.slice none 0 0), (.slice none 0 0)] 39 (0, 0))) ∧ Aside0 (wc.heap[gb207]? = some (.cells #[.string t208, .string x208001_2, u208002, u208003] 39 (0, 0))) ∧ Aside0 (Below w.heap.size w wc))
         case first =>
          have H := HC25.out
          clear HC25
          by_cases c26 : (PX.size : Int) ≥ 6
          ·
           rw [if_pos c26] at H
           have c26b0 : decide (6 ≤ (PX.size : Int)) = true := decide_eq_true c26
           have c26b1 : decide (6 ≤ PX.size) = true := decide_eq_true (by omega)
           clear c26
           (first | rw [c26b0] | (simp only [i64_w, i32_w, IntKind.wrap_u8]; rw [c26b0]) | skip)
           by_cases c27 : 0 ≤ 6
           rotate_left; · rw [if_neg c27] at H; exact absurd H (by simp)
           rw [if_pos c27] at H
           have c27b0 := eq_true c27
           have c27b1 : decide (0 ≤ 6) = true := decide_eq_true c27
           clear c27
           by_cases c28 : 6 ≤ (PX.size : Int)
           rotate_left; · rw [if_neg c28] at H; exact absurd H (by simp)
           rw [if_pos c28] at H
           have c28b0 := eq_true c28
           have c28b1 : decide (6 ≤ (PX.size : Int)) = true := decide_eq_true c28
           clear c28
           have H' := Aside0.mk H
           clear H
           go_wp2
           go_meet
           case rel => exact ⟨_, (((PX.extract 0 6).toList == ([116, 105, 116, 108, 101, 61] : List UInt8))), (by first | rfl | (simp; done) | (simp only [← hji21] <;> (first | rfl | simp)) | (simp [*]; done)), H', ⟨by have := HJ1.out; have := HK2.out; have := HJ16.out; first | omega | exact Nat.le_refl _⟩, ⟨by (with_reducible repeat (first | apply Kd.R_alloc | apply Kd.R_drewN | apply Kd.R_drew)); exact HO_208002.out⟩, ⟨by (with_reducible repeat (first | apply Kd.R_alloc | apply Kd.R_drewN | apply Kd.R_drew)); exact HO_208003.out⟩, ⟨by (with_reducible repeat (first | refine blk_drewN ?_ _ | refine blk_drew ?_ | refine blk_alloc ?_ _)); exact BK206.out⟩, ⟨by (with_reducible repeat (first | refine blk_drewN ?_ _ | refine blk_drew ?_ | refine blk_alloc ?_ _)); exact BK207.out⟩, ⟨by repeat (first | (with_reducible first | exact HB.out | apply below_alloc | apply pw_below_drewN | apply below_drew1 | refine below_set ?_ GE206.out | refine below_set ?_ GE207.out) | exact HB.out)⟩⟩
          ·
           rw [if_neg c26] at H
           have c26b0 : decide (6 ≤ (PX.size : Int)) = false := decide_eq_false c26
           have c26b1 : decide (6 ≤ PX.size) = false := decide_eq_false (by omega)
           clear c26
           (first | rw [c26b0] | (simp only [i64_w, i32_w, IntKind.wrap_u8]; rw [c26b0]) | skip)
           have H' := Aside0.mk H
           clear H
           go_wp2
           go_meet
           case rel => exact ⟨_, (false), (by first | rfl | (simp; done) | (simp [*]; done)), H', ⟨by have := HJ1.out; have := HK2.out; have := HJ16.out; first | omega | exact Nat.le_refl _⟩, ⟨by (with_reducible repeat (first | apply Kd.R_alloc | apply Kd.R_drewN | apply Kd.R_drew)); exact HO_208002.out⟩, ⟨by (with_reducible repeat (first | apply Kd.R_alloc | apply Kd.R_drewN | apply Kd.R_drew)); exact HO_208003.out⟩, ⟨by (with_reducible repeat (first | refine blk_drewN ?_ _ | refine blk_drew ?_ | refine blk_alloc ?_ _)); exact BK206.out⟩, ⟨by (with_reducible repeat (first | refine blk_drewN ?_ _ | refine blk_drew ?_ | refine blk_alloc ?_ _)); exact BK207.out⟩, ⟨by repeat (first | (with_reducible first | exact HB.out | apply below_alloc | apply pw_below_drewN | apply below_drew1 | refine below_set ?_ GE206.out | refine below_set ?_ GE207.out) | exact HB.out)⟩⟩
         case rest =>
          clear HC25
          try clear c1
          try clear c2
          try clear p2
          try clear c4
          try clear c5
          try clear c5b0
          try clear c5b1
          try clear c6
          try clear c6b0
          try clear c6b1
          try clear p6
          try clear c7
          try clear c7b0
          try clear c7b1
          try clear c8
          try clear c9
          try clear c11
          try clear c11b0
          try clear c11b1
          try clear c12
          try clear c12b0
          try clear c12b1
          try clear c15
          try clear c18
          try clear c18b0
          try clear c19
          try clear c20
          try clear c22
          try clear c22b0
          try clear c22b1
          try clear c23
          try clear c23b0
          try clear c23b1
          try clear c24
          try clear c24b0
          try clear c24b1
          try clear c26
          try clear c26b0
          try clear c26b1
          try clear c27
          try clear c27b0
          try clear c27b1
          try clear c28
          try clear c28b0
          try clear c28b1
          try clear hcz10_0
          try clear hcz10_1
          try clear hcz10_2
          try clear hcz10_3
          try clear hcz16_0
          try clear hcz16_1
          try clear hcz16_2
          try clear hcz16_3
          try clear hfz10_0
          try clear hfz10_1
          try clear hfz10_2
          try clear hfz10_3
          try clear hfz16_0
          try clear hfz16_1
          try clear hfz16_2
          try clear hfz16_3
          try clear p2
          obtain ⟨kq, x60_24, rfl, HA, HJ24, HO_208002, HO_208003, BK206, BK207, HB⟩ := hcut
          cases kq with
          | zero => exact absurd HA.out (by simp [mosaicref29_Read.j3])
          | succ kj24 =>
           have H := HA.out
           clear HA
           simp only [mosaicref29_Read.j3] at H
           have HC29 := Aside0.mk H
           clear H
           go_upto_if 60 with (fail)
           go_cut [] (fun wc => ∃ (kq : Nat) (x208001_28 : ByteArray), Aside0 (mosaicref29_Read.j4 kq a0 x8_2 t212 PX t208 x208001_28 x208002_2 x208003_2 = some (r1, r2, r3, r4, r5)) ∧ Aside0 (kq ≤ kj24) ∧ Aside0 (Kd.R (Kd.int .i64) 3 wc w.heap.size (fun _ => True) u208002 x208002_2) ∧ Aside0 (Kd.R k45 45 wc w.heap.size (fun _ => True) u208003 x208003_2) ∧ Aside0 (wc.heap[gb206]? = some (.cells #[.string (⟨#[]⟩ : ByteArray), .string (⟨#[]⟩ : ByteArray), (.slice none 0 0), (.slice none 0 0)] 39 (0, 0))) ∧ Aside0 (wc.heap[gb207]? = some (.cells #[.string t208, .string x208001_28, u208002, u208003] 39 (0, 0))) ∧ Aside0 (Below w.heap.size w wc))
           case first =>
            have H := HC29.out
            clear HC29
            by_cases c30 : x60_24 = true
            ·
             subst c30
             have H1 : (if 6 ≤ (PX.size : Int) then ((mosaicref29_Unescape.f kj24 (PX.extract 6 PX.size)).bind fun bt213 => (mosaicref29_Read.j4 kj24 a0 x8_2 t212 PX t208 bt213.1 x208002_2 x208003_2)) else (none)) = some (r1, r2, r3, r4, r5) := by rw [if_pos rfl] at H; exact H
             clear H
             have H := H1
             clear H1
             by_cases c31 : 6 ≤ (PX.size : Int)
             rotate_left; · rw [if_neg c31] at H; exact absurd H (by simp)
             rw [if_pos c31] at H
             have c31b0 := eq_true c31
             have c31b1 : decide (6 ≤ (PX.size : Int)) = true := decide_eq_true c31
             clear c31
             replace H := Option.bind_eq_some_iff.mp H
             obtain ⟨⟨t213, t214⟩, A320, H⟩ := H
             replace H : (mosaicref29_Read.j4 kj24 a0 x8_2 t212 PX t208 t213 x208002_2 x208003_2) = some (r1, r2, r3, r4, r5) := H
             have A32 := Aside0.mk A320
             clear A320
             have H' := Aside0.mk H
             clear H
             go_wp2_with (first | ((with_reducible refine gate_callee (f := 45) rfl ?_); refine goesL_ (some 64) rfl rfl Tryd.func45 (by kernel_rfl) rfl #[.string (PX.extract 6 PX.size)] rfl (by (try simp only [List.map_toArray, List.map_cons, List.map_nil]); first | done | (simp only [hji21]; rfl) | rfl | (simp only [List.length_drop, List.length_take]; rfl)) ?_; (with_reducible refine (mosaicref29_Unescape.calls kj24 (PX.extract 6 PX.size) t213 t214 _ A32.out).mono ?_); rintro e w33 ⟨rfl, hb⟩; refine ⟨_, rfl, ?_⟩; have n0_ := Aside0.mk (Kd.R_below (by (with_reducible repeat (first | apply Kd.R_alloc | apply Kd.R_drewN | apply Kd.R_drew)); exact HO_208002.out) hb); have n1_ := Aside0.mk (Kd.R_below (by (with_reducible repeat (first | apply Kd.R_alloc | apply Kd.R_drewN | apply Kd.R_drew)); exact HO_208003.out) hb); have n2_ := bB BK206 hb; have n3_ := bB BK207 hb; have n4_ := Aside0.mk (below_step (by repeat (first | (with_reducible first | exact HB.out | apply below_alloc | apply pw_below_drewN | apply below_drew1 | refine below_set ?_ GE206.out | refine below_set ?_ GE207.out) | exact HB.out)) hb); clear HO_208002; clear HO_208003; clear BK206; clear BK207; clear HB; have HO_208002 := n0_; have HO_208003 := n1_; have BK206 := n2_; have BK207 := n3_; have HB := n4_; clear n0_ n1_ n2_ n3_ n4_; (try clear hb); (try clear hb2); (try clear hk); (try clear hi); have hnb34 := NB207_206.out; have hnc34 := NB206_207.out; have hcz35_0 : w33.cell? ⟨gb207, 0, none⟩ = some (.string t208) := (blk_cell BK207.out 0).trans rfl; have hcz35_1 : w33.cell? ⟨gb207, 1, none⟩ = some (.string x208001_2) := (blk_cell BK207.out 1).trans rfl; have hcz35_2 : w33.cell? ⟨gb207, 2, none⟩ = some (u208002) := (blk_cell BK207.out 2).trans rfl; have hcz35_3 : w33.cell? ⟨gb207, 3, none⟩ = some (u208003) := (blk_cell BK207.out 3).trans rfl; have hfz35_0 := blk_frozen BK207.out 0; have hfz35_1 := blk_frozen BK207.out 1; have hfz35_2 := blk_frozen BK207.out 2; have hfz35_3 := blk_frozen BK207.out 3))
             go_meet
             case rel => exact ⟨_, (t213), H', ⟨by have := HJ1.out; have := HK2.out; have := HJ16.out; have := HJ24.out; first | omega | exact Nat.le_refl _⟩, ⟨by (with_reducible repeat (first | apply Kd.R_alloc | apply Kd.R_drewN | apply Kd.R_drew)); exact Kd.R_mono (Kd.R_far (p := ⟨gb207, 1, none⟩) (Kd.R_types HO_208002.out BK207.out (by decide)) (fun _ hk => hk.2) (.string t213)) (fun _ hk => trivial)⟩, ⟨by (with_reducible repeat (first | apply Kd.R_alloc | apply Kd.R_drewN | apply Kd.R_drew)); exact Kd.R_mono (Kd.R_far (p := ⟨gb207, 1, none⟩) (Kd.R_types HO_208003.out BK207.out (by decide)) (fun _ hk => hk.2) (.string t213)) (fun _ hk => trivial)⟩, ⟨by (with_reducible repeat (first | refine blk_drewN ?_ _ | refine blk_drew ?_ | refine blk_alloc ?_ _)); refine blk_far ?_ NB206_207.out _; (with_reducible repeat (first | refine blk_drewN ?_ _ | refine blk_drew ?_ | refine blk_alloc ?_ _)); exact BK206.out⟩, ⟨by (with_reducible repeat (first | refine blk_drewN ?_ _ | refine blk_drew ?_ | refine blk_alloc ?_ _)); refine blk_put (cs := #[.string t208, .string x208001_2, u208002, u208003]) ?_ 1 _ rfl; (with_reducible repeat (first | refine blk_drewN ?_ _ | refine blk_drew ?_ | refine blk_alloc ?_ _)); exact BK207.out⟩, ⟨by repeat (first | (with_reducible first | exact HB.out | apply below_alloc | apply pw_below_drewN | apply below_drew1 | refine below_set ?_ GE206.out | refine below_set ?_ GE207.out) | exact HB.out)⟩⟩
            ·
             replace c30 := Bool.eq_false_iff.mpr c30
             subst c30
             have H1 : (mosaicref29_Read.j4 kj24 a0 x8_2 t212 PX t208 x208001_2 x208002_2 x208003_2) = some (r1, r2, r3, r4, r5) := by rw [if_neg (show ¬ (false = true) by decide)] at H; exact H
             clear H
             have H := H1
             clear H1
             have H' := Aside0.mk H
             clear H
             go_wp2
             go_meet
             case rel => exact ⟨_, (x208001_2), H', ⟨by have := HJ1.out; have := HK2.out; have := HJ16.out; have := HJ24.out; first | omega | exact Nat.le_refl _⟩, ⟨by (with_reducible repeat (first | apply Kd.R_alloc | apply Kd.R_drewN | apply Kd.R_drew)); exact HO_208002.out⟩, ⟨by (with_reducible repeat (first | apply Kd.R_alloc | apply Kd.R_drewN | apply Kd.R_drew)); exact HO_208003.out⟩, ⟨by (with_reducible repeat (first | refine blk_drewN ?_ _ | refine blk_drew ?_ | refine blk_alloc ?_ _)); exact BK206.out⟩, ⟨by (with_reducible repeat (first | refine blk_drewN ?_ _ | refine blk_drew ?_ | refine blk_alloc ?_ _)); exact BK207.out⟩, ⟨by repeat (first | (with_reducible first | exact HB.out | apply below_alloc | apply pw_below_drewN | apply below_drew1 | refine below_set ?_ GE206.out | refine below_set ?_ GE207.out) | exact HB.out)⟩⟩
           case rest =>
            clear HC29
            try clear c1
            try clear c2
            try clear p2
            try clear c3
            try clear c4
            try clear c5
            try clear c5b0
            try clear c5b1
            try clear c6
            try clear c6b0
            try clear c6b1
            try clear p6
            try clear c7
            try clear c7b0
            try clear c7b1
            try clear c8
            try clear c9
            try clear c11
            try clear c11b0
            try clear c11b1
            try clear c12
            try clear c12b0
            try clear c12b1
            try clear c15
            try clear c18
            try clear c18b0
            try clear c19
            try clear c20
            try clear c22
            try clear c22b0
            try clear c22b1
            try clear c23
            try clear c23b0
            try clear c23b1
            try clear c24
            try clear c24b0
            try clear c24b1
            try clear c26
            try clear c26b0
            try clear c26b1
            try clear c27
            try clear c27b0
            try clear c27b1
            try clear c28
            try clear c28b0
            try clear c28b1
            try clear c30
            try clear c31
            try clear c31b0
            try clear c31b1
            try clear c34
            try clear hcz10_0
            try clear hcz10_1
            try clear hcz10_2
            try clear hcz10_3
            try clear hcz16_0
            try clear hcz16_1
            try clear hcz16_2
            try clear hcz16_3
            try clear hcz35_0
            try clear hcz35_1
            try clear hcz35_2
            try clear hcz35_3
            try clear hfz10_0
            try clear hfz10_1
            try clear hfz10_2
            try clear hfz10_3
            try clear hfz16_0
            try clear hfz16_1
            try clear hfz16_2
            try clear hfz16_3
            try clear hfz35_0
            try clear hfz35_1
            try clear hfz35_2
            try clear hfz35_3
            try clear p2
            try clear p6
            obtain ⟨kq, x208001_28, HA, HJ28, HO_208002, HO_208003, BK206, BK207, HB⟩ := hcut
            cases kq with
            | zero => exact absurd HA.out (by simp [mosaicref29_Read.j4])
            | succ kj28 =>
             have H := HA.out
             clear HA
             simp only [mosaicref29_Read.j4] at H
             have HC36 := Aside0.mk H
             clear H
             go_upto_region 15 with (fail)
             go_cut [76] (fun v76 wc => ∃ (kq : Nat) (x76_35 : Bool), v76 = .bool x76_35 ∧ Aside0 (mosaicref29_Read.j5 kq a0 x8_2 t212 PX x76_35 t208 x208001_28 x208002_2 x208003_2 = some (r1, r2, r3, r4, r5)) ∧ Aside0 (kq ≤ kj28) ∧ Aside0 (Kd.R (Kd.int .i64) 3 wc w.heap.size (fun _ => True) u208002 x208002_2) ∧ Aside0 (Kd.R k45 45 wc w.heap.size (fun _ => True) u208003 x208003_2) ∧ Aside0 (wc.heap[gb206]? = some (.cells #[.string (⟨#[]⟩ : ByteArray), .string (⟨#[]⟩ : ByteArray), (.slice none 0 0), (.slice none 0 0)] 39 (0, 0))) ∧ Aside0 (wc.heap[gb207]? = some (.cells #[.string t208, .string x208001_28, u208002, u208003] 39 (0, 0))) ∧ Aside0 (Below w.heap.size w wc))
             case first =>
              have H := HC36.out
              clear HC36
              by_cases c37 : (PX.size : Int) ≥ 5
              ·
               rw [if_pos c37] at H
               have c37b0 : decide (5 ≤ (PX.size : Int)) = true := decide_eq_true c37
               have c37b1 : decide (5 ≤ PX.size) = true := decide_eq_true (by omega)
               clear c37
               (first | rw [c37b0] | (simp only [i64_w, i32_w, IntKind.wrap_u8]; rw [c37b0]) | skip)
               by_cases c38 : 0 ≤ 5
               rotate_left; · rw [if_neg c38] at H; exact absurd H (by simp)
               rw [if_pos c38] at H
               have c38b0 := eq_true c38
               have c38b1 : decide (0 ≤ 5) = true := decide_eq_true c38
               clear c38
               by_cases c39 : 5 ≤ (PX.size : Int)
               rotate_left; · rw [if_neg c39] at H; exact absurd H (by simp)
               rw [if_pos c39] at H
               have c39b0 := eq_true c39
               have c39b1 : decide (5 ≤ (PX.size : Int)) = true := decide_eq_true c39
               clear c39
               have H' := Aside0.mk H
               clear H
               go_wp2
               go_meet
               case rel => exact ⟨_, (((PX.extract 0 5).toList == ([110, 111, 100, 101, 61] : List UInt8))), (by first | rfl | (simp; done) | (simp only [← hji21] <;> (first | rfl | simp)) | (simp [*]; done)), H', ⟨by have := HJ1.out; have := HK2.out; have := HJ16.out; have := HJ24.out; have := HJ28.out; first | omega | exact Nat.le_refl _⟩, ⟨by (with_reducible repeat (first | apply Kd.R_alloc | apply Kd.R_drewN | apply Kd.R_drew)); exact HO_208002.out⟩, ⟨by (with_reducible repeat (first | apply Kd.R_alloc | apply Kd.R_drewN | apply Kd.R_drew)); exact HO_208003.out⟩, ⟨by (with_reducible repeat (first | refine blk_drewN ?_ _ | refine blk_drew ?_ | refine blk_alloc ?_ _)); exact BK206.out⟩, ⟨by (with_reducible repeat (first | refine blk_drewN ?_ _ | refine blk_drew ?_ | refine blk_alloc ?_ _)); exact BK207.out⟩, ⟨by repeat (first | (with_reducible first | exact HB.out | apply below_alloc | apply pw_below_drewN | apply below_drew1 | refine below_set ?_ GE206.out | refine below_set ?_ GE207.out) | exact HB.out)⟩⟩
              ·
               rw [if_neg c37] at H
               have c37b0 : decide (5 ≤ (PX.size : Int)) = false := decide_eq_false c37
               have c37b1 : decide (5 ≤ PX.size) = false := decide_eq_false (by omega)
               clear c37
               (first | rw [c37b0] | (simp only [i64_w, i32_w, IntKind.wrap_u8]; rw [c37b0]) | skip)
               have H' := Aside0.mk H
               clear H
               go_wp2
               go_meet
               case rel => exact ⟨_, (false), (by first | rfl | (simp; done) | (simp [*]; done)), H', ⟨by have := HJ1.out; have := HK2.out; have := HJ16.out; have := HJ24.out; have := HJ28.out; first | omega | exact Nat.le_refl _⟩, ⟨by (with_reducible repeat (first | apply Kd.R_alloc | apply Kd.R_drewN | apply Kd.R_drew)); exact HO_208002.out⟩, ⟨by (with_reducible repeat (first | apply Kd.R_alloc | apply Kd.R_drewN | apply Kd.R_drew)); exact HO_208003.out⟩, ⟨by (with_reducible repeat (first | refine blk_drewN ?_ _ | refine blk_drew ?_ | refine blk_alloc ?_ _)); exact BK206.out⟩, ⟨by (with_reducible repeat (first | refine blk_drewN ?_ _ | refine blk_drew ?_ | refine blk_alloc ?_ _)); exact BK207.out⟩, ⟨by repeat (first | (with_reducible first | exact HB.out | apply below_alloc | apply pw_below_drewN | apply below_drew1 | refine below_set ?_ GE206.out | refine below_set ?_ GE207.out) | exact HB.out)⟩⟩
             case rest =>
              clear HC36
              try clear c1
              try clear c2
              try clear p2
              try clear c3
              try clear c4
              try clear c5
              try clear c5b0
              try clear c5b1
              try clear c6
              try clear c6b0
              try clear c6b1
              try clear p6
              try clear c7
              try clear c7b0
              try clear c7b1
              try clear c8
              try clear c9
              try clear c11
              try clear c11b0
              try clear c11b1
              try clear c12
              try clear c12b0
              try clear c12b1
              try clear c15
              try clear c18
              try clear c18b0
              try clear c19
              try clear c20
              try clear c22
              try clear c22b0
              try clear c22b1
              try clear c23
              try clear c23b0
              try clear c23b1
              try clear c24
              try clear c24b0
              try clear c24b1
              try clear c26
              try clear c26b0
              try clear c26b1
              try clear c27
              try clear c27b0
              try clear c27b1
              try clear c28
              try clear c28b0
              try clear c28b1
              try clear c30
              try clear c31
              try clear c31b0
              try clear c31b1
              try clear c34
              try clear c37
              try clear c37b0
              try clear c37b1
              try clear c38
              try clear c38b0
              try clear c38b1
              try clear c39
              try clear c39b0
              try clear c39b1
              try clear hcz10_0
              try clear hcz10_1
              try clear hcz10_2
              try clear hcz10_3
              try clear hcz16_0
              try clear hcz16_1
              try clear hcz16_2
              try clear hcz16_3
              try clear hcz35_0
              try clear hcz35_1
              try clear hcz35_2
              try clear hcz35_3
              try clear hfz10_0
              try clear hfz10_1
              try clear hfz10_2
              try clear hfz10_3
              try clear hfz16_0
              try clear hfz16_1
              try clear hfz16_2
              try clear hfz16_3
              try clear hfz35_0
              try clear hfz35_1
              try clear hfz35_2
              try clear hfz35_3
              try clear p2
              try clear p6
              obtain ⟨kq, x76_35, rfl, HA, HJ35, HO_208002, HO_208003, BK206, BK207, HB⟩ := hcut
              cases kq with
              | zero => exact absurd HA.out (by simp [mosaicref29_Read.j5])
              | succ kj35 =>
               have H := HA.out
               clear HA
               simp only [mosaicref29_Read.j5] at H
               by_cases c40 : x76_35 = true
               ·
                subst c40
                have H1 : ((mosaicref29_upTo.f kj35 PX 5 44 44).bind fun t215 => ((mosaicref29_upTo.f kj35 PX (wrap64 (t215 + 1)) 44 44).bind fun t216 => (if t216 < (PX.size : Int) then (if 5 ≤ t215 then (if t215 ≤ (PX.size : Int) then ((mosaicref29_whole.f kj35 (PX.extract 5 (t215 : Int).toNat)).bind fun t217 => (if x208002_2.length < 17592186044416 then (if 0 ≤ (wrap64 (t215 + 1)) then (if (wrap64 (t215 + 1)) ≤ t216 then (if t216 ≤ (PX.size : Int) then ((mosaicref29_whole.f kj35 (PX.extract ((wrap64 (t215 + 1)) : Int).toNat (t216 : Int).toNat)).bind fun t221 => (if 0 ≤ (wrap64 (t216 + 1)) then (if (wrap64 (t216 + 1)) ≤ (PX.size : Int) then ((mosaicref29_whole.f kj35 (PX.extract ((wrap64 (t216 + 1)) : Int).toNat PX.size)).bind fun t222 => (if x208003_2.length < 8796093022208 then (mosaicref29_Read.l0 kj35 a0 t212 (wrap64 (x8_2 + 1)) t208 x208001_28 (x208002_2 ++ [t217]) (x208003_2 ++ [(⟨t221, t222⟩ : S45)])) else (none))) else (none)) else (none))) else (none)) else (none)) else (none)) else (none))) else (none)) else (none)) else (mosaicref29_Read.l0 kj35 a0 t212 (wrap64 (x8_2 + 1)) t208 x208001_28 x208002_2 x208003_2)))) = some (r1, r2, r3, r4, r5) := by rw [if_pos rfl] at H; exact H
                clear H
                have H := H1
                clear H1
                replace H := Option.bind_eq_some_iff.mp H
                obtain ⟨t215, A410, H⟩ := H
                replace H : ((mosaicref29_upTo.f kj35 PX (wrap64 (t215 + 1)) 44 44).bind fun t216 => (if t216 < (PX.size : Int) then (if 5 ≤ t215 then (if t215 ≤ (PX.size : Int) then ((mosaicref29_whole.f kj35 (PX.extract 5 (t215 : Int).toNat)).bind fun t217 => (if x208002_2.length < 17592186044416 then (if 0 ≤ (wrap64 (t215 + 1)) then (if (wrap64 (t215 + 1)) ≤ t216 then (if t216 ≤ (PX.size : Int) then ((mosaicref29_whole.f kj35 (PX.extract ((wrap64 (t215 + 1)) : Int).toNat (t216 : Int).toNat)).bind fun t221 => (if 0 ≤ (wrap64 (t216 + 1)) then (if (wrap64 (t216 + 1)) ≤ (PX.size : Int) then ((mosaicref29_whole.f kj35 (PX.extract ((wrap64 (t216 + 1)) : Int).toNat PX.size)).bind fun t222 => (if x208003_2.length < 8796093022208 then (mosaicref29_Read.l0 kj35 a0 t212 (wrap64 (x8_2 + 1)) t208 x208001_28 (x208002_2 ++ [t217]) (x208003_2 ++ [(⟨t221, t222⟩ : S45)])) else (none))) else (none)) else (none))) else (none)) else (none)) else (none)) else (none))) else (none)) else (none)) else (mosaicref29_Read.l0 kj35 a0 t212 (wrap64 (x8_2 + 1)) t208 x208001_28 x208002_2 x208003_2))) = some (r1, r2, r3, r4, r5) := H
                have A41 := Aside0.mk A410
                clear A410
                replace H := Option.bind_eq_some_iff.mp H
                obtain ⟨t216, A420, H⟩ := H
                replace H : (if t216 < (PX.size : Int) then (if 5 ≤ t215 then (if t215 ≤ (PX.size : Int) then ((mosaicref29_whole.f kj35 (PX.extract 5 (t215 : Int).toNat)).bind fun t217 => (if x208002_2.length < 17592186044416 then (if 0 ≤ (wrap64 (t215 + 1)) then (if (wrap64 (t215 + 1)) ≤ t216 then (if t216 ≤ (PX.size : Int) then ((mosaicref29_whole.f kj35 (PX.extract ((wrap64 (t215 + 1)) : Int).toNat (t216 : Int).toNat)).bind fun t221 => (if 0 ≤ (wrap64 (t216 + 1)) then (if (wrap64 (t216 + 1)) ≤ (PX.size : Int) then ((mosaicref29_whole.f kj35 (PX.extract ((wrap64 (t216 + 1)) : Int).toNat PX.size)).bind fun t222 => (if x208003_2.length < 8796093022208 then (mosaicref29_Read.l0 kj35 a0 t212 (wrap64 (x8_2 + 1)) t208 x208001_28 (x208002_2 ++ [t217]) (x208003_2 ++ [(⟨t221, t222⟩ : S45)])) else (none))) else (none)) else (none))) else (none)) else (none)) else (none)) else (none))) else (none)) else (none)) else (mosaicref29_Read.l0 kj35 a0 t212 (wrap64 (x8_2 + 1)) t208 x208001_28 x208002_2 x208003_2)) = some (r1, r2, r3, r4, r5) := H
                have A42 := Aside0.mk A420
                clear A420
                by_cases c43 : t216 < (PX.size : Int)
                ·
                 rw [if_pos c43] at H
                 have c43b0 : decide (t216 < (PX.size : Int)) = true := decide_eq_true c43
                 clear c43
                 by_cases c44 : 5 ≤ t215
                 rotate_left; · rw [if_neg c44] at H; exact absurd H (by simp)
                 rw [if_pos c44] at H
                 have c44b0 := eq_true c44
                 have c44b1 : decide (5 ≤ t215) = true := decide_eq_true c44
                 clear c44
                 by_cases c45 : t215 ≤ (PX.size : Int)
                 rotate_left; · rw [if_neg c45] at H; exact absurd H (by simp)
                 rw [if_pos c45] at H
                 have c45b0 := eq_true c45
                 have c45b1 : decide (t215 ≤ (PX.size : Int)) = true := decide_eq_true c45
                 clear c45
                 replace H := Option.bind_eq_some_iff.mp H
                 obtain ⟨t217, A460, H⟩ := H
                 replace H : (if x208002_2.length < 17592186044416 then (if 0 ≤ (wrap64 (t215 + 1)) then (if (wrap64 (t215 + 1)) ≤ t216 then (if t216 ≤ (PX.size : Int) then ((mosaicref29_whole.f kj35 (PX.extract ((wrap64 (t215 + 1)) : Int).toNat (t216 : Int).toNat)).bind fun t221 => (if 0 ≤ (wrap64 (t216 + 1)) then (if (wrap64 (t216 + 1)) ≤ (PX.size : Int) then ((mosaicref29_whole.f kj35 (PX.extract ((wrap64 (t216 + 1)) : Int).toNat PX.size)).bind fun t222 => (if x208003_2.length < 8796093022208 then (mosaicref29_Read.l0 kj35 a0 t212 (wrap64 (x8_2 + 1)) t208 x208001_28 (x208002_2 ++ [t217]) (x208003_2 ++ [(⟨t221, t222⟩ : S45)])) else (none))) else (none)) else (none))) else (none)) else (none)) else (none)) else (none)) = some (r1, r2, r3, r4, r5) := H
                 have A46 := Aside0.mk A460
                 clear A460
                 by_cases c47 : x208002_2.length < 17592186044416
                 rotate_left; · rw [if_neg c47] at H; exact absurd H (by simp)
                 rw [if_pos c47] at H
                 have LMc47 := Aside0.mk c47
                 clear c47
                 obtain ⟨y218, hy218⟩ : ∃ y_ : List Int, y_ = (x208002_2 ++ [t217]) := ⟨_, rfl⟩
                 replace H : (if 0 ≤ (wrap64 (t215 + 1)) then (if (wrap64 (t215 + 1)) ≤ t216 then (if t216 ≤ (PX.size : Int) then ((mosaicref29_whole.f kj35 (PX.extract ((wrap64 (t215 + 1)) : Int).toNat (t216 : Int).toNat)).bind fun t221 => (if 0 ≤ (wrap64 (t216 + 1)) then (if (wrap64 (t216 + 1)) ≤ (PX.size : Int) then ((mosaicref29_whole.f kj35 (PX.extract ((wrap64 (t216 + 1)) : Int).toNat PX.size)).bind fun t222 => (if x208003_2.length < 8796093022208 then (mosaicref29_Read.l0 kj35 a0 t212 (wrap64 (x8_2 + 1)) t208 x208001_28 y218 (x208003_2 ++ [(⟨t221, t222⟩ : S45)])) else (none))) else (none)) else (none))) else (none)) else (none)) else (none)) = some (r1, r2, r3, r4, r5) := by first | (rw [hy218]; with_reducible exact H) | (have H2_ := (Option.bind_some _ _).symm.trans H; rw [hy218]; with_reducible exact H2_) | (have H2_ := (Option.bind_some _ _).symm.trans H; with_reducible exact H2_) | with_reducible exact H | (rw [hy218]; exact H) | exact H
                 have Ny218 := Aside0.mk hy218
                 clear hy218
                 obtain ⟨ji48, hji48⟩ : ∃ j_ : Int, (wrap64 (t215 + 1)) = j_ := ⟨_, rfl⟩
                 replace H : (if 0 ≤ (ji48) then (if (ji48) ≤ t216 then (if t216 ≤ (PX.size : Int) then ((mosaicref29_whole.f kj35 (PX.extract ((ji48) : Int).toNat (t216 : Int).toNat)).bind fun t221 => (if 0 ≤ (wrap64 (t216 + 1)) then (if (wrap64 (t216 + 1)) ≤ (PX.size : Int) then ((mosaicref29_whole.f kj35 (PX.extract ((wrap64 (t216 + 1)) : Int).toNat PX.size)).bind fun t222 => (if x208003_2.length < 8796093022208 then (mosaicref29_Read.l0 kj35 a0 t212 (wrap64 (x8_2 + 1)) t208 x208001_28 y218 (x208003_2 ++ [(⟨t221, t222⟩ : S45)])) else (none))) else (none)) else (none))) else (none)) else (none)) else (none)) = some (r1, r2, r3, r4, r5) := by first | (rw [hji48] at H; exact H) | (simp only [hji48] at H ⊢; exact H)
                 (try rw [hji48] at A41)
                 (try rw [hji48] at A42)
                 (try rw [hji48] at A46)
                 have hji48w : (IntKind.i64.wrap (t215 + 1)) = ji48 := (i64_w _).trans hji48
                 by_cases c49 : 0 ≤ (ji48)
                 rotate_left; · rw [if_neg c49] at H; exact absurd H (by simp)
                 rw [if_pos c49] at H
                 have c49b0 := eq_true c49
                 have c49b1 : decide (0 ≤ (ji48)) = true := decide_eq_true c49
                 clear c49
                 by_cases c50 : (ji48) ≤ t216
                 rotate_left; · rw [if_neg c50] at H; exact absurd H (by simp)
                 rw [if_pos c50] at H
                 have c50b0 := eq_true c50
                 have c50b1 : decide ((ji48) ≤ t216) = true := decide_eq_true c50
                 clear c50
                 by_cases c51 : t216 ≤ (PX.size : Int)
                 rotate_left; · rw [if_neg c51] at H; exact absurd H (by simp)
                 rw [if_pos c51] at H
                 have c51b0 := eq_true c51
                 have c51b1 : decide (t216 ≤ (PX.size : Int)) = true := decide_eq_true c51
                 clear c51
                 replace H := Option.bind_eq_some_iff.mp H
                 obtain ⟨t221, A520, H⟩ := H
                 replace H : (if 0 ≤ (wrap64 (t216 + 1)) then (if (wrap64 (t216 + 1)) ≤ (PX.size : Int) then ((mosaicref29_whole.f kj35 (PX.extract ((wrap64 (t216 + 1)) : Int).toNat PX.size)).bind fun t222 => (if x208003_2.length < 8796093022208 then (mosaicref29_Read.l0 kj35 a0 t212 (wrap64 (x8_2 + 1)) t208 x208001_28 y218 (x208003_2 ++ [(⟨t221, t222⟩ : S45)])) else (none))) else (none)) else (none)) = some (r1, r2, r3, r4, r5) := H
                 have A52 := Aside0.mk A520
                 clear A520
                 obtain ⟨ji53, hji53⟩ : ∃ j_ : Int, (wrap64 (t216 + 1)) = j_ := ⟨_, rfl⟩
                 replace H : (if 0 ≤ (ji53) then (if (ji53) ≤ (PX.size : Int) then ((mosaicref29_whole.f kj35 (PX.extract ((ji53) : Int).toNat PX.size)).bind fun t222 => (if x208003_2.length < 8796093022208 then (mosaicref29_Read.l0 kj35 a0 t212 (wrap64 (x8_2 + 1)) t208 x208001_28 y218 (x208003_2 ++ [(⟨t221, t222⟩ : S45)])) else (none))) else (none)) else (none)) = some (r1, r2, r3, r4, r5) := by first | (rw [hji53] at H; exact H) | (simp only [hji53] at H ⊢; exact H)
                 (try rw [hji53] at A41)
                 (try rw [hji53] at A42)
                 (try rw [hji53] at A46)
                 (try rw [hji53] at A52)
                 have hji53w : (IntKind.i64.wrap (t216 + 1)) = ji53 := (i64_w _).trans hji53
                 by_cases c54 : 0 ≤ (ji53)
                 rotate_left; · rw [if_neg c54] at H; exact absurd H (by simp)
                 rw [if_pos c54] at H
                 have c54b0 := eq_true c54
                 have c54b1 : decide (0 ≤ (ji53)) = true := decide_eq_true c54
                 clear c54
                 by_cases c55 : (ji53) ≤ (PX.size : Int)
                 rotate_left; · rw [if_neg c55] at H; exact absurd H (by simp)
                 rw [if_pos c55] at H
                 have c55b0 := eq_true c55
                 have c55b1 : decide ((ji53) ≤ (PX.size : Int)) = true := decide_eq_true c55
                 clear c55
                 replace H := Option.bind_eq_some_iff.mp H
                 obtain ⟨t222, A560, H⟩ := H
                 replace H : (if x208003_2.length < 8796093022208 then (mosaicref29_Read.l0 kj35 a0 t212 (wrap64 (x8_2 + 1)) t208 x208001_28 y218 (x208003_2 ++ [(⟨t221, t222⟩ : S45)])) else (none)) = some (r1, r2, r3, r4, r5) := H
                 have A56 := Aside0.mk A560
                 clear A560
                 by_cases c57 : x208003_2.length < 8796093022208
                 rotate_left; · rw [if_neg c57] at H; exact absurd H (by simp)
                 rw [if_pos c57] at H
                 have LMc57 := Aside0.mk c57
                 clear c57
                 obtain ⟨y223, hy223⟩ : ∃ y_ : List (S45), y_ = (x208003_2 ++ [(⟨t221, t222⟩ : S45)]) := ⟨_, rfl⟩
                 replace H : (mosaicref29_Read.l0 kj35 a0 t212 (wrap64 (x8_2 + 1)) t208 x208001_28 y218 y223) = some (r1, r2, r3, r4, r5) := by first | (rw [hy223]; with_reducible exact H) | (have H2_ := (Option.bind_some _ _).symm.trans H; rw [hy223]; with_reducible exact H2_) | (have H2_ := (Option.bind_some _ _).symm.trans H; with_reducible exact H2_) | with_reducible exact H | (rw [hy223]; exact H) | exact H
                 have Ny223 := Aside0.mk hy223
                 clear hy223
                 have H' := Aside0.mk H
                 clear H
                 try go_wp2_with (first | ((with_reducible refine gate_callee (f := 44) rfl ?_); refine goesL_ (some 78) rfl rfl Tryd.func44 (by kernel_rfl) rfl #[.string PX, .int .i64 5, .int .u8 44, .int .u8 44] rfl (by (try simp only [List.map_toArray, List.map_cons, List.map_nil]); first | done | (simp only [hji21]; rfl) | rfl | (simp only [List.length_drop, List.length_take]; rfl)) ?_; (with_reducible refine (mosaicref29_upTo.calls kj35 PX 5 44 44 t215 _ A41.out).mono ?_); rintro e w' ⟨rfl, ⟨nd, rfl⟩⟩; refine ⟨_, rfl, ?_⟩; (try (rw [drewN_self wc]; generalize hq_ : World.drewN wc _ = wc; have n0_ : Aside0 (Kd.R (Kd.int .i64) 3 wc w.heap.size (fun _ => True) u208002 x208002_2) := ⟨by rw [← hq_]; exact (by (with_reducible repeat (first | apply Kd.R_alloc | apply Kd.R_drewN | apply Kd.R_drew)); exact HO_208002.out)⟩; have n1_ : Aside0 (Kd.R k45 45 wc w.heap.size (fun _ => True) u208003 x208003_2) := ⟨by rw [← hq_]; exact (by (with_reducible repeat (first | apply Kd.R_alloc | apply Kd.R_drewN | apply Kd.R_drew)); exact HO_208003.out)⟩; have n2_ : Aside0 (wc.heap[gb206]? = some (.cells #[.string (⟨#[]⟩ : ByteArray), .string (⟨#[]⟩ : ByteArray), .slice none 0 0, .slice none 0 0] 39 (0, 0))) := ⟨by rw [← hq_]; exact (by exact bS BK206)⟩; have n3_ : Aside0 (wc.heap[gb207]? = some (.cells #[.string t208, .string x208001_28, u208002, u208003] 39 (0, 0))) := ⟨by rw [← hq_]; exact (by exact bS BK207)⟩; have n4_ : Aside0 (Below w.heap.size w wc) := ⟨by rw [← hq_]; exact (by repeat (first | (with_reducible first | exact HB.out | apply below_alloc | apply pw_below_drewN | apply below_drew1 | refine below_set ?_ GE206.out | refine below_set ?_ GE207.out) | exact HB.out))⟩; clear HO_208002 HO_208003 BK206 BK207 HB hq_; have HO_208002 := n0_; have HO_208003 := n1_; have BK206 := n2_; have BK207 := n3_; have HB := n4_; clear n0_ n1_ n2_ n3_ n4_))) | ((with_reducible refine gate_callee (f := 44) rfl ?_); refine goesL_ (some 82) rfl rfl Tryd.func44 (by kernel_rfl) rfl #[.string PX, .int .i64 ji48, .int .u8 44, .int .u8 44] rfl (by (try simp only [List.map_toArray, List.map_cons, List.map_nil]); first | done | (simp only [hji21, hji48]; rfl) | rfl | (simp only [List.length_drop, List.length_take]; rfl)) ?_; (with_reducible refine (mosaicref29_upTo.calls kj35 PX ji48 44 44 t216 _ A42.out).mono ?_); rintro e w' ⟨rfl, ⟨nd, rfl⟩⟩; refine ⟨_, rfl, ?_⟩; (try (rw [drewN_self wc]; generalize hq_ : World.drewN wc _ = wc; have n0_ : Aside0 (Kd.R (Kd.int .i64) 3 wc w.heap.size (fun _ => True) u208002 x208002_2) := ⟨by rw [← hq_]; exact (by (with_reducible repeat (first | apply Kd.R_alloc | apply Kd.R_drewN | apply Kd.R_drew)); exact HO_208002.out)⟩; have n1_ : Aside0 (Kd.R k45 45 wc w.heap.size (fun _ => True) u208003 x208003_2) := ⟨by rw [← hq_]; exact (by (with_reducible repeat (first | apply Kd.R_alloc | apply Kd.R_drewN | apply Kd.R_drew)); exact HO_208003.out)⟩; have n2_ : Aside0 (wc.heap[gb206]? = some (.cells #[.string (⟨#[]⟩ : ByteArray), .string (⟨#[]⟩ : ByteArray), .slice none 0 0, .slice none 0 0] 39 (0, 0))) := ⟨by rw [← hq_]; exact (by exact bS BK206)⟩; have n3_ : Aside0 (wc.heap[gb207]? = some (.cells #[.string t208, .string x208001_28, u208002, u208003] 39 (0, 0))) := ⟨by rw [← hq_]; exact (by exact bS BK207)⟩; have n4_ : Aside0 (Below w.heap.size w wc) := ⟨by rw [← hq_]; exact (by repeat (first | (with_reducible first | exact HB.out | apply below_alloc | apply pw_below_drewN | apply below_drew1 | refine below_set ?_ GE206.out | refine below_set ?_ GE207.out) | exact HB.out))⟩; clear HO_208002 HO_208003 BK206 BK207 HB hq_; have HO_208002 := n0_; have HO_208003 := n1_; have BK206 := n2_; have BK207 := n3_; have HB := n4_; clear n0_ n1_ n2_ n3_ n4_))))
                 have n0_ := Aside0.mk (Kd.R_drew HO_208002.out)
                 have n1_ := Aside0.mk (Kd.R_drew HO_208003.out)
                 have n2_ := Aside0.mk (blk_drew BK206.out)
                 have n3_ := Aside0.mk (blk_drew BK207.out)
                 have n4_ := Aside0.mk (below_drew1 HB.out)
                 clear HO_208002
                 clear HO_208003
                 clear BK206
                 clear BK207
                 clear HB
                 have HO_208002 := n0_
                 have HO_208003 := n1_
                 have BK206 := n2_
                 have BK207 := n3_
                 have HB := n4_
                 clear n0_ n1_ n2_ n3_ n4_
                 refine start_ (n := 10) (S := fun w' => w'.cell? ⟨gb207, 0, none⟩ = some (.string t208) ∧ w'.cell? ⟨gb207, 1, none⟩ = some (.string x208001_28) ∧ w'.cell? ⟨gb207, 2, none⟩ = some (u208002) ∧ w'.cell? ⟨gb207, 3, none⟩ = some (u208003)) (ds := [9]) (fB 10 0) (by kernel_rfl) rfl rfl ⟨(blk_cell BK207.out 0).trans rfl, (blk_cell BK207.out 1).trans rfl, (blk_cell BK207.out 2).trans rfl, (blk_cell BK207.out 3).trans rfl⟩ (fun hHeld => ?_); refine with_tabW mosaicref29_Read.tab19 mosaicref29_Read.bits19 (fun HT_ HW_ => ?_)
                 generalize wc.drew = w58 at HO_208002 HO_208003 BK206 BK207 HB hHeld ⊢
                 refine pure_ (i := 0) (N := some 87) (v := ?_) (a' := ?_) (fB 10 1) rfl rfl (any_of HT_.out (by kernel_rfl)) (fun _ _ _ h => h) (Or.inl ⟨by rfl, ?_⟩) ?_ ?_
                 rotate_left; · intro w'; go_simp; with_reducible rfl
                 rotate_left; · simp only [Act.put, sA, sB, sC, i64_w, i32_w, sD]; rfl
                 refine pure_ (i := 2) (N := some 89) (v := ?_) (a' := ?_) (fB 10 5) rfl rfl (any_of HT_.out (by kernel_rfl)) (fun _ _ _ h => h) (Or.inl ⟨by rfl, ?_⟩) ?_ ?_
                 rotate_left; · intro w'; go_simp; with_reducible rfl
                 rotate_left; · simp only [Act.put, sA, sB, sC, i64_w, i32_w, sD]; rfl
                 refine pure_ (i := 3) (N := some 90) (v := ?_) (a' := ?_) (fB 10 13) rfl rfl (any_of HT_.out (by kernel_rfl)) (fun _ _ _ h => h) (Or.inl ⟨by rfl, ?_⟩) ?_ ?_
                 rotate_left; · intro w'; go_simp; with_reducible rfl
                 rotate_left; · simp only [Act.put, sA, sB, sC, i64_w, i32_w, sD]; rfl
                 refine pure_ (i := 4) (N := some 91) (v := ?_) (a' := ?_) (fB 10 29) rfl rfl (any_of HT_.out (by kernel_rfl)) (fun _ _ _ h => h) (Or.inl ⟨by rfl, ?_⟩) ?_ ?_
                 rotate_left; · intro w'; go_simp; with_reducible rfl
                 rotate_left; · simp only [Act.put, sA, sB, sC, i64_w, i32_w, sD]; rfl
                 refine take_ (i := 1) (N := some 88) (v := ?_) (a' := ?_) (fB 10 31) rfl rfl (take_ofW HT_.out HW_.out (by kernel_rfl)) (fun _ _ _ h => h) (Or.inl ⟨by rfl, ?_⟩) hHeld ?_ ?_
                 rotate_left; · rintro w' ⟨s0, s1, s2, s3⟩; go_simp; with_reducible rfl
                 rotate_left; · simp only [Act.put, sA, sB, sC, i64_w, i32_w, sD]; rfl
                 refine one_ (i := 5) (N := some 92) (fB 10 63) rfl rfl (one_of HT_.out (by kernel_rfl)) (by decide) (fun K hK => ?_)
                 refine goes_ Tryd.func46 (by kernel_rfl) rfl #[.string (PX.extract 5 (t215 : Int).toNat)] (by rfl) rfl rfl (by (try simp only [List.map_toArray, List.map_cons, List.map_nil]); first | done | (simp only [hji21]; rfl) | rfl | (simp only [List.length_drop, List.length_take]; rfl)) ?_
                 with_reducible refine (mosaicref29_whole.calls kj35 (PX.extract 5 (t215 : Int).toNat) t217 _ A46.out).mono ?_
                 rintro e w' ⟨rfl, ⟨nd, rfl⟩⟩
                 refine ⟨_, rfl, ?_⟩
                 refine hK.out _ _ ⟨(blk_cell BK207.out 0).trans rfl, (blk_cell BK207.out 1).trans rfl, (blk_cell BK207.out 2).trans rfl, (blk_cell BK207.out 3).trans rfl⟩ (fun hHeld => ?_)
                 clear hK K
                 refine norm_ (a' := ?_) ?_ ?_
                 rotate_left; · show Act.put _ (some 92) _ = _; simp only [Act.put, sA, sB, sC, i64_w, i32_w, sD]; rfl
                 refine one_ (i := 6) (N := some 93) (fB 10 127) rfl rfl (one_of HT_.out (by kernel_rfl)) (by decide) (fun K hK => ?_)
                 refine value_ (w1 := ?_) (v := ?_) (by rfl) rfl ?_ ?_
                 rotate_left 2
                 ·
                  go_simp
                  constructor
                  ·
                   rfl
                  ·
                   rfl
                 refine hK.out _ _ ⟨(blk_cell (blk_alloc BK207.out _) 0).trans rfl, (blk_cell (blk_alloc BK207.out _) 1).trans rfl, (blk_cell (blk_alloc BK207.out _) 2).trans rfl, (blk_cell (blk_alloc BK207.out _) 3).trans rfl⟩ (fun hHeld => ?_)
                 clear hK K
                 refine norm_ (a' := ?_) ?_ ?_
                 rotate_left; · show Act.put _ (some 93) _ = _; simp only [Act.put, sA, sB, sC, i64_w, i32_w, sD]; rfl
                 refine one_ (i := 7) (N := some 94) (fB 10 255) rfl rfl (one_of HT_.out (by kernel_rfl)) (by decide) (fun K hK => ?_)
                 refine Kd.R_append_step (Kd.int .i64) (w0 := w) w.heap.size (by rfl) (.tmp 88) (.tmp 93) 22 3 (.int .i64 0) 8 rfl Tryd.underlying22 info3 rfl (by decide) (by omega) u208002 x208002_2 t217 [.int .i64 t217] (fun _ => True) (fun _ => False) rfl rfl ?aP (fun _ hk => hk.elim) ?aF ?aO ?aB ?aS ?aL ?_
                 (case aP => exact rfl)
                 (case aB => exact (by repeat (first | (with_reducible first | exact HB.out | apply below_alloc | apply pw_below_drewN | apply below_drew1 | refine below_set ?_ GE206.out | refine below_set ?_ GE207.out) | exact HB.out)))
                 (case aF => exact (fun _ _ => trivial))
                 (case aO => exact (by (with_reducible repeat (first | apply Kd.R_alloc | apply Kd.R_drewN | apply Kd.R_drew)); exact HO_208002.out))
                 (case aS => exact (below_size (by repeat (first | (with_reducible first | exact HB.out | apply below_alloc | apply pw_below_drewN | apply below_drew1 | refine below_set ?_ GE206.out | refine below_set ?_ GE207.out) | exact HB.out))))
                 (case aL => have := LMc47.out; omega)
                 intro v219 w59 ho hb hg hat
                 rw [← Ny218.out] at ho
                 have n0_ := Aside0.mk (Kd.R_over' (by (with_reducible repeat (first | apply Kd.R_alloc | apply Kd.R_drewN | apply Kd.R_drew)); exact HO_208003.out) (Kd.R_typed (by (with_reducible repeat (first | apply Kd.R_alloc | apply Kd.R_drewN | apply Kd.R_drew)); exact HO_208002.out)) (by decide) hg)
                 have n1_ := Aside0.mk (blk_grown (g := gb206) (o := .cells #[.string (⟨#[]⟩ : ByteArray), .string (⟨#[]⟩ : ByteArray), .slice none 0 0, .slice none 0 0] 39 (0, 0)) (by exact bS BK206) hg (Kd.R_ne HO_208002.out BK206.out (by decide)))
                 have n2_ := Aside0.mk (blk_grown (g := gb207) (o := .cells #[.string t208, .string x208001_28, u208002, u208003] 39 (0, 0)) (by exact bS BK207) hg (Kd.R_ne HO_208002.out BK207.out (by decide)))
                 have n3_ := Aside0.mk (hb)
                 have n4_ := Aside0.mk (ho)
                 clear HO_208003
                 clear BK206
                 clear BK207
                 clear HB
                 clear HO_208002
                 have HO_208003 := n0_
                 have BK206 := n1_
                 have BK207 := n2_
                 have HB := n3_
                 have HO220 := n4_
                 clear n0_ n1_ n2_ n3_ n4_
                 clear ho hb hg hat
                 obtain ⟨Ao60, co60, eo60⟩ := Kd.R_slice HO220.out
                 (first | subst eo60 | (injection eo60 with f1_ f2_ f3_; have f4_ := f1_.symm; have f5_ := f3_.symm; clear f1_ f2_ f3_; subst f4_; subst f5_))
                 refine hK.out _ _ ⟨(blk_cell BK207.out 0).trans rfl, (blk_cell BK207.out 1).trans rfl, (blk_cell BK207.out 2).trans rfl, (blk_cell BK207.out 3).trans rfl⟩ (fun hHeld => ?_)
                 clear hK K
                 refine norm_ (a' := ?_) ?_ ?_
                 rotate_left; · show Act.put _ (some 94) _ = _; simp only [Act.put, sA, sB, sC, i64_w, i32_w, sD]; rfl
                 refine pure_ (i := 8) (N := some 95) (v := ?_) (a' := ?_) (fB 10 511) rfl rfl (any_of HT_.out (by kernel_rfl)) (fun _ _ _ h => h) (Or.inl ⟨by rfl, ?_⟩) ?_ ?_
                 rotate_left; · intro w'; go_simp; with_reducible rfl
                 rotate_left; · simp only [Act.put, sA, sB, sC, i64_w, i32_w, sD]; rfl
                 refine last_ (i := 9) (N := none) (fB 10 1023) rfl rfl (one_of HT_.out (by kernel_rfl)) (by decide) (fun K hK => ?_)
                 have hs61 : w59.cell? ⟨gb207, 2, none⟩ = some (u208002) := (blk_cell BK207.out 2).trans rfl
                 have hfs61 := blk_frozen BK207.out 2
                 have hns61_0 := NB206_207.out
                 have hms61_0 := NB207_206.out
                 refine skip_ (w1 := ?_) (by rfl) rfl ?_ ?_
                 rotate_left
                 ·
                  go_simp
                  rfl
                 refine hK.out _ _ ?_
                 clear hK K
                 refine done_ (done_of HT_.out (by kernel_rfl)) ?_
                 try go_wp2
                 have n0_ : Aside0 (Kd.R k45 45 (w59.setCell ⟨gb207, 2, none⟩ (.slice Ao60 y218.length co60)) w.heap.size (fun _ => True) u208003 x208003_2) := ⟨by (with_reducible repeat (first | apply Kd.R_alloc | apply Kd.R_drewN | apply Kd.R_drew)); exact Kd.R_mono (Kd.R_far (p := ⟨gb207, 2, none⟩) (Kd.R_types HO_208003.out BK207.out (by decide)) (fun _ hk => hk.2) (.slice Ao60 y218.length co60)) (fun _ hk => trivial)⟩
                 have n1_ : Aside0 (Kd.R (Kd.int .i64) 3 (w59.setCell ⟨gb207, 2, none⟩ (.slice Ao60 y218.length co60)) w.heap.size (fun _ => True) (.slice Ao60 y218.length co60) y218) := ⟨by (with_reducible repeat (first | apply Kd.R_alloc | apply Kd.R_drewN | apply Kd.R_drew)); exact Kd.R_mono (Kd.R_far (p := ⟨gb207, 2, none⟩) (Kd.R_types HO220.out BK207.out (by decide)) (fun _ hk => hk.2) (.slice Ao60 y218.length co60)) (fun _ hk => trivial)⟩
                 have n2_ : Aside0 ((w59.setCell ⟨gb207, 2, none⟩ (.slice Ao60 y218.length co60)).heap[gb206]? = some (.cells #[.string (⟨#[]⟩ : ByteArray), .string (⟨#[]⟩ : ByteArray), .slice none 0 0, .slice none 0 0] 39 (0, 0))) := ⟨by (with_reducible repeat (first | refine blk_drewN ?_ _ | refine blk_drew ?_ | refine blk_alloc ?_ _)); refine blk_far ?_ NB206_207.out _; (with_reducible repeat (first | refine blk_drewN ?_ _ | refine blk_drew ?_ | refine blk_alloc ?_ _)); exact BK206.out⟩
                 have n3_ : Aside0 ((w59.setCell ⟨gb207, 2, none⟩ (.slice Ao60 y218.length co60)).heap[gb207]? = some (.cells #[.string t208, .string x208001_28, .slice Ao60 y218.length co60, u208003] 39 (0, 0))) := ⟨by (with_reducible repeat (first | refine blk_drewN ?_ _ | refine blk_drew ?_ | refine blk_alloc ?_ _)); refine blk_put (cs := #[.string t208, .string x208001_28, u208002, u208003]) ?_ 2 _ rfl; (with_reducible repeat (first | refine blk_drewN ?_ _ | refine blk_drew ?_ | refine blk_alloc ?_ _)); exact BK207.out⟩
                 have n4_ : Aside0 (Below w.heap.size w (w59.setCell ⟨gb207, 2, none⟩ (.slice Ao60 y218.length co60))) := ⟨by repeat (first | (with_reducible first | exact HB.out | apply below_alloc | apply pw_below_drewN | apply below_drew1 | refine below_set ?_ GE206.out | refine below_set ?_ GE207.out) | exact HB.out)⟩
                 (try clear HO_208003)
                 (try clear HO220)
                 (try clear BK206)
                 (try clear BK207)
                 (try clear HB)
                 generalize (w59.setCell ⟨gb207, 2, none⟩ (.slice Ao60 y218.length co60)) = w62 at n0_ n1_ n2_ n3_ n4_ ⊢
                 have HO_208003 := n0_
                 have HO220 := n1_
                 have BK206 := n2_
                 have BK207 := n3_
                 have HB := n4_
                 clear n0_ n1_ n2_ n3_ n4_
                 have n0_ := Aside0.mk (Kd.R_drew HO_208003.out)
                 have n1_ := Aside0.mk (Kd.R_drew HO220.out)
                 have n2_ := Aside0.mk (blk_drew BK206.out)
                 have n3_ := Aside0.mk (blk_drew BK207.out)
                 have n4_ := Aside0.mk (below_drew1 HB.out)
                 clear HO_208003
                 clear HO220
                 clear BK206
                 clear BK207
                 clear HB
                 have HO_208003 := n0_
                 have HO220 := n1_
                 have BK206 := n2_
                 have BK207 := n3_
                 have HB := n4_
                 clear n0_ n1_ n2_ n3_ n4_
                 refine start_ (n := 18) (S := fun w' => w'.cell? ⟨gb207, 0, none⟩ = some (.string t208) ∧ w'.cell? ⟨gb207, 1, none⟩ = some (.string x208001_28) ∧ w'.cell? ⟨gb207, 2, none⟩ = some (.slice Ao60 y218.length co60) ∧ w'.cell? ⟨gb207, 3, none⟩ = some (u208003)) (ds := [17]) (fB 18 0) (by kernel_rfl) rfl rfl ⟨(blk_cell BK207.out 0).trans rfl, (blk_cell BK207.out 1).trans rfl, (blk_cell BK207.out 2).trans rfl, (blk_cell BK207.out 3).trans rfl⟩ (fun hHeld => ?_); refine with_tabW mosaicref29_Read.tab20 mosaicref29_Read.bits20 (fun HT_ HW_ => ?_)
                 generalize w62.drew = w63 at HO_208003 HO220 BK206 BK207 HB hHeld ⊢
                 refine pure_ (i := 0) (N := some 96) (v := ?_) (a' := ?_) (fB 18 1) rfl rfl (any_of HT_.out (by kernel_rfl)) (fun _ _ _ h => h) (Or.inl ⟨by rfl, ?_⟩) ?_ ?_
                 rotate_left; · intro w'; go_simp; with_reducible rfl
                 rotate_left; · simp only [Act.put, sA, sB, sC, i64_w, i32_w, sD]; rfl
                 refine pure_ (i := 2) (N := some 98) (v := ?_) (a' := ?_) (fB 18 5) rfl rfl (any_of HT_.out (by kernel_rfl)) (fun _ _ _ h => h) (Or.inl ⟨by rfl, ?_⟩) ?_ ?_
                 rotate_left; · intro w'; go_simp; with_reducible rfl
                 rotate_left; · simp only [Act.put, sA, sB, sC, i64_w, i32_w, sD]; rfl
                 refine pure_ (i := 3) (N := some 99) (v := ?_) (a' := ?_) (fB 18 13) rfl rfl (any_of HT_.out (by kernel_rfl)) (fun _ _ _ h => h) (Or.inl ⟨by rfl, ?_⟩) ?_ ?_
                 rotate_left; · intro w'; go_simp; with_reducible rfl
                 rotate_left; · simp only [Act.put, sA, sB, sC, i64_w, i32_w, sD]; rfl
                 refine pure_ (i := 4) (N := some 100) (v := ?_) (a' := ?_) (fB 18 29) rfl rfl (any_of HT_.out (by kernel_rfl)) (fun _ _ _ h => h) (Or.inl ⟨by rfl, ?_⟩) ?_ ?_
                 rotate_left; · intro w'; go_simp; with_reducible rfl
                 rotate_left; · simp only [Act.put, sA, sB, sC, i64_w, i32_w, sD]; rfl
                 refine pure_ (i := 5) (N := some 101) (v := ?_) (a' := ?_) (fB 18 61) rfl rfl (any_of HT_.out (by kernel_rfl)) (fun _ _ _ h => h) (Or.inl ⟨by rfl, ?_⟩) ?_ ?_
                 rotate_left; · intro w'; go_simp; with_reducible rfl
                 rotate_left; · simp only [Act.put, sA, sB, sC, i64_w, i32_w, sD]; rfl
                 refine pure_ (i := 6) (N := some 102) (v := ?_) (a' := ?_) (fB 18 125) rfl rfl (any_of HT_.out (by kernel_rfl)) (fun _ _ _ h => h) (Or.inl ⟨by rfl, ?_⟩) ?_ ?_
                 rotate_left; · intro w'; go_simp; with_reducible rfl
                 rotate_left; · simp only [Act.put, sA, sB, sC, i64_w, i32_w, sD]; rfl
                 refine pure_ (i := 8) (N := some 104) (v := ?_) (a' := ?_) (fB 18 381) rfl rfl (any_of HT_.out (by kernel_rfl)) (fun _ _ _ h => h) (Or.inl ⟨by rfl, ?_⟩) ?_ ?_
                 rotate_left; · intro w'; go_simp; with_reducible rfl
                 rotate_left; · simp only [Act.put, sA, sB, sC, i64_w, i32_w, sD]; rfl
                 refine pure_ (i := 9) (N := some 105) (v := ?_) (a' := ?_) (fB 18 893) rfl rfl (any_of HT_.out (by kernel_rfl)) (fun _ _ _ h => h) (Or.inl ⟨by rfl, ?_⟩) ?_ ?_
                 rotate_left; · intro w'; go_simp; with_reducible rfl
                 rotate_left; · simp only [Act.put, sA, sB, sC, i64_w, i32_w, sD]; rfl
                 refine pure_ (i := 10) (N := some 106) (v := ?_) (a' := ?_) (fB 18 1917) rfl rfl (any_of HT_.out (by kernel_rfl)) (fun _ _ _ h => h) (Or.inl ⟨by rfl, ?_⟩) ?_ ?_
                 rotate_left; · intro w'; go_simp; with_reducible rfl
                 rotate_left; · simp only [Act.put, sA, sB, sC, i64_w, i32_w, sD]; rfl
                 refine pure_ (i := 11) (N := some 107) (v := ?_) (a' := ?_) (fB 18 3965) rfl rfl (any_of HT_.out (by kernel_rfl)) (fun _ _ _ h => h) (Or.inl ⟨by rfl, ?_⟩) ?_ ?_
                 rotate_left; · intro w'; go_simp; with_reducible rfl
                 rotate_left; · simp only [Act.put, sA, sB, sC, i64_w, i32_w, sD]; rfl
                 refine take_ (i := 1) (N := some 97) (v := ?_) (a' := ?_) (fB 18 3967) rfl rfl (take_ofW HT_.out HW_.out (by kernel_rfl)) (fun _ _ _ h => h) (Or.inl ⟨by rfl, ?_⟩) hHeld ?_ ?_
                 rotate_left; · rintro w' ⟨s0, s1, s2, s3⟩; go_simp; with_reducible rfl
                 rotate_left; · simp only [Act.put, sA, sB, sC, i64_w, i32_w, sD]; rfl
                 refine one_ (i := 7) (N := some 103) (fB 18 4095) rfl rfl (one_of HT_.out (by kernel_rfl)) (by decide) (fun K hK => ?_)
                 refine goes_ Tryd.func46 (by kernel_rfl) rfl #[.string (PX.extract ((ji48) : Int).toNat (t216 : Int).toNat)] (by rfl) rfl rfl (by (try simp only [List.map_toArray, List.map_cons, List.map_nil]); first | done | (simp only [hji21, hji48]; rfl) | rfl | (simp only [List.length_drop, List.length_take]; rfl)) ?_
                 with_reducible refine (mosaicref29_whole.calls kj35 (PX.extract ((ji48) : Int).toNat (t216 : Int).toNat) t221 _ A52.out).mono ?_
                 rintro e w' ⟨rfl, ⟨nd, rfl⟩⟩
                 refine ⟨_, rfl, ?_⟩
                 refine hK.out _ _ ⟨(blk_cell BK207.out 0).trans rfl, (blk_cell BK207.out 1).trans rfl, (blk_cell BK207.out 2).trans rfl, (blk_cell BK207.out 3).trans rfl⟩ (fun hHeld => ?_)
                 clear hK K
                 refine norm_ (a' := ?_) ?_ ?_
                 rotate_left; · show Act.put _ (some 103) _ = _; simp only [Act.put, sA, sB, sC, i64_w, i32_w, sD]; rfl
                 refine one_ (i := 12) (N := some 108) (fB 18 8191) rfl rfl (one_of HT_.out (by kernel_rfl)) (by decide) (fun K hK => ?_)
                 refine goes_ Tryd.func46 (by kernel_rfl) rfl #[.string (PX.extract ((ji53) : Int).toNat PX.size)] (by rfl) rfl rfl (by (try simp only [List.map_toArray, List.map_cons, List.map_nil]); first | done | (simp only [hji21, hji53]; rfl) | rfl | (simp only [List.length_drop, List.length_take]; rfl)) ?_
                 with_reducible refine (mosaicref29_whole.calls kj35 (PX.extract ((ji53) : Int).toNat PX.size) t222 _ A56.out).mono ?_
                 rintro e w' ⟨rfl, ⟨nd, rfl⟩⟩
                 refine ⟨_, rfl, ?_⟩
                 refine hK.out _ _ ⟨(blk_cell BK207.out 0).trans rfl, (blk_cell BK207.out 1).trans rfl, (blk_cell BK207.out 2).trans rfl, (blk_cell BK207.out 3).trans rfl⟩ (fun hHeld => ?_)
                 clear hK K
                 refine norm_ (a' := ?_) ?_ ?_
                 rotate_left; · show Act.put _ (some 108) _ = _; simp only [Act.put, sA, sB, sC, i64_w, i32_w, sD]; rfl
                 refine pure_ (i := 13) (N := some 109) (v := ?_) (a' := ?_) (fB 18 16383) rfl rfl (any_of HT_.out (by kernel_rfl)) (fun _ _ _ h => h) (Or.inl ⟨by rfl, ?_⟩) ?_ ?_
                 rotate_left; · intro w'; go_simp; with_reducible rfl
                 rotate_left; · simp only [Act.put, sA, sB, sC, i64_w, i32_w, sD]; rfl
                 refine one_ (i := 14) (N := some 110) (fB 18 32767) rfl rfl (one_of HT_.out (by kernel_rfl)) (by decide) (fun K hK => ?_)
                 refine value_ (w1 := ?_) (v := ?_) (by rfl) rfl ?_ ?_
                 rotate_left 2
                 ·
                  go_simp
                  constructor
                  ·
                   rfl
                  ·
                   rfl
                 refine hK.out _ _ ⟨(blk_cell (blk_alloc BK207.out _) 0).trans rfl, (blk_cell (blk_alloc BK207.out _) 1).trans rfl, (blk_cell (blk_alloc BK207.out _) 2).trans rfl, (blk_cell (blk_alloc BK207.out _) 3).trans rfl⟩ (fun hHeld => ?_)
                 clear hK K
                 refine norm_ (a' := ?_) ?_ ?_
                 rotate_left; · show Act.put _ (some 110) _ = _; simp only [Act.put, sA, sB, sC, i64_w, i32_w, sD]; rfl
                 refine one_ (i := 15) (N := some 111) (fB 18 65535) rfl rfl (one_of HT_.out (by kernel_rfl)) (by decide) (fun K hK => ?_)
                 refine Kd.R_append_step k45 (w0 := w) w.heap.size (by rfl) (.tmp 97) (.tmp 110) 37 45 (.agg #[(.int .i64 0), (.int .i64 0)]) 16 rfl Tryd.underlying37 info45 rfl (by decide) (by omega) u208003 x208003_2 (⟨t221, t222⟩ : S45) [.int .i64 t221, .int .i64 t222] (fun _ => True) (fun _ => False) rfl rfl ?aP (fun _ hk => hk.elim) ?aF ?aO ?aB ?aS ?aL ?_
                 (case aP => exact k45_mkM _ _ _ (⟨t221, t222⟩ : S45))
                 (case aB => exact (by repeat (first | (with_reducible first | exact HB.out | apply below_alloc | apply pw_below_drewN | apply below_drew1 | refine below_set ?_ GE206.out | refine below_set ?_ GE207.out) | exact HB.out)))
                 (case aF => exact (fun _ _ => trivial))
                 (case aO => exact (by (with_reducible repeat (first | apply Kd.R_alloc | apply Kd.R_drewN | apply Kd.R_drew)); exact HO_208003.out))
                 (case aS => exact (below_size (by repeat (first | (with_reducible first | exact HB.out | apply below_alloc | apply pw_below_drewN | apply below_drew1 | refine below_set ?_ GE206.out | refine below_set ?_ GE207.out) | exact HB.out))))
                 (case aL => have := LMc57.out; omega)
                 intro v224 w64 ho hb hg hat
                 rw [← Ny223.out] at ho
                 have n0_ := Aside0.mk (blk_grown (g := gb206) (o := .cells #[.string (⟨#[]⟩ : ByteArray), .string (⟨#[]⟩ : ByteArray), .slice none 0 0, .slice none 0 0] 39 (0, 0)) (by exact bS BK206) hg (Kd.R_ne HO_208003.out BK206.out (by decide)))
                 have n1_ := Aside0.mk (blk_grown (g := gb207) (o := .cells #[.string t208, .string x208001_28, .slice Ao60 y218.length co60, u208003] 39 (0, 0)) (by exact bS BK207) hg (Kd.R_ne HO_208003.out BK207.out (by decide)))
                 have n2_ := Aside0.mk (Kd.R_over' (by (with_reducible repeat (first | apply Kd.R_alloc | apply Kd.R_drewN | apply Kd.R_drew)); exact HO220.out) (Kd.R_typed (by (with_reducible repeat (first | apply Kd.R_alloc | apply Kd.R_drewN | apply Kd.R_drew)); exact HO_208003.out)) (by decide) hg)
                 have n3_ := Aside0.mk (hb)
                 have n4_ := Aside0.mk (ho)
                 clear BK206
                 clear BK207
                 clear HO220
                 clear HB
                 clear HO_208003
                 have BK206 := n0_
                 have BK207 := n1_
                 have HO220 := n2_
                 have HB := n3_
                 have HO225 := n4_
                 clear n0_ n1_ n2_ n3_ n4_
                 clear ho hb hg hat
                 obtain ⟨Ao65, co65, eo65⟩ := Kd.R_slice HO225.out
                 (first | subst eo65 | (injection eo65 with f1_ f2_ f3_; have f4_ := f1_.symm; have f5_ := f3_.symm; clear f1_ f2_ f3_; subst f4_; subst f5_))
                 refine hK.out _ _ ⟨(blk_cell BK207.out 0).trans rfl, (blk_cell BK207.out 1).trans rfl, (blk_cell BK207.out 2).trans rfl, (blk_cell BK207.out 3).trans rfl⟩ (fun hHeld => ?_)
                 clear hK K
                 refine norm_ (a' := ?_) ?_ ?_
                 rotate_left; · show Act.put _ (some 111) _ = _; simp only [Act.put, sA, sB, sC, i64_w, i32_w, sD]; rfl
                 refine pure_ (i := 16) (N := some 112) (v := ?_) (a' := ?_) (fB 18 131071) rfl rfl (any_of HT_.out (by kernel_rfl)) (fun _ _ _ h => h) (Or.inl ⟨by rfl, ?_⟩) ?_ ?_
                 rotate_left; · intro w'; go_simp; with_reducible rfl
                 rotate_left; · simp only [Act.put, sA, sB, sC, i64_w, i32_w, sD]; rfl
                 refine last_ (i := 17) (N := none) (fB 18 262143) rfl rfl (one_of HT_.out (by kernel_rfl)) (by decide) (fun K hK => ?_)
                 have hs66 : w64.cell? ⟨gb207, 3, none⟩ = some (u208003) := (blk_cell BK207.out 3).trans rfl
                 have hfs66 := blk_frozen BK207.out 3
                 have hns66_0 := NB206_207.out
                 have hms66_0 := NB207_206.out
                 refine skip_ (w1 := ?_) (by rfl) rfl ?_ ?_
                 rotate_left
                 ·
                  go_simp
                  rfl
                 refine hK.out _ _ ?_
                 clear hK K
                 refine done_ (done_of HT_.out (by kernel_rfl)) ?_
                 try go_wp2
                 go_roundg kj35
                 case measure => have := HJ1.out; have := HK2.out; have := HJ16.out; have := HJ24.out; have := HJ28.out; have := HJ35.out; omega
                 case rel => exact ⟨(t212), (wrap64 (x8_2 + 1)), (x208001_28), (y218), (y223), (.slice Ao60 y218.length co60), (.slice Ao65 y223.length co65), (by first | rfl | (simp; done) | (simp [*]; done)), (by first | rfl | (simp; done) | (simp [*]; done)), H', ⟨by have := HJ1.out; have := HK2.out; have := HJ16.out; have := HJ24.out; have := HJ28.out; have := HJ35.out; omega⟩, ⟨by (with_reducible repeat (first | apply Kd.R_alloc | apply Kd.R_drewN | apply Kd.R_drew)); exact Kd.R_mono (Kd.R_far (p := ⟨gb207, 3, none⟩) (Kd.R_types HO220.out BK207.out (by decide)) (fun _ hk => hk.2) (.slice Ao65 y223.length co65)) (fun _ hk => trivial)⟩, ⟨by (with_reducible repeat (first | apply Kd.R_alloc | apply Kd.R_drewN | apply Kd.R_drew)); exact Kd.R_mono (Kd.R_far (p := ⟨gb207, 3, none⟩) (Kd.R_types HO225.out BK207.out (by decide)) (fun _ hk => hk.2) (.slice Ao65 y223.length co65)) (fun _ hk => trivial)⟩, ⟨by (with_reducible repeat (first | refine blk_drewN ?_ _ | refine blk_drew ?_ | refine blk_alloc ?_ _)); refine blk_far ?_ NB206_207.out _; (with_reducible repeat (first | refine blk_drewN ?_ _ | refine blk_drew ?_ | refine blk_alloc ?_ _)); exact BK206.out⟩, ⟨by (with_reducible repeat (first | refine blk_drewN ?_ _ | refine blk_drew ?_ | refine blk_alloc ?_ _)); refine blk_put (cs := #[.string t208, .string x208001_28, .slice Ao60 y218.length co60, u208003]) ?_ 3 _ rfl; (with_reducible repeat (first | refine blk_drewN ?_ _ | refine blk_drew ?_ | refine blk_alloc ?_ _)); exact BK207.out⟩, ⟨by repeat (first | (with_reducible first | exact HB.out | apply below_alloc | apply pw_below_drewN | apply below_drew1 | refine below_set ?_ GE206.out | refine below_set ?_ GE207.out) | exact HB.out)⟩⟩
                ·
                 rw [if_neg c43] at H
                 have c43b0 : decide (t216 < (PX.size : Int)) = false := decide_eq_false c43
                 clear c43
                 have H' := Aside0.mk H
                 clear H
                 go_wp2_with (first | ((with_reducible refine gate_callee (f := 44) rfl ?_); refine goesL_ (some 78) rfl rfl Tryd.func44 (by kernel_rfl) rfl #[.string PX, .int .i64 5, .int .u8 44, .int .u8 44] rfl (by (try simp only [List.map_toArray, List.map_cons, List.map_nil]); first | done | (simp only [hji21]; rfl) | rfl | (simp only [List.length_drop, List.length_take]; rfl)) ?_; (with_reducible refine (mosaicref29_upTo.calls kj35 PX 5 44 44 t215 _ A41.out).mono ?_); rintro e w' ⟨rfl, ⟨nd, rfl⟩⟩; refine ⟨_, rfl, ?_⟩) | ((with_reducible refine gate_callee (f := 44) rfl ?_); refine goesL_ (some 82) rfl rfl Tryd.func44 (by kernel_rfl) rfl #[.string PX, .int .i64 (wrap64 (t215 + 1)), .int .u8 44, .int .u8 44] rfl (by (try simp only [List.map_toArray, List.map_cons, List.map_nil]); first | done | (simp only [hji21]; rfl) | rfl | (simp only [List.length_drop, List.length_take]; rfl)) ?_; (with_reducible refine (mosaicref29_upTo.calls kj35 PX (wrap64 (t215 + 1)) 44 44 t216 _ A42.out).mono ?_); rintro e w' ⟨rfl, ⟨nd, rfl⟩⟩; refine ⟨_, rfl, ?_⟩))
                 go_roundg kj35
                 case measure => have := HJ1.out; have := HK2.out; have := HJ16.out; have := HJ24.out; have := HJ28.out; have := HJ35.out; omega
                 case rel => exact ⟨(t212), (wrap64 (x8_2 + 1)), (x208001_28), (x208002_2), (x208003_2), (u208002), (u208003), (by first | rfl | (simp; done) | (simp [*]; done)), (by first | rfl | (simp; done) | (simp [*]; done)), H', ⟨by have := HJ1.out; have := HK2.out; have := HJ16.out; have := HJ24.out; have := HJ28.out; have := HJ35.out; omega⟩, ⟨by (with_reducible repeat (first | apply Kd.R_alloc | apply Kd.R_drewN | apply Kd.R_drew)); exact HO_208002.out⟩, ⟨by (with_reducible repeat (first | apply Kd.R_alloc | apply Kd.R_drewN | apply Kd.R_drew)); exact HO_208003.out⟩, ⟨by (with_reducible repeat (first | refine blk_drewN ?_ _ | refine blk_drew ?_ | refine blk_alloc ?_ _)); exact BK206.out⟩, ⟨by (with_reducible repeat (first | refine blk_drewN ?_ _ | refine blk_drew ?_ | refine blk_alloc ?_ _)); exact BK207.out⟩, ⟨by repeat (first | (with_reducible first | exact HB.out | apply below_alloc | apply pw_below_drewN | apply below_drew1 | refine below_set ?_ GE206.out | refine below_set ?_ GE207.out) | exact HB.out)⟩⟩
               ·
                replace c40 := Bool.eq_false_iff.mpr c40
                subst c40
                have H1 : (mosaicref29_Read.l0 kj35 a0 t212 (wrap64 (x8_2 + 1)) t208 x208001_28 x208002_2 x208003_2) = some (r1, r2, r3, r4, r5) := by rw [if_neg (show ¬ (false = true) by decide)] at H; exact H
                clear H
                have H := H1
                clear H1
                have H' := Aside0.mk H
                clear H
                go_wp2
                go_roundg kj35
                case measure => have := HJ1.out; have := HK2.out; have := HJ16.out; have := HJ24.out; have := HJ28.out; have := HJ35.out; omega
                case rel => exact ⟨(t212), (wrap64 (x8_2 + 1)), (x208001_28), (x208002_2), (x208003_2), (u208002), (u208003), (by first | rfl | (simp; done) | (simp [*]; done)), (by first | rfl | (simp; done) | (simp [*]; done)), H', ⟨by have := HJ1.out; have := HK2.out; have := HJ16.out; have := HJ24.out; have := HJ28.out; have := HJ35.out; omega⟩, ⟨by (with_reducible repeat (first | apply Kd.R_alloc | apply Kd.R_drewN | apply Kd.R_drew)); exact HO_208002.out⟩, ⟨by (with_reducible repeat (first | apply Kd.R_alloc | apply Kd.R_drewN | apply Kd.R_drew)); exact HO_208003.out⟩, ⟨by (with_reducible repeat (first | refine blk_drewN ?_ _ | refine blk_drew ?_ | refine blk_alloc ?_ _)); exact BK206.out⟩, ⟨by (with_reducible repeat (first | refine blk_drewN ?_ _ | refine blk_drew ?_ | refine blk_alloc ?_ _)); exact BK207.out⟩, ⟨by repeat (first | (with_reducible first | exact HB.out | apply below_alloc | apply pw_below_drewN | apply below_drew1 | refine below_set ?_ GE206.out | refine below_set ?_ GE207.out) | exact HB.out)⟩⟩
        ·
         replace c19 := Bool.eq_false_iff.mpr c19
         subst c19
         have H1 : ((mosaicref29_Text.f kj16 t208 x208001_2 x208002_2 x208003_2).bind fun bt210 => (if bt210.1.toList = a0.toList then (some (t208, x208001_2, x208002_2, x208003_2, 0)) else (some ((⟨#[]⟩ : ByteArray), (⟨#[]⟩ : ByteArray), ([] : List Int), ([] : List (S45)), 3)))) = some (r1, r2, r3, r4, r5) := by rw [if_neg (show ¬ (false = true) by decide)] at H; exact H
         clear H
         have H := H1
         clear H1
         replace H := Option.bind_eq_some_iff.mp H
         obtain ⟨⟨t210, t211⟩, A670, H⟩ := H
         replace H : (if t210.toList = a0.toList then (some (t208, x208001_2, x208002_2, x208003_2, 0)) else (some ((⟨#[]⟩ : ByteArray), (⟨#[]⟩ : ByteArray), ([] : List Int), ([] : List (S45)), 3))) = some (r1, r2, r3, r4, r5) := H
         have A67 := Aside0.mk A670
         clear A670
         by_cases c68 : t210.toList = a0.toList
         ·
          rw [if_pos c68] at H
          have c68b0 : (t210.toList == a0.toList) = true := beq_iff_eq.mpr c68
          have c68b1 : (t210.toList != a0.toList) = false := bne_eq_false_iff_eq.mpr c68
          clear c68
          simp only [Option.some.injEq, Prod.mk.injEq] at H
          obtain ⟨rfl, rfl, rfl, rfl, rfl⟩ := H
          have hnb69 := NB207_206.out
          have hnc69 := NB206_207.out
          have hcz70_0 : wc.cell? ⟨gb207, 0, none⟩ = some (.string t208) := (blk_cell BK207.out 0).trans rfl
          have hcz70_1 : wc.cell? ⟨gb207, 1, none⟩ = some (.string x208001_2) := (blk_cell BK207.out 1).trans rfl
          have hcz70_2 : wc.cell? ⟨gb207, 2, none⟩ = some (u208002) := (blk_cell BK207.out 2).trans rfl
          have hcz70_3 : wc.cell? ⟨gb207, 3, none⟩ = some (u208003) := (blk_cell BK207.out 3).trans rfl
          have hfz70_0 := blk_frozen BK207.out 0
          have hfz70_1 := blk_frozen BK207.out 1
          have hfz70_2 := blk_frozen BK207.out 2
          have hfz70_3 := blk_frozen BK207.out 3
          obtain ⟨Ao71, co71, eo71⟩ := Kd.R_slice HO_208002.out
          subst eo71
          obtain ⟨Ao72, co72, eo72⟩ := Kd.R_slice HO_208003.out
          subst eo72
          go_wp2_with (first | ((with_reducible refine gate_callee (f := 12) rfl ?_); refine goesL_ (some 116) rfl rfl Tryd.func12 (by kernel_rfl) rfl #[.agg #[.string t208, .string x208001_2, .slice Ao71 x208002_2.length co71, .slice Ao72 x208003_2.length co72]] rfl (by (try simp only [List.map_toArray, List.map_cons, List.map_nil]); first | done | rfl | (simp only [List.length_drop, List.length_take]; rfl)) ?_; (with_reducible refine (mosaicref29_Text.calls kj16 t208 x208001_2 _ _ x208002_2 _ _ x208003_2 t210 t211 _ ?side1 ?side2 ?side3 ?side4 A67.out).mono ?_); (case side1 => repeat (first | exact (Kd.R_reads' HO_208002.out).2.2 | (with_reducible refine Kd.C_alloc ?_ _) | (with_reducible refine Kd.C_drewN ?_ _) | (with_reducible refine Kd.C_drew ?_))); (case side2 => exact (Kd.R_reads' HO_208002.out).2.1); (case side3 => repeat (first | exact (Kd.R_reads' HO_208003.out).2.2 | (with_reducible refine Kd.C_alloc ?_ _) | (with_reducible refine Kd.C_drewN ?_ _) | (with_reducible refine Kd.C_drew ?_))); (case side4 => exact (Kd.R_reads' HO_208003.out).2.1); rintro e w73 ⟨rfl, hb⟩; refine ⟨_, rfl, ?_⟩; have n0_ := Aside0.mk (Kd.R_below (by (with_reducible repeat (first | apply Kd.R_alloc | apply Kd.R_drewN | apply Kd.R_drew)); exact HO_208002.out) hb); have n1_ := Aside0.mk (Kd.R_below (by (with_reducible repeat (first | apply Kd.R_alloc | apply Kd.R_drewN | apply Kd.R_drew)); exact HO_208003.out) hb); have n2_ := bB BK206 hb; have n3_ := bB BK207 hb; have n4_ := Aside0.mk (below_step (by repeat (first | (with_reducible first | exact HB.out | apply below_alloc | apply pw_below_drewN | apply below_drew1 | refine below_set ?_ GE206.out | refine below_set ?_ GE207.out) | exact HB.out)) hb); clear HO_208002; clear HO_208003; clear BK206; clear BK207; clear HB; have HO_208002 := n0_; have HO_208003 := n1_; have BK206 := n2_; have BK207 := n3_; have HB := n4_; clear n0_ n1_ n2_ n3_ n4_; (try clear hb); (try clear hb2); (try clear hk); (try clear hi); have hcz74_0 : w73.cell? ⟨gb207, 0, none⟩ = some (.string t208) := (blk_cell BK207.out 0).trans rfl; have hcz74_1 : w73.cell? ⟨gb207, 1, none⟩ = some (.string x208001_2) := (blk_cell BK207.out 1).trans rfl; have hcz74_2 : w73.cell? ⟨gb207, 2, none⟩ = some (.slice Ao71 x208002_2.length co71) := (blk_cell BK207.out 2).trans rfl; have hcz74_3 : w73.cell? ⟨gb207, 3, none⟩ = some (.slice Ao72 x208003_2.length co72) := (blk_cell BK207.out 3).trans rfl; have hfz74_0 := blk_frozen BK207.out 0; have hfz74_1 := blk_frozen BK207.out 1; have hfz74_2 := blk_frozen BK207.out 2; have hfz74_3 := blk_frozen BK207.out 3; have hcz75_0 : w73.cell? ⟨gb206, 0, none⟩ = some (.string (⟨#[]⟩ : ByteArray)) := (blk_cell BK206.out 0).trans rfl; have hcz75_1 : w73.cell? ⟨gb206, 1, none⟩ = some (.string (⟨#[]⟩ : ByteArray)) := (blk_cell BK206.out 1).trans rfl; have hcz75_2 : w73.cell? ⟨gb206, 2, none⟩ = some (.slice none 0 0) := (blk_cell BK206.out 2).trans rfl; have hcz75_3 : w73.cell? ⟨gb206, 3, none⟩ = some (.slice none 0 0) := (blk_cell BK206.out 3).trans rfl; have hfz75_0 := blk_frozen BK206.out 0; have hfz75_1 := blk_frozen BK206.out 1; have hfz75_2 := blk_frozen BK206.out 2; have hfz75_3 := blk_frozen BK206.out 3))
          refine bodyPost_ret (results_ct rfl _ _ gb206 39 #[.string t208, .string x208001_2, .slice Ao71 x208002_2.length co71, .slice Ao72 x208003_2.length co72] (0, 0) _ rfl (by (with_reducible repeat (first | refine blk_drewN ?_ _ | refine blk_drew ?_ | refine blk_alloc ?_ _)); refine blk_put (cs := #[.string t208, .string x208001_2, .slice Ao71 x208002_2.length co71, .slice none 0 0]) ?_ 3 _ rfl; (with_reducible repeat (first | refine blk_drewN ?_ _ | refine blk_drew ?_ | refine blk_alloc ?_ _)); refine blk_put (cs := #[.string t208, .string x208001_2, .slice none 0 0, .slice none 0 0]) ?_ 2 _ rfl; (with_reducible repeat (first | refine blk_drewN ?_ _ | refine blk_drew ?_ | refine blk_alloc ?_ _)); refine blk_put (cs := #[.string t208, .string (⟨#[]⟩ : ByteArray), .slice none 0 0, .slice none 0 0]) ?_ 1 _ rfl; (with_reducible repeat (first | refine blk_drewN ?_ _ | refine blk_drew ?_ | refine blk_alloc ?_ _)); refine blk_put (cs := #[.string (⟨#[]⟩ : ByteArray), .string (⟨#[]⟩ : ByteArray), .slice none 0 0, .slice none 0 0]) ?_ 0 _ rfl; (with_reducible repeat (first | refine blk_drewN ?_ _ | refine blk_drew ?_ | refine blk_alloc ?_ _)); exact BK206.out) Tryd.underlying39 rfl (by kernel_rfl)) rfl ?_
          exact ⟨_, _, by first | rfl | (simp [errW_none, errW_some] <;> rfl) | (simp [*, errW_none, errW_some] <;> rfl), by (with_reducible repeat (first | apply Kd.R_alloc | apply Kd.R_drewN | apply Kd.R_drew)); exact Kd.R_mono (Kd.R_far (p := ⟨gb206, 3, none⟩) (Kd.R_far (p := ⟨gb206, 2, none⟩) (Kd.R_far (p := ⟨gb206, 1, none⟩) (Kd.R_far (p := ⟨gb206, 0, none⟩) (Kd.R_types HO_208002.out BK206.out (by decide)) (fun _ hk => hk.2) (.string t208)) (fun _ hk => hk.2) (.string x208001_2)) (fun _ hk => hk.2) (.slice Ao71 x208002_2.length co71)) (fun _ hk => hk.2) (.slice Ao72 x208003_2.length co72)) (fun _ hk => trivial), by (with_reducible repeat (first | apply Kd.R_alloc | apply Kd.R_drewN | apply Kd.R_drew)); exact Kd.R_mono (Kd.R_far (p := ⟨gb206, 3, none⟩) (Kd.R_far (p := ⟨gb206, 2, none⟩) (Kd.R_far (p := ⟨gb206, 1, none⟩) (Kd.R_far (p := ⟨gb206, 0, none⟩) (Kd.R_types HO_208003.out BK206.out (by decide)) (fun _ hk => hk.2) (.string t208)) (fun _ hk => hk.2) (.string x208001_2)) (fun _ hk => hk.2) (.slice Ao71 x208002_2.length co71)) (fun _ hk => hk.2) (.slice Ao72 x208003_2.length co72)) (fun _ hk => trivial), by repeat (first | (with_reducible first | exact HB.out | apply below_alloc | apply pw_below_drewN | apply below_drew1 | refine below_set ?_ GE206.out | refine below_set ?_ GE207.out) | exact HB.out)⟩
         ·
          rw [if_neg c68] at H
          have c68b0 : (t210.toList == a0.toList) = false := beq_eq_false_iff_ne.mpr c68
          have c68b1 : (t210.toList != a0.toList) = true := bne_iff_ne.mpr c68
          simp only [Option.some.injEq, Prod.mk.injEq] at H
          obtain ⟨rfl, rfl, rfl, rfl, rfl⟩ := H
          have hnb76 := NB207_206.out
          have hnc76 := NB206_207.out
          have hcz77_0 : wc.cell? ⟨gb207, 0, none⟩ = some (.string t208) := (blk_cell BK207.out 0).trans rfl
          have hcz77_1 : wc.cell? ⟨gb207, 1, none⟩ = some (.string x208001_2) := (blk_cell BK207.out 1).trans rfl
          have hcz77_2 : wc.cell? ⟨gb207, 2, none⟩ = some (u208002) := (blk_cell BK207.out 2).trans rfl
          have hcz77_3 : wc.cell? ⟨gb207, 3, none⟩ = some (u208003) := (blk_cell BK207.out 3).trans rfl
          have hfz77_0 := blk_frozen BK207.out 0
          have hfz77_1 := blk_frozen BK207.out 1
          have hfz77_2 := blk_frozen BK207.out 2
          have hfz77_3 := blk_frozen BK207.out 3
          obtain ⟨Ao78, co78, eo78⟩ := Kd.R_slice HO_208002.out
          subst eo78
          obtain ⟨Ao79, co79, eo79⟩ := Kd.R_slice HO_208003.out
          subst eo79
          go_wp2_with (first | ((with_reducible refine gate_callee (f := 12) rfl ?_); refine goesL_ (some 116) rfl rfl Tryd.func12 (by kernel_rfl) rfl #[.agg #[.string t208, .string x208001_2, .slice Ao78 x208002_2.length co78, .slice Ao79 x208003_2.length co79]] rfl (by (try simp only [List.map_toArray, List.map_cons, List.map_nil]); first | done | rfl | (simp only [List.length_drop, List.length_take]; rfl)) ?_; (with_reducible refine (mosaicref29_Text.calls kj16 t208 x208001_2 _ _ x208002_2 _ _ x208003_2 t210 t211 _ ?side1 ?side2 ?side3 ?side4 A67.out).mono ?_); (case side1 => repeat (first | exact (Kd.R_reads' HO_208002.out).2.2 | (with_reducible refine Kd.C_alloc ?_ _) | (with_reducible refine Kd.C_drewN ?_ _) | (with_reducible refine Kd.C_drew ?_))); (case side2 => exact (Kd.R_reads' HO_208002.out).2.1); (case side3 => repeat (first | exact (Kd.R_reads' HO_208003.out).2.2 | (with_reducible refine Kd.C_alloc ?_ _) | (with_reducible refine Kd.C_drewN ?_ _) | (with_reducible refine Kd.C_drew ?_))); (case side4 => exact (Kd.R_reads' HO_208003.out).2.1); rintro e w80 ⟨rfl, hb⟩; refine ⟨_, rfl, ?_⟩; have n0_ := Aside0.mk (Kd.R_below (by (with_reducible repeat (first | apply Kd.R_alloc | apply Kd.R_drewN | apply Kd.R_drew)); exact HO_208002.out) hb); have n1_ := Aside0.mk (Kd.R_below (by (with_reducible repeat (first | apply Kd.R_alloc | apply Kd.R_drewN | apply Kd.R_drew)); exact HO_208003.out) hb); have n2_ := bB BK206 hb; have n3_ := bB BK207 hb; have n4_ := Aside0.mk (below_step (by repeat (first | (with_reducible first | exact HB.out | apply below_alloc | apply pw_below_drewN | apply below_drew1 | refine below_set ?_ GE206.out | refine below_set ?_ GE207.out) | exact HB.out)) hb); clear HO_208002; clear HO_208003; clear BK206; clear BK207; clear HB; have HO_208002 := n0_; have HO_208003 := n1_; have BK206 := n2_; have BK207 := n3_; have HB := n4_; clear n0_ n1_ n2_ n3_ n4_; (try clear hb); (try clear hb2); (try clear hk); (try clear hi); have hcz81_0 : w80.cell? ⟨gb206, 0, none⟩ = some (.string (⟨#[]⟩ : ByteArray)) := (blk_cell BK206.out 0).trans rfl; have hcz81_1 : w80.cell? ⟨gb206, 1, none⟩ = some (.string (⟨#[]⟩ : ByteArray)) := (blk_cell BK206.out 1).trans rfl; have hcz81_2 : w80.cell? ⟨gb206, 2, none⟩ = some (.slice none 0 0) := (blk_cell BK206.out 2).trans rfl; have hcz81_3 : w80.cell? ⟨gb206, 3, none⟩ = some (.slice none 0 0) := (blk_cell BK206.out 3).trans rfl; have hfz81_0 := blk_frozen BK206.out 0; have hfz81_1 := blk_frozen BK206.out 1; have hfz81_2 := blk_frozen BK206.out 2; have hfz81_3 := blk_frozen BK206.out 3))
          refine bodyPost_ret (results_ct rfl _ _ gb206 39 #[.string (⟨#[]⟩ : ByteArray), .string (⟨#[]⟩ : ByteArray), .slice none 0 0, .slice none 0 0] (0, 0) _ rfl (by (with_reducible repeat (first | refine blk_drewN ?_ _ | refine blk_drew ?_ | refine blk_alloc ?_ _)); refine blk_put (cs := #[.string (⟨#[]⟩ : ByteArray), .string (⟨#[]⟩ : ByteArray), .slice none 0 0, .slice none 0 0]) ?_ 3 _ rfl; (with_reducible repeat (first | refine blk_drewN ?_ _ | refine blk_drew ?_ | refine blk_alloc ?_ _)); refine blk_put (cs := #[.string (⟨#[]⟩ : ByteArray), .string (⟨#[]⟩ : ByteArray), .slice none 0 0, .slice none 0 0]) ?_ 2 _ rfl; (with_reducible repeat (first | refine blk_drewN ?_ _ | refine blk_drew ?_ | refine blk_alloc ?_ _)); refine blk_put (cs := #[.string (⟨#[]⟩ : ByteArray), .string (⟨#[]⟩ : ByteArray), .slice none 0 0, .slice none 0 0]) ?_ 1 _ rfl; (with_reducible repeat (first | refine blk_drewN ?_ _ | refine blk_drew ?_ | refine blk_alloc ?_ _)); refine blk_put (cs := #[.string (⟨#[]⟩ : ByteArray), .string (⟨#[]⟩ : ByteArray), .slice none 0 0, .slice none 0 0]) ?_ 0 _ rfl; (with_reducible repeat (first | refine blk_drewN ?_ _ | refine blk_drew ?_ | refine blk_alloc ?_ _)); exact BK206.out) Tryd.underlying39 rfl (by kernel_rfl)) rfl ?_
          exact ⟨_, _, by first | rfl | (simp [errW_none, errW_some] <;> rfl) | (simp [*, errW_none, errW_some] <;> rfl), by first | exact Kd.R_nil _ _ _ _ _ | exact Kd.N_nil _ _ _ _ _ | exact Kd.V_nil _ _ _ _ _ | exact Kd.Q_nil _ _ _ _ _ | exact Kd.S_nil _ _ _ _ _, by first | exact Kd.R_nil _ _ _ _ _ | exact Kd.N_nil _ _ _ _ _ | exact Kd.V_nil _ _ _ _ _ | exact Kd.Q_nil _ _ _ _ _ | exact Kd.S_nil _ _ _ _ _, by repeat (first | (with_reducible first | exact HB.out | apply below_alloc | apply pw_below_drewN | apply below_drew1 | refine below_set ?_ GE206.out | refine below_set ?_ GE207.out) | exact HB.out)⟩

end Go.Proofs.YtdccglkmkahblaaDoor.P
