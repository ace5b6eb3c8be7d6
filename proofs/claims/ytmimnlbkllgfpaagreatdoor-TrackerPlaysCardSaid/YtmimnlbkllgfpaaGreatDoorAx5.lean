-- Written for this claim by the session's own turn of the kit's print program (wip/tools/xprint.py).
import Derived.Test.YtmimnlbkllgfpaaGreatDoorSg
import Derived.Test.YtmimnlbkllgfpaaGreatDoorAx0
import Derived.Test.YtmimnlbkllgfpaaGreatDoorAx4
import Derived.Test.YtmimnlbkllgfpaaGreatDoorHd
namespace Go.Proofs.YtmimnlbkllgfpaaGreatDoor.A
open Go.RowKit Go.Proofs.YtmimnlbkllgfpaaGreatDoor.Sg Go.Proofs.YtmimnlbkllgfpaaGreatDoor.Fl Go.Proofs.YtmimnlbkllgfpaaGreatDoor.Sq Go.Proofs.YtmimnlbkllgfpaaGreatDoor.Hand Go.Proofs.YtmimnlbkllgfpaaGreatDoorW.PrintWords Go.Proofs.YtmimnlbkllgfpaaGreatDoorW.PrintLast Go.Proofs.YtmimnlbkllgfpaaGreatDoorW.PrintMore
attribute [local go_sem] max2_int min2_int max_two min_two max_three min_three max_four min_four   -- for this text's walks alone
set_option linter.unusedVariables false
set_option linter.unusedSimpArgs false

/-! ### link_Text: function 41 -/
mutual
def link_Text.j0 : Nat → List ByteArray → ByteArray → ByteArray → List Int → List (S24) → Option (ByteArray × Int)
 | 0, _, _, _, _, _ => none
 | k + 1, x4, x138000, x138001, x138002, x138003 => link_Text.l0 k x4 x138002 (x138002.length : Int) 0 x138000 x138001 x138002 x138003
def link_Text.l0 : Nat → List ByteArray → List Int → Int → Int → ByteArray → ByteArray → List Int → List (S24) → Option (ByteArray × Int)
 | 0, _, _, _, _, _, _, _, _ => none
 | k + 1, x4, x22, x23, x24, x138000, x138001, x138002, x138003 => if x24 < x23 then (if 0 ≤ x24 then (if x24 < (x22.length : Int) then ((strconv_Itoa_64.f (rd x22 x24)).bind fun t144 => (if 5 + t144.size ≤ 9223372036854775807 then (if ((⟨#[110, 111, 100, 101, 61]⟩ : ByteArray) ++ t144).size + 1 ≤ 9223372036854775807 then (if x24 < (x138003.length : Int) then ((strconv_Itoa_64.f ((rd_T24 x138003 x24).f0)).bind fun t146 => (if (((⟨#[110, 111, 100, 101, 61]⟩ : ByteArray) ++ t144) ++ (⟨#[44]⟩ : ByteArray)).size + t146.size ≤ 9223372036854775807 then (if ((((⟨#[110, 111, 100, 101, 61]⟩ : ByteArray) ++ t144) ++ (⟨#[44]⟩ : ByteArray)) ++ t146).size + 1 ≤ 9223372036854775807 then ((strconv_Itoa_64.f ((rd_T24 x138003 x24).f1)).bind fun t148 => (if (((((⟨#[110, 111, 100, 101, 61]⟩ : ByteArray) ++ t144) ++ (⟨#[44]⟩ : ByteArray)) ++ t146) ++ (⟨#[44]⟩ : ByteArray)).size + t148.size ≤ 9223372036854775807 then (if x4.length < 8796093022208 then (link_Text.l0 k (x4 ++ [(((((⟨#[110, 111, 100, 101, 61]⟩ : ByteArray) ++ t144) ++ (⟨#[44]⟩ : ByteArray)) ++ t146) ++ (⟨#[44]⟩ : ByteArray)) ++ t148]) x22 x23 (wrap64 (x24 + 1)) x138000 x138001 x138002 x138003) else (none)) else (none))) else (none)) else (none))) else (none)) else (none)) else (none))) else (none)) else (none)) else ((link_Base32.f x138000).bind fun t152 => (if 7 + t152.size ≤ 9223372036854775807 then (if (x4.length : Int) > 0 then ((strings_Join.f x4 (⟨#[38]⟩ : ByteArray)).bind fun t153 => (if 1 + t153.size ≤ 9223372036854775807 then (if ((⟨#[109, 111, 115, 97, 105, 99, 58]⟩ : ByteArray) ++ t152).size + ((⟨#[63]⟩ : ByteArray) ++ t153).size ≤ 9223372036854775807 then (some (((⟨#[109, 111, 115, 97, 105, 99, 58]⟩ : ByteArray) ++ t152) ++ ((⟨#[63]⟩ : ByteArray) ++ t153), 0)) else (none)) else (none))) else (some ((⟨#[109, 111, 115, 97, 105, 99, 58]⟩ : ByteArray) ++ t152, 0))) else (none)))
end
def link_Text.f (k : Nat) (a0_0 : ByteArray) (a0_1 : ByteArray) (l0_2 : List Int) (l0_3 : List (S24)) : Option (ByteArray × Int) := (link_Check.f k a0_0 a0_1 l0_2 l0_3).bind fun t138 => (if t138 = true then (if a0_1.toList = ([] : List UInt8) then (link_Text.j0 k ([] : List ByteArray) a0_0 a0_1 l0_2 l0_3) else ((link_Escape.f a0_1).bind fun t139 => (if 6 + t139.size ≤ 9223372036854775807 then (if ([] : List ByteArray).length < 8796093022208 then (link_Text.j0 k (([] : List ByteArray) ++ [(⟨#[116, 105, 116, 108, 101, 61]⟩ : ByteArray) ++ t139]) a0_0 a0_1 l0_2 l0_3) else (none)) else (none)))) else (some ((⟨#[]⟩ : ByteArray), 1)))
def link_Text.T9 : Bool × List (List Nat × List Nat) := (true, [([], []), ([], []), ([1], [1]), ([2], [2]), ([3], [3]), ([], []), ([5], [5]), ([], []), ([6, 7], [6, 7]), ([8], [8]), ([9], [9]), ([10, 2], [10]), ([4, 11], [4, 11]), ([12], [12]), ([], []), ([14], [14]), ([], []), ([15, 16], [15, 16]), ([17], [17]), ([18], [18]), ([19, 11], [19]), ([13, 20], [13, 20]), ([21], [21]), ([0, 22, 20], [0, 22]), ([23, 23, 0, 1, 2, 3, 4, 5, 6, 7, 8, 9, 10, 11, 12, 13, 14, 15, 16, 17, 18, 19, 20, 21, 22, 23], [0, 23])])
def link_Text.B9 : List Nat := [0, 0, 2, 6, 14, 0, 32, 0, 224, 480, 992, 2022, 4094, 8190, 0, 16384, 0, 114688, 245760, 507904, 1036262, 2097150, 4194302, 8388607, 16777215]
theorem link_Text.tab9 : rtab .any (opsOf Tryz.f41 9) = link_Text.T9 := by kernel_rfl
theorem link_Text.bits9 : waitsOk link_Text.T9.2 link_Text.B9 = true := by kernel_rfl
namespace BAx5
theorem b0 {p : Prop} (h : p := by repeat (first | (with_reducible first | exact HB.out | apply below_alloc | apply pw_below_drewN | apply below_drew1 | refine below_set ?_ GE137.out) | exact HB.out)) : p := h
theorem b1 {p : Prop} (h : p := by (try simp only [List.map_toArray, List.map_cons, List.map_nil]); first | done | rfl | (simp only [List.length_drop, List.length_take]; rfl)) : p := h
theorem b2 {p : Prop} (h : p := by (with_reducible repeat (first | apply Kd.R_alloc | apply Kd.R_drewN | apply Kd.R_drew)); exact HO_4.out) : p := h
theorem b3 {p : Prop} (h : p := by (with_reducible repeat (first | refine blk_drewN ?_ _ | refine blk_drew ?_ | refine blk_alloc ?_ _)); exact BK137.out) : p := h
theorem b4 {p : Prop} (h : p := by repeat (first | (with_reducible first | exact HB.out | apply below_alloc | apply pw_below_drewN | apply below_drew1) | exact HB.out)) : p := h
theorem b5 {p : Prop} (h : p := by first | (with_reducible assumption) | assumption) : p := h
theorem b6 {p : Prop} (h : p := by first | rfl | (simp [errW_none, errW_some] <;> rfl) | (simp [*, errW_none, errW_some] <;> rfl)) : p := h
theorem b7 {p : Prop} (h : p := by first | rfl | (simp; done) | (simp [*]; done)) : p := h
end BAx5
open BAx5
set_option maxHeartbeats 8000000 in
set_option maxRecDepth 100000 in
theorem link_Text.calls (k : Nat) (a0_0 : ByteArray) (a0_1 : ByteArray) (A0_2 : Option Addr) (c0_2 : Nat) (l0_2 : List Int) (A0_3 : Option Addr) (c0_3 : Nat) (l0_3 : List (S24)) (r1 : ByteArray) (r2 : Int) (w : World) (hr0_2 : Kd.C (Kd.int .i64) w A0_2 l0_2.length l0_2) (hc0_2 : l0_2.length ≤ c0_2) (hr0_3 : Kd.C k24 w A0_3 l0_3.length l0_3) (hc0_3 : l0_3.length ≤ c0_3) (h : link_Text.f k a0_0 a0_1 l0_2 l0_3 = some (r1, r2)) (hTab : TabW w) :
  Calls Tryz.prog 41 #[.agg #[.string a0_0, .string a0_1, .slice A0_2 l0_2.length c0_2, .slice A0_3 l0_3.length c0_3]] w fun e w' => e = .returned (.tuple #[.string r1, .int .i64 r2]) ∧ Below w.heap.size w w' := by
 have hu70 := Tryz.underlying70
 have HR0_2 := Aside0.mk hr0_2
 have HC0_2 := Aside0.mk hc0_2
 clear hr0_2 hc0_2
 have HR0_3 := Aside0.mk hr0_3
 have HC0_3 := Aside0.mk hc0_3
 clear hr0_3 hc0_3
 have HB := Aside0.mk (Below.refl w.heap.size w)
 have H : ((link_Check.f k a0_0 a0_1 l0_2 l0_3).bind fun t138 => (if t138 = true then (if a0_1.toList = ([] : List UInt8) then (link_Text.j0 k ([] : List ByteArray) a0_0 a0_1 l0_2 l0_3) else ((link_Escape.f a0_1).bind fun t139 => (if 6 + t139.size ≤ 9223372036854775807 then (if ([] : List ByteArray).length < 8796093022208 then (link_Text.j0 k (([] : List ByteArray) ++ [(⟨#[116, 105, 116, 108, 101, 61]⟩ : ByteArray) ++ t139]) a0_0 a0_1 l0_2 l0_3) else (none)) else (none)))) else (some ((⟨#[]⟩ : ByteArray), 1)))) = some (r1, r2) := h
 clear h
 replace H := Option.bind_eq_some_iff.mp H
 obtain ⟨t138, A20, H⟩ := H
 have A2 := Aside0.mk A20
 clear A20
 by_cases c3 : t138 = true
 ·
  subst c3
  rw [if_pos rfl] at H
  have HC4 := Aside0.mk H
  clear H
  go_enter Tryz.func41, Tryz.ntmps41
  go_upto_if 13 with (first | ((with_reducible refine gate_dst (N := 1) rfl ?_); refine box_event ?hg (N := 1) ?hd (cs := #[.string a0_0, .string a0_1, .slice A0_2 l0_2.length c0_2, .slice A0_3 l0_3.length c0_3]) (t := 70) ?hr ?_; (case hd => rfl); (case hg => rfl); (case hr => first | (go_simp; done) | (go_simp; rfl)); intro gb137 hg w5 hbox hb; have BK137 := Aside0.mk (hbox); have GW137 := hG HB hg; have GE137 := hG HB hg; replace HB := hS HB hb; clear hb hbox hg; have ⟨_, _, _, _, _, _, _, _⟩ := cc4 BK137) | ((with_reducible refine gate_callee (f := 52) rfl ?_); refine goesL_ (some 9) rfl rfl Tryz.func52 (by kernel_rfl) rfl #[.agg #[.string a0_0, .string a0_1, .slice A0_2 l0_2.length c0_2, .slice A0_3 l0_3.length c0_3]] rfl b1 ?_; (with_reducible refine (link_Check.calls k a0_0 a0_1 _ _ l0_2 _ _ l0_3 true _ ?side1 ?side2 ?side3 ?side4 A2.out).mono ?_); (case side1 => repeat (first | exact (Kd.C_below HR0_2.out HB.out) | (with_reducible refine Kd.C_alloc ?_ _) | (with_reducible refine Kd.C_drewN ?_ _) | (with_reducible refine Kd.C_drew ?_))); (case side2 => exact HC0_2.out); (case side3 => repeat (first | exact (Kd.C_below HR0_3.out HB.out) | (with_reducible refine Kd.C_alloc ?_ _) | (with_reducible refine Kd.C_drewN ?_ _) | (with_reducible refine Kd.C_drew ?_))); (case side4 => exact HC0_3.out); rintro e w7 ⟨rfl, hb⟩; refine ⟨_, rfl, ?_⟩; replace BK137 := bB BK137 hb; replace HB := hS HB hb; (try clear hb); (try clear hb2); (try clear hk); (try clear hi); have ⟨_, _, _, _, _, _, _, _⟩ := cc4 BK137))
  (try simp only [Act.put, List.setIfInBounds_toArray, List.set_cons_zero, List.set_cons_succ])
  go_cut [4] (fun v4 wc => ∃ (kq : Nat) (x4_3 : List ByteArray), Aside0 (link_Text.j0 kq x4_3 a0_0 a0_1 l0_2 l0_3 = some (r1, r2)) ∧ Aside0 (kq ≤ k) ∧ Aside0 (Kd.R Kd.string 9 wc w.heap.size (fun _ => True) v4 x4_3) ∧ Aside0 (wc.heap[gb137]? = some (.cells #[.string a0_0, .string a0_1, (.slice A0_2 l0_2.length c0_2), (.slice A0_3 l0_3.length c0_3)] 70 (0, 0))) ∧ Aside0 (Below w.heap.size w wc))
  case first =>
   have H := HC4.out
   clear HC4
   by_cases c9 : a0_1.toList = ([] : List UInt8)
   ·
    rw [if_pos c9] at H
    have c9b0 := beq_iff_eq.mpr c9
    have c9b1 := bne_eq_false_iff_eq.mpr c9
    have c9b2 : a0_1.toList.isEmpty = true := by simpa using c9
    clear c9
    (first | rw [c9b0] | (simp only [i64_w, i32_w, IntKind.wrap_u8]; rw [c9b0]) | rw [c9b2] | skip)
    have H' := Aside0.mk H
    clear H
    go_wp2
    go_meet
    case rel => exact ⟨_, (([] : List ByteArray)), H', ⟨by first | omega | exact Nat.le_refl _⟩, ⟨by first | exact Kd.R_nil _ _ _ _ _ | exact Kd.N_nil _ _ _ _ _ | exact Kd.V_nil _ _ _ _ _ | exact Kd.Q_nil _ _ _ _ _ | exact Kd.S_nil _ _ _ _ _⟩, ⟨b3⟩, ⟨b0⟩⟩
   ·
    rw [if_neg c9] at H
    have c9b0 := beq_eq_false_iff_ne.mpr c9
    have c9b1 := bne_iff_ne.mpr c9
    have c9b2 : a0_1.toList.isEmpty = false := by simpa using c9
    (first | rw [c9b0] | (simp only [i64_w, i32_w, IntKind.wrap_u8]; rw [c9b0]) | rw [c9b2] | skip)
    replace H := Option.bind_eq_some_iff.mp H
    obtain ⟨t139, A100, H⟩ := H
    have A10 := Aside0.mk A100
    clear A100
    by_cases c11 : 6 + t139.size ≤ 9223372036854775807
    rotate_left; · rw [if_neg c11] at H; exact absurd H (by simp)
    rw [if_pos c11] at H
    have c11b0 := eq_true c11
    have c11b1 := decide_eq_true c11
    try have c11b2 : (9223372036854775807 < 6 + t139.size) = False := eq_false (Nat.not_lt.2 c11)
    by_cases c12 : ([] : List ByteArray).length < 8796093022208
    rotate_left; · rw [if_neg c12] at H; exact absurd H (by simp)
    rw [if_pos c12] at H
    have LMc12 := Aside0.mk c12
    clear c12
    obtain ⟨y140, hy140⟩ : ∃ y_ : List ByteArray, y_ = (([] : List ByteArray) ++ [(⟨#[116, 105, 116, 108, 101, 61]⟩ : ByteArray) ++ t139]) := ⟨_, rfl⟩
    replace H : (link_Text.j0 k y140 a0_0 a0_1 l0_2 l0_3) = some (r1, r2) := by first | (rw [hy140]; with_reducible exact H) | (have H2_ := (Option.bind_some _ _).symm.trans H; rw [hy140]; with_reducible exact H2_) | (have H2_ := (Option.bind_some _ _).symm.trans H; with_reducible exact H2_) | with_reducible exact H | (rw [hy140]; exact H) | exact H
    have Ny140 := Aside0.mk hy140
    clear hy140
    have H' := Aside0.mk H
    clear H
    have ⟨_, _, _, _, _, _, _, _⟩ := cc4 BK137
    go_wp2_with (first | ((with_reducible refine gate_callee (f := 63) rfl ?_); refine goesL_ (some 17) rfl rfl Tryz.func63 (by kernel_rfl) rfl #[.string a0_1] rfl b1 ?_; (with_reducible refine (link_Escape.calls a0_1 t139 _ A10.out).mono ?_); rintro e w14 ⟨rfl, hb⟩; refine ⟨_, rfl, ?_⟩; replace BK137 := bB BK137 hb; replace HB := Aside0.mk (below_step b0 hb); (try clear hb); (try clear hb2); (try clear hk); (try clear hi)) | ((with_reducible refine gate_builtin (b := .append) (xs := #[.tmp 14, .tmp 19]) rfl ?_); at_builtin; refine Kd.R_append Kd.string (w0 := w) w.heap.size rfl (.tmp 14) (.tmp 19) 64 9 (.string ⟨#[]⟩) 16 rfl Tryz.underlying64 info9 rfl (by decide) (by omega) (.slice none 0 0) ([] : List ByteArray) ((⟨#[116, 105, 116, 108, 101, 61]⟩ : ByteArray) ++ t139) [.string ((⟨#[116, 105, 116, 108, 101, 61]⟩ : ByteArray) ++ t139)] (fun _ => True) (fun _ => False) rfl rfl ?aP (fun _ hk => hk.elim) ?aF ?aO ?aB ?aS ?aL ?_; (case aP => exact rfl); (case aB => exact b0); (case aF => exact (fun _ _ => trivial)); (case aO => exact ((Kd.R_nil _ _ _ _ (fun _ => True)))); (case aS => exact (below_size b0)); (case aL => have := LMc12.out; omega); intro v141 w15 ho hb hg hat; rw [← Ny140.out] at ho; replace BK137 := Aside0.mk (blk_grown (g := gb137) (o := .cells #[.string a0_0, .string a0_1, .slice A0_2 l0_2.length c0_2, .slice A0_3 l0_3.length c0_3] 70 (0, 0)) (by exact bS BK137) hg (by simp [Value.ownBlock])); replace HB := Aside0.mk (hb); have HO142 := Aside0.mk (ho); clear ho hb hg hat))
    go_meet
    case rel => exact ⟨_, (y140), H', ⟨by first | omega | exact Nat.le_refl _⟩, ⟨by (with_reducible repeat (first | apply Kd.R_alloc | apply Kd.R_drewN | apply Kd.R_drew)); exact HO142.out⟩, ⟨b3⟩, ⟨b0⟩⟩
  case rest =>
   clear HC4
   try clear c3
   try clear hcz6_0
   try clear hcz6_1
   try clear hcz6_2
   try clear hcz6_3
   try clear hcz8_0
   try clear hcz8_1
   try clear hcz8_2
   try clear hcz8_3
   try clear hfz6_0
   try clear hfz6_1
   try clear hfz6_2
   try clear hfz6_3
   try clear hfz8_0
   try clear hfz8_1
   try clear hfz8_2
   try clear hfz8_3
   obtain ⟨kq, x4_3, HA, HJ3, HO_4, BK137, HB⟩ := hcut
   cases kq with
   | zero => exact absurd HA.out (by simp [link_Text.j0])
   | succ kj3 =>
    have H := HA.out
    clear HA
    simp only [link_Text.j0] at H
    have H' := Aside0.mk H
    clear H
    have ⟨_, _, _, _, _, _, _, _⟩ := cc4 BK137
    go_wp2
    go_loopg [4, 24] kj3 (fun kq v4 v24 w' => ∃ (x4_2 : List ByteArray) (x24_2 : Int), v24 = .int .i64 x24_2 ∧ Aside0 (link_Text.l0 kq x4_2 l0_2 (l0_2.length : Int) x24_2 a0_0 a0_1 l0_2 l0_3 = some (r1, r2)) ∧ Aside0 (kq ≤ kj3) ∧ Aside0 (Kd.R Kd.string 9 w' w.heap.size (fun _ => True) v4 x4_2) ∧ Aside0 (w'.heap[gb137]? = some (.cells #[.string a0_0, .string a0_1, (.slice A0_2 l0_2.length c0_2), (.slice A0_3 l0_3.length c0_3)] 70 (0, 0))) ∧ Aside0 (Below w.heap.size w w'))
    case atStart => exact ⟨(x4_3), (0), b7, H', ⟨Nat.le_refl _⟩, ⟨b2⟩, ⟨b3⟩, ⟨b0⟩⟩
    case round =>
     clear H'
     try clear c3
     try clear hcz16_0
     try clear hcz16_1
     try clear hcz16_2
     try clear hcz16_3
     try clear hcz6_0
     try clear hcz6_1
     try clear hcz6_2
     try clear hcz6_3
     try clear hcz8_0
     try clear hcz8_1
     try clear hcz8_2
     try clear hcz8_3
     try clear hfz16_0
     try clear hfz16_1
     try clear hfz16_2
     try clear hfz16_3
     try clear hfz6_0
     try clear hfz6_1
     try clear hfz6_2
     try clear hfz6_3
     try clear hfz8_0
     try clear hfz8_1
     try clear hfz8_2
     try clear hfz8_3
     obtain ⟨x4_2, x24_2, rfl, HA, HK2, HO_4, BK137, HB⟩ := hrel
     cases gk with
     | zero => exact absurd HA.out (by simp [link_Text.l0])
     | succ k2 =>
      have H := HA.out
      clear HA
      simp only [link_Text.l0] at H
      by_cases c17 : x24_2 < (l0_2.length : Int)
      ·
       rw [if_pos c17] at H
       have c17b0 := decide_eq_true c17
       clear c17
       by_cases c18 : 0 ≤ x24_2
       rotate_left; · rw [if_neg c18] at H; exact absurd H (by simp)
       rw [if_pos c18] at H
       have c18b0 := decide_eq_true c18
       clear c18
       by_cases c19 : x24_2 < (l0_2.length : Int)
       rotate_left; · rw [if_neg c19] at H; exact absurd H (by simp)
       rw [if_pos c19] at H
       have c19b0 := decide_eq_true c19
       clear c19
       replace H := Option.bind_eq_some_iff.mp H
       obtain ⟨t144, A200, H⟩ := H
       have A20 := Aside0.mk A200
       clear A200
       by_cases c21 : 5 + t144.size ≤ 9223372036854775807
       rotate_left; · rw [if_neg c21] at H; exact absurd H (by simp)
       rw [if_pos c21] at H
       have c21b0 := eq_true c21
       have c21b1 := decide_eq_true c21
       try have c21b2 : (9223372036854775807 < 5 + t144.size) = False := eq_false (Nat.not_lt.2 c21)
       by_cases c22 : ((⟨#[110, 111, 100, 101, 61]⟩ : ByteArray) ++ t144).size + 1 ≤ 9223372036854775807
       rotate_left; · rw [if_neg c22] at H; exact absurd H (by simp)
       rw [if_pos c22] at H
       have c22b0 := eq_true c22
       have c22b1 := decide_eq_true c22
       try have c22b2 : (9223372036854775807 < ((⟨#[110, 111, 100, 101, 61]⟩ : ByteArray) ++ t144).size + 1) = False := eq_false (Nat.not_lt.2 c22)
       try have c22b3 : (9223372036854775807 < 5 + t144.size + 1) = False := eq_false (by have h_ := c22; simp only [ByteArray.size_append] at h_; have e0_ : (⟨#[110, 111, 100, 101, 61]⟩ : ByteArray).size = 5 := rfl; omega)
       by_cases c23 : x24_2 < (l0_3.length : Int)
       rotate_left; · rw [if_neg c23] at H; exact absurd H (by simp)
       rw [if_pos c23] at H
       have c23b0 := decide_eq_true c23
       clear c23
       replace H := Option.bind_eq_some_iff.mp H
       obtain ⟨t146, A240, H⟩ := H
       have A24 := Aside0.mk A240
       clear A240
       by_cases c25 : (((⟨#[110, 111, 100, 101, 61]⟩ : ByteArray) ++ t144) ++ (⟨#[44]⟩ : ByteArray)).size + t146.size ≤ 9223372036854775807
       rotate_left; · rw [if_neg c25] at H; exact absurd H (by simp)
       rw [if_pos c25] at H
       have c25b0 := eq_true c25
       have c25b1 := decide_eq_true c25
       try have c25b2 : (9223372036854775807 < (((⟨#[110, 111, 100, 101, 61]⟩ : ByteArray) ++ t144) ++ (⟨#[44]⟩ : ByteArray)).size + t146.size) = False := eq_false (Nat.not_lt.2 c25)
       try have c25b3 : (9223372036854775807 < 5 + t144.size + 1 + t146.size) = False := eq_false (by have h_ := c25; simp only [ByteArray.size_append] at h_; have e0_ : (⟨#[110, 111, 100, 101, 61]⟩ : ByteArray).size = 5 := rfl; have e1_ : (⟨#[44]⟩ : ByteArray).size = 1 := rfl; omega)
       by_cases c26 : ((((⟨#[110, 111, 100, 101, 61]⟩ : ByteArray) ++ t144) ++ (⟨#[44]⟩ : ByteArray)) ++ t146).size + 1 ≤ 9223372036854775807
       rotate_left; · rw [if_neg c26] at H; exact absurd H (by simp)
       rw [if_pos c26] at H
       have c26b0 := eq_true c26
       have c26b1 := decide_eq_true c26
       try have c26b2 : (9223372036854775807 < ((((⟨#[110, 111, 100, 101, 61]⟩ : ByteArray) ++ t144) ++ (⟨#[44]⟩ : ByteArray)) ++ t146).size + 1) = False := eq_false (Nat.not_lt.2 c26)
       try have c26b3 : (9223372036854775807 < 5 + t144.size + 1 + t146.size + 1) = False := eq_false (by have h_ := c26; simp only [ByteArray.size_append] at h_; have e0_ : (⟨#[110, 111, 100, 101, 61]⟩ : ByteArray).size = 5 := rfl; have e1_ : (⟨#[44]⟩ : ByteArray).size = 1 := rfl; omega)
       replace H := Option.bind_eq_some_iff.mp H
       obtain ⟨t148, A270, H⟩ := H
       have A27 := Aside0.mk A270
       clear A270
       by_cases c28 : (((((⟨#[110, 111, 100, 101, 61]⟩ : ByteArray) ++ t144) ++ (⟨#[44]⟩ : ByteArray)) ++ t146) ++ (⟨#[44]⟩ : ByteArray)).size + t148.size ≤ 9223372036854775807
       rotate_left; · rw [if_neg c28] at H; exact absurd H (by simp)
       rw [if_pos c28] at H
       have c28b0 := eq_true c28
       have c28b1 := decide_eq_true c28
       try have c28b2 : (9223372036854775807 < (((((⟨#[110, 111, 100, 101, 61]⟩ : ByteArray) ++ t144) ++ (⟨#[44]⟩ : ByteArray)) ++ t146) ++ (⟨#[44]⟩ : ByteArray)).size + t148.size) = False := eq_false (Nat.not_lt.2 c28)
       try have c28b3 : (9223372036854775807 < 5 + t144.size + 1 + t146.size + 1 + t148.size) = False := eq_false (by have h_ := c28; simp only [ByteArray.size_append] at h_; have e0_ : (⟨#[110, 111, 100, 101, 61]⟩ : ByteArray).size = 5 := rfl; have e1_ : (⟨#[44]⟩ : ByteArray).size = 1 := rfl; omega)
       by_cases c29 : x4_2.length < 8796093022208
       rotate_left; · rw [if_neg c29] at H; exact absurd H (by simp)
       rw [if_pos c29] at H
       have LMc29 := Aside0.mk c29
       clear c29
       obtain ⟨y149, hy149⟩ : ∃ y_ : List ByteArray, y_ = (x4_2 ++ [(((((⟨#[110, 111, 100, 101, 61]⟩ : ByteArray) ++ t144) ++ (⟨#[44]⟩ : ByteArray)) ++ t146) ++ (⟨#[44]⟩ : ByteArray)) ++ t148]) := ⟨_, rfl⟩
       replace H : (link_Text.l0 k2 y149 l0_2 (l0_2.length : Int) (wrap64 (x24_2 + 1)) a0_0 a0_1 l0_2 l0_3) = some (r1, r2) := by first | (rw [hy149]; with_reducible exact H) | (have H2_ := (Option.bind_some _ _).symm.trans H; rw [hy149]; with_reducible exact H2_) | (have H2_ := (Option.bind_some _ _).symm.trans H; with_reducible exact H2_) | with_reducible exact H | (rw [hy149]; exact H) | exact H
       have Ny149 := Aside0.mk hy149
       clear hy149
       have H' := Aside0.mk H
       clear H
       have p143 : 0 ≤ (x24_2 : Int) := of_decide_eq_true b5
       have q143 : x24_2 < (l0_2.length : Int) := of_decide_eq_true b5
       obtain ⟨ad143, e143, hx143_0⟩ := Kd.at_int HR0_2.out x24_2 p143 q143
       cases e143
       replace hx143_0 := (HB.out.cell (World.block_lt_of_cell? w _ hx143_0)).trans hx143_0
       replace p143 := eq_true p143
       replace q143 := eq_true q143
       try go_wp2
       have n0_ := Aside0.mk (Kd.R_drew HO_4.out)
       have n1_ := Aside0.mk (blk_drew BK137.out)
       have n2_ := Aside0.mk (below_drew1 HB.out)
       clear HO_4 BK137 HB
       have HO_4 := n0_
       have BK137 := n1_
       have HB := n2_
       clear n0_ n1_ n2_
       have p145 : 0 ≤ (x24_2 : Int) := of_decide_eq_true b5
       have q145 : x24_2 < (l0_3.length : Int) := of_decide_eq_true b5
       obtain ⟨ad145, e145, hx145_0, hx145_1⟩ := at_T24 HR0_3.out x24_2 p145 q145
       have hw145_1 := hx145_1
       have hw145_0 := hx145_0
       cases e145
       replace hx145_0 := (HB.out.cell (World.block_lt_of_cell? w _ hx145_0)).trans hx145_0
       replace hx145_1 := (HB.out.cell (World.block_lt_of_cell? w _ hx145_1)).trans hx145_1
       replace p145 := eq_true p145
       replace q145 := eq_true q145
       have p147 : 0 ≤ (x24_2 : Int) := of_decide_eq_true b5
       have q147 : x24_2 < (l0_3.length : Int) := of_decide_eq_true b5
       obtain ⟨ad147, e147, hx147_0, hx147_1⟩ := at_T24 HR0_3.out x24_2 p147 q147
       have hw147_1 := hx147_1
       have hw147_0 := hx147_0
       obtain rfl : ad145 = ad147 := (by injection e147)
       replace hx147_0 := (HB.out.cell (World.block_lt_of_cell? w _ hx147_0)).trans hx147_0
       replace hx147_1 := (HB.out.cell (World.block_lt_of_cell? w _ hx147_1)).trans hx147_1
       replace p147 := eq_true p147
       replace q147 := eq_true q147
       refine start_ (n := 25) (S := fun w' => w'.cell? ⟨gb137, 0, none⟩ = some (.string a0_0) ∧ w'.cell? ⟨gb137, 1, none⟩ = some (.string a0_1) ∧ w'.cell? ⟨gb137, 2, none⟩ = some (.slice (some ad143) l0_2.length c0_2) ∧ w'.cell? ⟨gb137, 3, none⟩ = some (.slice (some ad145) l0_3.length c0_3) ∧ w'.cell? (ad145.add ((x24_2).toNat * 2)) = some (.int .i64 ((rd_T24 l0_3 x24_2).f0)) ∧ w'.cell? ⟨(ad145.add ((x24_2).toNat * 2)).block, (ad145.add ((x24_2).toNat * 2)).off + 1, none⟩ = some (.int .i64 ((rd_T24 l0_3 x24_2).f1)) ∧ w'.cell? (ad145.add ((x24_2).toNat * 2)) = some (.int .i64 ((rd_T24 l0_3 x24_2).f0)) ∧ w'.cell? ⟨(ad145.add ((x24_2).toNat * 2)).block, (ad145.add ((x24_2).toNat * 2)).off + 1, none⟩ = some (.int .i64 ((rd_T24 l0_3 x24_2).f1))) (ds := []) (fB 25 0) (by kernel_rfl) rfl rfl ⟨(blk_cell BK137.out 0).trans rfl, (blk_cell BK137.out 1).trans rfl, (blk_cell BK137.out 2).trans rfl, (blk_cell BK137.out 3).trans rfl, ((HB.out.cell (World.block_lt_of_cell? w _ hw145_0)).trans hw145_0), ((HB.out.cell (World.block_lt_of_cell? w _ hw145_1)).trans hw145_1), ((HB.out.cell (World.block_lt_of_cell? w _ hw147_0)).trans hw147_0), ((HB.out.cell (World.block_lt_of_cell? w _ hw147_1)).trans hw147_1)⟩ (fun hHeld => ?_); refine with_tabW link_Text.tab9 link_Text.bits9 (fun HT_ HW_ => ?_)
       generalize wr.drew = w30 at HO_4 BK137 HB hx145_0 hx145_1 hx147_0 hx147_1 hHeld ⊢
       refine pS 0 29 25 1 HT_ ?_
       refine pS 1 30 25 3 HT_ ?_
       refine pS 5 34 25 35 HT_ ?_
       refine pS 7 36 25 163 HT_ ?_
       refine pS 14 43 25 16547 HT_ ?_
       refine pS 16 45 25 82083 HT_ ?_
       refine tS 6 35 25 82147 HT_ HW_ hHeld ?_
       refine pS 8 37 25 82403 HT_ ?_
       refine pS 9 38 25 82915 HT_ ?_
       refine tS 10 39 25 83939 HT_ HW_ hHeld ?_
       refine tS 15 44 25 116707 HT_ HW_ hHeld ?_
       refine pS 17 46 25 247779 HT_ ?_
       refine pS 18 47 25 509923 HT_ ?_
       refine tS 19 48 25 1034211 HT_ HW_ hHeld ?_
       refine one_ (i := 2) (N := some 31) (fB 25 1034215) rfl rfl (one_of HT_.out (by kernel_rfl)) (by decide) (fun K hK => ?_)
       refine goes_ Tryz.func64 (by kernel_rfl) rfl #[.int .i64 (rd l0_2 x24_2)] (by rfl) rfl rfl b1 ?_
       with_reducible refine (strconv_Itoa_64.calls (rd l0_2 x24_2) t144 _ A20.out (TabW.below hTab b0)).mono ?_
       rintro e w31 ⟨rfl, hb⟩
       refine ⟨_, rfl, ?_⟩
       have n0_ := Aside0.mk (Kd.R_below b2 hb)
       have n1_ := bB BK137 hb
       have n2_ := hS HB hb
       clear HO_4 BK137 HB
       have HO_4 := n0_
       have BK137 := n1_
       have HB := n2_
       clear n0_ n1_ n2_
       (try clear hb); (try clear hb2); (try clear hk); (try clear hi)
       refine hK.out _ _ ⟨(blk_cell BK137.out 0).trans rfl, (blk_cell BK137.out 1).trans rfl, (blk_cell BK137.out 2).trans rfl, (blk_cell BK137.out 3).trans rfl, ((HB.out.cell (World.block_lt_of_cell? w _ hw145_0)).trans hw145_0), ((HB.out.cell (World.block_lt_of_cell? w _ hw145_1)).trans hw145_1), ((HB.out.cell (World.block_lt_of_cell? w _ hw147_0)).trans hw147_0), ((HB.out.cell (World.block_lt_of_cell? w _ hw147_1)).trans hw147_1)⟩ (fun hHeld => ?_)
       clear hK K
       refine norm_ (a' := ?_) ?_ ?_
       rotate_left; · show Act.put _ (some 31) _ = _; simp only [Act.put, sA, sB, sC, i64_w, i32_w, sD]; rfl
       refine pS 3 32 25 1034223 HT_ ?_
       refine pS 4 33 25 1034239 HT_ ?_
       refine one_ (i := 11) (N := some 40) (fB 25 1036287) rfl rfl (one_of HT_.out (by kernel_rfl)) (by decide) (fun K hK => ?_)
       refine goes_ Tryz.func64 (by kernel_rfl) rfl #[.int .i64 ((rd_T24 l0_3 x24_2).f0)] (by rfl) rfl rfl b1 ?_
       with_reducible refine (strconv_Itoa_64.calls ((rd_T24 l0_3 x24_2).f0) t146 _ A24.out (TabW.below hTab b0)).mono ?_
       rintro e w32 ⟨rfl, hb⟩
       refine ⟨_, rfl, ?_⟩
       have n0_ := Aside0.mk (Kd.R_below b2 hb)
       have n1_ := bB BK137 hb
       have n2_ := hS HB hb
       clear HO_4 BK137 HB
       have HO_4 := n0_
       have BK137 := n1_
       have HB := n2_
       clear n0_ n1_ n2_
       (try clear hb); (try clear hb2); (try clear hk); (try clear hi)
       refine hK.out _ _ ⟨(blk_cell BK137.out 0).trans rfl, (blk_cell BK137.out 1).trans rfl, (blk_cell BK137.out 2).trans rfl, (blk_cell BK137.out 3).trans rfl, ((HB.out.cell (World.block_lt_of_cell? w _ hw145_0)).trans hw145_0), ((HB.out.cell (World.block_lt_of_cell? w _ hw145_1)).trans hw145_1), ((HB.out.cell (World.block_lt_of_cell? w _ hw147_0)).trans hw147_0), ((HB.out.cell (World.block_lt_of_cell? w _ hw147_1)).trans hw147_1)⟩ (fun hHeld => ?_)
       clear hK K
       refine norm_ (a' := ?_) ?_ ?_
       rotate_left; · show Act.put _ (some 40) _ = _; simp only [Act.put, sA, sB, sC, i64_w, i32_w, sD]; rfl
       refine pS 12 41 25 1040383 HT_ ?_
       refine pS 13 42 25 1048575 HT_ ?_
       refine one_ (i := 20) (N := some 49) (fB 25 2097151) rfl rfl (one_of HT_.out (by kernel_rfl)) (by decide) (fun K hK => ?_)
       refine goes_ Tryz.func64 (by kernel_rfl) rfl #[.int .i64 ((rd_T24 l0_3 x24_2).f1)] (by rfl) rfl rfl b1 ?_
       with_reducible refine (strconv_Itoa_64.calls ((rd_T24 l0_3 x24_2).f1) t148 _ A27.out (TabW.below hTab b0)).mono ?_
       rintro e w33 ⟨rfl, hb⟩
       refine ⟨_, rfl, ?_⟩
       have n0_ := Aside0.mk (Kd.R_below b2 hb)
       have n1_ := bB BK137 hb
       have n2_ := hS HB hb
       clear HO_4 BK137 HB
       have HO_4 := n0_
       have BK137 := n1_
       have HB := n2_
       clear n0_ n1_ n2_
       (try clear hb); (try clear hb2); (try clear hk); (try clear hi)
       refine hK.out _ _ ⟨(blk_cell BK137.out 0).trans rfl, (blk_cell BK137.out 1).trans rfl, (blk_cell BK137.out 2).trans rfl, (blk_cell BK137.out 3).trans rfl, ((HB.out.cell (World.block_lt_of_cell? w _ hw145_0)).trans hw145_0), ((HB.out.cell (World.block_lt_of_cell? w _ hw145_1)).trans hw145_1), ((HB.out.cell (World.block_lt_of_cell? w _ hw147_0)).trans hw147_0), ((HB.out.cell (World.block_lt_of_cell? w _ hw147_1)).trans hw147_1)⟩ (fun hHeld => ?_)
       clear hK K
       refine norm_ (a' := ?_) ?_ ?_
       rotate_left; · show Act.put _ (some 49) _ = _; simp only [Act.put, sA, sB, sC, i64_w, i32_w, sD]; rfl
       refine pS 21 50 25 4194303 HT_ ?_
       refine one_ (i := 22) (N := some 51) (fB 25 8388607) rfl rfl (one_of HT_.out (by kernel_rfl)) (by decide) (fun K hK => ?_)
       refine value_ (w1 := ?_) (v := ?_) (by rfl) rfl ?_ ?_
       rotate_left 2
       ·
        go_simp
        constructor
        ·
         rfl
        ·
         rfl
       refine hK.out _ _ ⟨(blk_cell (blk_alloc BK137.out _) 0).trans rfl, (blk_cell (blk_alloc BK137.out _) 1).trans rfl, (blk_cell (blk_alloc BK137.out _) 2).trans rfl, (blk_cell (blk_alloc BK137.out _) 3).trans rfl, (World.cell?_alloc_lt _ _ _ (World.block_lt_of_cell? _ _ (((HB.out.cell (World.block_lt_of_cell? w _ hw145_0)).trans hw145_0)))).trans (((HB.out.cell (World.block_lt_of_cell? w _ hw145_0)).trans hw145_0)), (World.cell?_alloc_lt _ _ _ (World.block_lt_of_cell? _ _ (((HB.out.cell (World.block_lt_of_cell? w _ hw145_1)).trans hw145_1)))).trans (((HB.out.cell (World.block_lt_of_cell? w _ hw145_1)).trans hw145_1)), (World.cell?_alloc_lt _ _ _ (World.block_lt_of_cell? _ _ (((HB.out.cell (World.block_lt_of_cell? w _ hw147_0)).trans hw147_0)))).trans (((HB.out.cell (World.block_lt_of_cell? w _ hw147_0)).trans hw147_0)), (World.cell?_alloc_lt _ _ _ (World.block_lt_of_cell? _ _ (((HB.out.cell (World.block_lt_of_cell? w _ hw147_1)).trans hw147_1)))).trans (((HB.out.cell (World.block_lt_of_cell? w _ hw147_1)).trans hw147_1))⟩ (fun hHeld => ?_)
       clear hK K
       refine norm_ (a' := ?_) ?_ ?_
       rotate_left; · show Act.put _ (some 51) _ = _; simp only [Act.put, sA, sB, sC, i64_w, i32_w, sD]; rfl
       refine one_ (i := 23) (N := some 52) (fB 25 16777215) rfl rfl (one_of HT_.out (by kernel_rfl)) (by decide) (fun K hK => ?_)
       refine Kd.R_append_step Kd.string (w0 := w) w.heap.size (by rfl) (.tmp 29) (.tmp 51) 64 9 (.string ⟨#[]⟩) 16 rfl Tryz.underlying64 info9 rfl (by decide) (by omega) u4 x4_2 ((((((⟨#[110, 111, 100, 101, 61]⟩ : ByteArray) ++ t144) ++ (⟨#[44]⟩ : ByteArray)) ++ t146) ++ (⟨#[44]⟩ : ByteArray)) ++ t148) [.string ((((((⟨#[110, 111, 100, 101, 61]⟩ : ByteArray) ++ t144) ++ (⟨#[44]⟩ : ByteArray)) ++ t146) ++ (⟨#[44]⟩ : ByteArray)) ++ t148)] (fun _ => True) (fun _ => False) rfl rfl ?aP (fun _ hk => hk.elim) ?aF ?aO ?aB ?aS ?aL ?_
       (case aP => exact rfl)
       (case aB => exact b0)
       (case aF => exact (fun _ _ => trivial))
       (case aO => exact b2)
       (case aS => exact (below_size b0))
       (case aL => have := LMc29.out; omega)
       intro v150 w34 ho hb hg hat
       rw [← Ny149.out] at ho
       have n0_ := Aside0.mk (blk_grown (g := gb137) (o := .cells #[.string a0_0, .string a0_1, .slice (some ad143) l0_2.length c0_2, .slice (some ad145) l0_3.length c0_3] 70 (0, 0)) (by exact bS BK137) hg (Kd.R_ne HO_4.out BK137.out (by decide)))
       have n1_ := Aside0.mk (hb)
       have n2_ := Aside0.mk (ho)
       clear BK137 HB HO_4
       have BK137 := n0_
       have HB := n1_
       have HO151 := n2_
       clear n0_ n1_ n2_ ho hb hg hat
       refine hK.out _ _ ⟨(blk_cell BK137.out 0).trans rfl, (blk_cell BK137.out 1).trans rfl, (blk_cell BK137.out 2).trans rfl, (blk_cell BK137.out 3).trans rfl, ((HB.out.cell (World.block_lt_of_cell? w _ hw145_0)).trans hw145_0), ((HB.out.cell (World.block_lt_of_cell? w _ hw145_1)).trans hw145_1), ((HB.out.cell (World.block_lt_of_cell? w _ hw147_0)).trans hw147_0), ((HB.out.cell (World.block_lt_of_cell? w _ hw147_1)).trans hw147_1)⟩ (fun hHeld => ?_)
       clear hK K
       refine norm_ (a' := ?_) ?_ ?_
       rotate_left; · show Act.put _ (some 52) _ = _; simp only [Act.put, sA, sB, sC, i64_w, i32_w, sD]; rfl
       refine pS 24 4 25 33554431 HT_ ?_
       refine done_ (done_of HT_.out (by kernel_rfl)) ?_
       try go_wp2
       go_roundg k2
       case measure => have := HJ3.out; have := HK2.out; omega
       case rel => exact ⟨(y149), (wrap64 (x24_2 + 1)), b7, H', ⟨by have := HJ3.out; have := HK2.out; omega⟩, ⟨by (with_reducible repeat (first | apply Kd.R_alloc | apply Kd.R_drewN | apply Kd.R_drew)); exact HO151.out⟩, ⟨b3⟩, ⟨b0⟩⟩
      ·
       rw [if_neg c17] at H
       have c17b0 := decide_eq_false c17
       clear c17
       replace H := Option.bind_eq_some_iff.mp H
       obtain ⟨t152, A350, H⟩ := H
       have A35 := Aside0.mk A350
       clear A350
       by_cases c36 : 7 + t152.size ≤ 9223372036854775807
       rotate_left; · rw [if_neg c36] at H; exact absurd H (by simp)
       rw [if_pos c36] at H
       have c36b0 := eq_true c36
       have c36b1 := decide_eq_true c36
       try have c36b2 : (9223372036854775807 < 7 + t152.size) = False := eq_false (Nat.not_lt.2 c36)
       by_cases c37 : (x4_2.length : Int) > 0
       ·
        rw [if_pos c37] at H
        have c37b0 := decide_eq_true c37
        have c37b1 : decide (0 < x4_2.length) = true := decide_eq_true (by omega)
        clear c37
        replace H := Option.bind_eq_some_iff.mp H
        obtain ⟨t153, A380, H⟩ := H
        have A38 := Aside0.mk A380
        clear A380
        by_cases c39 : 1 + t153.size ≤ 9223372036854775807
        rotate_left; · rw [if_neg c39] at H; exact absurd H (by simp)
        rw [if_pos c39] at H
        have c39b0 := eq_true c39
        have c39b1 := decide_eq_true c39
        try have c39b2 : (9223372036854775807 < 1 + t153.size) = False := eq_false (Nat.not_lt.2 c39)
        by_cases c40 : ((⟨#[109, 111, 115, 97, 105, 99, 58]⟩ : ByteArray) ++ t152).size + ((⟨#[63]⟩ : ByteArray) ++ t153).size ≤ 9223372036854775807
        rotate_left; · rw [if_neg c40] at H; exact absurd H (by simp)
        rw [if_pos c40] at H
        have c40b0 := eq_true c40
        have c40b1 := decide_eq_true c40
        try have c40b2 : (9223372036854775807 < ((⟨#[109, 111, 115, 97, 105, 99, 58]⟩ : ByteArray) ++ t152).size + ((⟨#[63]⟩ : ByteArray) ++ t153).size) = False := eq_false (Nat.not_lt.2 c40)
        try have c40b3 : (9223372036854775807 < 7 + t152.size + 1 + t153.size) = False := eq_false (by have h_ := c40; simp only [ByteArray.size_append] at h_; have e0_ : (⟨#[109, 111, 115, 97, 105, 99, 58]⟩ : ByteArray).size = 7 := rfl; have e1_ : (⟨#[63]⟩ : ByteArray).size = 1 := rfl; omega)
        simp only [Option.some.injEq, Prod.mk.injEq] at H
        obtain ⟨rfl, rfl⟩ := H
        have ⟨_, _, _, _, _, _, _, _⟩ := cc4 BK137
        go_wp2_with (first | ((with_reducible refine gate_callee (f := 65) rfl ?_); refine goesL_ (some 56) rfl rfl Tryz.func65 (by kernel_rfl) rfl #[.string a0_0] rfl b1 ?_; (with_reducible refine (link_Base32.calls a0_0 t152 _ A35.out).mono ?_); rintro e w42 ⟨rfl, hb⟩; refine ⟨_, rfl, ?_⟩; replace HO_4 := Aside0.mk (Kd.R_below b2 hb); replace BK137 := bB BK137 hb; replace HB := Aside0.mk (below_step b0 hb); (try clear hb); (try clear hb2); (try clear hk); (try clear hi); obtain ⟨Ao43, co43, eo43⟩ := Kd.R_slice HO_4.out; subst eo43) | ((with_reducible refine gate_callee (f := 66) rfl ?_); refine goesL_ (some 63) rfl rfl Tryz.func66 (by kernel_rfl) rfl #[.slice Ao43 x4_2.length co43, .string (⟨#[38]⟩ : ByteArray)] rfl b1 ?_; (with_reducible refine (strings_Join.calls _ _ x4_2 (⟨#[38]⟩ : ByteArray) t153 _ ?side1 ?side2 A38.out).mono ?_); (case side1 => repeat (first | exact (Kd.R_reads' HO_4.out).2.2 | (with_reducible refine Kd.C_alloc ?_ _) | (with_reducible refine Kd.C_drewN ?_ _) | (with_reducible refine Kd.C_drew ?_))); (case side2 => exact (Kd.R_reads' HO_4.out).2.1); rintro e w44 ⟨rfl, hb⟩; refine ⟨_, rfl, ?_⟩; replace HO_4 := Aside0.mk (Kd.R_below b2 hb); replace BK137 := bB BK137 hb; replace HB := Aside0.mk (below_step b0 hb); (try clear hb); (try clear hb2); (try clear hk); (try clear hi)))
        go_ret2
        exact ⟨b6, b0⟩
       ·
        rw [if_neg c37] at H
        have c37b0 := decide_eq_false c37
        have c37b1 : decide (0 < x4_2.length) = false := decide_eq_false (by omega)
        clear c37
        simp only [Option.some.injEq, Prod.mk.injEq] at H
        obtain ⟨rfl, rfl⟩ := H
        have ⟨_, _, _, _, _, _, _, _⟩ := cc4 BK137
        go_wp2_with (first | ((with_reducible refine gate_callee (f := 65) rfl ?_); refine goesL_ (some 56) rfl rfl Tryz.func65 (by kernel_rfl) rfl #[.string a0_0] rfl b1 ?_; (with_reducible refine (link_Base32.calls a0_0 t152 _ A35.out).mono ?_); rintro e w46 ⟨rfl, hb⟩; refine ⟨_, rfl, ?_⟩; replace HO_4 := Aside0.mk (Kd.R_below b2 hb); replace BK137 := bB BK137 hb; replace HB := Aside0.mk (below_step b0 hb); (try clear hb); (try clear hb2); (try clear hk); (try clear hi); obtain ⟨Ao47, co47, eo47⟩ := Kd.R_slice HO_4.out; subst eo47))
        go_ret2
        exact ⟨b6, b0⟩
 ·
  replace c3 := Bool.eq_false_iff.mpr c3
  subst c3
  rw [if_neg (show ¬ (false = true) by decide)] at H
  simp only [Option.some.injEq, Prod.mk.injEq] at H
  obtain ⟨rfl, rfl⟩ := H
  go_enter Tryz.func41, Tryz.ntmps41
  go_wp2_with (first | ((with_reducible refine gate_dst (N := 1) rfl ?_); refine box_event ?hg (N := 1) ?hd (cs := #[.string a0_0, .string a0_1, .slice A0_2 l0_2.length c0_2, .slice A0_3 l0_3.length c0_3]) (t := 70) ?hr ?_; (case hd => rfl); (case hg => rfl); (case hr => first | (go_simp; done) | (go_simp; rfl)); intro gb137 hg w48 hbox hb; have BK137 := Aside0.mk (hbox); have GW137 := Aside0.mk ((by rw [hg]; exact (below_size b4) : w.heap.size ≤ gb137)); have GE137 := Aside0.mk ((by rw [hg]; exact (below_size b4) : w.heap.size ≤ gb137)); replace HB := Aside0.mk (below_step b4 hb); clear hb hbox hg; have ⟨_, _, _, _, _, _, _, _⟩ := cc4 BK137) | ((with_reducible refine gate_callee (f := 52) rfl ?_); refine goesL_ (some 9) rfl rfl Tryz.func52 (by kernel_rfl) rfl #[.agg #[.string a0_0, .string a0_1, .slice A0_2 l0_2.length c0_2, .slice A0_3 l0_3.length c0_3]] rfl b1 ?_; (with_reducible refine (link_Check.calls k a0_0 a0_1 _ _ l0_2 _ _ l0_3 false _ ?side1 ?side2 ?side3 ?side4 A2.out).mono ?_); (case side1 => repeat (first | exact (Kd.C_below HR0_2.out HB.out) | (with_reducible refine Kd.C_alloc ?_ _) | (with_reducible refine Kd.C_drewN ?_ _) | (with_reducible refine Kd.C_drew ?_))); (case side2 => exact HC0_2.out); (case side3 => repeat (first | exact (Kd.C_below HR0_3.out HB.out) | (with_reducible refine Kd.C_alloc ?_ _) | (with_reducible refine Kd.C_drewN ?_ _) | (with_reducible refine Kd.C_drew ?_))); (case side4 => exact HC0_3.out); rintro e w50 ⟨rfl, hb⟩; refine ⟨_, rfl, ?_⟩; replace BK137 := bB BK137 hb; replace HB := Aside0.mk (below_step b0 hb); (try clear hb); (try clear hb2); (try clear hk); (try clear hi)))
  go_ret2
  exact ⟨b6, b0⟩

/-! ### mosaicref18_Tick: function 29 -/
def mosaicref18_Tick.f (a0 : Int) : Option (Bool) := if a0 ≥ 0 then (some (decide (a0 ≤ 1099511627776))) else (some false)
set_option maxHeartbeats 8000000 in
set_option maxRecDepth 100000 in
theorem mosaicref18_Tick.calls (a0 : Int) (r : Bool) (w : World) (h : mosaicref18_Tick.f a0 = some r) :
  Calls Tryz.prog 29 #[.int .i64 a0] w fun e w' => e = .returned (.bool r) ∧ Drawn0 w w' := by
 have H : (if a0 ≥ 0 then (some (decide (a0 ≤ 1099511627776))) else (some false)) = some r := h
 clear h
 by_cases c2 : a0 ≥ 0
 ·
  rw [if_pos c2] at H
  have c2b0 := decide_eq_true c2
  clear c2
  obtain rfl := Option.some.inj H
  go_enter Tryz.func29, Tryz.ntmps29
  go_wp2
  go_ret
  exact ⟨b7, by repeat (first | exact Drawn0.refl _ | apply Drawn0.step)⟩
 ·
  rw [if_neg c2] at H
  have c2b0 := decide_eq_false c2
  clear c2
  obtain rfl := Option.some.inj H
  go_enter Tryz.func29, Tryz.ntmps29
  go_wp2
  go_ret
  exact ⟨b7, by repeat (first | exact Drawn0.refl _ | apply Drawn0.step)⟩

end Go.Proofs.YtmimnlbkllgfpaaGreatDoor.A
