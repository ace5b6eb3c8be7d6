-- Written for this claim by the session's own turn of the kit's print program (wip/tools/xprint.py).
import Derived.Test.YtmimnlbkllgfpaaGreatDoorSg
import Derived.Test.YtmimnlbkllgfpaaGreatDoorAx0
import Derived.Test.YtmimnlbkllgfpaaGreatDoorAx5
import Derived.Test.YtmimnlbkllgfpaaGreatDoorTb
import Derived.Test.YtmimnlbkllgfpaaGreatDoorAx8
namespace Go.Proofs.YtmimnlbkllgfpaaGreatDoor.A
open Go.RowKit Go.Proofs.YtmimnlbkllgfpaaGreatDoor.Sg Go.Proofs.YtmimnlbkllgfpaaGreatDoor.Fl Go.Proofs.YtmimnlbkllgfpaaGreatDoor.Sq Go.Proofs.YtmimnlbkllgfpaaGreatDoor.Hand Go.Proofs.YtmimnlbkllgfpaaGreatDoorW.PrintWords Go.Proofs.YtmimnlbkllgfpaaGreatDoorW.PrintLast Go.Proofs.YtmimnlbkllgfpaaGreatDoorW.PrintMore
attribute [local go_sem] max2_int min2_int max_two min_two max_three min_three max_four min_four   -- for this text's walks alone
set_option linter.unusedVariables false
set_option linter.unusedSimpArgs false

/-! ### mosaicref31_Table_Names: function 24 -/
def mosaicref31_Table_Names.l0 : Nat → Int → List ByteArray → Int → Int → List (S42) → Option (List ByteArray)
 | 0, _, _, _, _, _ => none
 | k + 1, x1, x5, x6, x197000, x197001 => if x6 < (x197001.length : Int) then ((mosaicref18_Tick.f x1).bind fun t197 => (if t197 = true then (if 0 ≤ x6 then (if x1 ≤ ((rd_T42 x197001 x6).f3) then (if (x5.length : Int) = 0 then (if x5.length < 8796093022208 then (mosaicref31_Table_Names.l0 k x1 (x5 ++ [(rd_T42 x197001 x6).f0]) (wrap64 (x6 + 1)) x197000 x197001) else (none)) else (if 0 ≤ (wrap64 ((x5.length : Int) - 1)) then (if (wrap64 ((x5.length : Int) - 1)) < (x5.length : Int) then (if (rdOf ByteArray.empty x5 (wrap64 ((x5.length : Int) - 1))).toList = ((rd_T42 x197001 x6).f0).toList then (mosaicref31_Table_Names.l0 k x1 x5 (wrap64 (x6 + 1)) x197000 x197001) else (if x5.length < 8796093022208 then (mosaicref31_Table_Names.l0 k x1 (x5 ++ [(rd_T42 x197001 x6).f0]) (wrap64 (x6 + 1)) x197000 x197001) else (none))) else (none)) else (none))) else (mosaicref31_Table_Names.l0 k x1 x5 (wrap64 (x6 + 1)) x197000 x197001)) else (none)) else (mosaicref31_Table_Names.l0 k x1 x5 (wrap64 (x6 + 1)) x197000 x197001))) else (some x5)
def mosaicref31_Table_Names.f (k : Nat) (a0_0 : Int) (l0_1 : List (S42)) (a1 : Int) : Option (List ByteArray) := mosaicref31_Table_Names.l0 k a1 ([] : List ByteArray) 0 a0_0 l0_1
def mosaicref31_Table_Names.T5 : Bool × List (List Nat × List Nat) := (true, [([], []), ([0], [0]), ([1, 1], [1]), ([2], [2]), ([2], [2]), ([4, 2], [2, 4]), ([2], [2]), ([5, 6, 2], [2, 5, 6]), ([7, 2], [2, 7]), ([8, 2], [2, 8]), ([3, 9, 2], [2, 3, 9]), ([2, 10], [2, 10]), ([11, 2], [11]), ([12], [12]), ([13, 12], [12, 13]), ([14, 12], [12, 14]), ([15, 12, 12], [12, 15]), ([16], [16]), ([16], [16]), ([18, 16], [16, 18]), ([19, 16], [16, 19]), ([17, 20, 16], [16, 17, 20]), ([21, 16], [16, 21]), ([16], [16]), ([23, 16], [16, 23]), ([16], [16]), ([24, 25, 16], [16, 24, 25]), ([26, 16], [16, 26]), ([27, 16], [16, 27]), ([22, 28, 16], [16, 22, 28]), ([16, 29, 12], [12, 16, 29]), ([12, 30], [12, 30])])
def mosaicref31_Table_Names.B5 : List Nat := [0, 1, 3, 7, 7, 23, 7, 119, 247, 503, 1023, 2047, 4095, 8191, 16383, 32767, 65535, 131071, 131071, 393215, 917503, 2097151, 4194303, 131071, 8519679, 131071, 58851327, 125960191, 260177919, 536870911, 1073741823, 2147483647]
theorem mosaicref31_Table_Names.tab5 : rtab .any (opsOf Tryz.f24 5) = mosaicref31_Table_Names.T5 := by kernel_rfl
theorem mosaicref31_Table_Names.bits5 : waitsOk mosaicref31_Table_Names.T5.2 mosaicref31_Table_Names.B5 = true := by kernel_rfl
open Go.Proofs.YtmimnlbkllgfpaaGreatDoor.Tb
theorem dtick0 (n : Int) : mosaicref18_Tick.f n = some (tickB n) := by
  unfold mosaicref18_Tick.f tickB
  by_cases h : n ≥ 0
  · rw [if_pos h]; congr 1; simp; omega
  · rw [if_neg h]; congr 1; simp; omega
namespace BAx9
theorem b0 {p : Prop} (h : p := by simp only [Act.put, sA, sB, sC, i64_w, i32_w, sD, hs1, hs2, hw, hq1, hq2]; rfl) : p := h
theorem b1 {p : Prop} (h : p := by simp only [Act.put, sA, sB, sC, i64_w, i32_w, sD, hs1, hs2]; rfl) : p := h
theorem b2 {p : Prop} (h : p := by simp only [Act.put, sA, sB, sC, i64_w, i32_w, sD, hs1]; rfl) : p := h
theorem b3 {p : Prop} (h : p := by (try simp only [List.map_toArray, List.map_cons, List.map_nil]); first | done | rfl) : p := h
end BAx9
open BAx9
set_option maxHeartbeats 8000000 in
set_option maxRecDepth 100000 in
theorem mosaicref31_Table_Names.calls (k : Nat) (a0_0 : Int) (A0_1 : Option Addr) (c0_1 : Nat) (l0_1 : List (S42)) (a1 : Int) (r : List ByteArray) (w : World) (hr0_1 : Kd.C k42 w A0_1 l0_1.length l0_1) (hc0_1 : l0_1.length ≤ c0_1) (h : mosaicref31_Table_Names.f k a0_0 l0_1 a1 = some r) :
  Calls Tryz.prog 24 #[.agg #[.int .i64 a0_0, .slice A0_1 l0_1.length c0_1], .int .i64 a1] w fun e w' => ∃ v0_ : Value, e = .returned (v0_) ∧ Kd.R Kd.string 9 w' w.heap.size (fun _ => True) v0_ r ∧ Below w.heap.size w w' := by
  have hTk := fun W => mosaicref18_Tick.calls a1 (tickB a1) W (dtick0 a1)
  have hB1 : Below w.heap.size w (w.alloc (.cells #[.int .i64 a0_0, .slice A0_1 l0_1.length c0_1] 33)) := (Below.refl _ w).alloc (Nat.le_refl _) _
  have hg1 := blk_new w (.cells #[.int .i64 a0_0, .slice A0_1 l0_1.length c0_1] 33)
  have HC := Aside.mk hr0_1
  have hml : l0_1.length ≤ 9223372036854775807 := hr0_1.2.1
  have info9 : (Tryz.prog.info? 9).map (fun i => (i.zero, i.size, i.bytes)) = some (some (.string ⟨#[]⟩), 1, 16) := by kernel_rfl
  clear hr0_1 hc0_1
  go_enter Tryz.func24, Tryz.ntmps24
  go_wp2
  go_loopw [5, 6] (fun ov iv wr => ∃ (j kq : Nat) (out : List ByteArray), j ≤ l0_1.length ∧ iv = .int .i64 j ∧ mosaicref31_Table_Names.l0 kq a1 out (j : Int) a0_0 l0_1 = some r ∧ Kd.R Kd.string 9 wr w.heap.size (fun _ => True) ov out ∧ Below w.heap.size w wr ∧ wr.heap[w.heap.size]? = some (.cells #[.int .i64 a0_0, .slice A0_1 l0_1.length c0_1] 33 (0, 0))) (fun _ iv _ => l0_1.length - (intOf iv).toNat)
  case atStart => exact ⟨0, k, [], by omega, rfl, h, Kd.R_nil _ _ _ _ _, hB1, hg1⟩
  case round =>
    obtain ⟨j, kq, out, hj, rfl, H, hR, hB, hg⟩ := hrel
    obtain ⟨Ao, co, hov⟩ := Kd.R_slice hR
    subst hov
    cases kq with
    | zero => exact absurd H (by simp [mosaicref31_Table_Names.l0])
    | succ kq =>
    rw [mosaicref31_Table_Names.l0] at H
    have c1 := blk_cell hg 1
    by_cases hlt : j < l0_1.length
    · have gl : (j : Int) < (l0_1.length : Int) := by omega
      have p0j : (0 : Int) ≤ (j : Int) := by omega
      have wj : IntKind.i64.wrap ((j : Int) + 1) = ((j + 1 : Nat) : Int) := by rw [IntKind.wrap_i64]; omega
      have wj2 : wrap64 ((j : Int) + 1) = ((j + 1 : Nat) : Int) := by unfold wrap64; omega
      have hme : l0_1.length - ((j + 1 : Nat) : Int).toNat < l0_1.length - (j : Int).toNat := by omega
      rw [if_pos gl, dtick0, Option.bind_some, if_pos p0j, wj2] at H
      obtain ⟨ad, rfl, d0, d1, d2, d3, d4⟩ := at_T42 HC.out (j : Int) p0j gl
      rw [Int.toNat_natCast] at d0 d1 d2 d3 d4
      generalize rd_T42 l0_1 (j : Int) = x at *
      have hS0 : ∀ W, Below wr.heap.size wr W → (fun W => W.cell? ⟨w.heap.size, 1, none⟩ = some (.slice (some ad) l0_1.length c0_1) ∧ W.cell? (ad.add (j * 5)) = some (.string x.f0) ∧ W.cell? ⟨(ad.add (j * 5)).block, (ad.add (j * 5)).off + 4, none⟩ = some (.int .i64 x.f3)) W := fun W hW => by
        have tr : ∀ {p : Addr} {v : Value}, w.cell? p = some v → W.cell? p = some v := fun {p v} h => ((hB.trans (hW.mono hB.size)).cell (World.block_lt_of_cell? _ _ h)).trans h
        exact ⟨blk_cell (blk_below hg hW) 1, tr d0, tr d4⟩
      have hgo : ∀ (kk : Nat) W, mosaicref31_Table_Names.l0 kk a1 out ((j + 1 : Nat) : Int) a0_0 l0_1 = some r → Below wr.heap.size wr W → ∃ (j' kq : Nat) (out' : List ByteArray), j' ≤ l0_1.length ∧ Value.int .i64 ((j + 1 : Nat) : Int) = .int .i64 j' ∧ mosaicref31_Table_Names.l0 kq a1 out' (j' : Int) a0_0 l0_1 = some r ∧ Kd.R Kd.string 9 W w.heap.size (fun _ => True) (.slice Ao out.length co) out' ∧ Below w.heap.size w W ∧ W.heap[w.heap.size]? = some (.cells #[.int .i64 a0_0, .slice (some ad) l0_1.length c0_1] 33 (0, 0)) :=
        fun kk W h1 h2 => ⟨j + 1, kk, out, by omega, rfl, h1, Kd.R_below hR h2, hB.trans (h2.mono hB.size), blk_below hg h2⟩
      clear d1 d2 d3
      by_cases htk : tickB a1 = true
      · rw [htk] at H hTk
        rw [if_pos rfl] at H
        by_cases hun : a1 ≤ x.f3
        · rw [if_pos hun] at H
          by_cases hout : out = []
          · have hs2 : ((out.length : Int) == 0) = true := by rw [hout]; rfl
            have hcap : out.length < 8796093022208 := by rw [hout]; decide
            rw [if_pos (by rw [hout]; rfl), if_pos hcap] at H
            have HO := Aside.mk hcap
            clear hout hcap
            have hs1 : decide (a1 ≤ x.f3) = true := decide_eq_true hun
            go_wp2_with fail
            refine start_ (n := 32) (S := fun W => W.cell? ⟨w.heap.size, 1, none⟩ = some (.slice (some ad) l0_1.length c0_1) ∧ W.cell? (ad.add (j * 5)) = some (.string x.f0) ∧ W.cell? ⟨(ad.add (j * 5)).block, (ad.add (j * 5)).off + 4, none⟩ = some (.int .i64 x.f3)) (ds := []) (fB 32 0) (by kernel_rfl) rfl rfl (hS0 _ (below_drew1 (Below.refl _ _))) (fun hHeld => ?_)
            refine with_tabW mosaicref31_Table_Names.tab5 mosaicref31_Table_Names.bits5 (fun HT_ HW_ => ?_)
            refine pS 0 14 32 1 HT_ ?_ (ha := b1)
            refine one_ (i := 1) (N := some 15) (fB 32 3) rfl rfl (one_of HT_.out (by kernel_rfl)) (by decide) (fun K hK => ?_)
            refine goes_ Tryz.func29 (by kernel_rfl) rfl #[.int .i64 a1] (by rfl) rfl rfl b3 ?_
            refine (hTk _).mono ?_
            rintro e w2 ⟨rfl, hd2⟩
            have hb2 : Below wr.heap.size wr w2 := (below_drew1 (Below.refl _ _)).trans hd2.below
            refine ⟨_, rfl, ?_⟩
            refine hK.out _ _ (hS0 w2 hb2) (fun hHeld => ?_)
            clear hK K
            refine norm_ (a' := ?_) ?_ ?_
            rotate_left
            · show Act.put _ (some 15) _ = _
              simp only [Act.put, sA, sB, sC, i64_w, i32_w, sD, hs1, hs2]
              rfl
            refine pS 2 16 32 7 HT_ ?_ (ha := b1)
            refine pS 3 17 32 15 HT_ ?_ (ha := b1)
            refine pS 4 18 32 31 HT_ ?_ (ha := b1)
            refine tS 5 19 32 63 HT_ HW_ hHeld ?_ (ha := b1)
            refine pS 6 20 32 127 HT_ ?_ (ha := b1)
            refine pS 7 21 32 255 HT_ ?_ (ha := b1)
            refine pS 8 22 32 511 HT_ ?_ (ha := b1)
            refine tS 9 23 32 1023 HT_ HW_ hHeld ?_ (ha := b1)
            refine pS 10 24 32 2047 HT_ ?_ (ha := b1)
            refine pS 11 25 32 4095 HT_ ?_ (ha := b1)
            refine pS 12 26 32 8191 HT_ ?_ (ha := b1)
            refine pS 13 27 32 16383 HT_ ?_ (ha := b1)
            refine pS 14 28 32 32767 HT_ ?_ (ha := b1)
            refine pS 15 29 32 65535 HT_ ?_ (ha := b1)
            refine pS 16 30 32 131071 HT_ ?_ (ha := b1)
            refine oS 17 31 32 262143 HT_ ?_ (ha := b1)
            refine oS 18 32 32 524287 HT_ ?_ (ha := b1)
            refine oS 19 33 32 1048575 HT_ ?_ (ha := b1)
            refine oS 20 34 32 2097151 HT_ ?_ (ha := b1)
            refine oS 21 35 32 4194303 HT_ ?_ (ha := b1)
            refine oS 22 36 32 8388607 HT_ ?_ (ha := b1)
            refine oS 23 37 32 16777215 HT_ ?_ (ha := b1)
            refine oS 24 38 32 33554431 HT_ ?_ (ha := b1)
            refine oS 25 39 32 67108863 HT_ ?_ (ha := b1)
            refine oS 26 40 32 134217727 HT_ ?_ (ha := b1)
            refine oS 27 41 32 268435455 HT_ ?_ (ha := b1)
            refine oS 28 42 32 536870911 HT_ ?_ (ha := b1)
            refine oS 29 43 32 1073741823 HT_ ?_ (ha := b1)
            refine pS 30 44 32 2147483647 HT_ ?_ (ha := b1)
            refine pS 31 45 32 4294967295 HT_ ?_ (ha := b1)
            refine done_ (done_of HT_.out (by kernel_rfl)) ?_
            have hRb := Kd.R_below hR hb2
            have hBb := hB.trans (hb2.mono hB.size)
            obtain ⟨k1, k2, k3⟩ := hS0 w2 hb2
            go_wp2_with ((with_reducible refine gate_builtin (b := .append) (xs := #[.tmp 46, .tmp 53]) rfl ?_); at_builtin; refine Kd.R_append Kd.string (w0 := w) w.heap.size rfl (.tmp 46) (.tmp 53) 64 9 (.string ⟨#[]⟩) 16 rfl Tryz.underlying64 info9 rfl (by decide) (by omega) (.slice Ao out.length co) out x.f0 [.string x.f0] (fun _ => True) (fun _ => False) rfl rfl ?aP (fun _ hk => hk.elim) (fun _ _ => trivial) ?aO ?aB ?aS ?aL ?_; (case aP => exact rfl); (case aB => exact hBb); (case aO => exact hRb); (case aS => exact hBb.size); (case aL => have := HO.out; omega); intro u2 w6 hR6 hB6 hgr hat)
            exact ⟨⟨j + 1, _, _, by omega, rfl, H, hR6, hB6, blk_grown (blk_below hg hb2) hgr (Kd.R_ne hRb (blk_below hg hb2) (by decide))⟩, hme⟩
          · obtain ⟨init, z, hz⟩ : ∃ init z, out = init ++ [z] := by rcases List.eq_nil_or_concat out with h | ⟨i, z, h⟩; exact absurd h hout; exact ⟨i, z, by simpa using h⟩
            obtain ⟨jl, hjl⟩ : ∃ jl, jl = init.length := ⟨_, rfl⟩
            have hll : out.length = jl + 1 := by rw [hz, List.length_append, List.length_singleton, hjl]
            have hol : out.length ≤ 9223372036854775807 := (Kd.R_reads' hR).2.2.2.1
            have hs2 : ((out.length : Int) == 0) = false := by rw [beq_eq_false_iff_ne]; omega
            have hw : wrap64 ((out.length : Int) - 1) = (jl : Int) := by unfold wrap64; omega
            have gj : (jl : Int) < (out.length : Int) := by omega
            have p0l : (0 : Int) ≤ (jl : Int) := by omega
            have hrd : rdOf ByteArray.empty out (jl : Int) = z := by unfold rdOf; rw [Int.toNat_natCast, hz, List.getD_eq_getElem?_getD, List.getElem?_append_right (by omega)]; simp [hjl]
            obtain ⟨ao, rfl, q0⟩ := Kd.at_string (Kd.R_reads' hR).2.2 (jl : Int) p0l gj
            rw [hrd, Int.toNat_natCast] at q0
            rw [if_neg (by omega), hw, if_pos p0l, if_pos gj, hrd] at H
            have hs1 : decide (a1 ≤ x.f3) = true := decide_eq_true hun
            have hS1 : ∀ W, Below wr.heap.size wr W → (fun W => W.cell? ⟨w.heap.size, 1, none⟩ = some (.slice (some ad) l0_1.length c0_1) ∧ W.cell? (ad.add (j * 5)) = some (.string x.f0) ∧ W.cell? ⟨(ad.add (j * 5)).block, (ad.add (j * 5)).off + 4, none⟩ = some (.int .i64 x.f3) ∧ W.cell? (ao.add jl) = some (.string z)) W := fun W hW => ⟨(hS0 W hW).1, (hS0 W hW).2.1, (hS0 W hW).2.2, (hW.cell (World.block_lt_of_cell? _ _ q0)).trans q0⟩
            clear hz hjl hll hol
            by_cases hq : z.toList = x.f0.toList
            · rw [if_pos hq] at H
              have hq1 : (z.toList == x.f0.toList) = true := beq_iff_eq.2 hq
              have hq2 : (z.toList != x.f0.toList) = false := by rw [bne, hq1]; rfl
              go_wp2_with fail
              refine start_ (n := 32) (S := fun W => W.cell? ⟨w.heap.size, 1, none⟩ = some (.slice (some ad) l0_1.length c0_1) ∧ W.cell? (ad.add (j * 5)) = some (.string x.f0) ∧ W.cell? ⟨(ad.add (j * 5)).block, (ad.add (j * 5)).off + 4, none⟩ = some (.int .i64 x.f3) ∧ W.cell? (ao.add jl) = some (.string z)) (ds := []) (fB 32 0) (by kernel_rfl) rfl rfl (hS1 _ (below_drew1 (Below.refl _ _))) (fun hHeld => ?_)
              refine with_tabW mosaicref31_Table_Names.tab5 mosaicref31_Table_Names.bits5 (fun HT_ HW_ => ?_)
              refine pS 0 14 32 1 HT_ ?_ (ha := b0)
              refine one_ (i := 1) (N := some 15) (fB 32 3) rfl rfl (one_of HT_.out (by kernel_rfl)) (by decide) (fun K hK => ?_)
              refine goes_ Tryz.func29 (by kernel_rfl) rfl #[.int .i64 a1] (by rfl) rfl rfl b3 ?_
              refine (hTk _).mono ?_
              rintro e w2 ⟨rfl, hd2⟩
              have hb2 : Below wr.heap.size wr w2 := (below_drew1 (Below.refl _ _)).trans hd2.below
              refine ⟨_, rfl, ?_⟩
              refine hK.out _ _ (hS1 w2 hb2) (fun hHeld => ?_)
              clear hK K
              refine norm_ (a' := ?_) ?_ ?_
              rotate_left
              · show Act.put _ (some 15) _ = _
                simp only [Act.put, sA, sB, sC, i64_w, i32_w, sD, hs1, hs2, hw, hq1, hq2]
                rfl
              refine pS 2 16 32 7 HT_ ?_ (ha := b0)
              refine pS 3 17 32 15 HT_ ?_ (ha := b0)
              refine pS 4 18 32 31 HT_ ?_ (ha := b0)
              refine tS 5 19 32 63 HT_ HW_ hHeld ?_ (ha := b0)
              refine pS 6 20 32 127 HT_ ?_ (ha := b0)
              refine pS 7 21 32 255 HT_ ?_ (ha := b0)
              refine pS 8 22 32 511 HT_ ?_ (ha := b0)
              refine tS 9 23 32 1023 HT_ HW_ hHeld ?_ (ha := b0)
              refine pS 10 24 32 2047 HT_ ?_ (ha := b0)
              refine pS 11 25 32 4095 HT_ ?_ (ha := b0)
              refine pS 12 26 32 8191 HT_ ?_ (ha := b0)
              refine pS 13 27 32 16383 HT_ ?_ (ha := b0)
              refine pS 14 28 32 32767 HT_ ?_ (ha := b0)
              refine pS 15 29 32 65535 HT_ ?_ (ha := b0)
              refine pS 16 30 32 131071 HT_ ?_ (ha := b0)
              refine pS 17 31 32 262143 HT_ ?_ (ha := b0)
              refine pS 18 32 32 524287 HT_ ?_ (ha := b0)
              refine pS 19 33 32 1048575 HT_ ?_ (ha := b0)
              refine pS 20 34 32 2097151 HT_ ?_ (ha := b0)
              refine pS 21 35 32 4194303 HT_ ?_ (ha := b0)
              refine tS 22 36 32 8388607 HT_ HW_ hHeld ?_ (ha := b0)
              refine pS 23 37 32 16777215 HT_ ?_ (ha := b0)
              refine tS 24 38 32 33554431 HT_ HW_ hHeld ?_ (ha := b0)
              refine pS 25 39 32 67108863 HT_ ?_ (ha := b0)
              refine pS 26 40 32 134217727 HT_ ?_ (ha := b0)
              refine pS 27 41 32 268435455 HT_ ?_ (ha := b0)
              refine tS 28 42 32 536870911 HT_ HW_ hHeld ?_ (ha := b0)
              refine pS 29 43 32 1073741823 HT_ ?_ (ha := b0)
              refine pS 30 44 32 2147483647 HT_ ?_ (ha := b0)
              refine pS 31 45 32 4294967295 HT_ ?_ (ha := b0)
              refine done_ (done_of HT_.out (by kernel_rfl)) ?_
              go_wp2_with fail
              exact ⟨hgo _ _ H hb2, hme⟩
            · rw [if_neg hq] at H
              by_cases hcap : out.length < 8796093022208
              rotate_left
              · rw [if_neg hcap] at H; cases H
              rw [if_pos hcap] at H
              have HO := Aside.mk hcap
              have hq1 : (z.toList == x.f0.toList) = false := beq_eq_false_iff_ne.2 hq
              have hq2 : (z.toList != x.f0.toList) = true := by rw [bne, hq1]; rfl
              go_wp2_with fail
              refine start_ (n := 32) (S := fun W => W.cell? ⟨w.heap.size, 1, none⟩ = some (.slice (some ad) l0_1.length c0_1) ∧ W.cell? (ad.add (j * 5)) = some (.string x.f0) ∧ W.cell? ⟨(ad.add (j * 5)).block, (ad.add (j * 5)).off + 4, none⟩ = some (.int .i64 x.f3) ∧ W.cell? (ao.add jl) = some (.string z)) (ds := []) (fB 32 0) (by kernel_rfl) rfl rfl (hS1 _ (below_drew1 (Below.refl _ _))) (fun hHeld => ?_)
              refine with_tabW mosaicref31_Table_Names.tab5 mosaicref31_Table_Names.bits5 (fun HT_ HW_ => ?_)
              refine pS 0 14 32 1 HT_ ?_ (ha := b0)
              refine one_ (i := 1) (N := some 15) (fB 32 3) rfl rfl (one_of HT_.out (by kernel_rfl)) (by decide) (fun K hK => ?_)
              refine goes_ Tryz.func29 (by kernel_rfl) rfl #[.int .i64 a1] (by rfl) rfl rfl b3 ?_
              refine (hTk _).mono ?_
              rintro e w2 ⟨rfl, hd2⟩
              have hb2 : Below wr.heap.size wr w2 := (below_drew1 (Below.refl _ _)).trans hd2.below
              refine ⟨_, rfl, ?_⟩
              refine hK.out _ _ (hS1 w2 hb2) (fun hHeld => ?_)
              clear hK K
              refine norm_ (a' := ?_) ?_ ?_
              rotate_left
              · show Act.put _ (some 15) _ = _
                simp only [Act.put, sA, sB, sC, i64_w, i32_w, sD, hs1, hs2, hw, hq1, hq2]
                rfl
              refine pS 2 16 32 7 HT_ ?_ (ha := b0)
              refine pS 3 17 32 15 HT_ ?_ (ha := b0)
              refine pS 4 18 32 31 HT_ ?_ (ha := b0)
              refine tS 5 19 32 63 HT_ HW_ hHeld ?_ (ha := b0)
              refine pS 6 20 32 127 HT_ ?_ (ha := b0)
              refine pS 7 21 32 255 HT_ ?_ (ha := b0)
              refine pS 8 22 32 511 HT_ ?_ (ha := b0)
              refine tS 9 23 32 1023 HT_ HW_ hHeld ?_ (ha := b0)
              refine pS 10 24 32 2047 HT_ ?_ (ha := b0)
              refine pS 11 25 32 4095 HT_ ?_ (ha := b0)
              refine pS 12 26 32 8191 HT_ ?_ (ha := b0)
              refine pS 13 27 32 16383 HT_ ?_ (ha := b0)
              refine pS 14 28 32 32767 HT_ ?_ (ha := b0)
              refine pS 15 29 32 65535 HT_ ?_ (ha := b0)
              refine pS 16 30 32 131071 HT_ ?_ (ha := b0)
              refine pS 17 31 32 262143 HT_ ?_ (ha := b0)
              refine pS 18 32 32 524287 HT_ ?_ (ha := b0)
              refine pS 19 33 32 1048575 HT_ ?_ (ha := b0)
              refine pS 20 34 32 2097151 HT_ ?_ (ha := b0)
              refine pS 21 35 32 4194303 HT_ ?_ (ha := b0)
              refine tS 22 36 32 8388607 HT_ HW_ hHeld ?_ (ha := b0)
              refine pS 23 37 32 16777215 HT_ ?_ (ha := b0)
              refine tS 24 38 32 33554431 HT_ HW_ hHeld ?_ (ha := b0)
              refine pS 25 39 32 67108863 HT_ ?_ (ha := b0)
              refine pS 26 40 32 134217727 HT_ ?_ (ha := b0)
              refine pS 27 41 32 268435455 HT_ ?_ (ha := b0)
              refine tS 28 42 32 536870911 HT_ HW_ hHeld ?_ (ha := b0)
              refine pS 29 43 32 1073741823 HT_ ?_ (ha := b0)
              refine pS 30 44 32 2147483647 HT_ ?_ (ha := b0)
              refine pS 31 45 32 4294967295 HT_ ?_ (ha := b0)
              refine done_ (done_of HT_.out (by kernel_rfl)) ?_
              have hRb := Kd.R_below hR hb2
              have hBb := hB.trans (hb2.mono hB.size)
              obtain ⟨k1, k2, k3⟩ := hS0 w2 hb2
              go_wp2_with ((with_reducible refine gate_builtin (b := .append) (xs := #[.tmp 46, .tmp 53]) rfl ?_); at_builtin; refine Kd.R_append Kd.string (w0 := w) w.heap.size rfl (.tmp 46) (.tmp 53) 64 9 (.string ⟨#[]⟩) 16 rfl Tryz.underlying64 info9 rfl (by decide) (by omega) (.slice (some ao) out.length co) out x.f0 [.string x.f0] (fun _ => True) (fun _ => False) rfl rfl ?aP (fun _ hk => hk.elim) (fun _ _ => trivial) ?aO ?aB ?aS ?aL ?_; (case aP => exact rfl); (case aB => exact hBb); (case aO => exact hRb); (case aS => exact hBb.size); (case aL => have := HO.out; omega); intro u2 w6 hR6 hB6 hgr hat)
              exact ⟨⟨j + 1, _, _, by omega, rfl, H, hR6, hB6, blk_grown (blk_below hg hb2) hgr (Kd.R_ne hRb (blk_below hg hb2) (by decide))⟩, hme⟩
        · rw [if_neg hun] at H
          have hs1 : decide (a1 ≤ x.f3) = false := decide_eq_false hun
          go_wp2_with fail
          refine start_ (n := 32) (S := fun W => W.cell? ⟨w.heap.size, 1, none⟩ = some (.slice (some ad) l0_1.length c0_1) ∧ W.cell? (ad.add (j * 5)) = some (.string x.f0) ∧ W.cell? ⟨(ad.add (j * 5)).block, (ad.add (j * 5)).off + 4, none⟩ = some (.int .i64 x.f3)) (ds := []) (fB 32 0) (by kernel_rfl) rfl rfl (hS0 _ (below_drew1 (Below.refl _ _))) (fun hHeld => ?_)
          refine with_tabW mosaicref31_Table_Names.tab5 mosaicref31_Table_Names.bits5 (fun HT_ HW_ => ?_)
          refine pS 0 14 32 1 HT_ ?_ (ha := b2)
          refine one_ (i := 1) (N := some 15) (fB 32 3) rfl rfl (one_of HT_.out (by kernel_rfl)) (by decide) (fun K hK => ?_)
          refine goes_ Tryz.func29 (by kernel_rfl) rfl #[.int .i64 a1] (by rfl) rfl rfl b3 ?_
          refine (hTk _).mono ?_
          rintro e w2 ⟨rfl, hd2⟩
          have hb2 : Below wr.heap.size wr w2 := (below_drew1 (Below.refl _ _)).trans hd2.below
          refine ⟨_, rfl, ?_⟩
          refine hK.out _ _ (hS0 w2 hb2) (fun hHeld => ?_)
          clear hK K
          refine norm_ (a' := ?_) ?_ ?_
          rotate_left
          · show Act.put _ (some 15) _ = _
            simp only [Act.put, sA, sB, sC, i64_w, i32_w, sD, hs1]
            rfl
          refine pS 2 16 32 7 HT_ ?_ (ha := b2)
          refine pS 3 17 32 15 HT_ ?_ (ha := b2)
          refine pS 4 18 32 31 HT_ ?_ (ha := b2)
          refine tS 5 19 32 63 HT_ HW_ hHeld ?_ (ha := b2)
          refine pS 6 20 32 127 HT_ ?_ (ha := b2)
          refine pS 7 21 32 255 HT_ ?_ (ha := b2)
          refine pS 8 22 32 511 HT_ ?_ (ha := b2)
          refine tS 9 23 32 1023 HT_ HW_ hHeld ?_ (ha := b2)
          refine pS 10 24 32 2047 HT_ ?_ (ha := b2)
          refine pS 11 25 32 4095 HT_ ?_ (ha := b2)
          refine pS 12 26 32 8191 HT_ ?_ (ha := b2)
          refine oS 13 27 32 16383 HT_ ?_ (ha := b2)
          refine oS 14 28 32 32767 HT_ ?_ (ha := b2)
          refine oS 15 29 32 65535 HT_ ?_ (ha := b2)
          refine oS 16 30 32 131071 HT_ ?_ (ha := b2)
          refine oS 17 31 32 262143 HT_ ?_ (ha := b2)
          refine oS 18 32 32 524287 HT_ ?_ (ha := b2)
          refine oS 19 33 32 1048575 HT_ ?_ (ha := b2)
          refine oS 20 34 32 2097151 HT_ ?_ (ha := b2)
          refine oS 21 35 32 4194303 HT_ ?_ (ha := b2)
          refine oS 22 36 32 8388607 HT_ ?_ (ha := b2)
          refine oS 23 37 32 16777215 HT_ ?_ (ha := b2)
          refine oS 24 38 32 33554431 HT_ ?_ (ha := b2)
          refine oS 25 39 32 67108863 HT_ ?_ (ha := b2)
          refine oS 26 40 32 134217727 HT_ ?_ (ha := b2)
          refine oS 27 41 32 268435455 HT_ ?_ (ha := b2)
          refine oS 28 42 32 536870911 HT_ ?_ (ha := b2)
          refine oS 29 43 32 1073741823 HT_ ?_ (ha := b2)
          refine oS 30 44 32 2147483647 HT_ ?_ (ha := b2)
          refine pS 31 45 32 4294967295 HT_ ?_ (ha := b2)
          refine done_ (done_of HT_.out (by kernel_rfl)) ?_
          go_wp2_with fail
          exact ⟨hgo _ _ H hb2, hme⟩
      · rw [Bool.not_eq_true] at htk
        rw [htk] at H hTk
        rw [if_neg (by simp)] at H
        go_wp2_with fail
        refine start_ (n := 32) (S := fun W => W.cell? ⟨w.heap.size, 1, none⟩ = some (.slice (some ad) l0_1.length c0_1) ∧ W.cell? (ad.add (j * 5)) = some (.string x.f0) ∧ W.cell? ⟨(ad.add (j * 5)).block, (ad.add (j * 5)).off + 4, none⟩ = some (.int .i64 x.f3)) (ds := []) (fB 32 0) (by kernel_rfl) rfl rfl (hS0 _ (below_drew1 (Below.refl _ _))) (fun hHeld => ?_)
        refine with_tabW mosaicref31_Table_Names.tab5 mosaicref31_Table_Names.bits5 (fun HT_ HW_ => ?_)
        refine pS 0 14 32 1 HT_ ?_
        refine one_ (i := 1) (N := some 15) (fB 32 3) rfl rfl (one_of HT_.out (by kernel_rfl)) (by decide) (fun K hK => ?_)
        refine goes_ Tryz.func29 (by kernel_rfl) rfl #[.int .i64 a1] (by rfl) rfl rfl b3 ?_
        refine (hTk _).mono ?_
        rintro e w2 ⟨rfl, hd2⟩
        have hb2 : Below wr.heap.size wr w2 := (below_drew1 (Below.refl _ _)).trans hd2.below
        refine ⟨_, rfl, ?_⟩
        refine hK.out _ _ (hS0 w2 hb2) (fun hHeld => ?_)
        clear hK K
        refine norm_ (a' := ?_) ?_ ?_
        rotate_left
        · show Act.put _ (some 15) _ = _
          simp only [Act.put, sA, sB, sC, i64_w, i32_w, sD]
          rfl
        refine pS 2 16 32 7 HT_ ?_
        refine oS 3 17 32 15 HT_ ?_
        refine oS 4 18 32 31 HT_ ?_
        refine oS 5 19 32 63 HT_ ?_
        refine oS 6 20 32 127 HT_ ?_
        refine oS 7 21 32 255 HT_ ?_
        refine oS 8 22 32 511 HT_ ?_
        refine oS 9 23 32 1023 HT_ ?_
        refine oS 10 24 32 2047 HT_ ?_
        refine pS 11 25 32 4095 HT_ ?_
        refine pS 12 26 32 8191 HT_ ?_
        refine oS 13 27 32 16383 HT_ ?_
        refine oS 14 28 32 32767 HT_ ?_
        refine oS 15 29 32 65535 HT_ ?_
        refine oS 16 30 32 131071 HT_ ?_
        refine oS 17 31 32 262143 HT_ ?_
        refine oS 18 32 32 524287 HT_ ?_
        refine oS 19 33 32 1048575 HT_ ?_
        refine oS 20 34 32 2097151 HT_ ?_
        refine oS 21 35 32 4194303 HT_ ?_
        refine oS 22 36 32 8388607 HT_ ?_
        refine oS 23 37 32 16777215 HT_ ?_
        refine oS 24 38 32 33554431 HT_ ?_
        refine oS 25 39 32 67108863 HT_ ?_
        refine oS 26 40 32 134217727 HT_ ?_
        refine oS 27 41 32 268435455 HT_ ?_
        refine oS 28 42 32 536870911 HT_ ?_
        refine oS 29 43 32 1073741823 HT_ ?_
        refine oS 30 44 32 2147483647 HT_ ?_
        refine pS 31 45 32 4294967295 HT_ ?_
        refine done_ (done_of HT_.out (by kernel_rfl)) ?_
        go_wp2_with fail
        exact ⟨hgo _ _ H hb2, hme⟩
    · obtain rfl : j = l0_1.length := by omega
      have gl : ¬ (l0_1.length : Int) < (l0_1.length : Int) := by omega
      rw [if_neg gl] at H
      obtain rfl := Option.some.inj H
      go_wp2_with fail
      go_ret
      exact ⟨_, rfl, hR, hB⟩
end Go.Proofs.YtmimnlbkllgfpaaGreatDoor.A
