/- TrackerPlays: walked. -/
import Derived.Test.YtmimnlbkllgfpaaGreatDoorSg
import Derived.Test.YtmimnlbkllgfpaaGreatDoorPz
import Derived.Test.YtmimnlbkllgfpaaGreatDoorWMore
namespace Go.Proofs.YtmimnlbkllgfpaaGreatDoor.Tb
open Go.RowKit Go.Proofs.YtmimnlbkllgfpaaGreatDoor.Sg Go.Maps Go.Proofs.YtmimnlbkllgfpaaGreatDoor.A Go.Proofs.YtmimnlbkllgfpaaGreatDoor.Sq Go.Proofs.YtmimnlbkllgfpaaGreatDoorW.PrintWords Go.Proofs.YtmimnlbkllgfpaaGreatDoorW.PrintLast Go.Proofs.YtmimnlbkllgfpaaGreatDoor.Di Go.Proofs.YtmimnlbkllgfpaaGreatDoor.So Go.Proofs.YtmimnlbkllgfpaaGreatDoor.Hand
set_option linter.unusedSimpArgs false
set_option linter.unusedVariables false

theorem Ann.okT {room : Int} {x : Nt} {now : Int} {T T' : TT} {c : Int} (h : Ann room x now T c T') (hO : OkT T) : OkT T' := by
  cases h with
  | arg _ => exact hO
  | full _ _ _ _ _ => exact hO
  | ok hm _ =>
    intro s j y hy
    unfold putT at hy
    split at hy
    · obtain rfl := Option.some.inj hy
      have hp := ((may_iff x now).1 hm).2.2.2.1
      unfold okP ntP
      rw [okB_iff]; exact hp
    · have h2 : swp now (T s j) = some y := hy
      cases ht : T s j with
      | none => rw [ht] at h2; cases h2
      | some z =>
        rw [ht] at h2
        have h3 : (if z.f3 < now then none else some z) = some y := h2
        split at h3
        · cases h3
        · obtain rfl := Option.some.inj h3; exact hO s j _ ht
theorem okT_none : OkT noT := fun s j x h => by cases h
def plays.T23 : Bool × List (List Nat × List Nat) := (true, [([], []), ([], []), ([1], [1]), ([], []), ([3], [3]), ([4], [4]), ([], []), ([6], [6]), ([], []), ([8], [8]), ([0, 2, 5, 7, 9, 5], [0, 2, 5, 7, 9]), ([10], [10]), ([11], [11]), ([11], [11]), ([12, 10, 0, 1, 2, 3, 4, 5, 6, 7, 8, 9, 10, 11, 12], [12]), ([13, 14, 0, 1, 2, 3, 4, 5, 6, 7, 8, 9, 10, 11, 12, 13, 14], [13])])
def plays.B23 : List Nat := [0, 0, 2, 0, 8, 24, 0, 64, 0, 256, 1023, 2047, 4095, 4095, 8191, 32767]
theorem plays.tab23 : rtab .any (opsOf Tryz.f3 23) = plays.T23 := by kernel_rfl
theorem plays.bits23 : waitsOk plays.T23.2 plays.B23 = true := by kernel_rfl
def plays.T25 : Bool × List (List Nat × List Nat) := (true, [([], []), ([], []), ([1], [1]), ([], []), ([3], [3]), ([], []), ([5], [5]), ([6], [6]), ([], []), ([8], [8]), ([0, 2, 4, 7, 9, 7], [0, 2, 4, 7, 9]), ([10], [10]), ([11], [11]), ([11], [11]), ([12, 10, 0, 1, 2, 3, 4, 5, 6, 7, 8, 9, 10, 11, 12], [12]), ([13, 14, 0, 1, 2, 3, 4, 5, 6, 7, 8, 9, 10, 11, 12, 13, 14], [13])])
def plays.B25 : List Nat := [0, 0, 2, 0, 8, 0, 32, 96, 0, 256, 1023, 2047, 4095, 4095, 8191, 32767]
theorem plays.tab25 : rtab .any (opsOf Tryz.f3 25) = plays.T25 := by kernel_rfl
theorem plays.bits25 : waitsOk plays.T25.2 plays.B25 = true := by kernel_rfl
def plays.T26 : Bool × List (List Nat × List Nat) := (true, [([], []), ([], []), ([0, 1], [0, 1]), ([2], [2]), ([3, 2], [3]), ([4], [4]), ([4], [4]), ([5, 6, 4], [4, 5, 6]), ([4, 7], [4, 7]), ([8, 4], [8]), ([9], [9]), ([9], [9]), ([10, 11, 9], [9, 10, 11]), ([9, 12], [9, 12]), ([13, 9], [13]), ([14], [14]), ([14], [14]), ([15, 16, 14], [14, 15, 16]), ([14, 17], [14, 17]), ([18, 14], [18]), ([19], [19]), ([19], [19]), ([21, 19], [19, 21]), ([19], [19]), ([23, 19], [19, 23]), ([20, 22, 24, 19, 19], [19, 20, 22, 24]), ([19], [19]), ([19], [19]), ([27, 19], [19, 27]), ([19], [19]), ([29, 19], [19, 29]), ([26, 28, 30, 25, 19], [19, 26, 28, 30]), ([25, 31, 31, 19], [19, 25, 31]), ([32, 19], [19, 32]), ([19, 33], [19, 33]), ([34, 32], [34]), ([35], [35]), ([35], [35]), ([37, 35], [35, 37]), ([36, 38, 35, 35], [35, 36, 38]), ([35], [35]), ([35], [35]), ([41, 35], [35, 41]), ([40, 42, 39, 35], [35, 40, 42]), ([39, 43, 43, 35], [35, 39, 43]), ([44, 35], [35, 44]), ([35, 45], [35, 45]), ([46, 44], [46]), ([47], [47]), ([47], [47]), ([49, 47], [47, 49]), ([48, 50, 47, 47], [47, 48, 50]), ([47], [47]), ([47], [47]), ([53, 47], [47, 53]), ([52, 54, 51, 47], [47, 52, 54]), ([55, 47], [47, 55]), ([51, 56, 47], [47, 51, 56]), ([47, 57], [47, 57]), ([58, 55], [58]), ([59], [59]), ([59], [59]), ([61, 59], [59, 61]), ([60, 62, 59, 59], [59, 60, 62]), ([59], [59]), ([59], [59]), ([65, 59], [59, 65]), ([64, 66, 63, 59], [59, 64, 66]), ([63, 67, 67, 59], [59, 63, 67]), ([68, 59], [59, 68]), ([59, 69], [59, 69])])
def plays.B26 : List Nat := [0, 0, 3, 7, 15, 31, 31, 127, 255, 511, 1023, 1023, 4095, 8191, 16383, 32767, 32767, 131071, 262143, 524287, 1048575, 1048575, 3145727, 1048575, 9437183, 33554431, 1048575, 1048575, 135266303, 1048575, 537919487, 2147483647, 4294967295, 8589934591, 17179869183, 34359738367, 68719476735, 68719476735, 206158430207, 549755813887, 68719476735, 68719476735, 2267742732287, 8796093022207, 17592186044415, 35184372088831, 70368744177663, 140737488355327, 281474976710655, 281474976710655, 844424930131967, 2251799813685247, 281474976710655, 281474976710655, 9288674231451647, 36028797018963967, 72057594037927935, 144115188075855871, 288230376151711743, 576460752303423487, 1152921504606846975, 1152921504606846975, 3458764513820540927, 9223372036854775807, 1152921504606846975, 1152921504606846975, 38046409652025950207, 147573952589676412927, 295147905179352825855, 590295810358705651711, 1180591620717411303423]
theorem plays.tab26 : rtab .any (opsOf Tryz.f3 26) = plays.T26 := by kernel_rfl
theorem plays.bits26 : waitsOk plays.T26.2 plays.B26 = true := by kernel_rfl
def plays.T14 : Bool × List (List Nat × List Nat) := (true, [([], []), ([], []), ([1], [1]), ([2], [2]), ([], []), ([4], [4]), ([0, 3, 5, 3], [0, 3, 5]), ([6], [6]), ([7], [7]), ([7], [7]), ([], []), ([10, 8, 6, 0, 1, 2, 3, 4, 5, 6, 7, 8, 10], [8, 10]), ([9, 11, 0, 1, 2, 3, 4, 5, 6, 7, 8, 9, 10, 11], [9])])
def plays.B14 : List Nat := [0, 0, 2, 6, 0, 16, 63, 127, 255, 255, 0, 1535, 4095]
theorem plays.tab14 : rtab .any (opsOf Tryz.f3 14) = plays.T14 := by kernel_rfl
theorem plays.bits14 : waitsOk plays.T14.2 plays.B14 = true := by kernel_rfl
namespace BPv
theorem b0 {p : Prop} (h : p := by simp only [Act.put, sA, sB, sC, i64_w, i32_w, sD, bne_self_eq_false, Bool.not_true]; rfl) : p := h
theorem b1 {p : Prop} (h : p := by (try simp only [List.map_toArray, List.map_cons, List.map_nil]); first | done | rfl) : p := h
end BPv
open BPv
set_option maxHeartbeats 4000000 in
set_option maxRecDepth 100000 in
/-- Too much is given: the page's example alone. -/
theorem plays_out (room : Int) (l : List S37) (A : Option Addr) (cp : Nat) (qn qt : ByteArray) (px py qk qw : Int) (w : World) (hC : Kd.C k37 w A l.length l) (hcp : l.length ≤ cp) (hf : mosaiclaw31_few.f 62 l qn qt px py qk qw = some false) :
    Calls Tryz.prog 3 #[.int .i64 room, .slice A l.length cp, .agg #[.string qn, .string qt, .int .i64 px, .int .i64 py, .int .i64 qk, .int .i64 qw]] w fun e w' => e = .returned (.bool true) ∧ Below w.heap.size w w' := by
  have hAw := fun W => awake_calls W
  have hFw := fun (W : World) (h : Below w.heap.size w W) => mosaiclaw31_few.calls 62 A cp l qn qt px py qk qw false W (Kd.C_below hC h) hcp hf
  have hB1 : Below w.heap.size w (w.alloc (.cells #[.string qn, .string qt, .int .i64 px, .int .i64 py, .int .i64 qk, .int .i64 qw] 26)) := (Below.refl _ w).alloc (Nat.le_refl _) _
  have hbx := blk_new w (.cells #[.string qn, .string qt, .int .i64 px, .int .i64 py, .int .i64 qk, .int .i64 qw] 26)
  clear hC hf
  go_enter Tryz.func3, Tryz.ntmps3
  go_wp2_with (first
    | (go_at_call 5; refine (hFw _ hB1).mono ?_; rintro e w2 ⟨rfl, hb2⟩; have hB2 := hB1.trans (hb2.mono hB1.size); have hbx2 := blk_below hbx hb2)
    | (go_at_call 6; refine (hAw _).mono ?_; rintro e w3 ⟨rfl, hb3⟩))
  go_ret
  exact ⟨rfl, hB2.trans (hb3.mono hB2.size)⟩
set_option maxHeartbeats 4000000 in
set_option maxRecDepth 100000 in
/-- A room that may not be: no table. -/
theorem plays_room (room : Int) (l : List S37) (A : Option Addr) (cp : Nat) (qn qt : ByteArray) (px py qk qw : Int) (w : World) (hC : Kd.C k37 w A l.length l) (hcp : l.length ≤ cp) (hf : mosaiclaw31_few.f 62 l qn qt px py qk qw = some true) (hr : room < 1 ∨ 64 < room) :
    Calls Tryz.prog 3 #[.int .i64 room, .slice A l.length cp, .agg #[.string qn, .string qt, .int .i64 px, .int .i64 py, .int .i64 qk, .int .i64 qw]] w fun e w' => e = .returned (.bool true) ∧ Below w.heap.size w w' := by
  have hAw := fun W => awake_calls W
  have hNew := fun W => new_none room W hr
  have hFw := fun (W : World) (h : Below w.heap.size w W) => mosaiclaw31_few.calls 62 A cp l qn qt px py qk qw true W (Kd.C_below hC h) hcp hf
  have hB1 : Below w.heap.size w (w.alloc (.cells #[.string qn, .string qt, .int .i64 px, .int .i64 py, .int .i64 qk, .int .i64 qw] 26)) := (Below.refl _ w).alloc (Nat.le_refl _) _
  have hbx := blk_new w (.cells #[.string qn, .string qt, .int .i64 px, .int .i64 py, .int .i64 qk, .int .i64 qw] 26)
  clear hC hf
  by_cases h1 : room < 1
  · clear hr
    go_enter Tryz.func3, Tryz.ntmps3
    go_wp2_with (first
      | (go_at_call 5; refine (hFw _ hB1).mono ?_; rintro e w2 ⟨rfl, hb2⟩; have hB2 := hB1.trans (hb2.mono hB1.size); have hbx2 := blk_below hbx hb2)
      | (go_at_call 7; refine (hNew _).mono ?_; rintro e w4 ⟨rfl, hb4⟩)
      | (go_at_call 6; refine (hAw _).mono ?_; rintro e w3 ⟨rfl, hb3⟩))
    go_ret
    exact ⟨rfl, hB2.trans ((hb4.trans (hb3.mono hb4.size)).mono hB2.size)⟩
  · have h2 : room > 64 := by omega
    clear hr
    go_enter Tryz.func3, Tryz.ntmps3
    go_wp2_with (first
      | (go_at_call 5; refine (hFw _ hB1).mono ?_; rintro e w2 ⟨rfl, hb2⟩; have hB2 := hB1.trans (hb2.mono hB1.size); have hbx2 := blk_below hbx hb2)
      | (go_at_call 7; refine (hNew _).mono ?_; rintro e w4 ⟨rfl, hb4⟩)
      | (go_at_call 6; refine (hAw _).mono ?_; rintro e w3 ⟨rfl, hb3⟩))
    go_ret
    exact ⟨rfl, hB2.trans ((hb4.trans (hb3.mono hb4.size)).mono hB2.size)⟩
theorem dref (a : ByteArray) (b c d e : Int) : mosaiclaw31_ref.f a b c d e = some (a, b, c, d, e) := by
  unfold mosaiclaw31_ref.f mosaiclaw17_Ref.f; rfl
set_option maxHeartbeats 16000000 in
set_option maxRecDepth 100000 in
theorem plays_in (room : Int) (l : List S37) (A : Option Addr) (cp : Nat) (qn qt : ByteArray) (px py qk qw : Int) (w : World) (hC : Kd.C k37 w A l.length l) (hcp : l.length ≤ cp) (hf : mosaiclaw31_few.f 62 l qn qt px py qk qw = some true) (hF : Few l qn qt) (h1 : 1 ≤ room) (h64 : room ≤ 64) (hL : TabW w) :
    Calls Tryz.prog 3 #[.int .i64 room, .slice A l.length cp, .agg #[.string qn, .string qt, .int .i64 px, .int .i64 py, .int .i64 qk, .int .i64 qw]] w fun e w' => e = .returned (.bool true) ∧ Below w.heap.size w w' := by
  have hAw := fun W => awake_calls W
  have hNew := fun W => new_ok room W h1 h64
  have hFw := fun (W : World) (h : Below w.heap.size w W) => mosaiclaw31_few.calls 62 A cp l qn qt px py qk qw true W (Kd.C_below hC h) hcp hf
  have hB1 : Below w.heap.size w (w.alloc (.cells #[.string qn, .string qt, .int .i64 px, .int .i64 py, .int .i64 qk, .int .i64 qw] 26)) := (Below.refl _ w).alloc (Nat.le_refl _) _
  have hbx := blk_new w (.cells #[.string qn, .string qt, .int .i64 px, .int .i64 py, .int .i64 qk, .int .i64 qw] 26)
  have HC := Aside.mk hC
  have HLB := Aside.mk hL
  have HF := Aside.mk hF
  have g1 : ¬ room < 1 := by omega
  have g2 : ¬ room > 64 := by omega
  clear hC hf hL hF h1 h64
  go_enter Tryz.func3, Tryz.ntmps3
  go_wp2_with (first
    | (go_at_call 5; refine (hFw _ hB1).mono ?_; rintro e w2 ⟨rfl, hb2⟩; have hB2 := hB1.trans (hb2.mono hB1.size); have hbx2 := blk_below hbx hb2)
    | (go_at_call 7; refine (hNew _).mono ?_; rintro e w3 ⟨t, bm, rfl, hT3, hb3⟩; have hbr := blk_new w3 (.cells #[.int .i64 room, .slice none 0 0] 33); have hb4 := below_alloc hb3 (.cells #[.int .i64 room, .slice none 0 0] 33); have hT4 := hT3.below (below_alloc (Below.refl _ _) (.cells #[.int .i64 room, .slice none 0 0] 33)))
    | (go_at_call 6; refine (hAw _).mono ?_; rintro e w5 ⟨rfl, hb5⟩; have hT5 := hT4.below hb5; have hr5 := blk_below hbr hb5; have hB5 := hb4.trans (hb5.mono hb4.size)))
  obtain ⟨wB, hwB⟩ : ∃ wB, wB = w2 := ⟨_, rfl⟩
  subst hwB
  obtain ⟨rb, hrb⟩ : ∃ rb, rb = w3.heap.size := ⟨_, rfl⟩
  have hlr : wB.heap.size ≤ rb := by rw [hrb]; exact hb3.size
  rw [← hrb] at hr5 ⊢
  have HCB := Aside.mk (Kd.C_below HC.out hB2)
  have HX := Aside.mk (And.intro hbx2 (And.intro hB2 hlr))
  clear hB1 hbx hb2 hb3 hbr hb4 hT3 hT4 hb5 hAw hNew hFw hbx2 hB2 hrb
  go_loopw [9] (fun iv wr => ∃ (i : Nat) (D : DataW Unit) (T : TT) (L : List S42) (v : Value), i ≤ l.length ∧ iv = .int .i64 i ∧ Tab wr wB.heap.size t bm i room D T ∧ OkT T ∧ Dc T L ∧ L.length ≤ i ∧ wr.heap[rb]? = some (.cells #[.int .i64 room, v] 33 (0, 0)) ∧ Kd.R k42 42 wr wB.heap.size (fun _ => True) v L ∧ Below wB.heap.size wB wr) (fun iv _ => l.length - (intOf iv).toNat)
  case atStart => exact ⟨0, _, _, [], _, by omega, rfl, hT5, okT_none, dc_none, by simp, hr5, Kd.R_nil _ _ _ _ _, hB5⟩
  case round =>
    obtain ⟨i, D, T, L, v, hi, rfl, hT, hOk, hD, hLl, hr, hR, hB⟩ := hrel
    have hl60 := HF.out.1
    by_cases hlt : i < l.length
    · have gl : (i : Int) < (l.length : Int) := by omega
      have p0i : (0 : Int) ≤ (i : Int) := by omega
      have wi : IntKind.i64.wrap ((i : Int) + 1) = ((i + 1 : Nat) : Int) := by rw [IntKind.wrap_i64]; omega
      obtain ⟨ad, rfl, d0, d1, d2, d3, d4, d5, d6⟩ := at_T37 HCB.out (i : Int) p0i gl
      rw [Int.toNat_natCast] at d0 d1 d2 d3 d4 d5 d6
      have hnm : (rd_T37 l (i : Int)).f2.f0.size ≤ maxLen := by
        have := HF.out.2.1 i (rd_T37 l (i : Int)) (by unfold rd_T37; rw [Int.toNat_natCast, List.getD_eq_getElem?_getD, List.getElem?_eq_getElem hlt]; rfl)
        unfold maxLen; omega
      generalize rd_T37 l (i : Int) = a at *
      have tr : ∀ {p : Addr} {v : Value}, wB.cell? p = some v → wr.cell? p = some v := fun {p v} h => (hB.cell (World.block_lt_of_cell? _ _ h)).trans h
      replace d0 := tr d0
      replace d1 := tr d1
      replace d2 := tr d2
      replace d3 := tr d3
      replace d4 := tr d4
      replace d5 := tr d5
      replace d6 := tr d6
      obtain ⟨Av, cv, hv⟩ := Kd.R_slice hR
      subst hv
      obtain ⟨v, hv⟩ : ∃ v, v = Value.slice Av L.length cv := ⟨_, rfl⟩
      rw [← hv] at hr hR
      obtain ⟨n, hn⟩ : ∃ n, n = i := ⟨_, rfl⟩
      have hDy : ∀ (_ : True), Dy wB t bm n room rb wr.heap.size a v (wr.alloc (.cells #[.int .i64 a.f0, .int .i64 a.f1, .string a.f2.f0, .int .i64 a.f2.f1, .int .i64 a.f2.f2.f0, .int .i64 a.f2.f2.f1, .int .i64 a.f2.f3] 37)) D T v L := fun _ => by
        have hal := below_alloc (Below.refl wr.heap.size wr) (.cells #[.int .i64 a.f0, .int .i64 a.f1, .string a.f2.f0, .int .i64 a.f2.f1, .int .i64 a.f2.f2.f0, .int .i64 a.f2.f2.f1, .int .i64 a.f2.f3] 37)
        exact ⟨by rw [hn]; exact hT.below hal, below_alloc hB _, blk_alloc hr _, blk_new wr _, Kd.R_alloc hR _, hOk, hD, by rw [hn]; exact hLl⟩
      replace hDy := hDy trivial
      have HN := Aside.mk (And.intro hn (And.intro hi (And.intro hlt (And.intro hnm hl60))))
      clear hT hD hLl hr hR hB tr
      go_upto_region 13 with (fail)
      clear d0 d1 d2 d3 d4 d5 d6
      generalize (wr.alloc (.cells #[.int .i64 a.f0, .int .i64 a.f1, .string a.f2.f0, .int .i64 a.f2.f1, .int .i64 a.f2.f2.f0, .int .i64 a.f2.f2.f1, .int .i64 a.f2.f3] 37)) = wa at *
      generalize wr.heap.size = ab at *
      clear hn hi hlt hnm hl60
      have hn8 : n ≤ 800 := by have := HN.out; omega
      have k0 : wa.cell? ⟨ab, 0, none⟩ = some (.int .i64 a.f0) := blk_cell hDy.ablk 0
      go_upto_if 61 with (fail)
      go_cut [] (fun wc => ∃ (D' : DataW Unit) (T' : TT) (v' : Value) (L' : List S42), Dy wB t bm (n + 1) room rb ab a v' wc D' T' v' L')
      case first =>
        by_cases hkd : a.f0 = 0
        · have hk0 : (a.f0 == 0) = true := by rw [hkd]; rfl
          obtain ⟨c, T', hAnn⟩ := ann_ex hDy.tab a.f2 a.f1
          obtain ⟨L', hfd, hD', hl'⟩ := hDy.ann hn8 hAnn
          have hDoc := fun W (h : Dy wB t bm n room rb ab a v W D T v L) => h.annC hfd
          have hS14' : ∀ (W : World), W.heap[rb]? = some (.cells #[.int .i64 room, v] 33 (0, 0)) → W.heap[ab]? = some (.cells #[.int .i64 a.f0, .int .i64 a.f1, .string a.f2.f0, .int .i64 a.f2.f1, .int .i64 a.f2.f2.f0, .int .i64 a.f2.f2.f1, .int .i64 a.f2.f3] 37 (0, 0)) → (fun W => W.cell? ⟨rb, 0, none⟩ = some (.int .i64 room) ∧ W.cell? ⟨rb, 1, none⟩ = some (v) ∧ W.cell? ⟨ab, 0, none⟩ = some (.int .i64 a.f0) ∧ W.cell? ⟨ab, 1, none⟩ = some (.int .i64 a.f1) ∧ W.cell? ⟨ab, 2, none⟩ = some (.string a.f2.f0) ∧ W.cell? ⟨ab, 3, none⟩ = some (.int .i64 a.f2.f1) ∧ W.cell? ⟨ab, 4, none⟩ = some (.int .i64 a.f2.f2.f0) ∧ W.cell? ⟨ab, 5, none⟩ = some (.int .i64 a.f2.f2.f1) ∧ W.cell? ⟨ab, 6, none⟩ = some (.int .i64 a.f2.f3)) W := fun W q1 q2 => ⟨blk_cell q1 0, blk_cell q1 1, blk_cell q2 0, blk_cell q2 1, blk_cell q2 2, blk_cell q2 3, blk_cell q2 4, blk_cell q2 5, blk_cell q2 6⟩
          have hS14 : ∀ W, Dy wB t bm n room rb ab a v W D T v L → (fun W => W.cell? ⟨rb, 0, none⟩ = some (.int .i64 room) ∧ W.cell? ⟨rb, 1, none⟩ = some (v) ∧ W.cell? ⟨ab, 0, none⟩ = some (.int .i64 a.f0) ∧ W.cell? ⟨ab, 1, none⟩ = some (.int .i64 a.f1) ∧ W.cell? ⟨ab, 2, none⟩ = some (.string a.f2.f0) ∧ W.cell? ⟨ab, 3, none⟩ = some (.int .i64 a.f2.f1) ∧ W.cell? ⟨ab, 4, none⟩ = some (.int .i64 a.f2.f2.f0) ∧ W.cell? ⟨ab, 5, none⟩ = some (.int .i64 a.f2.f2.f1) ∧ W.cell? ⟨ab, 6, none⟩ = some (.int .i64 a.f2.f3)) W := fun W h => hS14' W h.rblk h.ablk
          have HA := Aside.mk (And.intro hAnn (And.intro hD' (And.intro hl' (And.intro hkd hDy.okT))))
          have hlw := hDy.bel.size
          clear hAnn hD' hl' hkd hfd hv
          go_upto_region 14 with (fail)
          refine start_ (n := 13) (S := fun W => W.cell? ⟨rb, 0, none⟩ = some (.int .i64 room) ∧ W.cell? ⟨rb, 1, none⟩ = some (v) ∧ W.cell? ⟨ab, 0, none⟩ = some (.int .i64 a.f0) ∧ W.cell? ⟨ab, 1, none⟩ = some (.int .i64 a.f1) ∧ W.cell? ⟨ab, 2, none⟩ = some (.string a.f2.f0) ∧ W.cell? ⟨ab, 3, none⟩ = some (.int .i64 a.f2.f1) ∧ W.cell? ⟨ab, 4, none⟩ = some (.int .i64 a.f2.f2.f0) ∧ W.cell? ⟨ab, 5, none⟩ = some (.int .i64 a.f2.f2.f1) ∧ W.cell? ⟨ab, 6, none⟩ = some (.int .i64 a.f2.f3)) (ds := [11]) (fB 13 0) (by kernel_rfl) rfl rfl (hS14 _ (hDy.below (below_drew1 (Below.refl _ _)))) (fun hHeld => ?_)
          refine with_tabW plays.tab14 plays.bits14 (fun HT_ HW_ => ?_)
          have hDy0 := hDy.below (below_drew1 (Below.refl _ _))
          generalize wa.drew = w0 at *
          refine pS 1 64 13 2 HT_ ?_
          refine pS 4 67 13 18 HT_ ?_
          refine tS 0 63 13 19 HT_ HW_ hHeld ?_
          refine tS 2 65 13 23 HT_ HW_ hHeld ?_
          refine tS 5 68 13 55 HT_ HW_ hHeld ?_
          refine join_ (σ := Nat × Value) 2 (fB 13 2047) (fun s => [(66, .agg #[.string a.f2.f0, .int .i64 a.f2.f1, .int .i64 a.f2.f2.f0, .int .i64 a.f2.f2.f1, .int .i64 a.f2.f3]), (69, .tuple #[.agg #[.int .i64 room, s.2], .int .i64 c]), (62, .tuple #[.agg #[.int .i64 room, s.2], .int .i64 c]), (70, .agg #[.int .i64 room, s.2]), (71, .int .i64 c), (11, .pointer (some ⟨s.1, 0, none⟩))]) (fun s W => Tab W wB.heap.size t bm n room D T ∧ Below wB.heap.size wB W ∧ W.heap[rb]? = some (.cells #[.int .i64 room, v] 33 (0, 0)) ∧ W.heap[ab]? = some (.cells #[.int .i64 a.f0, .int .i64 a.f1, .string a.f2.f0, .int .i64 a.f2.f1, .int .i64 a.f2.f2.f0, .int .i64 a.f2.f2.f1, .int .i64 a.f2.f3] 37 (0, 0)) ∧ Kd.R k42 42 W wB.heap.size (fun _ => True) s.2 L' ∧ W.heap[s.1]? = some (.cells #[.int .i64 0, .slice none 0 0] 33 (0, 0)) ∧ s.1 ≠ rb ∧ wB.heap.size ≤ s.1) ?_ ?_
          rotate_left
          · intro hcont
            refine two_ (i := 3) (j := 10) (Ni := some 66) (Nj := some 11) (fB 13 63) (fB 13 1079) rfl rfl rfl rfl (two_of HT_.out (by kernel_rfl)) (by decide) (by decide) (fun K hK => ?_) (fun K hK => ?_)
            · refine goes_ Tryz.func9 (by kernel_rfl) rfl #[.agg #[.string a.f2.f0, .int .i64 a.f2.f1, .int .i64 a.f2.f2.f0, .int .i64 a.f2.f2.f1, .int .i64 a.f2.f3]] (by rfl) rfl rfl b1 ?_
              refine (mosaiclaw31_ref.calls a.f2.f0 a.f2.f1 a.f2.f2.f0 a.f2.f2.f1 a.f2.f3 _ _ _ _ _ _ (dref _ _ _ _ _)).mono ?_
              rintro e w3 ⟨rfl, hq⟩
              refine ⟨_, rfl, ?_⟩
              have hDy3 := hDy0.below hq
              refine hK.out _ _ (hS14 _ hDy3) (fun hHeld => ?_)
              clear hK K
              refine norm_ (a' := ?_) ?_ ?_
              rotate_left
              · show Act.put _ (some 66) _ = _
                simp only [Act.put, sA, sB, sC, i64_w, i32_w, sD]
                rfl
              refine two_ (i := 6) (j := 10) (Ni := some 69) (Nj := some 11) (fB 13 127) (fB 13 1087) rfl rfl rfl rfl (two_of HT_.out (by kernel_rfl)) (by decide) (by decide) (fun K hK => ?_) (fun K hK => ?_)
              · refine goes_ Tryz.func8 (by kernel_rfl) rfl #[.agg #[.int .i64 room, v], .agg #[.string a.f2.f0, .int .i64 a.f2.f1, .int .i64 a.f2.f2.f0, .int .i64 a.f2.f2.f1, .int .i64 a.f2.f3], .int .i64 a.f1] (by rfl) rfl rfl b1 ?_
                refine (hDoc _ hDy3).mono ?_
                rintro e w4 ⟨v', rfl, hT4, hB4, hr4, ha4, hR4, hz4, hk4⟩
                refine ⟨_, rfl, ?_⟩
                refine hK.out _ _ (hS14' _ hr4 (ha4.trans hDy3.ablk)) (fun hHeld => ?_)
                clear hK K
                refine norm_ (a' := ?_) ?_ ?_
                rotate_left
                · show Act.put _ (some 69) _ = _
                  simp only [Act.put, sA, sB, sC, i64_w, i32_w, sD]
                  rfl
                refine pS 7 62 13 255 HT_ ?_
                refine pS 8 70 13 511 HT_ ?_
                refine pS 9 71 13 1023 HT_ ?_
                refine one_ (i := 10) (N := some 11) (fB 13 2047) rfl rfl (one_of HT_.out (by kernel_rfl)) (by decide) (fun K hK => ?_)
                refine value_ (w1 := ?_) (v := ?_) (by rfl) rfl ?_ ?_
                rotate_left 2
                · go_simp
                  constructor
                  · rfl
                  · rfl
                refine hK.out _ _ (hS14' _ (blk_alloc hr4 _) (blk_alloc (ha4.trans hDy3.ablk) _)) (fun hHeld => ?_)
                clear hK K
                refine norm_ (a' := ?_) ?_ ?_
                rotate_left
                · show Act.put _ (some 11) _ = _
                  simp only [Act.put, sA, sB, sC, i64_w, i32_w, sD]
                  rfl
                have hc := hcont (w4.heap.size, v') _ ⟨hT4.below (below_alloc (Below.refl _ _) _), below_alloc hB4 _, blk_alloc hr4 _, blk_alloc (ha4.trans hDy3.ablk) _, Kd.R_alloc hR4 _, blk_new w4 _, (by have := lt_of_some hr4; show w4.heap.size ≠ rb; omega), hB4.size⟩
                simp only [putAll, Act.put, sA, sB, sC] at hc
                exact hc
              · refine value_ (w1 := ?_) (v := ?_) (by rfl) rfl ?_ ?_
                rotate_left 2
                · go_simp
                  constructor
                  · rfl
                  · rfl
                have hDy4 := hDy3.below (below_alloc (Below.refl _ _) (.cells #[.int .i64 0, .slice none 0 0] 33))
                have hq4 := blk_new w3 (.cells #[.int .i64 0, .slice none 0 0] 33)
                refine hK.out _ _ (hS14 _ hDy4) (fun hHeld => ?_)
                clear hK K
                refine norm_ (a' := ?_) ?_ ?_
                rotate_left
                · show Act.put _ (some 11) _ = _
                  simp only [Act.put, sA, sB, sC, i64_w, i32_w, sD]
                  rfl
                refine one_ (i := 6) (N := some 69) (fB 13 1151) rfl rfl (one_of HT_.out (by kernel_rfl)) (by decide) (fun K hK => ?_)
                refine goes_ Tryz.func8 (by kernel_rfl) rfl #[.agg #[.int .i64 room, v], .agg #[.string a.f2.f0, .int .i64 a.f2.f1, .int .i64 a.f2.f2.f0, .int .i64 a.f2.f2.f1, .int .i64 a.f2.f3], .int .i64 a.f1] (by rfl) rfl rfl b1 ?_
                refine (hDoc _ hDy4).mono ?_
                rintro e w4 ⟨v', rfl, hT4, hB4, hr4, ha4, hR4, hz4, hk4⟩
                refine ⟨_, rfl, ?_⟩
                refine hK.out _ _ (hS14' _ hr4 (ha4.trans hDy4.ablk)) (fun hHeld => ?_)
                clear hK K
                refine norm_ (a' := ?_) ?_ ?_
                rotate_left
                · show Act.put _ (some 69) _ = _
                  simp only [Act.put, sA, sB, sC, i64_w, i32_w, sD]
                  rfl
                refine pS 7 62 13 1279 HT_ ?_
                refine pS 8 70 13 1535 HT_ ?_
                refine pS 9 71 13 2047 HT_ ?_
                have hc := hcont (w3.heap.size, v') _ ⟨hT4, hB4, hr4, ha4.trans hDy4.ablk, hR4, hk4 _ _ hq4 (fun cs h => by cases h), (by have := lt_of_some hDy3.rblk; show w3.heap.size ≠ rb; omega), hDy3.bel.size⟩
                simp only [putAll, Act.put, sA, sB, sC] at hc
                exact hc
            · refine value_ (w1 := ?_) (v := ?_) (by rfl) rfl ?_ ?_
              rotate_left 2
              · go_simp
                constructor
                · rfl
                · rfl
              have hDy3 := hDy0.below (below_alloc (Below.refl _ _) (.cells #[.int .i64 0, .slice none 0 0] 33))
              have hq3 := blk_new w0 (.cells #[.int .i64 0, .slice none 0 0] 33)
              refine hK.out _ _ (hS14 _ hDy3) (fun hHeld => ?_)
              clear hK K
              refine norm_ (a' := ?_) ?_ ?_
              rotate_left
              · show Act.put _ (some 11) _ = _
                simp only [Act.put, sA, sB, sC, i64_w, i32_w, sD]
                rfl
              refine one_ (i := 3) (N := some 66) (fB 13 1087) rfl rfl (one_of HT_.out (by kernel_rfl)) (by decide) (fun K hK => ?_)
              refine goes_ Tryz.func9 (by kernel_rfl) rfl #[.agg #[.string a.f2.f0, .int .i64 a.f2.f1, .int .i64 a.f2.f2.f0, .int .i64 a.f2.f2.f1, .int .i64 a.f2.f3]] (by rfl) rfl rfl b1 ?_
              refine (mosaiclaw31_ref.calls a.f2.f0 a.f2.f1 a.f2.f2.f0 a.f2.f2.f1 a.f2.f3 _ _ _ _ _ _ (dref _ _ _ _ _)).mono ?_
              rintro e w4 ⟨rfl, hq⟩
              refine ⟨_, rfl, ?_⟩
              have hDy4 := hDy3.below hq
              have hq4 := blk_below hq3 hq
              refine hK.out _ _ (hS14 _ hDy4) (fun hHeld => ?_)
              clear hK K
              refine norm_ (a' := ?_) ?_ ?_
              rotate_left
              · show Act.put _ (some 66) _ = _
                simp only [Act.put, sA, sB, sC, i64_w, i32_w, sD]
                rfl
              refine one_ (i := 6) (N := some 69) (fB 13 1151) rfl rfl (one_of HT_.out (by kernel_rfl)) (by decide) (fun K hK => ?_)
              refine goes_ Tryz.func8 (by kernel_rfl) rfl #[.agg #[.int .i64 room, v], .agg #[.string a.f2.f0, .int .i64 a.f2.f1, .int .i64 a.f2.f2.f0, .int .i64 a.f2.f2.f1, .int .i64 a.f2.f3], .int .i64 a.f1] (by rfl) rfl rfl b1 ?_
              refine (hDoc _ hDy4).mono ?_
              rintro e w6 ⟨v', rfl, hT4, hB4, hr4, ha4, hR4, hz4, hk4⟩
              refine ⟨_, rfl, ?_⟩
              refine hK.out _ _ (hS14' _ hr4 (ha4.trans hDy4.ablk)) (fun hHeld => ?_)
              clear hK K
              refine norm_ (a' := ?_) ?_ ?_
              rotate_left
              · show Act.put _ (some 69) _ = _
                simp only [Act.put, sA, sB, sC, i64_w, i32_w, sD]
                rfl
              refine pS 7 62 13 1279 HT_ ?_
              refine pS 8 70 13 1535 HT_ ?_
              refine pS 9 71 13 2047 HT_ ?_
              have hc := hcont (w0.heap.size, v') _ ⟨hT4, hB4, hr4, ha4.trans hDy4.ablk, hR4, hk4 _ _ hq4 (fun cs h => by cases h), (by have := lt_of_some hDy0.rblk; show w0.heap.size ≠ rb; omega), hDy0.bel.size⟩
              simp only [putAll, Act.put, sA, sB, sC] at hc
              exact hc
          rintro ⟨qb, u⟩ w5 ⟨hT5, hB5, hr5, ha5, hR5, hq5, hqr, hlq⟩
          obtain ⟨Au, cu, hu⟩ := Kd.R_slice hR5
          simp only at hu hR5 hq5 hqr hlq
          subst hu
          refine norm_ (a' := ?_) ?_ ?_
          rotate_left
          · simp only [putAll, Act.put, sA, sB, sC]
            rfl
          refine last_ (i := 11) (N := none) (fB 13 4095) rfl rfl (one_of HT_.out (by kernel_rfl)) (by decide) (fun K hK => ?_)
          have hc0 : w5.cell? ⟨qb, 0, none⟩ = some (.int .i64 0) := blk_cell hq5 0
          have hc1 : w5.cell? ⟨qb, 1, none⟩ = some (.slice none 0 0) := blk_cell hq5 1
          have hf0 := blk_frozen hq5 0
          have hf1 := blk_frozen hq5 1
          refine skip_ (w1 := ?_) (by rfl) rfl ?_ ?_
          rotate_left
          · go_simp
            rfl
          refine hK.out _ _ ?_
          clear hK K
          refine pS 12 12 13 8191 HT_ ?_
          refine done_ (done_of HT_.out (by kernel_rfl)) ?_
          have hR6 := box_all (u' := .slice Au L'.length cu) hq5 room hlq hT5 hB5 hR5 ha5 rfl
          have hr6 : ((w5.setCell ⟨qb, 0, none⟩ (.int .i64 room)).setCell ⟨qb, 1, none⟩ (.slice Au L'.length cu)).heap[rb]? = some (.cells #[.int .i64 room, v] 33 (0, 0)) := (box_keep _ _ (fun h => hqr h.symm)).trans hr5
          generalize ((w5.setCell ⟨qb, 0, none⟩ (.int .i64 room)).setCell ⟨qb, 1, none⟩ (.slice Au L'.length cu)) = w6 at *
          obtain ⟨hT6, hB6, hR6, ha6, hq6⟩ := hR6
          clear hT5 hB5 hR5 ha5 hq5 hr5
          have m0 : w6.cell? ⟨qb, 0, none⟩ = some (.int .i64 room) := blk_cell hq6 0
          have m1 : w6.cell? ⟨qb, 1, none⟩ = some (.slice Au L'.length cu) := blk_cell hq6 1
          have n0 : w6.cell? ⟨rb, 0, none⟩ = some (.int .i64 room) := blk_cell hr6 0
          have n1 : w6.cell? ⟨rb, 1, none⟩ = some v := blk_cell hr6 1
          have f0 := blk_frozen hr6 0
          have f1 := blk_frozen hr6 1
          go_upto_region 16 with (fail)
          have hR7 := box_all (u' := .slice Au L'.length cu) hr6 room HX.out.2.2 hT6 hB6 hR6 ha6 rfl
          generalize ((w6.setCell ⟨rb, 0, none⟩ (.int .i64 room)).setCell ⟨rb, 1, none⟩ (.slice Au L'.length cu)) = w7 at *
          obtain ⟨hT7, hB7, hR7, ha7, hr7⟩ := hR7
          clear hT6 hB6 hR6 ha6 hr6 m0 m1 n0 n1 f0 f1
          have p1 : w7.cell? ⟨ab, 1, none⟩ = some (.int .i64 a.f1) := blk_cell ha7 1
          have p2 : w7.cell? ⟨ab, 2, none⟩ = some (.string a.f2.f0) := blk_cell ha7 2
          have p3 : w7.cell? ⟨ab, 3, none⟩ = some (.int .i64 a.f2.f1) := blk_cell ha7 3
          have p4 : w7.cell? ⟨ab, 4, none⟩ = some (.int .i64 a.f2.f2.f0) := blk_cell ha7 4
          have p5 : w7.cell? ⟨ab, 5, none⟩ = some (.int .i64 a.f2.f2.f1) := blk_cell ha7 5
          have p6 : w7.cell? ⟨ab, 6, none⟩ = some (.int .i64 a.f2.f3) := blk_cell ha7 6
          have hPA := announce a.f2 a.f1 w7 hT7 (by omega) hB7.size HN.out.2.2.2.1
          go_wp2_with (go_at_call 10; refine hPA.mono ?_; rintro e w8 ⟨c2, D4, T4, rfl, hA2, hT8, hK8⟩; obtain ⟨rfl, rfl⟩ := ann_det HA.out.1 hA2)
          go_meet
          case rel => exact ⟨_, _, _, _, Dy.step rfl hB7 hr7 ha7 hR7 hT8 hK8 (HA.out.1.okT HA.out.2.2.2.2) HA.out.2.1 HA.out.2.2.1⟩
        · have hk0 : (a.f0 == 0) = false := beq_eq_false_iff_ne.2 hkd
          obtain ⟨c, T', hLev⟩ := lev_ex a.f2.f0.data.toList a.f2.f1 a.f1 T
          obtain ⟨L', hfd, hD', hl'⟩ := hDy.lev hn8 hLev
          have hDoc := hDy.levC hfd
          have HA := Aside.mk (And.intro hLev (And.intro hD' (And.intro hl' hDy.okT)))
          clear hLev hD' hl' hfd
          subst hv
          have q0 : wa.cell? ⟨rb, 0, none⟩ = some (.int .i64 room) := blk_cell hDy.rblk 0
          have q1 : wa.cell? ⟨rb, 1, none⟩ = some (.slice Av L.length cv) := blk_cell hDy.rblk 1
          have k1 : wa.cell? ⟨ab, 1, none⟩ = some (.int .i64 a.f1) := blk_cell hDy.ablk 1
          have k2 : wa.cell? ⟨ab, 2, none⟩ = some (.string a.f2.f0) := blk_cell hDy.ablk 2
          have k3 : wa.cell? ⟨ab, 3, none⟩ = some (.int .i64 a.f2.f1) := blk_cell hDy.ablk 3
          have HY := Aside.mk hDy
          clear hDy
          go_upto_region 19 with (go_at_call 11; refine hDoc.mono ?_; rintro e w5 ⟨v', rfl, hT5, hB5, hr5, ha5, hR5, hz5, hk5⟩; obtain ⟨Au, cu, hu⟩ := Kd.R_slice hR5; subst hu)
          have hal := below_alloc (Below.refl w5.heap.size w5) (.cells #[.int .i64 room, .slice Au L'.length cu] 33)
          have hT6 := hT5.below hal
          have hB6 := below_alloc hB5 (.cells #[.int .i64 room, .slice Au L'.length cu] 33)
          have hr6 := blk_alloc hr5 (.cells #[.int .i64 room, .slice Au L'.length cu] 33)
          have ha6 := blk_alloc (ha5.trans HY.out.ablk) (.cells #[.int .i64 room, .slice Au L'.length cu] 33)
          have hR6 := Kd.R_alloc hR5 (.cells #[.int .i64 room, .slice Au L'.length cu] 33)
          have hq6 := blk_new w5 (.cells #[.int .i64 room, .slice Au L'.length cu] 33)
          generalize (w5.alloc (.cells #[.int .i64 room, .slice Au L'.length cu] 33)) = w6 at *
          generalize w5.heap.size = qb at *
          clear hT5 hB5 hr5 ha5 hR5 hz5 hk5 hal q0 q1 k1 k2 k3
          have m0 : w6.cell? ⟨qb, 0, none⟩ = some (.int .i64 room) := blk_cell hq6 0
          have m1 : w6.cell? ⟨qb, 1, none⟩ = some (.slice Au L'.length cu) := blk_cell hq6 1
          have n0 : w6.cell? ⟨rb, 0, none⟩ = some (.int .i64 room) := blk_cell hr6 0
          have n1 : w6.cell? ⟨rb, 1, none⟩ = some (.slice Av L.length cv) := blk_cell hr6 1
          have f0 := blk_frozen hr6 0
          have f1 := blk_frozen hr6 1
          go_upto_region 20 with (fail)
          have hR7 := box_all (u' := .slice Au L'.length cu) hr6 room HX.out.2.2 hT6 hB6 hR6 ha6 rfl
          generalize ((w6.setCell ⟨rb, 0, none⟩ (.int .i64 room)).setCell ⟨rb, 1, none⟩ (.slice Au L'.length cu)) = w7 at *
          obtain ⟨hT7, hB7, hR7, ha7, hr7⟩ := hR7
          clear hT6 hB6 hR6 ha6 hr6 m0 m1 n0 n1 f0 f1
          have p1 : w7.cell? ⟨ab, 1, none⟩ = some (.int .i64 a.f1) := blk_cell ha7 1
          have p2 : w7.cell? ⟨ab, 2, none⟩ = some (.string a.f2.f0) := blk_cell ha7 2
          have p3 : w7.cell? ⟨ab, 3, none⟩ = some (.int .i64 a.f2.f1) := blk_cell ha7 3
          have p4 : w7.cell? ⟨ab, 4, none⟩ = some (.int .i64 a.f2.f2.f0) := blk_cell ha7 4
          have p5 : w7.cell? ⟨ab, 5, none⟩ = some (.int .i64 a.f2.f2.f1) := blk_cell ha7 5
          have p6 : w7.cell? ⟨ab, 6, none⟩ = some (.int .i64 a.f2.f3) := blk_cell ha7 6
          have hPA := leave a.f2.f0 HN.out.2.2.2.1 a.f2.f1 a.f1 w7 hT7
          go_wp2_with (go_at_call 12; refine hPA.mono ?_; rintro e w8 ⟨c2, T4, rfl, hA2, hT8, hK8⟩; obtain ⟨rfl, rfl⟩ := lev_det HA.out.1 hA2)
          go_meet
          case rel => exact ⟨_, _, _, _, Dy.step rfl hB7 hr7 ha7 hR7 (hT8.mono (Nat.le_succ _)) hK8 (HA.out.1.okT HA.out.2.2.2) HA.out.2.1 HA.out.2.2.1⟩
      case rest =>
        obtain ⟨D2, T2, v2, L2, hD2⟩ := hcut
        obtain ⟨A2, c2, hv2⟩ := Kd.R_slice hD2.row
        have hn1 : n + 1 ≤ 800 := by have := HN.out; omega
        have hqn : qn.size ≤ maxLen := by have := HF.out.2.2.1; unfold maxLen; omega
        have hbx := blk_below HX.out.1 hD2.bel
        have y0 := blk_cell hbx 0
        have y1 := blk_cell hbx 1
        have y2 := blk_cell hbx 2
        have y3 := blk_cell hbx 3
        have y4 := blk_cell hbx 4
        have y5 := blk_cell hbx 5
        have hFd := hD2.find qn hqn (px, py) qk qw
        have hfl := findL_len T2 qn.data.toList (px, py) qk qw
        have hFC := fun W (h : Dy wB t bm (n + 1) room rb ab a v2 W D2 T2 v2 L2) => h.findC hn1 hv2 qn (px, py) qk qw
        obtain ⟨u, cl, hlf, hLk⟩ := hD2.link hn1 qn qt hqn (px, py) qw
        have hLC := fun W (h : Dy wB t bm (n + 1) room rb ab a v2 W D2 T2 v2 L2) => h.linkC hv2 qn qt (px, py) qw hlf
        have hLw : ∀ W, Dy wB t bm (n + 1) room rb ab a v2 W D2 T2 v2 L2 → TabW W := fun W h => HLB.out.below (HX.out.2.1.trans (h.bel.mono HX.out.2.1.size))
        generalize findL T2 qn.data.toList (px, py) qk qw = fo at *
        obtain ⟨fl, fe⟩ := fo
        clear hlf
        go_upto_region 23 with (go_at_call 13; refine hFd.mono ?_; rintro e w1 ⟨u1, rfl, hR1, hb1⟩; obtain ⟨A1, c1, rfl, hl1, hC1⟩ := Kd.R_reads hR1)
        have hD3 := hD2.below hb1
        have hC1b := hC1
        clear y0 y1 y2 y3 y4 y5 hbx hD2 hR1 hb1 hFd
        have hS23 : ∀ W, Dy wB t bm (n + 1) room rb ab a v2 W D2 T2 v2 L2 → (fun W => W.cell? ⟨rb, 0, none⟩ = some (.int .i64 room) ∧ W.cell? ⟨rb, 1, none⟩ = some (.slice A2 L2.length c2) ∧ W.cell? ⟨w.heap.size, 0, none⟩ = some (.string qn) ∧ W.cell? ⟨w.heap.size, 2, none⟩ = some (.int .i64 px) ∧ W.cell? ⟨w.heap.size, 3, none⟩ = some (.int .i64 py) ∧ W.cell? ⟨w.heap.size, 4, none⟩ = some (.int .i64 qk) ∧ W.cell? ⟨w.heap.size, 5, none⟩ = some (.int .i64 qw)) W := fun W h => by
          have q := blk_below HX.out.1 h.bel
          exact ⟨(blk_cell h.rblk 0), (blk_cell h.rblk 1).trans (congrArg some hv2), blk_cell q 0, blk_cell q 2, blk_cell q 3, blk_cell q 4, blk_cell q 5⟩
        refine start_ (n := 16) (S := fun W => W.cell? ⟨rb, 0, none⟩ = some (.int .i64 room) ∧ W.cell? ⟨rb, 1, none⟩ = some (.slice A2 L2.length c2) ∧ W.cell? ⟨w.heap.size, 0, none⟩ = some (.string qn) ∧ W.cell? ⟨w.heap.size, 2, none⟩ = some (.int .i64 px) ∧ W.cell? ⟨w.heap.size, 3, none⟩ = some (.int .i64 py) ∧ W.cell? ⟨w.heap.size, 4, none⟩ = some (.int .i64 qk) ∧ W.cell? ⟨w.heap.size, 5, none⟩ = some (.int .i64 qw)) (ds := []) (fB 16 0) (by kernel_rfl) rfl rfl (hS23 _ (hD3.below (below_drew1 (Below.refl _ _)))) (fun hHeld => ?_)
        refine with_tabW plays.tab23 plays.bits23 (fun HT_ HW_ => ?_)
        refine tS 0 121 16 1 HT_ HW_ hHeld ?_
        refine pS 1 122 16 3 HT_ ?_
        refine tS 2 123 16 7 HT_ HW_ hHeld ?_
        refine pS 3 124 16 15 HT_ ?_
        refine tS 4 125 16 31 HT_ HW_ hHeld ?_
        refine pS 6 127 16 95 HT_ ?_
        refine tS 7 128 16 223 HT_ HW_ hHeld ?_
        refine pS 8 129 16 479 HT_ ?_
        refine tS 9 130 16 991 HT_ HW_ hHeld ?_
        refine one_ (i := 5) (N := some 126) (fB 16 1023) rfl rfl (one_of HT_.out (by kernel_rfl)) (by decide) (fun K hK => ?_)
        refine goes_ Tryz.func15 (by kernel_rfl) rfl #[.agg #[.int .i64 px, .int .i64 py]] (by rfl) rfl rfl b1 ?_
        refine (mosaiclaw17_Ref.calls px py px py _ rfl).mono ?_
        rintro e wx ⟨rfl, hbx⟩
        have hBa : Below w1.heap.size w1 wx := (below_drew1 (Below.refl _ _)).trans (hbx.mono (Nat.le_refl _))
        clear hbx
        have hDa := hD3.below hBa
        refine ⟨_, rfl, ?_⟩
        refine hK.out _ _ (hS23 _ hDa) (fun hHeld => ?_)
        clear hK K
        refine norm_ (a' := ?_) ?_ ?_
        rotate_left
        · show Act.put _ (some 126) _ = _
          simp only [Act.put, sA, sB, sC, i64_w, i32_w, sD]
          rfl
        refine one_ (i := 10) (N := some 131) (fB 16 2047) rfl rfl (one_of HT_.out (by kernel_rfl)) (by decide) (fun K hK => ?_)
        refine goes_ Tryz.func14 (by kernel_rfl) rfl #[.agg #[.int .i64 room, .slice A2 L2.length c2], .string qn, .agg #[.int .i64 px, .int .i64 py], .int .i64 qk, .int .i64 qw] (by rfl) rfl rfl b1 ?_
        refine (hFC _ hDa).mono ?_
        rintro e w2 ⟨u2, rfl, hR2, hb2⟩
        obtain ⟨A3, c3, rfl, hl3, hC3⟩ := Kd.R_reads hR2
        have hBb : Below w1.heap.size w1 w2 := hBa.trans (hb2.mono hBa.size)
        have hDb := hD3.below hBb
        clear hb2 hR2 hBa hDa
        refine ⟨_, rfl, ?_⟩
        refine hK.out _ _ (hS23 _ hDb) (fun hHeld => ?_)
        clear hK K
        refine norm_ (a' := ?_) ?_ ?_
        rotate_left
        · show Act.put _ (some 131) _ = _
          simp only [Act.put, sA, sB, sC, i64_w, i32_w, sD]
          rfl
        refine pS 11 120 16 4095 HT_ ?_
        refine pS 12 132 16 8191 HT_ ?_
        refine pS 13 133 16 16383 HT_ ?_
        refine pS 14 17 16 32767 HT_ ?_
        refine pS 15 18 16 65535 HT_ ?_
        refine done_ (done_of HT_.out (by kernel_rfl)) ?_
        have hD4 := hDb
        have hC14 := Kd.C_below hC1b hBb
        clear hD3 hBb hDb hC1b hHeld hS23
        have hbx := blk_below HX.out.1 hD4.bel
        have y0 := blk_cell hbx 0
        have y1 := blk_cell hbx 1
        have y2 := blk_cell hbx 2
        have y3 := blk_cell hbx 3
        have y4 := blk_cell hbx 4
        have y5 := blk_cell hbx 5
        go_upto_region 25 with (go_at_call 16; refine (hLk _ hD4 (hLw _ hD4)).mono ?_; rintro e w4 ⟨rfl, hb4⟩)
        have hD5 := hD4.below hb4
        have hC15 := Kd.C_below hC14 hb4
        have hC35 := Kd.C_below hC3 hb4
        clear y0 y1 y2 y3 y4 y5 hbx hD4 hb4 hC14 hC3 hC1 hLk hLw hFC
        have hS25 : ∀ W, Dy wB t bm (n + 1) room rb ab a v2 W D2 T2 v2 L2 → (fun W => W.cell? ⟨rb, 0, none⟩ = some (.int .i64 room) ∧ W.cell? ⟨rb, 1, none⟩ = some (.slice A2 L2.length c2) ∧ W.cell? ⟨w.heap.size, 0, none⟩ = some (.string qn) ∧ W.cell? ⟨w.heap.size, 1, none⟩ = some (.string qt) ∧ W.cell? ⟨w.heap.size, 2, none⟩ = some (.int .i64 px) ∧ W.cell? ⟨w.heap.size, 3, none⟩ = some (.int .i64 py) ∧ W.cell? ⟨w.heap.size, 5, none⟩ = some (.int .i64 qw)) W := fun W h => by
          have q := blk_below HX.out.1 h.bel
          exact ⟨(blk_cell h.rblk 0), (blk_cell h.rblk 1).trans (congrArg some hv2), blk_cell q 0, blk_cell q 1, blk_cell q 2, blk_cell q 3, blk_cell q 5⟩
        refine start_ (n := 16) (S := fun W => W.cell? ⟨rb, 0, none⟩ = some (.int .i64 room) ∧ W.cell? ⟨rb, 1, none⟩ = some (.slice A2 L2.length c2) ∧ W.cell? ⟨w.heap.size, 0, none⟩ = some (.string qn) ∧ W.cell? ⟨w.heap.size, 1, none⟩ = some (.string qt) ∧ W.cell? ⟨w.heap.size, 2, none⟩ = some (.int .i64 px) ∧ W.cell? ⟨w.heap.size, 3, none⟩ = some (.int .i64 py) ∧ W.cell? ⟨w.heap.size, 5, none⟩ = some (.int .i64 qw)) (ds := []) (fB 16 0) (by kernel_rfl) rfl rfl (hS25 _ (hD5.below (below_drew1 (Below.refl _ _)))) (fun hHeld => ?_)
        refine with_tabW plays.tab25 plays.bits25 (fun HT_ HW_ => ?_)
        refine tS 0 148 16 1 HT_ HW_ hHeld ?_
        refine pS 1 149 16 3 HT_ ?_
        refine tS 2 150 16 7 HT_ HW_ hHeld ?_
        refine pS 3 151 16 15 HT_ ?_
        refine tS 4 152 16 31 HT_ HW_ hHeld ?_
        refine pS 5 153 16 63 HT_ ?_
        refine tS 6 154 16 127 HT_ HW_ hHeld ?_
        refine pS 8 156 16 383 HT_ ?_
        refine tS 9 157 16 895 HT_ HW_ hHeld ?_
        refine one_ (i := 7) (N := some 155) (fB 16 1023) rfl rfl (one_of HT_.out (by kernel_rfl)) (by decide) (fun K hK => ?_)
        refine goes_ Tryz.func15 (by kernel_rfl) rfl #[.agg #[.int .i64 px, .int .i64 py]] (by rfl) rfl rfl b1 ?_
        refine (mosaiclaw17_Ref.calls px py px py _ rfl).mono ?_
        rintro e wx ⟨rfl, hbx⟩
        have hBa : Below w4.heap.size w4 wx := (below_drew1 (Below.refl _ _)).trans (hbx.mono (Nat.le_refl _))
        clear hbx
        have hDa := hD5.below hBa
        refine ⟨_, rfl, ?_⟩
        refine hK.out _ _ (hS25 _ hDa) (fun hHeld => ?_)
        clear hK K
        refine norm_ (a' := ?_) ?_ ?_
        rotate_left
        · show Act.put _ (some 155) _ = _
          simp only [Act.put, sA, sB, sC, i64_w, i32_w, sD]
          rfl
        refine one_ (i := 10) (N := some 158) (fB 16 2047) rfl rfl (one_of HT_.out (by kernel_rfl)) (by decide) (fun K hK => ?_)
        refine goes_ Tryz.func17 (by kernel_rfl) rfl #[.agg #[.int .i64 room, .slice A2 L2.length c2], .string qn, .string qt, .agg #[.int .i64 px, .int .i64 py], .int .i64 qw] (by rfl) rfl rfl b1 ?_
        refine (hLC _ hDa).mono ?_
        rintro e w5 ⟨rfl, hb5⟩
        have hBb : Below w4.heap.size w4 w5 := hBa.trans (hb5.mono hBa.size)
        have hDb := hD5.below hBb
        clear hb5 hBa hDa
        refine ⟨_, rfl, ?_⟩
        refine hK.out _ _ (hS25 _ hDb) (fun hHeld => ?_)
        clear hK K
        refine norm_ (a' := ?_) ?_ ?_
        rotate_left
        · show Act.put _ (some 158) _ = _
          simp only [Act.put, sA, sB, sC, i64_w, i32_w, sD]
          rfl
        refine pS 11 147 16 4095 HT_ ?_
        refine pS 12 159 16 8191 HT_ ?_
        refine pS 13 160 16 16383 HT_ ?_
        refine pS 14 21 16 32767 HT_ ?_
        refine pS 15 22 16 65535 HT_ ?_
        refine done_ (done_of HT_.out (by kernel_rfl)) ?_
        have hD6 := hDb
        have hC16 := Kd.C_below hC15 hBb
        have hC36 := Kd.C_below hC35 hBb
        clear hD5 hBb hDb hC15 hC35 hHeld hS25 hLC
        have hS26 : ∀ W, Below w5.heap.size w5 W → (fun W => W.cell? ⟨rb, 0, none⟩ = some (.int .i64 room) ∧ W.cell? ⟨rb, 1, none⟩ = some (.slice A2 L2.length c2) ∧ W.cell? ⟨w.heap.size, 0, none⟩ = some (.string qn) ∧ W.cell? ⟨w.heap.size, 5, none⟩ = some (.int .i64 qw) ∧ W.cell? ⟨ab, 1, none⟩ = some (.int .i64 a.f1)) W := fun W hb => by
          have h := hD6.below hb
          have q := blk_below HX.out.1 h.bel
          exact ⟨(blk_cell h.rblk 0), (blk_cell h.rblk 1).trans (congrArg some hv2), blk_cell q 0, blk_cell q 5, blk_cell h.ablk 1⟩
        have hNd := fun W (hb : Below w5.heap.size w5 W) => nodes qn hqn qw W (hD6.below hb).tab
        have hNm := fun (now : Int) W (hb : Below w5.heap.size w5 W) => names now W (hD6.below hb).tab (by omega)
        have hLn := fun W (hb : Below w5.heap.size w5 W) => len_calls qw W (hD6.below hb).tab (by omega)
        have hNC := fun W (hb : Below w5.heap.size w5 W) => (hD6.below hb).nodesC hn1 hv2 qn qw
        have hMC := fun (now : Int) W (hb : Below w5.heap.size w5 W) => (hD6.below hb).namesC hn1 hv2 now
        have hfw := fun now => hD6.names_few hn1 now
        have hnl := nodesL_le T2 qn.data.toList qw
        have hlm : (namesL T2 qw D2).length = ((namesL T2 qw D2).map ba).length := by rw [List.length_map]
        rw [hlm] at hLn
        have hfq := hfw qw
        have hfa := hfw a.f1
        have hNq := hNm qw
        have hNa := hNm a.f1
        have hMq := hMC qw
        have hMa := hMC a.f1
        clear hfw hNm hMC hlm
        generalize nodesL T2 qn.data.toList qw = ns at *
        generalize (namesL T2 qw D2).map ba = nq at *
        generalize (namesL T2 a.f1 D2).map ba = na at *
        have HZ := Aside.mk (And.intro hfl (And.intro hnl (And.intro hfq hfa)))
        clear hfl hnl hfq hfa
        go_wp2_with fail
        refine start_ (n := 71) (S := fun W => W.cell? ⟨rb, 0, none⟩ = some (.int .i64 room) ∧ W.cell? ⟨rb, 1, none⟩ = some (.slice A2 L2.length c2) ∧ W.cell? ⟨w.heap.size, 0, none⟩ = some (.string qn) ∧ W.cell? ⟨w.heap.size, 5, none⟩ = some (.int .i64 qw) ∧ W.cell? ⟨ab, 1, none⟩ = some (.int .i64 a.f1)) (ds := []) (fB 71 0) (by kernel_rfl) rfl rfl (hS26 _ (below_drew1 (Below.refl _ _))) (fun hHeld => ?_)
        refine with_tabW plays.tab26 plays.bits26 (fun HT_ HW_ => ?_)
        refine pS 0 161 71 1 HT_ ?_ (ha := b0)
        refine pS 1 162 71 3 HT_ ?_ (ha := b0)
        refine one_ (i := 2) (N := some 163) (fB 71 7) rfl rfl (one_of HT_.out (by kernel_rfl)) (by decide) (fun K hK => ?_)
        refine goes_ Tryz.func18 (by kernel_rfl) rfl #[.slice A1 fl.length c1, .slice A3 fl.length c3] (by rfl) rfl rfl b1 ?_
        refine (mosaicref04_Same.calls 20 A1 c1 fl A3 c3 fl true w5.drew (Kd.C_below hC16 (below_drew1 (Below.refl _ _))) hl1 (Kd.C_below hC36 (below_drew1 (Below.refl _ _))) hl3 (same04 fl (by have := HZ.out; omega) 20 (by have := HZ.out; omega))).mono ?_
        rintro e x1 ⟨rfl, hb1⟩
        have hB1 : Below w5.heap.size w5 x1 := (below_drew1 (Below.refl _ _)).trans (hb1.below.mono (Nat.le_refl _))
        refine ⟨_, rfl, ?_⟩
        refine hK.out _ _ (hS26 _ hB1) (fun hHeld => ?_)
        clear hK K
        refine norm_ (a' := ?_) ?_ ?_
        rotate_left
        · show Act.put _ (some 163) _ = _
          simp only [Act.put, sA, sB, sC, i64_w, i32_w, sD, bne_self_eq_false, Bool.not_true]
          rfl
        refine pS 3 164 71 15 HT_ ?_ (ha := b0)
        refine pS 4 165 71 31 HT_ ?_ (ha := b0)
        refine pS 5 166 71 63 HT_ ?_ (ha := b0)
        refine pS 6 167 71 127 HT_ ?_ (ha := b0)
        refine pS 7 168 71 255 HT_ ?_ (ha := b0)
        refine pS 8 169 71 511 HT_ ?_ (ha := b0)
        refine pS 9 170 71 1023 HT_ ?_ (ha := b0)
        refine pS 10 171 71 2047 HT_ ?_ (ha := b0)
        refine pS 11 172 71 4095 HT_ ?_ (ha := b0)
        refine pS 12 173 71 8191 HT_ ?_ (ha := b0)
        refine pS 13 174 71 16383 HT_ ?_ (ha := b0)
        refine pS 14 175 71 32767 HT_ ?_ (ha := b0)
        refine pS 15 176 71 65535 HT_ ?_ (ha := b0)
        refine pS 16 177 71 131071 HT_ ?_ (ha := b0)
        refine pS 17 178 71 262143 HT_ ?_ (ha := b0)
        refine pS 18 179 71 524287 HT_ ?_ (ha := b0)
        refine pS 19 180 71 1048575 HT_ ?_ (ha := b0)
        refine pS 20 181 71 2097151 HT_ ?_ (ha := b0)
        refine pS 21 182 71 4194303 HT_ ?_ (ha := b0)
        refine tS 22 183 71 8388607 HT_ HW_ hHeld ?_ (ha := b0)
        refine pS 23 184 71 16777215 HT_ ?_ (ha := b0)
        refine tS 24 185 71 33554431 HT_ HW_ hHeld ?_ (ha := b0)
        refine tS 26 187 71 100663295 HT_ HW_ hHeld ?_ (ha := b0)
        refine pS 27 188 71 234881023 HT_ ?_ (ha := b0)
        refine tS 28 189 71 503316479 HT_ HW_ hHeld ?_ (ha := b0)
        refine pS 29 190 71 1040187391 HT_ ?_ (ha := b0)
        refine tS 30 191 71 2113929215 HT_ HW_ hHeld ?_ (ha := b0)
        refine one_ (i := 25) (N := some 186) (fB 71 2147483647) rfl rfl (one_of HT_.out (by kernel_rfl)) (by decide) (fun K hK => ?_)
        refine goes_ Tryz.func20 (by kernel_rfl) rfl #[.pointer (some ⟨t, 0, none⟩), .string qn, .int .i64 qw] (by rfl) rfl rfl b1 ?_
        refine (hNd _ hB1).mono ?_
        rintro e x2 ⟨v5, rfl, hR5, hb2⟩; obtain ⟨A5, c5, rfl, hl5, hC5⟩ := Kd.R_reads hR5
        have hB2 : Below w5.heap.size w5 x2 := hB1.trans (hb2.mono hB1.size)
        refine ⟨_, rfl, ?_⟩
        refine hK.out _ _ (hS26 _ hB2) (fun hHeld => ?_)
        clear hK K
        refine norm_ (a' := ?_) ?_ ?_
        rotate_left
        · show Act.put _ (some 186) _ = _
          simp only [Act.put, sA, sB, sC, i64_w, i32_w, sD, bne_self_eq_false, Bool.not_true]
          rfl
        refine one_ (i := 31) (N := some 192) (fB 71 4294967295) rfl rfl (one_of HT_.out (by kernel_rfl)) (by decide) (fun K hK => ?_)
        refine goes_ Tryz.func21 (by kernel_rfl) rfl #[.agg #[.int .i64 room, .slice A2 L2.length c2], .string qn, .int .i64 qw] (by rfl) rfl rfl b1 ?_
        refine (hNC _ hB2).mono ?_
        rintro e x3 ⟨v6, rfl, hR6, hb3⟩; obtain ⟨A6, c6, rfl, hl6, hC6⟩ := Kd.R_reads hR6; have hC53 := Kd.C_below hC5 hb3
        have hB3 : Below w5.heap.size w5 x3 := hB2.trans (hb3.mono hB2.size)
        refine ⟨_, rfl, ?_⟩
        refine hK.out _ _ (hS26 _ hB3) (fun hHeld => ?_)
        clear hK K
        refine norm_ (a' := ?_) ?_ ?_
        rotate_left
        · show Act.put _ (some 192) _ = _
          simp only [Act.put, sA, sB, sC, i64_w, i32_w, sD, bne_self_eq_false, Bool.not_true]
          rfl
        refine one_ (i := 32) (N := some 193) (fB 71 8589934591) rfl rfl (one_of HT_.out (by kernel_rfl)) (by decide) (fun K hK => ?_)
        refine goes_ Tryz.func19 (by kernel_rfl) rfl #[.slice A5 ns.length c5, .slice A6 (ns.map dN).length c6] (by rfl) rfl rfl b1 ?_
        refine (mosaiclaw31_same.calls 2000 A5 c5 ns A6 c6 (ns.map dN) true x3 hC53 hl5 hC6 hl6 (same31 ns (by have := HZ.out; omega) 2000 (by have := HZ.out; omega))).mono ?_
        rintro e x4 ⟨rfl, hb4⟩
        have hB4 : Below w5.heap.size w5 x4 := hB3.trans (hb4.mono hB3.size)
        refine ⟨_, rfl, ?_⟩
        refine hK.out _ _ (hS26 _ hB4) (fun hHeld => ?_)
        clear hK K
        refine norm_ (a' := ?_) ?_ ?_
        rotate_left
        · show Act.put _ (some 193) _ = _
          simp only [Act.put, sA, sB, sC, i64_w, i32_w, sD, bne_self_eq_false, Bool.not_true]
          rfl
        refine pS 33 194 71 17179869183 HT_ ?_ (ha := b0)
        refine pS 34 195 71 34359738367 HT_ ?_ (ha := b0)
        refine pS 35 196 71 68719476735 HT_ ?_ (ha := b0)
        refine pS 36 197 71 137438953471 HT_ ?_ (ha := b0)
        refine pS 37 198 71 274877906943 HT_ ?_ (ha := b0)
        refine tS 38 199 71 549755813887 HT_ HW_ hHeld ?_ (ha := b0)
        refine tS 40 201 71 1649267441663 HT_ HW_ hHeld ?_ (ha := b0)
        refine pS 41 202 71 3848290697215 HT_ ?_ (ha := b0)
        refine tS 42 203 71 8246337208319 HT_ HW_ hHeld ?_ (ha := b0)
        refine one_ (i := 39) (N := some 200) (fB 71 8796093022207) rfl rfl (one_of HT_.out (by kernel_rfl)) (by decide) (fun K hK => ?_)
        refine goes_ Tryz.func23 (by kernel_rfl) rfl #[.pointer (some ⟨t, 0, none⟩), .int .i64 qw] (by rfl) rfl rfl b1 ?_
        refine (hNq _ hB4).mono ?_
        rintro e x5 ⟨v7, rfl, hR7, hb5⟩; obtain ⟨A7, c7, rfl, hl7, hC7⟩ := Kd.R_reads hR7
        have hB5 : Below w5.heap.size w5 x5 := hB4.trans (hb5.mono hB4.size)
        refine ⟨_, rfl, ?_⟩
        refine hK.out _ _ (hS26 _ hB5) (fun hHeld => ?_)
        clear hK K
        refine norm_ (a' := ?_) ?_ ?_
        rotate_left
        · show Act.put _ (some 200) _ = _
          simp only [Act.put, sA, sB, sC, i64_w, i32_w, sD, bne_self_eq_false, Bool.not_true]
          rfl
        refine one_ (i := 43) (N := some 204) (fB 71 17592186044415) rfl rfl (one_of HT_.out (by kernel_rfl)) (by decide) (fun K hK => ?_)
        refine goes_ Tryz.func24 (by kernel_rfl) rfl #[.agg #[.int .i64 room, .slice A2 L2.length c2], .int .i64 qw] (by rfl) rfl rfl b1 ?_
        refine (hMq _ hB5).mono ?_
        rintro e x6 ⟨v8, rfl, hR8, hb6⟩; obtain ⟨A8, c8, rfl, hl8, hC8⟩ := Kd.R_reads hR8; have hC76 := Kd.C_below hC7 hb6
        have hB6 : Below w5.heap.size w5 x6 := hB5.trans (hb6.mono hB5.size)
        refine ⟨_, rfl, ?_⟩
        refine hK.out _ _ (hS26 _ hB6) (fun hHeld => ?_)
        clear hK K
        refine norm_ (a' := ?_) ?_ ?_
        rotate_left
        · show Act.put _ (some 204) _ = _
          simp only [Act.put, sA, sB, sC, i64_w, i32_w, sD, bne_self_eq_false, Bool.not_true]
          rfl
        refine one_ (i := 44) (N := some 205) (fB 71 35184372088831) rfl rfl (one_of HT_.out (by kernel_rfl)) (by decide) (fun K hK => ?_)
        refine goes_ Tryz.func22 (by kernel_rfl) rfl #[.slice A7 nq.length c7, .slice A8 nq.length c8] (by rfl) rfl rfl b1 ?_
        refine (mosaicref03_Same.calls 2000 A7 c7 nq A8 c8 nq true x6 hC76 hl7 hC8 hl8 (same03 nq (by have := HZ.out; omega) 2000 (by have := HZ.out; omega))).mono ?_
        rintro e x7 ⟨rfl, hb7⟩
        have hB7 : Below w5.heap.size w5 x7 := hB6.trans (hb7.below.mono hB6.size)
        refine ⟨_, rfl, ?_⟩
        refine hK.out _ _ (hS26 _ hB7) (fun hHeld => ?_)
        clear hK K
        refine norm_ (a' := ?_) ?_ ?_
        rotate_left
        · show Act.put _ (some 205) _ = _
          simp only [Act.put, sA, sB, sC, i64_w, i32_w, sD, bne_self_eq_false, Bool.not_true]
          rfl
        refine pS 45 206 71 70368744177663 HT_ ?_ (ha := b0)
        refine pS 46 207 71 140737488355327 HT_ ?_ (ha := b0)
        refine pS 47 208 71 281474976710655 HT_ ?_ (ha := b0)
        refine pS 48 209 71 562949953421311 HT_ ?_ (ha := b0)
        refine pS 49 210 71 1125899906842623 HT_ ?_ (ha := b0)
        refine tS 50 211 71 2251799813685247 HT_ HW_ hHeld ?_ (ha := b0)
        refine tS 52 213 71 6755399441055743 HT_ HW_ hHeld ?_ (ha := b0)
        refine pS 53 214 71 15762598695796735 HT_ ?_ (ha := b0)
        refine tS 54 215 71 33776997205278719 HT_ HW_ hHeld ?_ (ha := b0)
        refine one_ (i := 51) (N := some 212) (fB 71 36028797018963967) rfl rfl (one_of HT_.out (by kernel_rfl)) (by decide) (fun K hK => ?_)
        refine goes_ Tryz.func25 (by kernel_rfl) rfl #[.pointer (some ⟨t, 0, none⟩), .int .i64 qw] (by rfl) rfl rfl b1 ?_
        refine (hLn _ hB7).mono ?_
        rintro e x8 ⟨rfl, hb8⟩
        have hB8 : Below w5.heap.size w5 x8 := hB7.trans (hb8.mono hB7.size)
        refine ⟨_, rfl, ?_⟩
        refine hK.out _ _ (hS26 _ hB8) (fun hHeld => ?_)
        clear hK K
        refine norm_ (a' := ?_) ?_ ?_
        rotate_left
        · show Act.put _ (some 212) _ = _
          simp only [Act.put, sA, sB, sC, i64_w, i32_w, sD, bne_self_eq_false, Bool.not_true]
          rfl
        refine one_ (i := 55) (N := some 216) (fB 71 72057594037927935) rfl rfl (one_of HT_.out (by kernel_rfl)) (by decide) (fun K hK => ?_)
        refine goes_ Tryz.func24 (by kernel_rfl) rfl #[.agg #[.int .i64 room, .slice A2 L2.length c2], .int .i64 qw] (by rfl) rfl rfl b1 ?_
        refine (hMq _ hB8).mono ?_
        rintro e x9 ⟨v9, rfl, hR9, hb9⟩; obtain ⟨A9, c9, rfl, hl9, hC9⟩ := Kd.R_reads hR9
        have hB9 : Below w5.heap.size w5 x9 := hB8.trans (hb9.mono hB8.size)
        refine ⟨_, rfl, ?_⟩
        refine hK.out _ _ (hS26 _ hB9) (fun hHeld => ?_)
        clear hK K
        refine norm_ (a' := ?_) ?_ ?_
        rotate_left
        · show Act.put _ (some 216) _ = _
          simp only [Act.put, sA, sB, sC, i64_w, i32_w, sD, bne_self_eq_false, Bool.not_true]
          rfl
        refine pS 56 217 71 144115188075855871 HT_ ?_ (ha := b0)
        refine pS 57 218 71 288230376151711743 HT_ ?_ (ha := b0)
        refine pS 58 219 71 576460752303423487 HT_ ?_ (ha := b0)
        refine pS 59 220 71 1152921504606846975 HT_ ?_ (ha := b0)
        refine pS 60 221 71 2305843009213693951 HT_ ?_ (ha := b0)
        refine pS 61 222 71 4611686018427387903 HT_ ?_ (ha := b0)
        refine tS 62 223 71 9223372036854775807 HT_ HW_ hHeld ?_ (ha := b0)
        refine tS 64 225 71 27670116110564327423 HT_ HW_ hHeld ?_ (ha := b0)
        refine pS 65 226 71 64563604257983430655 HT_ ?_ (ha := b0)
        refine tS 66 227 71 138350580552821637119 HT_ HW_ hHeld ?_ (ha := b0)
        refine one_ (i := 63) (N := some 224) (fB 71 147573952589676412927) rfl rfl (one_of HT_.out (by kernel_rfl)) (by decide) (fun K hK => ?_)
        refine goes_ Tryz.func23 (by kernel_rfl) rfl #[.pointer (some ⟨t, 0, none⟩), .int .i64 a.f1] (by rfl) rfl rfl b1 ?_
        refine (hNa _ hB9).mono ?_
        rintro e x10 ⟨v10, rfl, hR10, hb10⟩; obtain ⟨A10, c10, rfl, hl10, hC10⟩ := Kd.R_reads hR10
        have hB10 : Below w5.heap.size w5 x10 := hB9.trans (hb10.mono hB9.size)
        refine ⟨_, rfl, ?_⟩
        refine hK.out _ _ (hS26 _ hB10) (fun hHeld => ?_)
        clear hK K
        refine norm_ (a' := ?_) ?_ ?_
        rotate_left
        · show Act.put _ (some 224) _ = _
          simp only [Act.put, sA, sB, sC, i64_w, i32_w, sD, bne_self_eq_false, Bool.not_true]
          rfl
        refine one_ (i := 67) (N := some 228) (fB 71 295147905179352825855) rfl rfl (one_of HT_.out (by kernel_rfl)) (by decide) (fun K hK => ?_)
        refine goes_ Tryz.func24 (by kernel_rfl) rfl #[.agg #[.int .i64 room, .slice A2 L2.length c2], .int .i64 a.f1] (by rfl) rfl rfl b1 ?_
        refine (hMa _ hB10).mono ?_
        rintro e x11 ⟨v11, rfl, hR11, hb11⟩; obtain ⟨A11, c11, rfl, hl11, hC11⟩ := Kd.R_reads hR11; have hC101 := Kd.C_below hC10 hb11
        have hB11 : Below w5.heap.size w5 x11 := hB10.trans (hb11.mono hB10.size)
        refine ⟨_, rfl, ?_⟩
        refine hK.out _ _ (hS26 _ hB11) (fun hHeld => ?_)
        clear hK K
        refine norm_ (a' := ?_) ?_ ?_
        rotate_left
        · show Act.put _ (some 228) _ = _
          simp only [Act.put, sA, sB, sC, i64_w, i32_w, sD, bne_self_eq_false, Bool.not_true]
          rfl
        refine one_ (i := 68) (N := some 229) (fB 71 590295810358705651711) rfl rfl (one_of HT_.out (by kernel_rfl)) (by decide) (fun K hK => ?_)
        refine goes_ Tryz.func22 (by kernel_rfl) rfl #[.slice A10 na.length c10, .slice A11 na.length c11] (by rfl) rfl rfl b1 ?_
        refine (mosaicref03_Same.calls 2000 A10 c10 na A11 c11 na true x11 hC101 hl10 hC11 hl11 (same03 na (by have := HZ.out; omega) 2000 (by have := HZ.out; omega))).mono ?_
        rintro e x12 ⟨rfl, hb12⟩
        have hB12 : Below w5.heap.size w5 x12 := hB11.trans (hb12.below.mono hB11.size)
        refine ⟨_, rfl, ?_⟩
        refine hK.out _ _ (hS26 _ hB12) (fun hHeld => ?_)
        clear hK K
        refine norm_ (a' := ?_) ?_ ?_
        rotate_left
        · show Act.put _ (some 229) _ = _
          simp only [Act.put, sA, sB, sC, i64_w, i32_w, sD, bne_self_eq_false, Bool.not_true]
          rfl
        refine pS 69 230 71 1180591620717411303423 HT_ ?_ (ha := b0)
        refine pS 70 231 71 2361183241434822606847 HT_ ?_ (ha := b0)
        refine done_ (done_of HT_.out (by kernel_rfl)) ?_
        have hDz := hD6.below hB12
        clear hHeld hB12
        go_wp2_with fail
        obtain rfl := HN.out.1
        exact ⟨⟨n + 1, D2, T2, L2, v2, by have := HN.out; omega, rfl, hDz.tab, hDz.okT, hDz.doc, hDz.few, hDz.rblk, hDz.row, hDz.bel⟩, by show l.length - ((n + 1 : Nat) : Int).toNat < l.length - (n : Int).toNat; have := HN.out.2.2.1; omega⟩
    · obtain rfl : i = l.length := by omega
      have gl : ¬ (l.length : Int) < (l.length : Int) := by omega
      have HBr := Aside.mk (HX.out.2.1.trans (hB.mono HX.out.2.1.size))
      clear hB
      go_wp2_with fail
      go_ret
      exact ⟨rfl, HBr.out⟩
end Go.Proofs.YtmimnlbkllgfpaaGreatDoor.Tb
