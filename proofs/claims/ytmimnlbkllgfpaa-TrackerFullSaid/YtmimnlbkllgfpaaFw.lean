/- TrackerFull: walked. -/
import Derived.Test.YtmimnlbkllgfpaaFp
namespace Go.Proofs.Ytmimnlbkllgfpaa.Tb
open Go.RowKit Go.Maps Go.Proofs.Ytmimnlbkllgfpaa.A Go.Proofs.YtmimnlbkllgfpaaW.PrintWords

set_option maxHeartbeats 4000000 in
set_option maxRecDepth 100000 in
theorem full (room : Int) (w : World) :
    Calls Try.prog 4 #[.int .i64 room] w fun e w' => e = .returned (.bool true) ∧ Below w.heap.size w w' := by
  have hAw := fun W => awake_calls W
  have hNm := fun (n : Int) W => mosaiclaw31_name.calls n (nm n) W (name_eq n)
  obtain ⟨q, hq⟩ : ∃ q, q = Int.tmod room 64 := ⟨_, rfl⟩
  have hq1 : -64 < q ∧ q < 64 := by
    rw [hq]
    exact ⟨Int.lt_tmod_of_pos _ (by decide), Int.tmod_lt_of_pos _ (by decide)⟩
  have wq : IntKind.i64.wrap (q + 64) = q + 64 := by rw [IntKind.wrap_i64]; omega
  obtain ⟨k, hk⟩ : ∃ k : Nat, 1 + q % 64 = (k : Int) := ⟨(1 + q % 64).toNat, by omega⟩
  have hk1 : 1 ≤ k ∧ k ≤ 64 := by omega
  have hNew := fun W => new_ok (k : Int) W (by omega) (by omega)
  have hq2 : Int.tmod room 64 = q := hq.symm
  clear hq
  go_enter Try.func4, Try.ntmps4
  go_wp2_with (first
    | (go_at_call 7; refine (hNew _).mono ?_; rintro e w1 ⟨t, bm, rfl, hT1, hb1⟩)
    | (go_at_call 6; refine (hAw _).mono ?_; rintro e w2 ⟨rfl, hb2⟩; have hT2 := hT1.below hb2; have hB2 := hb1.trans (hb2.mono hb1.size)))
  have hT3 : Tab w2 w.heap.size t bm 0 (k : Int) (.map []) (TF 0) := hT2
  have HK := Aside.mk (And.intro hk1 hk)
  clear hT1 hb1 hT2 hb2 hk hq2 hq1 wq hNew hAw
  go_loopw [4] (fun iv wr => ∃ (i : Nat) (D : DataW Unit), i ≤ k ∧ iv = .int .i64 i ∧ Tab wr w.heap.size t bm i (k : Int) D (TF i) ∧ Below w.heap.size w wr) (fun iv _ => k - (intOf iv).toNat)
  case atStart => exact ⟨0, _, by omega, rfl, hT3, hB2⟩
  case round =>
    obtain ⟨i, D, hi, rfl, hT, hB⟩ := hrel
    by_cases hlt : i < k
    · have gl : (i : Int) < (k : Int) := by omega
      have wi : IntKind.i64.wrap ((i : Int) + 1) = ((i + 1 : Nat) : Int) := by rw [IntKind.wrap_i64]; omega
      have w10 : IntKind.i64.wrap (10 + (i : Int)) = 10 + (i : Int) := by rw [IntKind.wrap_i64]; omega
      go_wp2_with (go_at_call 11; refine (hNm _ _).mono ?_; rintro e w3 ⟨rfl, hb3⟩; have hTb := hT.below hb3; have hBb := hB.trans (hb3.mono hB.size))
      refine (announce (nt i) 0 w3 hTb (by omega) hBb.size (by rw [show (nt i).f0 = nm (i : Int) from rfl, nm_size]; unfold maxLen; omega)).mono ?_
      rintro e w4 ⟨c, D4, T4, rfl, hAnn, hT4, hK4⟩
      obtain ⟨rfl, rfl⟩ := hAnn.ok_of (may_nt i (by omega)) (Or.inr ⟨_, names_TF i (by omega) 0 (by decide) (by decide), by unfold namesF; rw [List.length_map, List.length_range]; omega⟩)
      rw [swp_TF 0 (by decide) i] at hT4
      have hBc := hK4.below (B := w.heap.size) (Nat.le_refl _) hBb hBb.size
      clear hAnn hTb hK4 hBb hT hB
      go_wp2_with fail
      exact ⟨⟨i + 1, D4, by omega, rfl, hT4, hBc⟩, by show k - ((i + 1 : Nat) : Int).toNat < k - (i : Int).toNat; omega⟩
    · obtain rfl : i = k := by omega
      have gl : ¬ (i : Int) < (i : Int) := by omega
      have hi1 := HK.out.1
      have hs100 : (nm 100).size ≤ maxLen := by rw [nm_size]; unfold maxLen; omega
      have hs0 : (nm 0).size ≤ maxLen := by rw [nm_size]; unfold maxLen; omega
      go_wp2_with (go_at_call 11; refine (hNm _ _).mono ?_; rintro e w3 ⟨rfl, hb3⟩; have hTb := hT.below hb3; have hBb := hB.trans (hb3.mono hB.size))
      refine (announce nA 5 w3 hTb (by omega) hBb.size hs100).mono ?_
      rintro e w4 ⟨c, D4, T4, rfl, hAnn, hT4, hK4⟩
      obtain ⟨rfl, rfl⟩ := hAnn.full_of may_nA5 (nodesL_none 5 (TF_out i (nL 100) (fun j hj e => by have := nL_inj (i := 100) (j := j) (by omega) (by omega) e; omega))) (names_TF i (by omega) 5 (by decide) (by decide)) (by unfold namesF; rw [List.length_map, List.length_range]; omega)
      have hBc := hK4.below (B := w.heap.size) (Nat.le_refl _) hBb hBb.size
      clear hAnn hTb hK4 hBb hT hB
      go_wp2_with (go_at_call 11; refine (hNm _ _).mono ?_; rintro e w5 ⟨rfl, hb5⟩; have hTd := hT4.below hb5; have hBd := hBc.trans (hb5.mono hBc.size))
      refine (announce nB 5 w5 hTd (by omega) hBd.size hs0).mono ?_
      rintro e w6 ⟨c, D6, T6, rfl, hAnn, hT6, hK6⟩
      obtain ⟨rfl, rfl⟩ := hAnn.ok_of may_nB5 (Or.inl (by
        rw [nameS_nB, nodes_TF i (by omega) 0 (by omega) 5 (by decide) (by decide), if_pos (by decide)]; simp))
      rw [swp_TF 5 (by decide) i] at hT6
      have hT6' : Tab w6 w.heap.size t bm (i + 1 + 1) (i : Int) D6 (TB i) := hT6
      have hBe := hK6.below (B := w.heap.size) (Nat.le_refl _) hBd hBd.size
      clear hAnn hTd hK6 hBd hT4 hBc hT6
      go_wp2_with (go_at_call 11; refine (hNm _ _).mono ?_; rintro e w7 ⟨rfl, hb7⟩; have hTf := hT6'.below hb7; have hBf := hBe.trans (hb7.mono hBe.size))
      refine (announce nA 11 w7 hTf (by omega) hBf.size hs100).mono ?_
      rintro e w8 ⟨c, D8, T8, rfl, hAnn, hT8, hK8⟩
      obtain ⟨rfl, rfl⟩ := hAnn.ok_of may_nA11 (Or.inr ⟨_, names_TB i (by omega) (by omega), by unfold restF; rw [List.length_map, List.length_range]; omega⟩)
      have hT9 : Tab w8 w.heap.size t bm (i + 1 + 1 + 1) (i : Int) D8 (TC i) := hT8
      have hBg := hK8.below (B := w.heap.size) (Nat.le_refl _) hBf hBf.size
      clear hAnn hTf hK8 hBf hT6' hBe hT8
      have hLn := len_calls 11 w8 hT9 (by omega)
      rw [(namesAre hT9 11).length (names_TC i (by omega) (by omega)), show (nL 100 :: restF i).length = i from by unfold restF; rw [List.length_cons, List.length_map, List.length_range]; omega] at hLn
      have hNd := fun W hT => nodes (T := TC i) (D := D8) (lo := w.heap.size) (t := t) (bm := bm) (n := i + 1 + 1 + 1) (room := (i : Int)) (nm 0) hs0 5 W hT
      rw [show (nm 0).data.toList = nL 0 from rfl, nodes_TC i (by omega) (by omega) 5] at hNd
      go_wp2_with (first
        | (go_at_call 9; refine hLn.mono ?_; rintro e w9 ⟨rfl, hb9⟩; have hTg := hT9.below hb9; have hBh := hBg.trans (hb9.mono hBg.size))
        | (go_at_call 11; refine (hNm _ _).mono ?_; rintro e wa ⟨rfl, hba⟩; have hTh := hTg.below hba; have hBi := hBh.trans (hba.mono hBh.size))
        | (go_at_call 10; refine (hNd _ hTh).mono ?_; rintro e wb ⟨v, rfl, hR, hbb⟩; obtain ⟨A, c, rfl, _, _⟩ := Kd.R_reads hR))
      go_ret
      exact ⟨rfl, hBi.trans (hbb.mono hBi.size)⟩
end Go.Proofs.Ytmimnlbkllgfpaa.Tb
