/- TrackerLinks: walked. -/
import Derived.Test.YtmimnlbkllgfpaaGreatDoorLk
import Derived.Test.YtmimnlbkllgfpaaGreatDoorCn
import Derived.Test.YtmimnlbkllgfpaaGreatDoorPa
import Derived.Test.YtmimnlbkllgfpaaGreatDoorWLast
namespace Go.Proofs.YtmimnlbkllgfpaaGreatDoor.Tb
open Go.RowKit Go.Maps Go.Proofs.YtmimnlbkllgfpaaGreatDoor.A Go.Proofs.YtmimnlbkllgfpaaGreatDoor.Sq Go.Proofs.YtmimnlbkllgfpaaGreatDoorW.PrintWords Go.Proofs.YtmimnlbkllgfpaaGreatDoorW.PrintLast Go.Proofs.YtmimnlbkllgfpaaGreatDoor.Di Go.Proofs.YtmimnlbkllgfpaaGreatDoor.So Go.Proofs.YtmimnlbkllgfpaaGreatDoor.Hand
set_option linter.unusedSimpArgs false
set_option linter.unusedVariables false

theorem Ann.okT {room : Int} {x : Nt} {now : Int} {T T' : TT} {c : Int} (h : Ann room x now T c T') (hO : OkT T) : OkT T' := by
  cases h with
  | arg _ => exact hO
  | full _ _ _ _ _ => exact hO
  | ok hm _ =>
    intro s j y hy
    unfold putT at hy
    split at hy
    · obtain rfl := Option.some.inj hy
      have hp := ((may_iff x now).1 hm).2.2.2.1
      unfold okP ntP
      rw [okB_iff]; exact hp
    · have h2 : swp now (T s j) = some y := hy
      cases ht : T s j with
      | none => rw [ht] at h2; cases h2
      | some z =>
        rw [ht] at h2
        have h3 : (if z.f3 < now then none else some z) = some y := h2
        split at h3
        · cases h3
        · obtain rfl := Option.some.inj h3; exact hO s j _ ht
theorem w00 : wrap64 0 = 0 := by unfold wrap64; omega
theorem okT_none : OkT noT := fun s j x h => by cases h
theorem find_err {T : TT} {s : List UInt8} {a : Int × Int} {k now : Int} (hn : ¬ (tickB now = true ∧ okP a = true ∧ 0 ≤ k ∧ nodesL T s now ≠ [])) : (findL T s a k now).2 = 1 ∨ (findL T s a k now).2 = 4 := by
  unfold findL
  split
  · next h =>
    rw [if_pos (Classical.byContradiction fun q => hn ⟨h.1, h.2.1, h.2.2, q⟩)]
    exact Or.inr rfl
  · exact Or.inl rfl
theorem empty_of {u : ByteArray} (h : u.size = 0) : u = ⟨#[]⟩ := by
  apply ByteArray.ext
  exact Array.eq_empty_of_size_eq_zero h
/-- What a link's text is good for. -/
theorem link_facts {ns : List Nt} {px py : Int} (hp : ns.Pairwise (fun x y => x.f1 < y.f1)) (hne : ns ≠ []) (ho : okP (px, py) = true) (qn qt u : ByteArray)
    (hT : link_Text.f 6000 qn qt (lkN ns (foundL ns (px, py) 6)) (lkP ns (foundL ns (px, py) 6)) = some (u, 0)) :
    link_Read.f u = some (qn, qt, lkN ns (foundL ns (px, py) 6), lkP ns (foundL ns (px, py) 6), 0) ∧ ∃ v, foundL ns (px, py) 1 = [v] ∧ link_Nearest.f qn qt (lkN ns (foundL ns (px, py) 6)) (lkP ns (foundL ns (px, py) 6)) px py = some (v, 0) := by
  obtain ⟨hC, hu⟩ := Rl.text_ok _ _ _ _ 6000 (by omega) u hT
  have hR := Rl.read_text _ _ _ _ 6000 (by omega) hC
  rw [← hu] at hR
  obtain ⟨v, h1, h2, h3⟩ := link_first (ns := ns) (a := (px, py)) (k := 6) hp (by omega) hne
  refine ⟨hR, v, h1, ?_⟩
  have hC2 := Rl.check_up _ _ _ _ 6000 1200 (by omega) (by omega) hC
  have ho' : okB px py = true := ho
  unfold link_Nearest.f
  rw [hC2, Option.bind_some, if_pos ⟨rfl, ho'⟩, if_neg (by unfold lkN; intro h; exact h2 (List.map_eq_nil_iff.1 h))]
  unfold lkN lkP
  rw [h3]
set_option maxHeartbeats 4000000 in
set_option maxRecDepth 100000 in
/-- Too much is given: the page's example alone. -/
theorem links_out (l : List S37) (A : Option Addr) (cp : Nat) (qn qt : ByteArray) (px py qk qw : Int) (w : World) (hC : Kd.C k37 w A l.length l) (hcp : l.length ≤ cp) (hf : mosaiclaw31_few.f 62 l qn qt px py qk qw = some false) :
    Calls Tryz.prog 4 #[.slice A l.length cp, .agg #[.string qn, .string qt, .int .i64 px, .int .i64 py, .int .i64 qk, .int .i64 qw]] w fun e w' => e = .returned (.bool true) ∧ Below w.heap.size w w' := by
  have hAw := fun W => awake_calls W
  have hNew := fun W => new_ok 5 W (by decide) (by decide)
  have hFw := fun (W : World) (h : Below w.heap.size w W) => mosaiclaw31_few.calls 62 A cp l qn qt px py qk qw false W (Kd.C_below hC h) hcp hf
  have hB1 : Below w.heap.size w (w.alloc (.cells #[.string qn, .string qt, .int .i64 px, .int .i64 py, .int .i64 qk, .int .i64 qw] 26)) := (Below.refl _ w).alloc (Nat.le_refl _) _
  have hbx := blk_new w (.cells #[.string qn, .string qt, .int .i64 px, .int .i64 py, .int .i64 qk, .int .i64 qw] 26)
  clear hC hf
  go_enter Tryz.func4, Tryz.ntmps4
  go_wp2_with (first
    | (go_at_call 7; refine (hNew _).mono ?_; rintro e w1 ⟨t, bm, rfl, hT1, hb1⟩; have hB2 := hB1.trans (hb1.mono hB1.size); have hbx1 := blk_below hbx hb1; have y0 := blk_cell hbx1 0; have y1 := blk_cell hbx1 1; have y2 := blk_cell hbx1 2; have y3 := blk_cell hbx1 3; have y4 := blk_cell hbx1 4; have y5 := blk_cell hbx1 5)
    | (go_at_call 5; refine (hFw _ hB2).mono ?_; rintro e w2 ⟨rfl, hb2⟩; have hB3 := hB2.trans (hb2.mono hB2.size))
    | (go_at_call 6; refine (hAw _).mono ?_; rintro e w3 ⟨rfl, hb3⟩))
  go_ret
  exact ⟨rfl, hB3.trans (hb3.mono hB3.size)⟩
set_option maxHeartbeats 8000000 in
set_option maxRecDepth 100000 in
theorem links_in (l : List S37) (A : Option Addr) (cp : Nat) (qn qt : ByteArray) (px py qk qw : Int) (w : World) (hC : Kd.C k37 w A l.length l) (hcp : l.length ≤ cp) (hL : LibW w) (hf : mosaiclaw31_few.f 62 l qn qt px py qk qw = some true) (hF : Few l qn qt) :
    Calls Tryz.prog 4 #[.slice A l.length cp, .agg #[.string qn, .string qt, .int .i64 px, .int .i64 py, .int .i64 qk, .int .i64 qw]] w fun e w' => e = .returned (.bool true) ∧ Below w.heap.size w w' := by
  have hAw := fun W => awake_calls W
  have hNew := fun W => new_ok 5 W (by decide) (by decide)
  have hFw := fun (W : World) (h : Below w.heap.size w W) => mosaiclaw31_few.calls 62 A cp l qn qt px py qk qw true W (Kd.C_below hC h) hcp hf
  have hB1 : Below w.heap.size w (w.alloc (.cells #[.string qn, .string qt, .int .i64 px, .int .i64 py, .int .i64 qk, .int .i64 qw] 26)) := (Below.refl _ w).alloc (Nat.le_refl _) _
  have hbx := blk_new w (.cells #[.string qn, .string qt, .int .i64 px, .int .i64 py, .int .i64 qk, .int .i64 qw] 26)
  have hs1 : (w.alloc (.cells #[.string qn, .string qt, .int .i64 px, .int .i64 py, .int .i64 qk, .int .i64 qw] 26)).heap.size = w.heap.size + 1 := by simp
  have HC := Aside.mk (Kd.C_below hC hB1)
  have HLB := Aside.mk hL
  clear hC hf hL
  go_enter Tryz.func4, Tryz.ntmps4
  go_wp2_with (first
    | (go_at_call 7; refine (hNew _).mono ?_; rintro e w1 ⟨t, bm, rfl, hT1, hb1⟩; have hB2 := hB1.trans (hb1.mono hB1.size); have hbx1 := blk_below hbx hb1; have y0 := blk_cell hbx1 0; have y1 := blk_cell hbx1 1; have y2 := blk_cell hbx1 2; have y3 := blk_cell hbx1 3; have y4 := blk_cell hbx1 4; have y5 := blk_cell hbx1 5)
    | (go_at_call 5; refine (hFw _ hB2).mono ?_; rintro e w2 ⟨rfl, hb2⟩; have hT2 := hT1.below hb2; have hb12 := hb1.trans (hb2.mono hb1.size))
    | (go_at_call 6; refine (hAw _).mono ?_; rintro e w3 ⟨rfl, hb3⟩; have hT3 := hT2.below hb3; have hb13 := hb12.trans (hb3.mono hb12.size)))
  have HB1 := Aside.mk hB1
  clear hT1 hT2 hb1 hb2 hb3 hb12 hB2 hbx1 y0 y1 y2 y3 y4 y5 hAw hNew hFw hB1
  rw [hs1] at hT3 hb13
  obtain ⟨lo, hlo0⟩ : ∃ lo, lo = w.heap.size + 1 := ⟨_, rfl⟩
  have hbl : w.heap.size < lo := by omega
  rw [← hlo0] at hT3 hb13
  generalize hw1 : (w.alloc (.cells #[.string qn, .string qt, .int .i64 px, .int .i64 py, .int .i64 qk, .int .i64 qw] 26)) = w1 at *
  have hsw1 : w1.heap.size = lo := by omega
  clear hw1
  have HF := Aside.mk hF
  have HX := Aside.mk hbx
  clear hF hbx hs1
  go_loopw [6] (fun iv wr => ∃ (i : Nat) (D : DataW Unit) (T : TT), i ≤ l.length ∧ iv = .int .i64 i ∧ Tab wr lo t bm i 5 D T ∧ OkT T ∧ Below lo w1 wr) (fun iv _ => l.length - (intOf iv).toNat)
  case atStart => exact ⟨0, _, _, by omega, rfl, hT3, okT_none, hb13⟩
  case round =>
    obtain ⟨i, D, T, hi, rfl, hT, hOk, hB⟩ := hrel
    have hlo : lo ≤ wr.heap.size := by have := hB.size; omega
    have hl60 := HF.out.1
    by_cases hlt : i < l.length
    · have gl : (i : Int) < (l.length : Int) := by omega
      have p0i : (0 : Int) ≤ (i : Int) := by omega
      have wi : IntKind.i64.wrap ((i : Int) + 1) = ((i + 1 : Nat) : Int) := by rw [IntKind.wrap_i64]; omega
      obtain ⟨ad, rfl, d0, d1, d2, d3, d4, d5, d6⟩ := at_T37 HC.out (i : Int) p0i gl
      rw [Int.toNat_natCast] at d0 d1 d2 d3 d4 d5 d6
      have hnm : (rd_T37 l (i : Int)).f2.f0.size ≤ maxLen := by
        have := HF.out.2.1 i (rd_T37 l (i : Int)) (by unfold rd_T37; rw [Int.toNat_natCast, List.getD_eq_getElem?_getD, List.getElem?_eq_getElem hlt]; rfl)
        unfold maxLen; omega
      generalize rd_T37 l (i : Int) = a at *
      have hS2 : ∀ W, Below lo w1 W → (fun W => W.cell? (ad.add (i * 7)) = some (.int .i64 a.f0) ∧ W.cell? ⟨(ad.add (i * 7)).block, (ad.add (i * 7)).off + 1, none⟩ = some (.int .i64 a.f1) ∧ W.cell? ⟨(ad.add (i * 7)).block, (ad.add (i * 7)).off + 2, none⟩ = some (.string a.f2.f0) ∧ W.cell? ⟨(ad.add (i * 7)).block, (ad.add (i * 7)).off + 3, none⟩ = some (.int .i64 a.f2.f1) ∧ W.cell? ⟨(ad.add (i * 7)).block, (ad.add (i * 7)).off + 4, none⟩ = some (.int .i64 a.f2.f2.f0) ∧ W.cell? ⟨(ad.add (i * 7)).block, (ad.add (i * 7)).off + 5, none⟩ = some (.int .i64 a.f2.f2.f1) ∧ W.cell? ⟨(ad.add (i * 7)).block, (ad.add (i * 7)).off + 6, none⟩ = some (.int .i64 a.f2.f3)) W := fun W hW => by
        have tr : ∀ {p : Addr} {v : Value}, w1.cell? p = some v → W.cell? p = some v := fun {p v} h => (hW.cell (by have := World.block_lt_of_cell? _ _ h; omega)).trans h
        exact ⟨tr d0, tr d1, tr d2, tr d3, tr d4, tr d5, tr d6⟩
      have hS : ∀ W, Below wr.heap.size wr W → (fun W => W.cell? (ad.add (i * 7)) = some (.int .i64 a.f0) ∧ W.cell? ⟨(ad.add (i * 7)).block, (ad.add (i * 7)).off + 1, none⟩ = some (.int .i64 a.f1) ∧ W.cell? ⟨(ad.add (i * 7)).block, (ad.add (i * 7)).off + 2, none⟩ = some (.string a.f2.f0) ∧ W.cell? ⟨(ad.add (i * 7)).block, (ad.add (i * 7)).off + 3, none⟩ = some (.int .i64 a.f2.f1) ∧ W.cell? ⟨(ad.add (i * 7)).block, (ad.add (i * 7)).off + 4, none⟩ = some (.int .i64 a.f2.f2.f0) ∧ W.cell? ⟨(ad.add (i * 7)).block, (ad.add (i * 7)).off + 5, none⟩ = some (.int .i64 a.f2.f2.f1) ∧ W.cell? ⟨(ad.add (i * 7)).block, (ad.add (i * 7)).off + 6, none⟩ = some (.int .i64 a.f2.f3)) W := fun W hW => hS2 W (hB.trans (hW.mono hlo))
      clear d0 d1 d2 d3 d4 d5 d6
      go_wp2_with fail
      refine start_ (n := 12) (S := fun W => W.cell? (ad.add (i * 7)) = some (.int .i64 a.f0) ∧ W.cell? ⟨(ad.add (i * 7)).block, (ad.add (i * 7)).off + 1, none⟩ = some (.int .i64 a.f1) ∧ W.cell? ⟨(ad.add (i * 7)).block, (ad.add (i * 7)).off + 2, none⟩ = some (.string a.f2.f0) ∧ W.cell? ⟨(ad.add (i * 7)).block, (ad.add (i * 7)).off + 3, none⟩ = some (.int .i64 a.f2.f1) ∧ W.cell? ⟨(ad.add (i * 7)).block, (ad.add (i * 7)).off + 4, none⟩ = some (.int .i64 a.f2.f2.f0) ∧ W.cell? ⟨(ad.add (i * 7)).block, (ad.add (i * 7)).off + 5, none⟩ = some (.int .i64 a.f2.f2.f1) ∧ W.cell? ⟨(ad.add (i * 7)).block, (ad.add (i * 7)).off + 6, none⟩ = some (.int .i64 a.f2.f3)) (ds := []) (fB 12 0) (by kernel_rfl) rfl rfl (hS _ (below_drew1 (Below.refl _ _))) (fun hHeld => ?_)
      refine pure_ (i := 0) (N := some 35) (v := ?_) (a' := ?_) (fB 12 1) rfl rfl (by kernel_rfl) (fun _ _ _ h => h) (Or.inl ⟨by rfl, ?_⟩) ?_ ?_
      rotate_left
      · intro w'
        go_simp
        with_reducible rfl
      rotate_left
      · simp only [Act.put, sA, sB, sC, i64_w, i32_w, sD]
        rfl
      refine pure_ (i := 1) (N := some 36) (v := ?_) (a' := ?_) (fB 12 3) rfl rfl (by kernel_rfl) (fun _ _ _ h => h) (Or.inl ⟨by rfl, ?_⟩) ?_ ?_
      rotate_left
      · intro w'
        go_simp
        with_reducible rfl
      rotate_left
      · simp only [Act.put, sA, sB, sC, i64_w, i32_w, sD]
        rfl
      refine pure_ (i := 2) (N := some 37) (v := ?_) (a' := ?_) (fB 12 7) rfl rfl (by kernel_rfl) (fun _ _ _ h => h) (Or.inl ⟨by rfl, ?_⟩) ?_ ?_
      rotate_left
      · intro w'
        go_simp
        with_reducible rfl
      rotate_left
      · simp only [Act.put, sA, sB, sC, i64_w, i32_w, sD]
        rfl
      refine pure_ (i := 3) (N := some 38) (v := ?_) (a' := ?_) (fB 12 15) rfl rfl (by kernel_rfl) (fun _ _ _ h => h) (Or.inl ⟨by rfl, ?_⟩) ?_ ?_
      rotate_left
      · intro w'
        go_simp
        with_reducible rfl
      rotate_left
      · simp only [Act.put, sA, sB, sC, i64_w, i32_w, sD]
        rfl
      refine pure_ (i := 4) (N := some 39) (v := ?_) (a' := ?_) (fB 12 31) rfl rfl (by kernel_rfl) (fun _ _ _ h => h) (Or.inl ⟨by rfl, ?_⟩) ?_ ?_
      rotate_left
      · intro w'
        go_simp
        with_reducible rfl
      rotate_left
      · simp only [Act.put, sA, sB, sC, i64_w, i32_w, sD]
        rfl
      refine take_ (i := 5) (N := some 40) (v := ?_) (a' := ?_) (fB 12 63) rfl rfl (by kernel_rfl) (fun _ _ _ h => h) (Or.inl ⟨by rfl, ?_⟩) hHeld ?_ ?_
      rotate_left
      · rintro w' ⟨s0, s1, s2, s3, s4, s5, s6⟩
        go_simp
        with_reducible rfl
      rotate_left
      · simp only [Act.put, sA, sB, sC, i64_w, i32_w, sD]
        rfl
      refine pure_ (i := 6) (N := some 41) (v := ?_) (a' := ?_) (fB 12 127) rfl rfl (by kernel_rfl) (fun _ _ _ h => h) (Or.inl ⟨by rfl, ?_⟩) ?_ ?_
      rotate_left
      · intro w'
        go_simp
        with_reducible rfl
      rotate_left
      · simp only [Act.put, sA, sB, sC, i64_w, i32_w, sD]
        rfl
      refine pure_ (i := 7) (N := some 42) (v := ?_) (a' := ?_) (fB 12 255) rfl rfl (by kernel_rfl) (fun _ _ _ h => h) (Or.inl ⟨by rfl, ?_⟩) ?_ ?_
      rotate_left
      · intro w'
        go_simp
        with_reducible rfl
      rotate_left
      · simp only [Act.put, sA, sB, sC, i64_w, i32_w, sD]
        rfl
      refine pure_ (i := 8) (N := some 43) (v := ?_) (a' := ?_) (fB 12 511) rfl rfl (by kernel_rfl) (fun _ _ _ h => h) (Or.inl ⟨by rfl, ?_⟩) ?_ ?_
      rotate_left
      · intro w'
        go_simp
        with_reducible rfl
      rotate_left
      · simp only [Act.put, sA, sB, sC, i64_w, i32_w, sD]
        rfl
      refine pure_ (i := 9) (N := some 44) (v := ?_) (a' := ?_) (fB 12 1023) rfl rfl (by kernel_rfl) (fun _ _ _ h => h) (Or.inl ⟨by rfl, ?_⟩) ?_ ?_
      rotate_left
      · intro w'
        go_simp
        with_reducible rfl
      rotate_left
      · simp only [Act.put, sA, sB, sC, i64_w, i32_w, sD]
        rfl
      refine take_ (i := 10) (N := some 45) (v := ?_) (a' := ?_) (fB 12 2047) rfl rfl (by kernel_rfl) (fun _ _ _ h => h) (Or.inl ⟨by rfl, ?_⟩) hHeld ?_ ?_
      rotate_left
      · rintro w' ⟨s0, s1, s2, s3, s4, s5, s6⟩
        go_simp
        with_reducible rfl
      rotate_left
      · simp only [Act.put, sA, sB, sC, i64_w, i32_w, sD]
        rfl
      refine one_ (i := 11) (N := some 46) (fB 12 4095) rfl rfl (by kernel_rfl) (by decide) (fun K hK => ?_)
      refine goes_ Tryz.func10 (by kernel_rfl) rfl #[.pointer (some ⟨t, 0, none⟩), .agg #[.string a.f2.f0, .int .i64 a.f2.f1, .int .i64 a.f2.f2.f0, .int .i64 a.f2.f2.f1, .int .i64 a.f2.f3], .int .i64 a.f1] (by rfl) rfl rfl (by (try simp only [List.map_toArray, List.map_cons, List.map_nil]); first | done | rfl) ?_
      refine (announce a.f2 a.f1 wr.drew (hT.below (below_drew1 (Below.refl _ _))) (by omega) (by simpa using hlo) hnm).mono ?_
      rintro e w4 ⟨c, D4, T4, rfl, hAnn, hT4, hK4⟩
      have hKr : Kp lo wr w4 := (Kp.of_below (below_drew1 (Below.refl _ _))).trans hK4
      have hB4 := hKr.below (Nat.le_refl _) hB hlo
      refine ⟨_, rfl, ?_⟩
      refine hK.out _ _ (hS2 w4 hB4) (fun hHeld => ?_)
      clear hK K
      refine norm_ (a' := ?_) ?_ ?_
      rotate_left
      · show Act.put _ (some 46) _ = _
        simp only [Act.put, sA, sB, sC, i64_w, i32_w, sD]
        rfl
      refine done_ (by kernel_rfl) ?_
      go_wp2_with fail
      exact ⟨⟨i + 1, D4, T4, by omega, rfl, hT4, hAnn.okT hOk, hB4⟩, by show l.length - ((i + 1 : Nat) : Int).toNat < l.length - (i : Int).toNat; omega⟩
    · obtain rfl : i = l.length := by omega
      have gl : ¬ (l.length : Int) < (l.length : Int) := by omega
      have hbx := blk_below HX.out (by rw [hsw1]; exact hB)
      have y0 := blk_cell hbx 0
      have y1 := blk_cell hbx 1
      have y2 := blk_cell hbx 2
      have y3 := blk_cell hbx 3
      have y4 := blk_cell hbx 4
      have y5 := blk_cell hbx 5
      have hqn : qn.size ≤ maxLen := by have := HF.out.2.2.1; unfold maxLen; omega
      have hBw : Below w.heap.size w wr := by have h1 := HB1.out; exact h1.trans (hB.mono (by omega))
      have hLr := HLB.out.below hBw
      have HBW := Aside.mk hBw
      have hNd := fun W hT => nodes (T := T) (D := D) (lo := lo) (t := t) (bm := bm) (n := l.length) (room := 5) qn hqn qw W hT
      clear hB hBw
      by_cases hg : tickB qw = true ∧ okP (px, py) = true ∧ (0 : Int) ≤ 6 ∧ nodesL T qn.data.toList qw ≠ []
      · have hpw := nodesL_pw (fun s j x h => (hT.note s j x h).2.1) qn.data.toList qw
        obtain ⟨u, c, hTx, _, hcu⟩ := Tx.text_eq qn qt (lkN (nodesL T qn.data.toList qw) (foundL (nodesL T qn.data.toList qw) (px, py) 6)) (lkP (nodesL T qn.data.toList qw) (foundL (nodesL T qn.data.toList qw) (px, py) 6)) 6000 (by omega)
        have hLk := link_some qn qt hqn (px, py) qw wr hT hOk hLr hg.1 hg.2.1 hg.2.2.2 6000 u c hTx
        rcases hcu with ⟨rfl, _⟩ | ⟨rfl, hu⟩
        · have hFd := fun W hT => find_some (T := T) (D := D) (lo := lo) (t := t) (bm := bm) (n := l.length) (room := 5) qn hqn (px, py) 1 qw W hT hOk hg.1 hg.2.1 (by decide) hg.2.2.2
          obtain ⟨hRf, v, h1, hNf⟩ := link_facts hpw hg.2.2.2 hg.2.1 qn qt u hTx
          have hln := linkN_len (ns := nodesL T qn.data.toList qw) (a := (px, py)) (k := 6) hpw
          rw [show ((1 : Int)).toNat = 1 from rfl, h1] at hFd
          have hle := nodesL_le T qn.data.toList qw
          have hlnN : (lkN (nodesL T qn.data.toList qw) (foundL (nodesL T qn.data.toList qw) (px, py) 6)).length = min 6 (nodesL T qn.data.toList qw).length := by unfold lkN; rw [List.length_map]; exact hln
          generalize lkN (nodesL T qn.data.toList qw) (foundL (nodesL T qn.data.toList qw) (px, py) 6) = lN at *
          generalize lkP (nodesL T qn.data.toList qw) (foundL (nodesL T qn.data.toList qw) (px, py) 6) = lP at *
          generalize nodesL T qn.data.toList qw = ns at *
          have hmin : min (6 : Int) (ns.length : Int) = (lN.length : Int) := by omega
          have hRd := fun W hW => link_Read.calls u qn qt lN lP 0 W hRf hW
          have HM := Aside.mk (And.intro hmin hle)
          clear hg hpw hTx h1 hRf hln hlnN hmin hle
          go_upto_region 14 with (first
            | (go_at_call 16; refine hLk.mono ?_; rintro e w4 ⟨rfl, hb4⟩; have hT4 := hT.below hb4; have hbx4 := blk_below hbx hb4; have z0 := blk_cell hbx4 0; have z4 := blk_cell hbx4 4; have z5 := blk_cell hbx4 5; have z3 := blk_cell hbx4 3; have z1 := blk_cell hbx4 1; have z2 := blk_cell hbx4 2)
            | (go_at_call 26; refine (hRd _ (hLr.below hb4)).mono ?_; rintro e w5 ⟨v2, v3, rfl, hR2, hR3, hb5⟩; obtain ⟨A2, c2, rfl, hl2, hC2⟩ := Kd.R_reads hR2; obtain ⟨A3, c3, rfl, hl3, hC3⟩ := Kd.R_reads hR3; have hb45 := hb4.trans (hb5.mono hb4.size); have hb6 := below_alloc (Below.refl w5.heap.size w5) (.cells #[.string qn, .string qt, .slice A2 lN.length c2, .slice A3 lP.length c3] 70); have hg6 := blk_new w5 (.cells #[.string qn, .string qt, .slice A2 lN.length c2, .slice A3 lP.length c3] 70); have hT6 := (hT4.below hb5).below hb6; have hbx6 := blk_below (blk_below hbx4 hb5) hb6; have z0 := blk_cell hbx6 0; have z4 := blk_cell hbx6 4; have z5 := blk_cell hbx6 5; have z3 := blk_cell hbx6 3; have z1 := blk_cell hbx6 1; have z2 := blk_cell hbx6 2)
            | (go_at_call 13; refine (hFd _ hT6).mono ?_; rintro e w7 ⟨v7, rfl, hR7, hb7⟩; obtain ⟨A7, c7, rfl, hl7, hC7⟩ := Kd.R_reads hR7; have hT7 := hT6.below hb7; have hbx7 := blk_below hbx6 hb7; have hg7 := blk_below hg6 hb7; have hN7 := link_Nearest.calls qn qt A2 c2 lN A3 c3 lP px py v 0 w7 (Kd.C_below (Kd.C_below hC2 hb6) hb7) hl2 (Kd.C_below (Kd.C_below hC3 hb6) hb7) hl3 hNf; have z0 := blk_cell hbx7 0; have z4 := blk_cell hbx7 4; have z5 := blk_cell hbx7 5; have z3 := blk_cell hbx7 3; have z1 := blk_cell hbx7 1; have z2 := blk_cell hbx7 2; have y0 := blk_cell hg7 0; have y1 := blk_cell hg7 1; have y2 := blk_cell hg7 2; have y3 := blk_cell hg7 3)
            | (go_at_call 27; refine hN7.mono ?_; rintro e w8 ⟨rfl, hb8⟩; have hT8 := hT7.below hb8; have hbx8 := blk_below hbx7 hb8; have hg8 := blk_below hg7 hb8))
          obtain ⟨_, _, h3⟩ := hC7
          obtain ⟨ad7, rfl, h4⟩ := h3 (by simp)
          obtain ⟨cs7, _, hk7, h5⟩ := h4 0 v rfl
          have hv := h5 0 (.int .i64 v) (by rw [show cs7 = [.int .i64 v] from hk7]; rfl)
          have hmin := HM.out.1
          have hS : ∀ W, Below w8.heap.size w8 W → (fun W => W.cell? ⟨w5.heap.size, 0, none⟩ = some (.string qn) ∧ W.cell? ⟨w5.heap.size, 1, none⟩ = some (.string qt) ∧ W.cell? ⟨w5.heap.size, 2, none⟩ = some (.slice A2 lN.length c2) ∧ W.cell? ⟨w.heap.size, 0, none⟩ = some (.string qn) ∧ W.cell? ⟨w.heap.size, 1, none⟩ = some (.string qt) ∧ W.cell? ⟨w.heap.size, 5, none⟩ = some (.int .i64 qw)) W := fun W hW => by
            have r1 := blk_below hbx8 hW
            have r2 := blk_below hg8 hW
            exact ⟨blk_cell r2 0, blk_cell r2 1, blk_cell r2 2, blk_cell r1 0, blk_cell r1 1, blk_cell r1 5⟩
          have HV := Aside.mk (And.intro hv (And.intro hb8 (And.intro hb45 (And.intro hb6 hb7))))
          clear hv hb8 hb45 hb6 hb7 hb4 hb5 hC2 hC3 hR2 hR3 hR7 h3 h4 h5 hk7 z0 z1 z2 z3 z4 z5 y0 y1 y2 y3 hFd hRd hLk hNf hN7 hT4 hT6 hT7 hbx4 hbx6 hbx7 hg6 hg7
          go_wp2_with fail
          refine start_ (n := 39) (S := fun W => W.cell? ⟨w5.heap.size, 0, none⟩ = some (.string qn) ∧ W.cell? ⟨w5.heap.size, 1, none⟩ = some (.string qt) ∧ W.cell? ⟨w5.heap.size, 2, none⟩ = some (.slice A2 lN.length c2) ∧ W.cell? ⟨w.heap.size, 0, none⟩ = some (.string qn) ∧ W.cell? ⟨w.heap.size, 1, none⟩ = some (.string qt) ∧ W.cell? ⟨w.heap.size, 5, none⟩ = some (.int .i64 qw)) (ds := []) (fB 39 0) (by kernel_rfl) rfl rfl (hS _ (below_drew1 (Below.refl _ _))) (fun hHeld => ?_)
          refine pure_ (i := 0) (N := some 87) (v := ?_) (a' := ?_) (fB 39 1) rfl rfl (by kernel_rfl) (fun _ _ _ h => h) (Or.inl ⟨by rfl, ?_⟩) ?_ ?_
          rotate_left
          · intro w'
            go_simp
            with_reducible rfl
          rotate_left
          · simp only [Act.put, sA, sB, sC, i64_w, i32_w, sD, w00, hmin, bne_self_eq_false]
            rfl
          refine pure_ (i := 1) (N := some 88) (v := ?_) (a' := ?_) (fB 39 3) rfl rfl (by kernel_rfl) (fun _ _ _ h => h) (Or.inl ⟨by rfl, ?_⟩) ?_ ?_
          rotate_left
          · intro w'
            go_simp
            with_reducible rfl
          rotate_left
          · simp only [Act.put, sA, sB, sC, i64_w, i32_w, sD, w00, hmin, bne_self_eq_false]
            rfl
          refine pure_ (i := 2) (N := some 89) (v := ?_) (a' := ?_) (fB 39 7) rfl rfl (by kernel_rfl) (fun _ _ _ h => h) (Or.inl ⟨by rfl, ?_⟩) ?_ ?_
          rotate_left
          · intro w'
            go_simp
            with_reducible rfl
          rotate_left
          · simp only [Act.put, sA, sB, sC, i64_w, i32_w, sD, w00, hmin, bne_self_eq_false]
            rfl
          refine pure_ (i := 3) (N := some 90) (v := ?_) (a' := ?_) (fB 39 15) rfl rfl (by kernel_rfl) (fun _ _ _ h => h) (Or.inl ⟨by rfl, ?_⟩) ?_ ?_
          rotate_left
          · intro w'
            go_simp
            with_reducible rfl
          rotate_left
          · simp only [Act.put, sA, sB, sC, i64_w, i32_w, sD, w00, hmin, bne_self_eq_false]
            rfl
          refine pure_ (i := 4) (N := some 91) (v := ?_) (a' := ?_) (fB 39 31) rfl rfl (by kernel_rfl) (fun _ _ _ h => h) (Or.inl ⟨by rfl, ?_⟩) ?_ ?_
          rotate_left
          · intro w'
            go_simp
            with_reducible rfl
          rotate_left
          · simp only [Act.put, sA, sB, sC, i64_w, i32_w, sD, w00, hmin, bne_self_eq_false]
            rfl
          refine pure_ (i := 5) (N := some 92) (v := ?_) (a' := ?_) (fB 39 63) rfl rfl (by kernel_rfl) (fun _ _ _ h => h) (Or.inl ⟨by rfl, ?_⟩) ?_ ?_
          rotate_left
          · intro w'
            go_simp
            with_reducible rfl
          rotate_left
          · simp only [Act.put, sA, sB, sC, i64_w, i32_w, sD, w00, hmin, bne_self_eq_false]
            rfl
          refine pure_ (i := 6) (N := some 93) (v := ?_) (a' := ?_) (fB 39 127) rfl rfl (by kernel_rfl) (fun _ _ _ h => h) (Or.inl ⟨by rfl, ?_⟩) ?_ ?_
          rotate_left
          · intro w'
            go_simp
            with_reducible rfl
          rotate_left
          · simp only [Act.put, sA, sB, sC, i64_w, i32_w, sD, w00, hmin, bne_self_eq_false]
            rfl
          refine pure_ (i := 7) (N := some 94) (v := ?_) (a' := ?_) (fB 39 255) rfl rfl (by kernel_rfl) (fun _ _ _ h => h) (Or.inl ⟨by rfl, ?_⟩) ?_ ?_
          rotate_left
          · intro w'
            go_simp
            with_reducible rfl
          rotate_left
          · simp only [Act.put, sA, sB, sC, i64_w, i32_w, sD, w00, hmin, bne_self_eq_false]
            rfl
          refine take_ (i := 8) (N := some 95) (v := ?_) (a' := ?_) (fB 39 511) rfl rfl (by kernel_rfl) (fun _ _ _ h => h) (Or.inl ⟨by rfl, ?_⟩) hHeld ?_ ?_
          rotate_left
          · rintro w' ⟨s0, s1, s2, s3, s4, s5⟩
            go_simp
            with_reducible rfl
          rotate_left
          · simp only [Act.put, sA, sB, sC, i64_w, i32_w, sD, w00, hmin, bne_self_eq_false]
            rfl
          refine pure_ (i := 9) (N := some 96) (v := ?_) (a' := ?_) (fB 39 1023) rfl rfl (by kernel_rfl) (fun _ _ _ h => h) (Or.inl ⟨by rfl, ?_⟩) ?_ ?_
          rotate_left
          · intro w'
            go_simp
            with_reducible rfl
          rotate_left
          · simp only [Act.put, sA, sB, sC, i64_w, i32_w, sD, w00, hmin, bne_self_eq_false]
            rfl
          refine take_ (i := 10) (N := some 97) (v := ?_) (a' := ?_) (fB 39 2047) rfl rfl (by kernel_rfl) (fun _ _ _ h => h) (Or.inl ⟨by rfl, ?_⟩) hHeld ?_ ?_
          rotate_left
          · rintro w' ⟨s0, s1, s2, s3, s4, s5⟩
            go_simp
            with_reducible rfl
          rotate_left
          · simp only [Act.put, sA, sB, sC, i64_w, i32_w, sD, w00, hmin, bne_self_eq_false]
            rfl
          refine pure_ (i := 11) (N := some 98) (v := ?_) (a' := ?_) (fB 39 4095) rfl rfl (by kernel_rfl) (fun _ _ _ h => h) (Or.inl ⟨by rfl, ?_⟩) ?_ ?_
          rotate_left
          · intro w'
            go_simp
            with_reducible rfl
          rotate_left
          · simp only [Act.put, sA, sB, sC, i64_w, i32_w, sD, w00, hmin, bne_self_eq_false]
            rfl
          refine pure_ (i := 12) (N := some 99) (v := ?_) (a' := ?_) (fB 39 8191) rfl rfl (by kernel_rfl) (fun _ _ _ h => h) (Or.inl ⟨by rfl, ?_⟩) ?_ ?_
          rotate_left
          · intro w'
            go_simp
            with_reducible rfl
          rotate_left
          · simp only [Act.put, sA, sB, sC, i64_w, i32_w, sD, w00, hmin, bne_self_eq_false]
            rfl
          refine pure_ (i := 13) (N := some 100) (v := ?_) (a' := ?_) (fB 39 16383) rfl rfl (by kernel_rfl) (fun _ _ _ h => h) (Or.inl ⟨by rfl, ?_⟩) ?_ ?_
          rotate_left
          · intro w'
            go_simp
            with_reducible rfl
          rotate_left
          · simp only [Act.put, sA, sB, sC, i64_w, i32_w, sD, w00, hmin, bne_self_eq_false]
            rfl
          refine pure_ (i := 14) (N := some 101) (v := ?_) (a' := ?_) (fB 39 32767) rfl rfl (by kernel_rfl) (fun _ _ _ h => h) (Or.inl ⟨by rfl, ?_⟩) ?_ ?_
          rotate_left
          · intro w'
            go_simp
            with_reducible rfl
          rotate_left
          · simp only [Act.put, sA, sB, sC, i64_w, i32_w, sD, w00, hmin, bne_self_eq_false]
            rfl
          refine take_ (i := 15) (N := some 102) (v := ?_) (a' := ?_) (fB 39 65535) rfl rfl (by kernel_rfl) (fun _ _ _ h => h) (Or.inl ⟨by rfl, ?_⟩) hHeld ?_ ?_
          rotate_left
          · rintro w' ⟨s0, s1, s2, s3, s4, s5⟩
            go_simp
            with_reducible rfl
          rotate_left
          · simp only [Act.put, sA, sB, sC, i64_w, i32_w, sD, w00, hmin, bne_self_eq_false]
            rfl
          refine pure_ (i := 16) (N := some 103) (v := ?_) (a' := ?_) (fB 39 131071) rfl rfl (by kernel_rfl) (fun _ _ _ h => h) (Or.inl ⟨by rfl, ?_⟩) ?_ ?_
          rotate_left
          · intro w'
            go_simp
            with_reducible rfl
          rotate_left
          · simp only [Act.put, sA, sB, sC, i64_w, i32_w, sD, w00, hmin, bne_self_eq_false]
            rfl
          refine take_ (i := 17) (N := some 104) (v := ?_) (a' := ?_) (fB 39 262143) rfl rfl (by kernel_rfl) (fun _ _ _ h => h) (Or.inl ⟨by rfl, ?_⟩) hHeld ?_ ?_
          rotate_left
          · rintro w' ⟨s0, s1, s2, s3, s4, s5⟩
            go_simp
            with_reducible rfl
          rotate_left
          · simp only [Act.put, sA, sB, sC, i64_w, i32_w, sD, w00, hmin, bne_self_eq_false]
            rfl
          refine pure_ (i := 18) (N := some 105) (v := ?_) (a' := ?_) (fB 39 524287) rfl rfl (by kernel_rfl) (fun _ _ _ h => h) (Or.inl ⟨by rfl, ?_⟩) ?_ ?_
          rotate_left
          · intro w'
            go_simp
            with_reducible rfl
          rotate_left
          · simp only [Act.put, sA, sB, sC, i64_w, i32_w, sD, w00, hmin, bne_self_eq_false]
            rfl
          refine pure_ (i := 19) (N := some 106) (v := ?_) (a' := ?_) (fB 39 1048575) rfl rfl (by kernel_rfl) (fun _ _ _ h => h) (Or.inl ⟨by rfl, ?_⟩) ?_ ?_
          rotate_left
          · intro w'
            go_simp
            with_reducible rfl
          rotate_left
          · simp only [Act.put, sA, sB, sC, i64_w, i32_w, sD, w00, hmin, bne_self_eq_false]
            rfl
          refine pure_ (i := 20) (N := some 107) (v := ?_) (a' := ?_) (fB 39 2097151) rfl rfl (by kernel_rfl) (fun _ _ _ h => h) (Or.inl ⟨by rfl, ?_⟩) ?_ ?_
          rotate_left
          · intro w'
            go_simp
            with_reducible rfl
          rotate_left
          · simp only [Act.put, sA, sB, sC, i64_w, i32_w, sD, w00, hmin, bne_self_eq_false]
            rfl
          refine pure_ (i := 21) (N := some 108) (v := ?_) (a' := ?_) (fB 39 4194303) rfl rfl (by kernel_rfl) (fun _ _ _ h => h) (Or.inl ⟨by rfl, ?_⟩) ?_ ?_
          rotate_left
          · intro w'
            go_simp
            with_reducible rfl
          rotate_left
          · simp only [Act.put, sA, sB, sC, i64_w, i32_w, sD, w00, hmin, bne_self_eq_false]
            rfl
          refine take_ (i := 22) (N := some 109) (v := ?_) (a' := ?_) (fB 39 8388607) rfl rfl (by kernel_rfl) (fun _ _ _ h => h) (Or.inl ⟨by rfl, ?_⟩) hHeld ?_ ?_
          rotate_left
          · rintro w' ⟨s0, s1, s2, s3, s4, s5⟩
            go_simp
            with_reducible rfl
          rotate_left
          · simp only [Act.put, sA, sB, sC, i64_w, i32_w, sD, w00, hmin, bne_self_eq_false]
            rfl
          refine pure_ (i := 23) (N := some 110) (v := ?_) (a' := ?_) (fB 39 16777215) rfl rfl (by kernel_rfl) (fun _ _ _ h => h) (Or.inl ⟨by rfl, ?_⟩) ?_ ?_
          rotate_left
          · intro w'
            go_simp
            with_reducible rfl
          rotate_left
          · simp only [Act.put, sA, sB, sC, i64_w, i32_w, sD, w00, hmin, bne_self_eq_false]
            rfl
          refine pure_ (i := 24) (N := some 111) (v := ?_) (a' := ?_) (fB 39 33554431) rfl rfl (by kernel_rfl) (fun _ _ _ h => h) (Or.inl ⟨by rfl, ?_⟩) ?_ ?_
          rotate_left
          · intro w'
            go_simp
            with_reducible rfl
          rotate_left
          · simp only [Act.put, sA, sB, sC, i64_w, i32_w, sD, w00, hmin, bne_self_eq_false]
            rfl
          refine pure_ (i := 25) (N := some 112) (v := ?_) (a' := ?_) (fB 39 67108863) rfl rfl (by kernel_rfl) (fun _ _ _ h => h) (Or.inl ⟨by rfl, ?_⟩) ?_ ?_
          rotate_left
          · intro w'
            go_simp
            with_reducible rfl
          rotate_left
          · simp only [Act.put, sA, sB, sC, i64_w, i32_w, sD, w00, hmin, bne_self_eq_false]
            rfl
          refine take_ (i := 26) (N := some 113) (v := ?_) (a' := ?_) (fB 39 134217727) rfl rfl (by kernel_rfl) (fun _ _ _ h => h) (Or.inl ⟨by rfl, ?_⟩) hHeld ?_ ?_
          rotate_left
          · rintro w' ⟨s0, s1, s2, s3, s4, s5⟩
            go_simp
            with_reducible rfl
          rotate_left
          · simp only [Act.put, sA, sB, sC, i64_w, i32_w, sD, w00, hmin, bne_self_eq_false]
            rfl
          refine pure_ (i := 27) (N := some 114) (v := ?_) (a' := ?_) (fB 39 268435455) rfl rfl (by kernel_rfl) (fun _ _ _ h => h) (Or.inl ⟨by rfl, ?_⟩) ?_ ?_
          rotate_left
          · intro w'
            go_simp
            with_reducible rfl
          rotate_left
          · simp only [Act.put, sA, sB, sC, i64_w, i32_w, sD, w00, hmin, bne_self_eq_false]
            rfl
          refine take_ (i := 28) (N := some 115) (v := ?_) (a' := ?_) (fB 39 536870911) rfl rfl (by kernel_rfl) (fun _ _ _ h => h) (Or.inl ⟨by rfl, ?_⟩) hHeld ?_ ?_
          rotate_left
          · rintro w' ⟨s0, s1, s2, s3, s4, s5⟩
            go_simp
            with_reducible rfl
          rotate_left
          · simp only [Act.put, sA, sB, sC, i64_w, i32_w, sD, w00, hmin, bne_self_eq_false]
            rfl
          refine one_ (i := 29) (N := some 116) (fB 39 1073741823) rfl rfl (by kernel_rfl) (by decide) (fun K hK => ?_)
          refine goes_ Tryz.func20 (by kernel_rfl) rfl #[.pointer (some ⟨t, 0, none⟩), .string qn, .int .i64 qw] (by rfl) rfl rfl (by (try simp only [List.map_toArray, List.map_cons, List.map_nil]); first | done | rfl) ?_
          refine (hNd w8.drew (hT8.below (below_drew1 (Below.refl _ _)))).mono ?_
          rintro e w9 ⟨v9, rfl, hR9, hb9⟩
          obtain ⟨A9, c9, rfl, hl9, hC9⟩ := Kd.R_reads hR9
          have hB9 : Below w8.heap.size w8 w9 := (below_drew1 (Below.refl _ _)).trans (hb9.mono (Nat.le_refl _))
          clear hR9 hb9 hC9
          refine ⟨_, rfl, ?_⟩
          refine hK.out _ _ (hS w9 hB9) (fun hHeld => ?_)
          clear hK K
          refine norm_ (a' := ?_) ?_ ?_
          rotate_left
          · show Act.put _ (some 116) _ = _
            simp only [Act.put, sA, sB, sC, i64_w, i32_w, sD, w00, hmin, bne_self_eq_false]
            rfl
          refine pure_ (i := 30) (N := some 117) (v := ?_) (a' := ?_) (fB 39 2147483647) rfl rfl (by kernel_rfl) (fun _ _ _ h => h) (Or.inl ⟨by rfl, ?_⟩) ?_ ?_
          rotate_left
          · intro w'
            go_simp
            with_reducible rfl
          rotate_left
          · simp only [Act.put, sA, sB, sC, i64_w, i32_w, sD, w00, hmin, bne_self_eq_false]
            rfl
          refine pure_ (i := 31) (N := some 118) (v := ?_) (a' := ?_) (fB 39 4294967295) rfl rfl (by kernel_rfl) (fun _ _ _ h => h) (Or.inl ⟨by rfl, ?_⟩) ?_ ?_
          rotate_left
          · intro w'
            go_simp
            with_reducible rfl
          rotate_left
          · simp only [Act.put, sA, sB, sC, i64_w, i32_w, sD, w00, hmin, bne_self_eq_false]
            rfl
          refine pure_ (i := 32) (N := some 119) (v := ?_) (a' := ?_) (fB 39 8589934591) rfl rfl (by kernel_rfl) (fun _ _ _ h => h) (Or.inl ⟨by rfl, ?_⟩) ?_ ?_
          rotate_left
          · intro w'
            go_simp
            with_reducible rfl
          rotate_left
          · simp only [Act.put, sA, sB, sC, i64_w, i32_w, sD, w00, hmin, bne_self_eq_false]
            rfl
          refine pure_ (i := 33) (N := some 120) (v := ?_) (a' := ?_) (fB 39 17179869183) rfl rfl (by kernel_rfl) (fun _ _ _ h => h) (Or.inl ⟨by rfl, ?_⟩) ?_ ?_
          rotate_left
          · intro w'
            go_simp
            with_reducible rfl
          rotate_left
          · simp only [Act.put, sA, sB, sC, i64_w, i32_w, sD, w00, hmin, bne_self_eq_false]
            rfl
          refine pure_ (i := 34) (N := some 121) (v := ?_) (a' := ?_) (fB 39 34359738367) rfl rfl (by kernel_rfl) (fun _ _ _ h => h) (Or.inl ⟨by rfl, ?_⟩) ?_ ?_
          rotate_left
          · intro w'
            go_simp
            with_reducible rfl
          rotate_left
          · simp only [Act.put, sA, sB, sC, i64_w, i32_w, sD, w00, hmin, bne_self_eq_false]
            rfl
          refine pure_ (i := 35) (N := some 122) (v := ?_) (a' := ?_) (fB 39 68719476735) rfl rfl (by kernel_rfl) (fun _ _ _ h => h) (Or.inl ⟨by rfl, ?_⟩) ?_ ?_
          rotate_left
          · intro w'
            go_simp
            with_reducible rfl
          rotate_left
          · simp only [Act.put, sA, sB, sC, i64_w, i32_w, sD, w00, hmin, bne_self_eq_false]
            rfl
          refine pure_ (i := 36) (N := some 123) (v := ?_) (a' := ?_) (fB 39 137438953471) rfl rfl (by kernel_rfl) (fun _ _ _ h => h) (Or.inl ⟨by rfl, ?_⟩) ?_ ?_
          rotate_left
          · intro w'
            go_simp
            with_reducible rfl
          rotate_left
          · simp only [Act.put, sA, sB, sC, i64_w, i32_w, sD, w00, hmin, bne_self_eq_false]
            rfl
          refine pure_ (i := 37) (N := some 124) (v := ?_) (a' := ?_) (fB 39 274877906943) rfl rfl (by kernel_rfl) (fun _ _ _ h => h) (Or.inl ⟨by rfl, ?_⟩) ?_ ?_
          rotate_left
          · intro w'
            go_simp
            with_reducible rfl
          rotate_left
          · simp only [Act.put, sA, sB, sC, i64_w, i32_w, sD, w00, hmin, bne_self_eq_false]
            rfl
          refine pure_ (i := 38) (N := some 125) (v := ?_) (a' := ?_) (fB 39 549755813887) rfl rfl (by kernel_rfl) (fun _ _ _ h => h) (Or.inl ⟨by rfl, ?_⟩) ?_ ?_
          rotate_left
          · intro w'
            go_simp
            with_reducible rfl
          rotate_left
          · simp only [Act.put, sA, sB, sC, i64_w, i32_w, sD, w00, hmin, bne_self_eq_false]
            rfl
          refine done_ (by kernel_rfl) ?_
          obtain ⟨hv, hb8, hb45, hb6, hb7⟩ := HV.out
          have hv9 := (hB9.cell (World.block_lt_of_cell? _ _ ((hb8.cell (World.block_lt_of_cell? _ _ hv)).trans hv))).trans ((hb8.cell (World.block_lt_of_cell? _ _ hv)).trans hv)
          rw [show ad7.add (0 * (Kd.int .i64).sz + 0) = ad7 by unfold Addr.add; split <;> simp_all] at hv9
          have HB9 := HBW.out.trans ((hb45.trans ((hb6.trans ((hb7.trans ((hb8.trans (hB9.mono hb8.size)).mono hb7.size)).mono hb6.size)).mono hb45.size)).mono HBW.out.size)
          clear hv hb8 hb45 hb6 hb7 hB9
          go_wp2_with fail
          go_ret
          exact ⟨rfl, HB9⟩
        · obtain rfl := empty_of hu
          go_wp2_with (go_at_call 16; refine hLk.mono ?_; rintro e w4 ⟨rfl, hb4⟩)
          go_ret
          exact ⟨rfl, HBW.out.trans (hb4.mono HBW.out.size)⟩
      · have hE := find_err hg
        have hE0 : (findL T qn.data.toList (px, py) 6 qw).2 ≠ 0 := by rcases hE with hE | hE <;> (rw [hE]; decide)
        have hLk := link_none qn qt hqn (px, py) qw wr hT hg hE0
        rcases hE with hE | hE
        all_goals
          rw [hE] at hLk
          go_wp2_with (go_at_call 16; refine hLk.mono ?_; rintro e w4 ⟨rfl, hb4⟩)
          go_ret
          exact ⟨rfl, HBW.out.trans (hb4.mono HBW.out.size)⟩
end Go.Proofs.YtmimnlbkllgfpaaGreatDoor.Tb
