/- link.Nearest: walked. -/
import Derived.Test.YtmimnlbkllgfpaaGreatDoorAx0
import Derived.Test.YtmimnlbkllgfpaaGreatDoorAx1
import Derived.Test.YtmimnlbkllgfpaaGreatDoorAx2
import Derived.Test.YtmimnlbkllgfpaaGreatDoorAx3
import Derived.Test.YtmimnlbkllgfpaaGreatDoorAx4
import Derived.Test.YtmimnlbkllgfpaaGreatDoorAx5
import Derived.Test.YtmimnlbkllgfpaaGreatDoorNe
import Derived.Lib.LazyBuf
import Derived.Test.YtmimnlbkllgfpaaGreatDoorCu
namespace Go.Proofs.YtmimnlbkllgfpaaGreatDoor.Hand
open Go.RowKit Go.Proofs.YtmimnlbkllgfpaaGreatDoor.A Go.Proofs.YtmimnlbkllgfpaaGreatDoorW.PrintWords Go.Proofs.YtmimnlbkllgfpaaGreatDoor.Di Go.Proofs.YtmimnlbkllgfpaaGreatDoor.So

set_option maxHeartbeats 1000000 in
set_option maxRecDepth 100000 in
theorem clone (A0 : Option Addr) (c0 : Nat) (l0 : List S24) (w : World) (hr0 : Kd.C k24 w A0 l0.length l0) (hl : l0.length ≤ 1000) (hne : l0 ≠ []) :
    Calls Tryz.prog 53 #[.slice A0 l0.length c0] w fun e w' => ∃ v0_ : Value, e = .returned v0_ ∧ Kd.R k24 24 w' w.heap.size (fun _ => True) v0_ l0 ∧ Below w.heap.size w w' := by
  have hE := fun (w : World) (A : Option Addr) (n c : Nat) => Go.run_eql_slice_nil (P := Tryz.prog) w 68 24 A n c Tryz.underlying68
  cases A0 with
  | none =>
    exfalso
    obtain ⟨ad, h, _⟩ := hr0.2.2 (List.length_pos_iff.mpr hne)
    cases h
  | some ad =>
    go_enter Tryz.func53, Tryz.ntmps53
    have hO : Kd.R k24 24 (w.alloc (Obj.cells #[] 24)) w.heap.size (fun _ => True) (.slice (some ⟨w.heap.size, 0, none⟩) 0 0) [] := by
      refine ⟨fun _ _ => trivial, [], ?_, ?_⟩
      · have h2 := World.ownsRow_lit (base := w.heap.size) (e := 24) (size := k24.sz) w #[] 0 (Nat.le_refl _) (by simp [maxLen]) (by rfl)
        simpa using h2
      · exact ⟨rfl, by simp⟩
    have hC : Kd.C k24 (w.alloc (Obj.cells #[] 24)) (some ad) l0.length l0 := Kd.C_below hr0 (below_alloc (Below.refl _ w) _)
    have hB := below_alloc (Below.refl w.heap.size w) (Obj.cells #[] 24)
    have hS := hB.size
    have hL : l0.length * 16 ≤ 16000 := by omega
    have info34 : (Tryz.prog.info? 24).map (fun i => (i.zero, i.size, i.bytes)) = some (some (.agg #[(.int .i64 0), (.int .i64 0)]), k24.sz, 16) := by kernel_rfl
    go_wp2_with ((with_reducible refine gate_builtin (b := .append) (xs := #[.tmp 5, .tmp 6]) rfl ?_); at_builtin; refine Kd.R_append_rows k24 (w0 := w) w.heap.size rfl (.tmp 5) (.tmp 6) 68 24 (.agg #[(.int .i64 0), (.int .i64 0)]) 16 rfl Tryz.underlying68 info34 rfl (by decide) (by omega) (.slice (some ⟨w.heap.size, 0, none⟩) 0 0) [] l0 (some ad) l0.length c0 (fun _ => True) (fun _ => False) rfl rfl hO hC (fun _ _ h => h) (fun _ h => h.elim) (fun _ _ => trivial) hB hS (by simp only [List.length_nil]; omega) ?_; intro v1 w1 ho hb _ _)
    go_ret
    exact ⟨_, rfl, ho, hb⟩
end Go.Proofs.YtmimnlbkllgfpaaGreatDoor.Hand
/- link.Nearest: walked. -/
namespace Go.Proofs.YtmimnlbkllgfpaaGreatDoor.Hand
open Go.RowKit Go.Proofs.YtmimnlbkllgfpaaGreatDoor.A Go.Proofs.YtmimnlbkllgfpaaGreatDoorW.PrintWords Go.Proofs.YtmimnlbkllgfpaaGreatDoor.Di Go.Proofs.YtmimnlbkllgfpaaGreatDoor.So

/-- A place as a pair. -/
def pq (p : S24) : Int × Int := (p.f0, p.f1)
/-- Which of the places is the nearest. -/
def first (a : Int × Int) (l : List S24) : Int := (nearL (dst a (l.map pq)) l.length).getD 0 0
def link_Nearest.f (a0_0 a0_1 : ByteArray) (l0_2 : List Int) (l0_3 : List S24) (a1_0 a1_1 : Int) : Option (Int × Int) :=
  (link_Check.f 1200 a0_0 a0_1 l0_2 l0_3).bind fun c => if c = true ∧ okB a1_0 a1_1 = true then (if l0_2 = [] then some (0, 4) else some (l0_2.getD (first (a1_0, a1_1) l0_3).toNat 0, 0)) else some (0, 1)

theorem pcheck (a b : Int) : plane_Check.f a b = some (okB a b) := by
  unfold plane_Check.f
  rw [Tx.within_eq, Option.bind_some, Tx.within_eq]
  by_cases h : (decide (-1048576 ≤ a) && decide (a ≤ 1048576)) = true
  · rw [if_pos h]
    simp at h
    simp [okB, inB, h]
  · rw [if_neg h]
    simp at h
    simp [okB, inB]
    intro h1 h2; exact absurd (h h1) (by omega)
theorem first_in (a : Int × Int) (l : List S24) (h : l ≠ []) : (nearL (dst a (l.map pq)) l.length)[0]? = some (first a l) ∧ 0 ≤ first a l ∧ first a l < l.length := by
  have hp : 0 < l.length := List.length_pos_iff.mpr h
  have h0 : 0 < (nearL (dst a (l.map pq)) l.length).length := by rw [nearL_len]; exact hp
  have e : first a l = (nearL (dst a (l.map pq)) l.length)[0] := by
    unfold first; rw [List.getD_eq_getElem?_getD, List.getElem?_eq_getElem h0]; rfl
  have := (nearL_mem (dst a (l.map pq)) l.length (first a l)).1 (by rw [e]; exact List.getElem_mem h0)
  exact ⟨by rw [e, List.getElem?_eq_getElem h0], this⟩
/-- An own row of places, as plane.Near takes it. -/
theorem pls_of {w : World} {base : Nat} {v : Value} {l : List S24} (h : Kd.R k24 24 w base (fun _ => True) v l) (hne : l ≠ []) :
    ∃ g cap, v = .slice (some ⟨g, 0, none⟩) l.length cap ∧ g < w.heap.size ∧ Pls w g (l.map pq) := by
  have hp : 0 < l.length := List.length_pos_iff.mpr hne
  obtain ⟨inner, ho⟩ := Kd.R_own h
  rcases ho.2 with ⟨_, h0⟩ | ⟨g, cap, cur, hv, hg, hcur, _⟩
  · omega
  · have hgl : g < w.heap.size := by
      rcases Nat.lt_or_ge g w.heap.size with h | h
      · exact h
      · rw [Array.getElem?_eq_none h] at hcur; cases hcur
    refine ⟨g, cap, hv, hgl, fun k x hx => ?_⟩
    obtain ⟨A, c, hv2, _, hr⟩ := Kd.R_reads h
    rw [hv] at hv2
    injection hv2 with e1 _ _
    obtain ⟨_, _, h3⟩ := hr
    obtain ⟨ad, ha, h4⟩ := h3 hp
    rw [← e1] at ha
    obtain rfl := Option.some.inj ha
    rw [List.getElem?_map] at hx
    obtain ⟨p, hp1, rfl⟩ := Option.map_eq_some_iff.1 hx
    obtain ⟨cs, _, hk, h5⟩ := h4 k p hp1
    rw [k24_open hk] at h5
    have q0 := h5 0 _ rfl
    have q1 := h5 1 _ rfl
    have e2 : k24.sz = 2 := rfl
    rw [e2] at q0 q1
    refine ⟨?_, ?_⟩
    · have e : (⟨g, 0, none⟩ : Addr).add (k * 2 + 0) = ⟨g, k * 2, none⟩ := by
        unfold Addr.add; split <;> simp_all
      rw [e] at q0; exact q0
    · have e : (⟨g, 0, none⟩ : Addr).add (k * 2 + 1) = ⟨g, k * 2 + 1, none⟩ := by
        unfold Addr.add; split <;> simp_all
      rw [e] at q1; exact q1

set_option maxHeartbeats 4000000 in
set_option maxRecDepth 100000 in
theorem link_Nearest.calls (a0_0 : ByteArray) (a0_1 : ByteArray) (A0_2 : Option Addr) (c0_2 : Nat) (l0_2 : List Int) (A0_3 : Option Addr) (c0_3 : Nat) (l0_3 : List S24) (a1_0 a1_1 : Int) (r1 r2 : Int) (w : World) (hr0_2 : Kd.C (Kd.int .i64) w A0_2 l0_2.length l0_2) (hc0_2 : l0_2.length ≤ c0_2) (hr0_3 : Kd.C k24 w A0_3 l0_3.length l0_3) (hc0_3 : l0_3.length ≤ c0_3) (h : link_Nearest.f a0_0 a0_1 l0_2 l0_3 a1_0 a1_1 = some (r1, r2)) :
    Calls Tryz.prog 27 #[.agg #[.string a0_0, .string a0_1, .slice A0_2 l0_2.length c0_2, .slice A0_3 l0_3.length c0_3], .agg #[.int .i64 a1_0, .int .i64 a1_1]] w fun e w' => e = .returned (.tuple #[.int .i64 r1, .int .i64 r2]) ∧ Below w.heap.size w w' := by
  unfold link_Nearest.f at h
  obtain ⟨c, hc, hM⟩ := Tx.check_eq a0_0 a0_1 l0_2 l0_3 1200 (by omega)
  rw [hc, Option.bind_some] at h
  have hCk := fun W (hb : Below w.heap.size w W) => link_Check.calls 1200 a0_0 a0_1 A0_2 c0_2 l0_2 A0_3 c0_3 l0_3 c W (Kd.C_below hr0_2 hb) hc0_2 (Kd.C_below hr0_3 hb) hc0_3 hc
  have hCp := fun W => plane_Check.calls a1_0 a1_1 (okB a1_0 a1_1) W (pcheck a1_0 a1_1)
  have hB1 : Below w.heap.size w (w.alloc (.cells #[.string a0_0, .string a0_1, .slice A0_2 l0_2.length c0_2, .slice A0_3 l0_3.length c0_3] 70)) := (Below.refl _ w).alloc (Nat.le_refl _) _
  have hB2 : Below w.heap.size w ((w.alloc (.cells #[.string a0_0, .string a0_1, .slice A0_2 l0_2.length c0_2, .slice A0_3 l0_3.length c0_3] 70)).alloc (.cells #[.int .i64 a1_0, .int .i64 a1_1] 24)) := hB1.alloc hB1.size _
  have hn1 : (w.alloc (.cells #[.string a0_0, .string a0_1, .slice A0_2 l0_2.length c0_2, .slice A0_3 l0_3.length c0_3] 70)).heap[w.heap.size]? = some (.cells #[.string a0_0, .string a0_1, .slice A0_2 l0_2.length c0_2, .slice A0_3 l0_3.length c0_3] 70 (0, 0)) := blk_new w _
  have hn2 := blk_alloc hn1 (.cells #[.int .i64 a1_0, .int .i64 a1_1] 24)
  have hm2 := blk_new (w.alloc (.cells #[.string a0_0, .string a0_1, .slice A0_2 l0_2.length c0_2, .slice A0_3 l0_3.length c0_3] 70)) (.cells #[.int .i64 a1_0, .int .i64 a1_1] 24)
  rw [show (w.alloc (.cells #[.string a0_0, .string a0_1, .slice A0_2 l0_2.length c0_2, .slice A0_3 l0_3.length c0_3] 70)).heap.size = w.heap.size + 1 by simp] at hm2
  by_cases hcd : c = true ∧ okB a1_0 a1_1 = true
  · rw [if_pos hcd] at h
    obtain ⟨rfl, hd⟩ := hcd
    rw [hd] at hCp
    have M := hM rfl
    by_cases hne : l0_2 = []
    · rw [if_pos hne] at h
      simp only [Option.some.injEq, Prod.mk.injEq] at h
      obtain ⟨rfl, rfl⟩ := h
      subst hne
      go_enter Tryz.func27, Tryz.ntmps27
      go_wp2_with (first
        | (go_at_call 52; refine (hCk _ hB2).mono ?_; rintro e w3 ⟨rfl, hb3⟩; have hn3 := blk_below hn2 hb3; have hm3 := blk_below hm2 hb3; have hB3 := hB2.trans (hb3.mono hB2.size); have hc30 := blk_cell hm3 0; have hc31 := blk_cell hm3 1)
        | (go_at_call 37; refine (hCp _).mono ?_; rintro e w4 ⟨rfl, hb4⟩; have hn4 := blk_below hn3 hb4; have hB4 := hB3.trans (hb4.mono hB3.size); have hc42 := blk_cell hn4 2))
      go_ret2
      exact ⟨rfl, hB4⟩
    · rw [if_neg hne] at h
      simp only [Option.some.injEq, Prod.mk.injEq] at h
      obtain ⟨rfl, rfl⟩ := h
      have hnp : 0 < l0_2.length := List.length_pos_iff.mpr hne
      have hne3 : l0_3 ≠ [] := List.length_pos_iff.mp (by have := M.len; omega)
      have hCl := fun W (hb : Below w.heap.size w W) => clone A0_3 c0_3 l0_3 W (Kd.C_below hr0_3 hb) (by have := M.len; have := M.few; omega) hne3
      obtain ⟨hf, hf0, hf1⟩ := first_in (a1_0, a1_1) l0_3 hne3
      obtain ⟨X, hX⟩ := Int.eq_ofNat_of_zero_le hf0
      rw [hX] at hf hf1 ⊢
      have hXl : X < l0_2.length := by have := M.len; omega
      have hCn := fun W (g cap : Nat) (hP : Pls W g (l0_3.map pq)) (hg : g < W.heap.size) => near g cap (a1_0, a1_1) (l0_3.map pq) W hP hg (by rw [List.length_map]; have := M.len; have := M.few; omega) (by simpa using hne3) hd (by
        intro x hx
        obtain ⟨p, hp, rfl⟩ := List.mem_map.1 hx
        obtain ⟨j, hj, rfl⟩ := List.mem_iff_getElem.1 hp
        have := (M.each j (by have := M.len; omega) hj).2
        exact (okB_iff _ _).2 this)
      rw [List.length_map] at hCn
      obtain ⟨_, _, h3⟩ := hr0_2
      obtain ⟨ad, rfl, h4⟩ := h3 hnp
      obtain ⟨cs, _, hk, h5⟩ := h4 X _ (List.getElem?_eq_getElem hXl)
      have hv := h5 0 (.int .i64 l0_2[X]) (by rw [show cs = [.int .i64 l0_2[X]] from hk]; rfl)
      have e1 : (Kd.int .i64).sz = 1 := rfl
      rw [e1] at hv
      have eg : l0_2.getD ((X : Int)).toNat 0 = l0_2[X] := by
        rw [Int.toNat_natCast, List.getD_eq_getElem?_getD, List.getElem?_eq_getElem hXl]; rfl
      rw [eg]
      have hnl : ¬ ((l0_2.length : Int) = 0) := by omega
      go_enter Tryz.func27, Tryz.ntmps27
      go_wp2_with (first
        | (go_at_call 52; refine (hCk _ hB2).mono ?_; rintro e w3 ⟨rfl, hb3⟩; have hn3 := blk_below hn2 hb3; have hm3 := blk_below hm2 hb3; have hB3 := hB2.trans (hb3.mono hB2.size); have hc30 := blk_cell hm3 0; have hc31 := blk_cell hm3 1)
        | (go_at_call 37; refine (hCp _).mono ?_; rintro e w4 ⟨rfl, hb4⟩; have hn4 := blk_below hn3 hb4; have hm4 := blk_below hm3 hb4; have hB4 := hB3.trans (hb4.mono hB3.size); have hc42 := blk_cell hn4 2; have hc43 := blk_cell hn4 3; have hc40 := blk_cell hm4 0; have hc41 := blk_cell hm4 1))
      clear hCk hCp hr0_3 hM hc hB1 hB2 hn1 hn2 hm2 hn3 hm3 hb3 hb4 h3 h4 h5 hk hc30 hc31
      have hsz4 := hB4.size
      go_region_held3 (fun W => W.cell? ⟨w.heap.size + 1, 0, none⟩ = some (.int .i64 a1_0) ∧ W.cell? ⟨w.heap.size + 1, 1, none⟩ = some (.int .i64 a1_1) ∧ W.cell? ⟨w.heap.size, 3, none⟩ = some (.slice A0_3 l0_3.length c0_3)) (first | exact ⟨hc40, hc41, hc43⟩ | exact ⟨d40, d41, d43⟩ | exact ⟨f40, f41, f43⟩) (first
        | (go_at_call 38; refine (hCn w5 g5 cap5 (by exact hP5) (by exact hg5)).mono ?_; rintro e w6 ⟨g6, cap6, _, rfl, hb6, hr6⟩; have hn6 := blk_below hn5 hb6; have hB6 := hB5.trans (hb6.mono hB5.size); have hm6 := blk_below hm5 hb6; have f40 := blk_cell hm6 0; have f41 := blk_cell hm6 1; have f43 := blk_cell hn6 3; have hc62 := blk_cell hn6 2; have hx6 := hr6 0 _ hf; have hv6 := (hB6.cell (World.block_lt_of_cell? _ _ hv)).trans hv)
        | (go_at_call 53; have hB4d : Below w.heap.size w w4.drew := below_drew1 hB4; refine (hCl w4.drew hB4d).mono ?_; rintro e w5 ⟨v5, rfl, hR5, hb5⟩; have hn5 := blk_below (blk_drew hn4) hb5; have hB5 := hB4d.trans (hb5.mono hB4d.size); have hm5 := blk_below (blk_drew hm4) hb5; have d40 := blk_cell hm5 0; have d41 := blk_cell hm5 1; have d43 := blk_cell hn5 3; obtain ⟨g5, cap5, rfl, hg5, hP5⟩ := pls_of hR5 hne3))
      clear hm6 f40 f41 f43 hm5 d40 d41 d43 hn5 hn4 hm4
      replace hc62 : w6.cell? ⟨w.heap.size, 2, none⟩ = some (.slice (some ad) l0_2.length c0_2) := hc62
      rw [show X * 1 + 0 = X by omega] at hv6
      go_wp2
      go_region
      go_wp2
      go_ret2
      exact ⟨rfl, below_drew1 hB6⟩
  · rw [if_neg hcd] at h
    simp only [Option.some.injEq, Prod.mk.injEq] at h
    obtain ⟨rfl, rfl⟩ := h
    cases c with
    | false =>
      go_enter Tryz.func27, Tryz.ntmps27
      go_wp2_with (go_at_call 52; refine (hCk _ hB2).mono ?_; rintro e w3 ⟨rfl, hb3⟩; have hn3 := blk_below hn2 hb3; have hm3 := blk_below hm2 hb3; have hB3 := hB2.trans (hb3.mono hB2.size))
      go_ret2
      exact ⟨rfl, hB3⟩
    | true =>
      have hd : okB a1_0 a1_1 = false := by
        cases hd : okB a1_0 a1_1 with
        | false => rfl
        | true => exact absurd ⟨rfl, hd⟩ hcd
      rw [hd] at hCp
      go_enter Tryz.func27, Tryz.ntmps27
      go_wp2_with (first
        | (go_at_call 52; refine (hCk _ hB2).mono ?_; rintro e w3 ⟨rfl, hb3⟩; have hn3 := blk_below hn2 hb3; have hm3 := blk_below hm2 hb3; have hB3 := hB2.trans (hb3.mono hB2.size); have hc30 := blk_cell hm3 0; have hc31 := blk_cell hm3 1)
        | (go_at_call 37; refine (hCp _).mono ?_; rintro e w4 ⟨rfl, hb4⟩; have hB4 := hB3.trans (hb4.mono hB3.size)))
      go_ret2
      exact ⟨rfl, hB4⟩
end Go.Proofs.YtmimnlbkllgfpaaGreatDoor.Hand
