/- slices.symMergeCmpFunc, two or more on each side, the middle behind: walked. -/
import Derived.Test.YtlpidjenifbjeaaSx
namespace Go.Proofs.Ytlpidjenifbjeaa.Sw
open Go.RowKit Go.Proofs.YtlpidjenifbjeaaW.PrintWords Go.Proofs.PlaceSort

set_option maxHeartbeats 8000000 in
set_option maxRecDepth 100000 in
theorem symB (B : World) (blk cap g : Nat) (cb : Array Value) (d : Int → Int) (P S T R L F : List Int) (N a m b c0 p0 : Nat) (H : Sa d P S T R N a m b c0 p0 a m) (hcs : m ≤ c0) (hn : N ≤ 1000000) (hL : L = P ++ S ++ T ++ R) (hin : ∀ y ∈ L, 0 ≤ y ∧ y < N)
    (hT : ∀ i, Sr d L p0 a m i i → ∃ L1 L2 e, Tail B blk cap g cb N a m b c0 i e L L1 L2 F) (w : World)
    (eg : ∀ args w, (callFunc g args).run Try.prog w = .ok (.enter g args) w) (hC : CmpIs B blk g cb d N) (hA : Arr B blk L w) :
    Calls Try.prog 53 #[.slice (some ⟨blk, 0, none⟩) N cap, .int .i64 a, .int .i64 m, .int .i64 b, .func (.func g) #[] cb] w fun e w' => e = .returned (.tuple #[]) ∧ Arr B blk F w' := by
  have r := H.rng
  have hbN := H.bN
  have hc := H.c_
  have hw := H.w
  have HR := Aside.mk r
  have HS := Aside.mk (And.intro H (And.intro hL (And.intro hin hT)))
  have hHA := Aside.mk hA
  have w1 : IntKind.i64.wrap ((m : Int) - (a : Int)) = (m : Int) - (a : Int) := by rw [IntKind.wrap_i64]; omega
  have w2 : IntKind.i64.wrap ((b : Int) - (m : Int)) = (b : Int) - (m : Int) := by rw [IntKind.wrap_i64]; omega
  have hw1 : ((m : Int) - (a : Int) == 1) = false := by rw [beq_eq_false_iff_ne]; omega
  have hw2 : ((b : Int) - (m : Int) == 1) = false := by rw [beq_eq_false_iff_ne]; omega
  have wab : IntKind.i64.wrap ((a : Int) + (b : Int)) = (a : Int) + (b : Int) := by rw [IntKind.wrap_i64]; omega
  have hH : ((a : Int) + (b : Int)) / 2 = (c0 : Int) := by omega
  have pab : (0 : Int) ≤ (a : Int) + (b : Int) := by omega
  have wn : IntKind.i64.wrap ((c0 : Int) + (m : Int)) = (c0 : Int) + (m : Int) := by rw [IntKind.wrap_i64]; omega
  have wp : IntKind.i64.wrap ((c0 : Int) + (m : Int) - 1) = (p0 : Int) := by rw [IntKind.wrap_i64]; omega
  have g0 : ¬ (c0 : Int) < (m : Int) := by omega
  have hi0 : a ≤ m := by omega
  have hb6 : a ≤ 1000000 ∧ b ≤ 1000000 ∧ m ≤ 1000000 ∧ c0 ≤ 1000000 := by omega
  have HN := Aside.mk (And.intro hn hbN)
  clear r hbN hc hw H hL hin hT hA hcs
  go_enter Try.func53, Try.ntmps53
  go_wp2
  go_loopw [20, 21] (fun sv rv wr => ∃ i h : Nat, sv = .int .i64 i ∧ rv = .int .i64 h ∧ i ≤ h ∧ Aside (Sr d L p0 a m i h) ∧ Arr B blk L wr) (fun sv rv _ => (intOf rv).toNat - (intOf sv).toNat)
  case atStart => exact ⟨a, m, rfl, rfl, hi0, ⟨Sr.zero d L p0 a m⟩, hHA.out⟩
  case round =>
    obtain ⟨i, h, rfl, rfl, h2, hK, hI⟩ := hrel
    have h1 := hK.out.l
    have h3 := hK.out.r
    by_cases hlt : i < h
    · obtain ⟨c, hcd⟩ : ∃ c, c = (i + h) / 2 := ⟨_, rfl⟩
      have hr : i ≤ c ∧ c < h := by omega
      obtain ⟨q, hq⟩ : ∃ q, q = p0 - c := ⟨_, rfl⟩
      have hqb : q + c = p0 ∧ q < N ∧ c < N := by have := HR.out; have := HN.out; omega
      obtain ⟨x, y, hx, hy⟩ := HS.out.1.here (show a ≤ c by omega) (show c < m by omega)
      rw [← HS.out.2.1] at hx hy
      rw [← hq] at hy
      have cx := hI.cell c x hx
      have cy := hI.cell q y hy
      have bx := HS.out.2.2.1 x (List.mem_of_getElem? hx)
      have by_ := HS.out.2.2.1 y (List.mem_of_getElem? hy)
      have hlb : blk < wr.heap.size := Nat.lt_of_lt_of_le hI.lt hI.size
      have hcm := fun W (hb : Below wr.heap.size wr W) => hC W (hI.below hb).size (hI.below hb).keep y x by_ bx
      have gl : (i : Int) < (h : Int) := by omega
      have wij : IntKind.i64.wrap ((i : Int) + (h : Int)) = (i : Int) + (h : Int) := by rw [IntKind.wrap_i64]; omega
      have hHc : ((i : Int) + (h : Int)) / 2 = (c : Int) := by omega
      have wq : IntKind.i64.wrap ((p0 : Int) - (c : Int)) = (q : Int) := by rw [IntKind.wrap_i64]; have := HN.out; omega
      have ph : (0 : Int) ≤ (c : Int) := by omega
      have pa : (0 : Int) ≤ (q : Int) := by omega
      have qh : (c : Int) < (N : Int) := by omega
      have qa : (q : Int) < (N : Int) := by omega
      have hIA := Aside.mk hI
      have HQ := Aside.mk (And.intro hq (And.intro hqb (And.intro h1 (And.intro h3 (And.intro hx hy)))))
      have cN : c ≤ 1000000 := by have := HN.out; omega
      clear hcd hI hq hqb hx hy h1 h3
      by_cases hlv : d y < d x
      · have hcv : cmpI (d y) (d x) < 0 := (cmpI_lt _ _).mpr hlv
        go_wp2_with fail
        go_region_held3 (fun w' => w'.cell? ⟨blk, q, none⟩ = some (.int .i64 y) ∧ w'.cell? ⟨blk, c, none⟩ = some (.int .i64 x)) (first | exact ⟨f0, f1⟩ | exact ⟨cy, cx⟩) (first
          | (refine (hcm _ (by repeat (first | exact Below.refl _ _ | apply pw_below_drewN | apply below_drew1))).mono ?_; rintro e w4 ⟨rfl, hb4⟩; have f0 := (hb4.cell (p := ⟨blk, q, none⟩) (by exact hlb)).trans cy; have f1 := (hb4.cell (p := ⟨blk, c, none⟩) (by exact hlb)).trans cx))
        all_goals go_wp2_with fail
        all_goals try (rename_i hh; exfalso; simp only [Bool.not_eq_eq_eq_not, Bool.not_true, Bool.not_false, decide_eq_false_iff_not, decide_eq_true_eq] at hh; omega)
        all_goals refine ⟨⟨i, c, rfl, rfl, hr.1, ⟨?_⟩, (hIA.out.below (below_drew1 (Below.refl _ _))).below hb4⟩, by show (c : Int).toNat - (i : Int).toNat < (h : Int).toNat - (i : Int).toNat; omega⟩
        all_goals exact HS.out.2.1 ▸ Sr.right HS.out.1 (HS.out.2.1 ▸ hK.out) hr.1 hr.2 (HS.out.2.1 ▸ HQ.out.2.2.2.2.1) (HQ.out.1 ▸ HS.out.2.1 ▸ HQ.out.2.2.2.2.2) hlv
      · have hcv : ¬ cmpI (d y) (d x) < 0 := fun hh => hlv ((cmpI_lt _ _).mp hh)
        have wh : IntKind.i64.wrap ((c : Int) + 1) = ((c + 1 : Nat) : Int) := by rw [IntKind.wrap_i64]; omega
        go_wp2_with fail
        go_region_held3 (fun w' => w'.cell? ⟨blk, q, none⟩ = some (.int .i64 y) ∧ w'.cell? ⟨blk, c, none⟩ = some (.int .i64 x)) (first | exact ⟨f0, f1⟩ | exact ⟨cy, cx⟩) (first
          | (refine (hcm _ (by repeat (first | exact Below.refl _ _ | apply pw_below_drewN | apply below_drew1))).mono ?_; rintro e w4 ⟨rfl, hb4⟩; have f0 := (hb4.cell (p := ⟨blk, q, none⟩) (by exact hlb)).trans cy; have f1 := (hb4.cell (p := ⟨blk, c, none⟩) (by exact hlb)).trans cx))
        all_goals go_wp2_with fail
        all_goals try (rename_i hh; exfalso; simp only [Bool.not_eq_eq_eq_not, Bool.not_true, Bool.not_false, decide_eq_false_iff_not, decide_eq_true_eq] at hh; omega)
        all_goals refine ⟨⟨c + 1, h, by rw [Int.natCast_add]; rfl, rfl, by omega, ⟨?_⟩, (hIA.out.below (below_drew1 (Below.refl _ _))).below hb4⟩, by show (h : Int).toNat - ((c : Int) + 1).toNat < (h : Int).toNat - (i : Int).toNat; omega⟩
        all_goals exact HS.out.2.1 ▸ Sr.left HS.out.1 (HS.out.2.1 ▸ hK.out) hr.1 hr.2 (HS.out.2.1 ▸ HQ.out.2.2.2.2.1) (HQ.out.1 ▸ HS.out.2.1 ▸ HQ.out.2.2.2.2.2) (by omega)
    · have hij : i = h := by omega
      have gl : ¬ (i : Int) < (h : Int) := by omega
      subst hij
      obtain ⟨L1, L2, e, q1, n1, q2, n2, q3, n3, he, hle⟩ := HS.out.2.2.2 i hK.out
      have we : IntKind.i64.wrap ((c0 : Int) + (m : Int) - (i : Int)) = (e : Int) := by rw [IntKind.wrap_i64]; have := HN.out; omega
      have a1 : (i : Int) < (m : Int) ↔ i < m := by omega
      have a2 : (m : Int) < (e : Int) ↔ i < c0 := by omega
      have a3 : (a : Int) < (i : Int) ↔ a < i := by omega
      have a4 : (i : Int) < (c0 : Int) ↔ i < c0 := by omega
      have a5 : (c0 : Int) < (e : Int) ↔ i < m := by omega
      have a6 : (e : Int) < (b : Int) ↔ e < b := by omega
      clear hK h1 h3 h2 hlt he hle HS HR hC w1 w2 hw1 hw2 wab hH pab wn wp hi0 hb6
      by_cases b1 : i < m
      · by_cases b2 : i < c0
        · have c1 := q1 b1 b2
          by_cases b3 : a < i
          · have c2 := q2 b3 b2
            by_cases b4 : e < b
            · have c3 := q3 b1 b4
              have ta1 := a1.mpr b1
              have ta5 := a5.mpr b1
              have ta2 := a2.mpr b2
              have ta4 := a4.mpr b2
              have ta3 := a3.mpr b3
              have ta6 := a6.mpr b4
              clear a1 a2 a3 a4 a5 a6 b1 b2 b3 b4 q1 q2 q3 n1 n2 n3 hn eg hHA
              go_wp2_with fail
              all_goals refine (c1 _ hI).mono ?_
              all_goals rintro x w1 ⟨rfl, hA1⟩
              all_goals clear c1 hI
              all_goals go_wp2_with fail
              all_goals refine (c2 _ hA1).mono ?_
              all_goals rintro x w2 ⟨rfl, hA2⟩
              all_goals clear c2 hA1
              all_goals go_wp2_with fail
              all_goals refine (c3 _ hA2).mono ?_
              all_goals rintro x w3 ⟨rfl, hA3⟩
              all_goals clear c3 hA2
              all_goals go_wp2_with fail
              all_goals go_end0
              all_goals exact ⟨rfl, hA3⟩
            · have c3 := n3 (fun h => b4 h.2)
              have ta1 := a1.mpr b1
              have ta5 := a5.mpr b1
              have ta2 := a2.mpr b2
              have ta4 := a4.mpr b2
              have ta3 := a3.mpr b3
              have ta6 : ¬ (e : Int) < (b : Int) := fun h => b4 (a6.mp h)
              clear a1 a2 a3 a4 a5 a6 b1 b2 b3 b4 q1 q2 q3 n1 n2 n3 hn eg hHA
              subst c3
              go_wp2_with fail
              all_goals refine (c1 _ hI).mono ?_
              all_goals rintro x w1 ⟨rfl, hA1⟩
              all_goals clear c1 hI
              all_goals go_wp2_with fail
              all_goals refine (c2 _ hA1).mono ?_
              all_goals rintro x w2 ⟨rfl, hA2⟩
              all_goals clear c2 hA1
              all_goals go_wp2_with fail
              all_goals go_end0
              all_goals exact ⟨rfl, hA2⟩
          · have c2 := n2 (fun h => b3 h.1)
            by_cases b4 : e < b
            · have c3 := q3 b1 b4
              have ta1 := a1.mpr b1
              have ta5 := a5.mpr b1
              have ta2 := a2.mpr b2
              have ta4 := a4.mpr b2
              have ta3 : ¬ (a : Int) < (i : Int) := fun h => b3 (a3.mp h)
              have ta6 := a6.mpr b4
              clear a1 a2 a3 a4 a5 a6 b1 b2 b3 b4 q1 q2 q3 n1 n2 n3 hn eg hHA
              subst c2
              go_wp2_with fail
              all_goals refine (c1 _ hI).mono ?_
              all_goals rintro x w1 ⟨rfl, hA1⟩
              all_goals clear c1 hI
              all_goals go_wp2_with fail
              all_goals refine (c3 _ hA1).mono ?_
              all_goals rintro x w3 ⟨rfl, hA3⟩
              all_goals clear c3 hA1
              all_goals go_wp2_with fail
              all_goals go_end0
              all_goals exact ⟨rfl, hA3⟩
            · have c3 := n3 (fun h => b4 h.2)
              have ta1 := a1.mpr b1
              have ta5 := a5.mpr b1
              have ta2 := a2.mpr b2
              have ta4 := a4.mpr b2
              have ta3 : ¬ (a : Int) < (i : Int) := fun h => b3 (a3.mp h)
              have ta6 : ¬ (e : Int) < (b : Int) := fun h => b4 (a6.mp h)
              clear a1 a2 a3 a4 a5 a6 b1 b2 b3 b4 q1 q2 q3 n1 n2 n3 hn eg hHA
              subst c2
              subst c3
              go_wp2_with fail
              all_goals refine (c1 _ hI).mono ?_
              all_goals rintro x w1 ⟨rfl, hA1⟩
              all_goals clear c1 hI
              all_goals go_wp2_with fail
              all_goals go_end0
              all_goals exact ⟨rfl, hA1⟩
        · have c1 := n1 (fun h => b2 h.2)
          have c2 := n2 (fun h => b2 h.2)
          by_cases b4 : e < b
          · have c3 := q3 b1 b4
            have ta1 := a1.mpr b1
            have ta5 := a5.mpr b1
            have ta2 : ¬ (m : Int) < (e : Int) := fun h => b2 (a2.mp h)
            have ta4 : ¬ (i : Int) < (c0 : Int) := fun h => b2 (a4.mp h)
            have ta6 := a6.mpr b4
            clear a1 a2 a3 a4 a5 a6 b1 b2 b4 q1 q2 q3 n1 n2 n3 hn eg hHA
            subst c1
            subst c2
            go_wp2_with fail
            all_goals refine (c3 _ hI).mono ?_
            all_goals rintro x w3 ⟨rfl, hA3⟩
            all_goals clear c3 hI
            all_goals go_wp2_with fail
            all_goals go_end0
            all_goals exact ⟨rfl, hA3⟩
          · have c3 := n3 (fun h => b4 h.2)
            have ta1 := a1.mpr b1
            have ta5 := a5.mpr b1
            have ta2 : ¬ (m : Int) < (e : Int) := fun h => b2 (a2.mp h)
            have ta4 : ¬ (i : Int) < (c0 : Int) := fun h => b2 (a4.mp h)
            have ta6 : ¬ (e : Int) < (b : Int) := fun h => b4 (a6.mp h)
            clear a1 a2 a3 a4 a5 a6 b1 b2 b4 q1 q2 q3 n1 n2 n3 hn eg hHA
            subst c1
            subst c2
            subst c3
            go_wp2_with fail
            all_goals go_end0
            all_goals exact ⟨rfl, hI⟩
      · have c1 := n1 (fun h => b1 h.1)
        have c3 := n3 (fun h => b1 h.1)
        by_cases b2 : i < c0
        · by_cases b3 : a < i
          · have c2 := q2 b3 b2
            have ta1 : ¬ (i : Int) < (m : Int) := fun h => b1 (a1.mp h)
            have ta5 : ¬ (c0 : Int) < (e : Int) := fun h => b1 (a5.mp h)
            have ta2 := a2.mpr b2
            have ta4 := a4.mpr b2
            have ta3 := a3.mpr b3
            clear a1 a2 a3 a4 a5 a6 b1 b2 b3 q1 q2 q3 n1 n2 n3 hn eg hHA
            subst c1
            subst c3
            go_wp2_with fail
            all_goals refine (c2 _ hI).mono ?_
            all_goals rintro x w2 ⟨rfl, hA2⟩
            all_goals clear c2 hI
            all_goals go_wp2_with fail
            all_goals go_end0
            all_goals exact ⟨rfl, hA2⟩
          · have c2 := n2 (fun h => b3 h.1)
            have ta1 : ¬ (i : Int) < (m : Int) := fun h => b1 (a1.mp h)
            have ta5 : ¬ (c0 : Int) < (e : Int) := fun h => b1 (a5.mp h)
            have ta2 := a2.mpr b2
            have ta4 := a4.mpr b2
            have ta3 : ¬ (a : Int) < (i : Int) := fun h => b3 (a3.mp h)
            clear a1 a2 a3 a4 a5 a6 b1 b2 b3 q1 q2 q3 n1 n2 n3 hn eg hHA
            subst c1
            subst c2
            subst c3
            go_wp2_with fail
            all_goals go_end0
            all_goals exact ⟨rfl, hI⟩
        · have c2 := n2 (fun h => b2 h.2)
          have ta1 : ¬ (i : Int) < (m : Int) := fun h => b1 (a1.mp h)
          have ta5 : ¬ (c0 : Int) < (e : Int) := fun h => b1 (a5.mp h)
          have ta2 : ¬ (m : Int) < (e : Int) := fun h => b2 (a2.mp h)
          have ta4 : ¬ (i : Int) < (c0 : Int) := fun h => b2 (a4.mp h)
          clear a1 a2 a3 a4 a5 a6 b1 b2 q1 q2 q3 n1 n2 n3 hn eg hHA
          subst c1
          subst c2
          subst c3
          go_wp2_with fail
          all_goals go_end0
          all_goals exact ⟨rfl, hI⟩
end Go.Proofs.Ytlpidjenifbjeaa.Sw
