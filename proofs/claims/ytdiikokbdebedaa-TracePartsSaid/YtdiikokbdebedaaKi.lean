/- trace.Kinds: how many events are of each kind. -/
import Derived.Test.YtdiikokbdebedaaCk
import Derived.Test.YtdiikokbdebedaaWMore
namespace Go.Proofs.Ytdiikokbdebedaa.Ki
open Go.RowKit Go.Proofs.Ytdiikokbdebedaa.Ck
open Go.Proofs.YtdiikokbdebedaaW.PrintWords (blk_cell blk_frozen blk_put blk_alloc blk_new)

/-- The place in which an event counts. -/
def slot (x : Ev) : Nat := if x.1 < 0 then 0 else if 4 ≤ x.1 then 0 else x.1.toNat
def cnt (j : Nat) (l : List Ev) : Nat := l.countP fun x => slot x == j
theorem cnt_snoc (j : Nat) (l : List Ev) (x : Ev) : cnt j (l ++ [x]) = cnt j l + if slot x = j then 1 else 0 := by
  unfold cnt
  rw [List.countP_append]
  by_cases h : slot x = j <;> simp [h]
theorem cnt_le (j : Nat) (l : List Ev) : cnt j l ≤ l.length := List.countP_le_length

set_option maxHeartbeats 4000000 in
set_option maxRecDepth 100000 in
theorem kinds (A : Option Addr) (c : Nat) (l : List Ev) (w : World) (h : Evs w A l) (hl : l.length ≤ 100000) :
    Calls Try.prog 16 #[.slice A l.length c] w fun e w' => e = .returned (.agg #[.int .i64 (cnt 0 l), .int .i64 (cnt 1 l), .int .i64 (cnt 2 l), .int .i64 (cnt 3 l)]) ∧ Below w.heap.size w w' := by
  go_enter Try.func16, Try.ntmps16
  go_wp2
  go_loopw [9] (fun iv wr => ∃ k : Nat, k ≤ l.length ∧ iv = .int .i64 k ∧ wr.heap[w.heap.size + 1]? = some (.cells #[.int .i64 (cnt 0 (l.take k)), .int .i64 (cnt 1 (l.take k)), .int .i64 (cnt 2 (l.take k)), .int .i64 (cnt 3 (l.take k))] 40 (0, 0)) ∧ wr.heap[w.heap.size]? = some (.cells #[.int .i64 0, .int .i64 0, .int .i64 0, .int .i64 0] 40 (0, 0)) ∧ Below w.heap.size w wr) (fun iv _ => l.length - (Ck.intOf iv).toNat)
  case atStart =>
    refine ⟨0, by omega, rfl, ?_, ?_, ?_⟩
    · have := blk_new (w.alloc (Obj.cells #[.int .i64 0, .int .i64 0, .int .i64 0, .int .i64 0] 40)) (Obj.cells #[.int .i64 0, .int .i64 0, .int .i64 0, .int .i64 0] 40)
      rw [show (w.alloc (Obj.cells #[.int .i64 0, .int .i64 0, .int .i64 0, .int .i64 0] 40)).heap.size = w.heap.size + 1 by simp] at this
      exact this
    · exact blk_alloc (blk_new w _) _
    · exact ((Below.refl _ w).alloc (Nat.le_refl _) _).alloc (by simp) _
  case round =>
    obtain ⟨k, hk, rfl, hb1, hb0, hB⟩ := hrel
    by_cases hlt : k < l.length
    · obtain ⟨x, hx⟩ : ∃ x, l[k]? = some x := ⟨l[k], List.getElem?_eq_getElem hlt⟩
      obtain ⟨ad, rfl, c0, c1, c2⟩ := (h.below hB) k x hx
      have hT : l.take (k + 1) = l.take k ++ [x] := by rw [List.take_add_one, hx]; rfl
      obtain ⟨x0, x1, x2⟩ := x
      simp only at c0 c1 c2
      have hA1 := blk_alloc hb1 (.cells #[.int .i64 x0, .int .i64 x1, .string x2] 47)
      have hA0 := blk_alloc hb0 (.cells #[.int .i64 x0, .int .i64 x1, .string x2] 47)
      have hBA := hB.alloc hB.size (.cells #[.int .i64 x0, .int .i64 x1, .string x2] 47)
      have hf0 := blk_frozen hA1 0
      have hf1 := blk_frozen hA1 1
      have hf2 := blk_frozen hA1 2
      have hf3 := blk_frozen hA1 3
      have hc0 := blk_cell hA1 0
      have hc1 := blk_cell hA1 1
      have hc2 := blk_cell hA1 2
      have hc3 := blk_cell hA1 3
      have l0 := cnt_le 0 (l.take k)
      have l1 := cnt_le 1 (l.take k)
      have l2 := cnt_le 2 (l.take k)
      have l3 := cnt_le 3 (l.take k)
      have hlen := List.length_take (i := k) (l := l)
      have e0 := cnt_snoc 0 (l.take k) (x0, x1, x2)
      have e1 := cnt_snoc 1 (l.take k) (x0, x1, x2)
      have e2 := cnt_snoc 2 (l.take k) (x0, x1, x2)
      have e3 := cnt_snoc 3 (l.take k) (x0, x1, x2)
      rw [← hT] at e0 e1 e2 e3
      generalize cnt 0 (l.take k) = n0 at *
      generalize cnt 1 (l.take k) = n1 at *
      generalize cnt 2 (l.take k) = n2 at *
      generalize cnt 3 (l.take k) = n3 at *
      simp only [List.getElem?_toArray, List.getElem?_cons_zero, List.getElem?_cons_succ] at hc0 hc1 hc2 hc3
      have hs : (slot (x0, x1, x2) = 0 ∧ x0 < 0) ∨ (slot (x0, x1, x2) = 0 ∧ 4 ≤ x0) ∨ (slot (x0, x1, x2) = 0 ∧ x0 = 0) ∨ (slot (x0, x1, x2) = 1 ∧ x0 = 1) ∨ (slot (x0, x1, x2) = 2 ∧ x0 = 2) ∨ (slot (x0, x1, x2) = 3 ∧ x0 = 3) := by
        unfold slot
        simp only
        split
        · exact Or.inl ⟨rfl, by assumption⟩
        · split
          · exact Or.inr (Or.inl ⟨rfl, by assumption⟩)
          · omega
      have Hs := Aside.mk (And.intro e0 (And.intro e1 (And.intro e2 (And.intro e3 (And.intro hT hlen)))))
      have HA := Aside.mk (And.intro hA1 (And.intro hA0 hBA))
      clear e0 e1 e2 e3 hT hlen hA1 hA0 hBA hb1 hb0
      rcases hs with ⟨hsl, h1⟩ | ⟨hsl, h1⟩ | ⟨hsl, rfl⟩ | ⟨hsl, rfl⟩ | ⟨hsl, rfl⟩ | ⟨hsl, rfl⟩
      · have Hs2 := Aside.mk hsl
        clear hsl
        have hn : n0 ≤ 100000 := by have := Hs.out.2.2.2.2.2; omega
        go_wp2_with fail
        obtain ⟨e0, e1, e2, e3, _, _⟩ := Hs.out
        rw [Hs2.out] at e0 e1 e2 e3
        refine ⟨⟨k + 1, by omega, by rw [Int.natCast_add]; rfl, ?_, ?_, ?_⟩, ?_⟩
        · rw [e0, e1, e2, e3]
          exact blk_put HA.out.1 0 _ rfl
        · exact (Below.heap_setCell _ _ _ _ (by simp)).trans HA.out.2.1
        · exact HA.out.2.2.setCell (by simp) _
        · show l.length - ((k : Int) + 1).toNat < l.length - (k : Int).toNat
          omega
      · have Hs2 := Aside.mk hsl
        clear hsl
        have hn : n0 ≤ 100000 := by have := Hs.out.2.2.2.2.2; omega
        have h2 : ¬ x0 < 0 := by omega
        go_wp2_with fail
        obtain ⟨e0, e1, e2, e3, _, _⟩ := Hs.out
        rw [Hs2.out] at e0 e1 e2 e3
        refine ⟨⟨k + 1, by omega, by rw [Int.natCast_add]; rfl, ?_, ?_, ?_⟩, ?_⟩
        · rw [e0, e1, e2, e3]
          exact blk_put HA.out.1 0 _ rfl
        · exact (Below.heap_setCell _ _ _ _ (by simp)).trans HA.out.2.1
        · exact HA.out.2.2.setCell (by simp) _
        · show l.length - ((k : Int) + 1).toNat < l.length - (k : Int).toNat
          omega
      · have Hs2 := Aside.mk hsl
        clear hsl
        have hn : n0 ≤ 100000 := by have := Hs.out.2.2.2.2.2; omega
        go_wp2_with fail
        obtain ⟨e0, e1, e2, e3, _, _⟩ := Hs.out
        rw [Hs2.out] at e0 e1 e2 e3
        refine ⟨⟨k + 1, by omega, by rw [Int.natCast_add]; rfl, ?_, ?_, ?_⟩, ?_⟩
        · rw [e0, e1, e2, e3]
          exact blk_put HA.out.1 0 _ rfl
        · exact (Below.heap_setCell _ _ _ _ (by simp)).trans HA.out.2.1
        · exact HA.out.2.2.setCell (by simp) _
        · show l.length - ((k : Int) + 1).toNat < l.length - (k : Int).toNat
          omega
      · have Hs2 := Aside.mk hsl
        clear hsl
        have hn : n1 ≤ 100000 := by have := Hs.out.2.2.2.2.2; omega
        go_wp2_with fail
        obtain ⟨e0, e1, e2, e3, _, _⟩ := Hs.out
        rw [Hs2.out] at e0 e1 e2 e3
        refine ⟨⟨k + 1, by omega, by rw [Int.natCast_add]; rfl, ?_, ?_, ?_⟩, ?_⟩
        · rw [e0, e1, e2, e3]
          exact blk_put HA.out.1 1 _ rfl
        · exact (Below.heap_setCell _ _ _ _ (by simp)).trans HA.out.2.1
        · exact HA.out.2.2.setCell (by simp) _
        · show l.length - ((k : Int) + 1).toNat < l.length - (k : Int).toNat
          omega
      · have Hs2 := Aside.mk hsl
        clear hsl
        have hn : n2 ≤ 100000 := by have := Hs.out.2.2.2.2.2; omega
        go_wp2_with fail
        obtain ⟨e0, e1, e2, e3, _, _⟩ := Hs.out
        rw [Hs2.out] at e0 e1 e2 e3
        refine ⟨⟨k + 1, by omega, by rw [Int.natCast_add]; rfl, ?_, ?_, ?_⟩, ?_⟩
        · rw [e0, e1, e2, e3]
          exact blk_put HA.out.1 2 _ rfl
        · exact (Below.heap_setCell _ _ _ _ (by simp)).trans HA.out.2.1
        · exact HA.out.2.2.setCell (by simp) _
        · show l.length - ((k : Int) + 1).toNat < l.length - (k : Int).toNat
          omega
      · have Hs2 := Aside.mk hsl
        clear hsl
        have hn : n3 ≤ 100000 := by have := Hs.out.2.2.2.2.2; omega
        go_wp2_with fail
        obtain ⟨e0, e1, e2, e3, _, _⟩ := Hs.out
        rw [Hs2.out] at e0 e1 e2 e3
        refine ⟨⟨k + 1, by omega, by rw [Int.natCast_add]; rfl, ?_, ?_, ?_⟩, ?_⟩
        · rw [e0, e1, e2, e3]
          exact blk_put HA.out.1 3 _ rfl
        · exact (Below.heap_setCell _ _ _ _ (by simp)).trans HA.out.2.1
        · exact HA.out.2.2.setCell (by simp) _
        · show l.length - ((k : Int) + 1).toNat < l.length - (k : Int).toNat
          omega
    · have hke : k = l.length := by omega
      subst hke
      rw [List.take_of_length_le (Nat.le_refl _)] at hb1
      have c0 := blk_cell hb1 0
      have c1 := blk_cell hb1 1
      have c2 := blk_cell hb1 2
      have c3 := blk_cell hb1 3
      have f0 := blk_frozen hb0 0
      have f1 := blk_frozen hb0 1
      have f2 := blk_frozen hb0 2
      have f3 := blk_frozen hb0 3
      have d0 := blk_cell hb0 0
      have d1 := blk_cell hb0 1
      have d2 := blk_cell hb0 2
      have d3 := blk_cell hb0 3
      go_wp2_with fail
      have g0 := blk_put hb0 0 (.int .i64 (cnt 0 l)) rfl
      have g1 := blk_put g0 1 (.int .i64 (cnt 1 l)) rfl
      have g2 := blk_put g1 2 (.int .i64 (cnt 2 l)) rfl
      have g3 := blk_put g2 3 (.int .i64 (cnt 3 l)) rfl
      have k0 := blk_cell g3 0
      have k1 := blk_cell g3 1
      have k2 := blk_cell g3 2
      have k3 := blk_cell g3 3
      refine bodyPost_ret (v := .agg #[.int .i64 (cnt 0 l), .int .i64 (cnt 1 l), .int .i64 (cnt 2 l), .int .i64 (cnt 3 l)]) ?_ rfl ⟨rfl, ?_⟩
      · simp [results, go_sem, k0, k1, k2, k3]
      · exact (((hB.setCell (p := ⟨w.heap.size, 0, none⟩) (Nat.le_refl _) _).setCell (p := ⟨w.heap.size, 1, none⟩) (Nat.le_refl _) _).setCell (p := ⟨w.heap.size, 2, none⟩) (Nat.le_refl _) _).setCell (p := ⟨w.heap.size, 3, none⟩) (Nat.le_refl _) _

end Go.Proofs.Ytdiikokbdebedaa.Ki
