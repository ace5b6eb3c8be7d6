/- slices.swapRangeCmpFunc, slices.rotateCmpFunc: walked. -/
import Derived.Test.YtlpidjenifbjeaaWWords
import Derived.Test.YtlpidjenifbjeaaProg
import Derived.Test.YtlpidjenifbjeaaSm
import Derived.WalkKit
import Derived.LoopTactic
import Derived.Deep.RegionHeld3
import Derived.Below
import Derived.BigCall
import Derived.FnLit
import Derived.Shelf.Abstract
import Derived.Deep.QuietTactic
namespace Go.Proofs.Ytlpidjenifbjeaa.Sw
open Go.RowKit Go.Proofs.YtlpidjenifbjeaaW.PrintWords Go.Proofs.PlaceSort

/-- What the sort leaves as it was, and the row that it sorts. -/
structure Arr (B : World) (blk : Nat) (xs : List Int) (W : World) : Prop where
  cell : ∀ (j : Nat) x, xs[j]? = some x → W.cell? ⟨blk, j, none⟩ = some (.int .i64 x)
  frz : ∀ j, j < xs.length → W.frozen? ⟨blk, j, none⟩ = false
  lt : blk < B.heap.size
  size : B.heap.size ≤ W.heap.size
  keep : ∀ k, k < B.heap.size → k ≠ blk → W.heap[k]? = B.heap[k]?
  os : W.os = B.os
  tape : W.tape = B.tape
  output : W.output = B.output
  shape : ∀ c e z, B.heap[blk]? = some (.cells c e z) → ∃ c', c'.size = c.size ∧ W.heap[blk]? = some (.cells c' e z)
theorem Arr.below {B : World} {blk : Nat} {xs : List Int} {W W' : World} (h : Arr B blk xs W) (hb : Below W.heap.size W W') : Arr B blk xs W' := by
  have hlt : blk < W.heap.size := Nat.lt_of_lt_of_le h.lt h.size
  refine ⟨fun j x hj => (hb.cell (p := ⟨blk, j, none⟩) hlt).trans (h.cell j x hj), fun j hj => ?_, h.lt, Nat.le_trans h.size hb.size, fun k hk hne => (hb.block k (Nat.lt_of_lt_of_le hk h.size)).trans (h.keep k hk hne), hb.os.trans h.os, hb.tape.trans h.tape, hb.output.trans h.output, fun c e z hc => ?_⟩
  rotate_left
  · obtain ⟨c', h1, h2⟩ := h.shape c e z hc
    exact ⟨c', h1, (hb.block blk hlt).trans h2⟩
  have := h.frz j hj
  unfold World.frozen? at this ⊢
  rw [hb.block blk hlt]; exact this
theorem Arr.set {B : World} {blk : Nat} {xs : List Int} {W : World} (h : Arr B blk xs W) (i : Nat) (hi : i < xs.length) (v : Int) : Arr B blk (xs.set i v) (W.setCell ⟨blk, i, none⟩ (.int .i64 v)) := by
  have hc := h.cell i xs[i] (List.getElem?_eq_getElem hi)
  refine ⟨fun j x hj => ?_, fun j hj => ?_, h.lt, by simpa using h.size, fun k hk hne => ?_, h.os, h.tape, h.output, fun c e z hc2 => ?_⟩
  rotate_right
  · obtain ⟨c', h1, h2⟩ := h.shape c e z hc2
    refine ⟨c'.setIfInBounds i (.int .i64 v), by simpa using h1, ?_⟩
    show (W.heap.modify blk _)[blk]? = _
    rw [Array.getElem?_modify, if_pos rfl, h2]; rfl
  · by_cases e : i = j
    · subst e
      rw [List.getElem?_set_self hi] at hj
      rw [← Option.some.inj hj]
      exact World.cell?_setCell_same _ _ _ hc
    · rw [List.getElem?_set_ne e] at hj
      rw [World.cell?_setCell_other _ _ _ _ (by intro q; injection q with _ q2; exact e q2)]
      exact h.cell j x hj
  · rw [World.frozen?_setCell]; exact h.frz j (by simpa using hj)
  · rw [← h.keep k hk hne]
    exact Below.heap_setCell W _ _ k hne
structure Aside (p : Prop) : Prop where mk :: (out : p)
def intOf : Value → Int | .int _ q => q | _ => 0
theorem set_at (x y : Int) (B : List Int) : ∀ (A : List Int), (A ++ x :: B).set A.length y = A ++ y :: B
  | [] => rfl
  | z :: A => by rw [List.cons_append, List.length_cons, List.set_cons_succ, set_at x y B A]; rfl
theorem get_at (x : Int) (B : List Int) : ∀ (A : List Int), (A ++ x :: B)[A.length]? = some x
  | [] => rfl
  | z :: A => by rw [List.cons_append, List.length_cons, List.getElem?_cons_succ, get_at x B A]
set_option maxHeartbeats 4000000 in
set_option maxRecDepth 100000 in
/-- Two parts of one length change places. -/
theorem swapRange (B : World) (blk cap : Nat) (f : Value) (P X Q Y R L F : List Int) (N a b m : Nat) (hXY : X.length = Y.length) (hN : N = (P ++ X ++ Q ++ Y ++ R).length) (hn : N ≤ 1000000) (ha : a = P.length) (hb : b = (P ++ X ++ Q).length) (hm : m = X.length) (hL : L = P ++ X ++ Q ++ Y ++ R) (hF : F = P ++ Y ++ Q ++ X ++ R) (w : World) (hA : Arr B blk L w) :
    Calls Try.prog 55 #[.slice (some ⟨blk, 0, none⟩) N cap, .int .i64 a, .int .i64 b, .int .i64 m, f] w fun e w' => e = .returned (.tuple #[]) ∧ Arr B blk F w' := by
  have sz : a + m ≤ b ∧ b + m ≤ N := by
    simp only [List.length_append] at hN hb
    omega
  have HN := Aside.mk hN
  have HB := Aside.mk hb
  have HM := Aside.mk hm
  have HP := Aside.mk ha
  have HF := Aside.mk hF
  have HXY := Aside.mk hXY
  have HA : Aside (Arr B blk (P ++ X ++ Q ++ Y ++ R) w) := ⟨hL ▸ hA⟩
  clear hN hb hm ha hF hXY hA hL
  go_enter Try.func55, Try.ntmps55
  go_wp2
  go_loopw [10] (fun iv wr => ∃ (i : Nat) (X1 X2 Y1 Y2 : List Int), iv = .int .i64 i ∧ X = X1 ++ X2 ∧ Y = Y1 ++ Y2 ∧ X1.length = i ∧ Y1.length = i ∧ Arr B blk (P ++ Y1 ++ X2 ++ Q ++ X1 ++ Y2 ++ R) wr) (fun iv _ => m - (intOf iv).toNat)
  case atStart => exact ⟨0, [], X, [], Y, rfl, rfl, rfl, rfl, rfl, by simpa using HA.out⟩
  case round =>
    obtain ⟨i, X1, X2, Y1, Y2, rfl, hX, hY, h1, h2, hI⟩ := hrel
    have hN := HN.out
    have hb := HB.out
    have hm := HM.out
    have ha := HP.out
    have hXY := HXY.out
    by_cases hlt : i < m
    · cases X2 with
      | nil => exfalso; rw [hX] at hm; simp at hm; omega
      | cons x X2 =>
        cases Y2 with
        | nil => exfalso; rw [hY] at hXY; simp at hXY; omega
        | cons y Y2 =>
          have l1 : (P ++ Y1).length = a + i := by rw [List.length_append, h2, ha]
          have l2 : (P ++ Y1 ++ x :: X2 ++ Q ++ X1).length = b + i := by
            rw [hb, hX]; simp only [List.length_append, List.length_cons]; omega
          have e1 : P ++ Y1 ++ x :: X2 ++ Q ++ X1 ++ y :: Y2 ++ R = (P ++ Y1) ++ x :: (X2 ++ Q ++ X1 ++ y :: Y2 ++ R) := by simp
          have e2 : P ++ Y1 ++ x :: X2 ++ Q ++ X1 ++ y :: Y2 ++ R = (P ++ Y1 ++ x :: X2 ++ Q ++ X1) ++ y :: (Y2 ++ R) := by simp
          have cx := hI.cell (a + i) x (by rw [e1, ← l1]; exact get_at _ _ _)
          have cy := hI.cell (b + i) y (by rw [e2, ← l2]; exact get_at _ _ _)
          have hlen : (P ++ Y1 ++ x :: X2 ++ Q ++ X1 ++ y :: Y2 ++ R).length = N := by rw [hN, hX, hY]; simp only [List.length_append, List.length_cons]; omega
          have fx := hI.frz (a + i) (by rw [hlen]; omega)
          have fy := hI.frz (b + i) (by rw [hlen]; omega)
          have hS := (hI.set (a + i) (by rw [hlen]; omega) y).set (b + i) (by rw [List.length_set, hlen]; omega) x
          have eS : ((P ++ Y1 ++ x :: X2 ++ Q ++ X1 ++ y :: Y2 ++ R).set (a + i) y).set (b + i) x = P ++ (Y1 ++ [y]) ++ X2 ++ Q ++ (X1 ++ [x]) ++ Y2 ++ R := by
            rw [e1, ← l1, set_at, show (P ++ Y1) ++ y :: (X2 ++ Q ++ X1 ++ y :: Y2 ++ R) = ((P ++ Y1) ++ y :: (X2 ++ Q ++ X1)) ++ y :: (Y2 ++ R) by simp]
            rw [show b + i = ((P ++ Y1) ++ y :: (X2 ++ Q ++ X1)).length by rw [← l2]; simp only [List.length_append, List.length_cons]; omega, set_at]
            simp
          rw [eS] at hS
          have hSA := Aside.mk hS
          have hXA := Aside.mk (And.intro hX (And.intro hY (And.intro h1 h2)))
          have hIA := Aside.mk hI
          have ne : a + i ≠ b + i := by omega
          have wa : IntKind.i64.wrap ((a : Int) + (i : Int)) = (a : Int) + (i : Int) := by rw [IntKind.wrap_i64]; omega
          have wb : IntKind.i64.wrap ((b : Int) + (i : Int)) = (b : Int) + (i : Int) := by rw [IntKind.wrap_i64]; omega
          have pa : (0 : Int) ≤ (a : Int) + (i : Int) := by omega
          have pb : (0 : Int) ≤ (b : Int) + (i : Int) := by omega
          have qa : (a : Int) + (i : Int) < (N : Int) := by omega
          have qb : (b : Int) + (i : Int) < (N : Int) := by omega
          have ta : ((a : Int) + (i : Int)).toNat = a + i := by omega
          have tb : ((b : Int) + (i : Int)).toNat = b + i := by omega
          have gl : (i : Int) < (m : Int) := by omega
          clear hI hS hX hY eS e1 e2 hXY l1 l2 hlen hN hb hm ha h1 h2
          go_wp2
          go_region
          all_goals go_wp2
          all_goals refine ⟨⟨i + 1, X1 ++ [x], X2, Y1 ++ [y], Y2, by rw [Int.natCast_add]; rfl, by rw [hXA.out.1]; simp, by rw [hXA.out.2.1]; simp, by rw [List.length_append, hXA.out.2.2.1]; rfl, by rw [List.length_append, hXA.out.2.2.2]; rfl, ?_⟩, by show m - ((i : Int) + 1).toNat < m - (i : Int).toNat; omega⟩
          all_goals exact hSA.out.below (below_drew1 (Below.refl _ _))
    · have hX2 : X2 = [] := List.length_eq_zero_iff.mp (by rw [hX, List.length_append] at hm; omega)
      have hY2 : Y2 = [] := List.length_eq_zero_iff.mp (by rw [hX, hY, List.length_append, List.length_append, hX2] at hXY; simp at hXY; omega)
      have gl : ¬ (i : Int) < (m : Int) := by omega
      have hF : Arr B blk (P ++ Y ++ Q ++ X ++ R) wr := by
        rw [hX2, hY2] at hI
        rw [hX, hY, hX2, hY2]
        simpa using hI
      have hFA : Aside (Arr B blk F wr) := ⟨HF.out ▸ hF⟩
      clear hI hF hX hY hXY hN hb hm ha h1 h2 hX2 hY2
      go_wp2
      go_end0
      exact ⟨rfl, hFA.out⟩
/-- Two neighbouring parts change places. -/
structure Rot (B : World) (blk N M : Nat) (F : List Int) (i j : Nat) (w : World) : Prop where
  ex : ∃ P U V R : List Int, P.length + i = M ∧ U.length = i ∧ V.length = j ∧ (P ++ U ++ V ++ R).length = N ∧ F = P ++ V ++ U ++ R ∧ Arr B blk (P ++ U ++ V ++ R) w
set_option maxHeartbeats 4000000 in
set_option maxRecDepth 100000 in
theorem rotate (B : World) (blk cap : Nat) (f : Value) (P U V R L F : List Int) (N a m b : Nat) (hU : 1 ≤ U.length) (hV : 1 ≤ V.length) (hN : N = (P ++ U ++ V ++ R).length) (hn : N ≤ 1000000) (ha : a = P.length) (hm : m = (P ++ U).length) (hb : b = (P ++ U ++ V).length) (hL : L = P ++ U ++ V ++ R) (hF : F = P ++ V ++ U ++ R) (w : World) (hA : Arr B blk L w) :
    Calls Try.prog 54 #[.slice (some ⟨blk, 0, none⟩) N cap, .int .i64 a, .int .i64 m, .int .i64 b, f] w fun e w' => e = .returned (.tuple #[]) ∧ Arr B blk F w' := by
  obtain ⟨i0, hi0⟩ : ∃ i, i = U.length := ⟨_, rfl⟩
  obtain ⟨j0, hj0⟩ : ∃ j, j = V.length := ⟨_, rfl⟩
  have sz : a + i0 = m ∧ m + j0 = b ∧ b ≤ N ∧ 1 ≤ i0 ∧ 1 ≤ j0 := by
    simp only [List.length_append] at hN hm hb
    omega
  have HR : Aside (Rot B blk N m F i0 j0 w) := ⟨⟨P, U, V, R, by omega, hi0.symm, hj0.symm, hN.symm, hF, hL ▸ hA⟩⟩
  have w1 : IntKind.i64.wrap ((m : Int) - (a : Int)) = (i0 : Int) := by rw [IntKind.wrap_i64]; omega
  have w2 : IntKind.i64.wrap ((b : Int) - (m : Int)) = (j0 : Int) := by rw [IntKind.wrap_i64]; omega
  clear hU hV hN ha hm hb hL hF hA hi0 hj0
  have swp := fun (w : World) (i j : Nat) (h : Rot B blk N m F i j w) (hij : i = j) (p : Nat) (hp : p + i = m) => show Calls Try.prog 55 #[.slice (some ⟨blk, 0, none⟩) N cap, .int .i64 p, .int .i64 m, .int .i64 i, f] w fun e w' => e = .returned (.tuple #[]) ∧ Arr B blk F w' from by
    obtain ⟨P, U, V, R, h1, h2, h3, h4, h5, h6⟩ := h.ex
    exact swapRange B blk cap f P U [] V R _ F N p m i (by omega) (by rw [List.append_nil]; exact h4.symm) hn (by omega) (by rw [List.append_nil, List.length_append]; omega) h2.symm (by rw [List.append_nil]) (by rw [List.append_nil]; exact h5) w h6
  have swp1 := fun (w : World) (i j : Nat) (h : Rot B blk N m F i j w) (hij : j < i) (p : Nat) (hp : p + i = m) => show Calls Try.prog 55 #[.slice (some ⟨blk, 0, none⟩) N cap, .int .i64 p, .int .i64 m, .int .i64 j, f] w fun e w' => e = .returned (.tuple #[]) ∧ Rot B blk N m F (i - j) j w' from by
    obtain ⟨P, U, V, R, h1, h2, h3, h4, h5, h6⟩ := h.ex
    have hU : U = U.take j ++ U.drop j := (List.take_append_drop j U).symm
    have l1 : (U.take j).length = j := by rw [List.length_take]; omega
    have l2 : (U.drop j).length = i - j := by rw [List.length_drop]; omega
    generalize U.take j = U1 at hU l1
    generalize U.drop j = U2 at hU l2
    subst hU
    refine (swapRange B blk cap f P U1 U2 V R _ (P ++ V ++ U2 ++ U1 ++ R) N p m j (by omega) (by rw [← h4]; simp only [List.length_append]; omega) hn (by omega) (by simp only [List.length_append]; omega) l1.symm (by simp) rfl w h6).mono ?_
    rintro e w' ⟨rfl, hA⟩
    exact ⟨rfl, ⟨P ++ V, U2, U1, R, by rw [List.length_append]; omega, l2, l1, by rw [← h4]; simp only [List.length_append]; omega, by rw [h5]; simp, hA⟩⟩
  have swp2 := fun (w : World) (i j : Nat) (h : Rot B blk N m F i j w) (hij : i < j) (p q : Nat) (hp : p + i = m) (hq : q + i = m + j) => show Calls Try.prog 55 #[.slice (some ⟨blk, 0, none⟩) N cap, .int .i64 p, .int .i64 q, .int .i64 i, f] w fun e w' => e = .returned (.tuple #[]) ∧ Rot B blk N m F i (j - i) w' from by
    obtain ⟨P, U, V, R, h1, h2, h3, h4, h5, h6⟩ := h.ex
    have hV : V = V.take (j - i) ++ V.drop (j - i) := (List.take_append_drop _ V).symm
    have l1 : (V.take (j - i)).length = j - i := by rw [List.length_take]; omega
    have l2 : (V.drop (j - i)).length = i := by rw [List.length_drop]; omega
    generalize V.take (j - i) = V1 at hV l1
    generalize V.drop (j - i) = V2 at hV l2
    subst hV
    refine (swapRange B blk cap f P U V1 V2 R _ (P ++ V2 ++ V1 ++ U ++ R) N p q i (by omega) (by rw [← h4]; simp only [List.length_append]; omega) hn (by omega) (by simp only [List.length_append]; omega) h2.symm (by simp) rfl w h6).mono ?_
    rintro e w' ⟨rfl, hA⟩
    exact ⟨rfl, ⟨P, V2, V1, U ++ R, h1, l2, l1, by rw [← h4]; simp only [List.length_append]; omega, by rw [h5]; simp, by simpa using hA⟩⟩
  go_enter Try.func54, Try.ntmps54
  go_wp2
  go_loopw [10, 11] (fun iv jv wr => ∃ (i j : Nat), iv = .int .i64 i ∧ jv = .int .i64 j ∧ 1 ≤ i ∧ 1 ≤ j ∧ i ≤ m ∧ m + j ≤ N ∧ Rot B blk N m F i j wr) (fun iv jv _ => (intOf iv).toNat + (intOf jv).toNat)
  case atStart => exact ⟨i0, j0, rfl, rfl, by omega, by omega, by omega, by omega, HR.out⟩
  case round =>
    obtain ⟨i, j, rfl, rfl, h1, h2, h3, h4, hR⟩ := hrel
    obtain ⟨p, hp⟩ : ∃ p, p + i = m := ⟨m - i, by omega⟩
    have wp : IntKind.i64.wrap ((m : Int) - (i : Int)) = (p : Int) := by rw [IntKind.wrap_i64]; omega
    have hRA := Aside.mk hR
    by_cases he : i = j
    · have hC := swp wr i j hR he p hp
      have g1 : ((i : Int) != (j : Int)) = false := by rw [bne_eq_false_iff_eq]; omega
      subst he
      clear swp swp1 swp2 HR hR
      go_wp2_with (go_at_call 55; refine hC.mono ?_; rintro e w2 ⟨rfl, hF⟩)
      go_end0
      exact ⟨rfl, hF⟩
    · have g1 : ((i : Int) != (j : Int)) = true := by rw [bne_iff_ne]; omega
      by_cases hgt : j < i
      · have hC := swp1 wr i j hR hgt p hp
        have wi : IntKind.i64.wrap ((i : Int) - (j : Int)) = ((i - j : Nat) : Int) := by rw [IntKind.wrap_i64]; omega
        have g2 : (j : Int) < (i : Int) := by omega
        clear swp swp1 swp2 HR hR
        go_wp2_with (go_at_call 55; refine hC.mono ?_; rintro e w2 ⟨rfl, hF⟩)
        exact ⟨⟨i - j, j, rfl, rfl, by omega, h2, by omega, h4, hF⟩, by show ((i - j : Nat) : Int).toNat + (j : Int).toNat < (i : Int).toNat + (j : Int).toNat; omega⟩
      · obtain ⟨q, hq⟩ : ∃ q, q + i = m + j := ⟨m + j - i, by omega⟩
        have hC := swp2 wr i j hR (by omega) p q hp hq
        have wj : IntKind.i64.wrap ((j : Int) - (i : Int)) = ((j - i : Nat) : Int) := by rw [IntKind.wrap_i64]; omega
        have wm : IntKind.i64.wrap ((m : Int) + (j : Int)) = (m : Int) + (j : Int) := by rw [IntKind.wrap_i64]; omega
        have wq : IntKind.i64.wrap ((m : Int) + (j : Int) - (i : Int)) = (q : Int) := by rw [IntKind.wrap_i64]; omega
        have g2 : ¬ (j : Int) < (i : Int) := by omega
        clear swp swp1 swp2 HR hR
        go_wp2_with (go_at_call 55; refine hC.mono ?_; rintro e w2 ⟨rfl, hF⟩)
        exact ⟨⟨i, j - i, rfl, rfl, h1, by omega, h3, by omega, hF⟩, by show (i : Int).toNat + ((j - i : Nat) : Int).toNat < (i : Int).toNat + (j : Int).toNat; omega⟩
end Go.Proofs.Ytlpidjenifbjeaa.Sw
