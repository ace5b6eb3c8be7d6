/- slices.insertionSortCmpFunc over any part: walked. -/
import Derived.Test.YtlpidjenifbjeaaSy
namespace Go.Proofs.Ytlpidjenifbjeaa.Sw
open Go.RowKit Go.Proofs.YtlpidjenifbjeaaW.PrintWords Go.Proofs.PlaceSort

theorem set_swap (x y : Int) (R : List Int) : ∀ (A : List Int), ((A ++ y :: x :: R).set (A.length + 1) y).set A.length x = A ++ (x :: y :: R)
  | [] => rfl
  | z :: A => by
    have := set_swap x y R A
    simp only [List.cons_append, List.length_cons, List.set_cons_succ]
    rw [this]
/-- The part ahead of place k is sorted. -/
def InsL (d : Int → Int) (P X R : List Int) (k : Nat) : List Int := P ++ srt d (X.take k) ++ X.drop k ++ R
theorem insL_zero (d : Int → Int) (P X R : List Int) (hX : 1 ≤ X.length) : InsL d P X R 1 = P ++ X ++ R := by
  cases X with
  | nil => simp at hX
  | cons x X => unfold InsL; rw [List.take_succ_cons, List.take_zero, show srt d [x] = [x] from by unfold srt; rw [List.foldl_cons, List.foldl_nil, mrg_nil]]; simp
theorem insL_end (d : Int → Int) (P X R : List Int) : InsL d P X R X.length = P ++ srt d X ++ R := by
  unfold InsL; rw [List.take_length, List.drop_length]; simp
theorem insL_in (d : Int → Int) (P X R : List Int) (k : Nat) {x : Int} (hx : X[k]? = some x) : InsL d P X R k = P ++ srt d (X.take k) ++ x :: X.drop (k + 1) ++ R := by
  obtain ⟨h, rfl⟩ := List.getElem?_eq_some_iff.mp hx
  unfold InsL; rw [List.drop_eq_getElem_cons h]
/-- One is being put in: Q stands behind it. -/
structure Put (d : Int → Int) (P X R : List Int) (k : Nat) (x : Int) (j : Nat) (M Q : List Int) : Prop where
  len : M.length = j
  all : M ++ Q = srt d (X.take k)
  gt : ∀ y ∈ Q, d x < d y
theorem Put.stop {d P X R k x j M Q} (h : Put d P X R k x j M Q) (hx : X[k]? = some x) (hs : ∀ M' y, M = M' ++ [y] → ¬ d x < d y) : P ++ M ++ x :: Q ++ X.drop (k + 1) ++ R = InsL d P X R (k + 1) := by
  obtain ⟨hk, rfl⟩ := List.getElem?_eq_some_iff.mp hx
  have e : X.take (k + 1) = X.take k ++ [X[k]] := by rw [List.take_add_one, List.getElem?_eq_getElem hk]; rfl
  unfold InsL
  rw [e, srt_snoc, ← h.all]
  have hu := srt_up d (X.take k)
  rw [← h.all] at hu
  rw [mrg_last d _ M Q (fun z hz => ?_) h.gt]
  · simp
  · rcases List.eq_nil_or_concat M with rfl | ⟨M', y, rfl⟩
    · cases hz
    · have := hs M' y (by simp)
      rw [List.concat_eq_append] at hz hu
      have u := (up_app.mp (up_app.mp hu).1).2.2
      rcases List.mem_append.mp hz with hh | hh
      · have := u z hh y (by simp); omega
      · rw [List.mem_singleton.mp hh]; exact this
set_option maxHeartbeats 4000000 in
set_option maxRecDepth 100000 in
theorem insertion (B : World) (blk cap g : Nat) (cb : Array Value) (d : Int → Int) (P X R L F : List Int) (N a b : Nat) (hN : N = (P ++ X ++ R).length) (hn : N ≤ 1000000) (ha : a = P.length) (hb : b = a + X.length) (hL : L = P ++ X ++ R) (hF : F = P ++ srt d X ++ R) (hin : ∀ y ∈ L, 0 ≤ y ∧ y < N) (w : World)
    (eg : ∀ args w, (callFunc g args).run Try.prog w = .ok (.enter g args) w) (hC : CmpIs B blk g cb d N) (hA : Arr B blk L w) :
    Calls Try.prog 52 #[.slice (some ⟨blk, 0, none⟩) N cap, .int .i64 a, .int .i64 b, .func (.func g) #[] cb] w fun e w' => e = .returned (.tuple #[]) ∧ Arr B blk F w' := by
  obtain ⟨xl, hxl⟩ : ∃ xl, xl = X.length := ⟨_, rfl⟩
  have hbx : b = a + xl := by omega
  have sz : b ≤ N := by
    simp only [List.length_append] at hN
    omega
  have H := Aside.mk (And.intro hN (And.intro ha (And.intro hxl (And.intro hL (And.intro hF (And.intro hin hA))))))
  have w0 : IntKind.i64.wrap ((a : Int) + 1) = (a : Int) + 1 := by rw [IntKind.wrap_i64]; omega
  have HB := Aside.mk hbx
  clear hN ha hb hL hF hin hA hxl hbx
  go_enter Try.func52, Try.ntmps52
  go_wp2
  go_loopw [8] (fun iv wr => ∃ k : Nat, 1 ≤ k ∧ iv = .int .i64 ((a : Int) + (k : Int)) ∧ (k ≤ xl ∧ Arr B blk (InsL d P X R k) wr ∨ xl < k ∧ Arr B blk F wr)) (fun iv _ => b + 1 - (intOf iv).toNat)
  case atStart =>
    refine ⟨1, Nat.le_refl _, rfl, ?_⟩
    by_cases h1 : 1 ≤ xl
    · exact Or.inl ⟨h1, by rw [insL_zero d P X R (by rw [← H.out.2.2.1]; exact h1), ← H.out.2.2.2.1]; exact H.out.2.2.2.2.2.2⟩
    · have hX : X = [] := List.length_eq_zero_iff.mp (by rw [← H.out.2.2.1]; omega)
      exact Or.inr ⟨by omega, by
        have := H.out.2.2.2.2.2.2
        rw [H.out.2.2.2.1, hX] at this
        rw [H.out.2.2.2.2.1, hX]; exact this⟩
  case round =>
    obtain ⟨k, hk, rfl, hI⟩ := hrel
    by_cases hlt : k < xl
    · obtain ⟨_, hI⟩ := hI.resolve_right (by omega)
      have hltz : (a : Int) + (k : Int) < (b : Int) := by have := HB.out; omega
      obtain ⟨x, hx⟩ : ∃ x, X[k]? = some x := ⟨_, List.getElem?_eq_getElem (show k < X.length by rw [← H.out.2.2.1]; exact hlt)⟩
      rw [insL_in d P X R k hx] at hI
      have wk1 : IntKind.i64.wrap ((a : Int) + (k : Int) + 1) = (a : Int) + (k : Int) + 1 := by have := HB.out; rw [IntKind.wrap_i64]; omega
      have HX := Aside.mk hx
      have HI := Aside.mk hI
      clear hI hx
      go_wp2
      go_loopw [9] (fun jv wr2 => ∃ (j : Nat) (M Q : List Int), jv = .int .i64 ((a : Int) + (j : Int)) ∧ Put d P X R k x j M Q ∧ Arr B blk (P ++ M ++ x :: Q ++ X.drop (k + 1) ++ R) wr2) (fun jv _ => (intOf jv).toNat)
      case atStart => exact ⟨k, srt d (X.take k), [], rfl, ⟨by rw [srt_len, List.length_take, ← H.out.2.2.1]; omega, by simp, fun y hy => (by cases hy)⟩, by simpa using HI.out⟩
      case round =>
        obtain ⟨j, M, Q, rfl, hP, hJ⟩ := hrel
        have hstop := fun hs => hP.stop HX.out hs
        have hlen : (P ++ M ++ x :: Q ++ X.drop (k + 1) ++ R).length = N := by
          have h1 := hP.all
          have h2 := congrArg List.length h1
          rw [srt_len, List.length_take, List.length_append] at h2
          rw [H.out.1]
          have := H.out.2.2.1
          simp only [List.length_append, List.length_cons, List.length_drop]
          omega
        have hjk : j ≤ k := by
          have h2 := congrArg List.length hP.all
          rw [srt_len, List.length_take, List.length_append, hP.len] at h2
          omega
        cases hMe : M.reverse with
        | nil =>
          have hMn : M = [] := by have := congrArg List.reverse hMe; simpa using this
          have hj0 : j = 0 := by rw [← hP.len, hMn]; rfl
          have hst := hstop (fun M' y h => by rw [hMn] at h; cases M' <;> cases h)
          have hJ2 := Aside.mk (hst ▸ hJ)
          subst hj0
          clear hst hstop hP hMe hJ hlen HI
          have z0 : ¬ (a : Int) + ((0 : Nat) : Int) > (a : Int) := by omega
          have z1 : ¬ (a : Int) < (a : Int) + ((0 : Nat) : Int) := by omega
          go_wp2_with fail
          go_region
          all_goals go_wp2_with fail
          all_goals refine ⟨⟨k + 1, by omega, by rw [Int.natCast_add, ← Int.add_assoc]; rfl, Or.inl ⟨by omega, ?_⟩⟩, by show b + 1 - ((a : Int) + (k : Int) + 1).toNat < b + 1 - ((a : Int) + (k : Int)).toNat; have := HB.out; omega⟩
          all_goals exact hJ2.out.below (below_drew1 (Below.refl _ _))
        | cons y Mr =>
          have hMn : M = Mr.reverse ++ [y] := by have := congrArg List.reverse hMe; simpa using this
          obtain ⟨jp, rfl⟩ : ∃ jp, j = jp + 1 := ⟨Mr.length, by rw [← hP.len, hMn]; simp⟩
          have hjp : (P ++ Mr.reverse).length = a + jp := by
            have := hP.len
            rw [hMn] at this
            simp only [List.length_append, List.length_reverse, List.length_singleton] at this ⊢
            rw [← H.out.2.1]; omega
          have eM : P ++ M ++ x :: Q ++ X.drop (k + 1) ++ R = (P ++ Mr.reverse) ++ y :: x :: (Q ++ X.drop (k + 1) ++ R) := by rw [hMn]; simp
          have hmem : ∀ z, z ∈ P ++ M ++ x :: Q ++ X.drop (k + 1) ++ R → 0 ≤ z ∧ z < N := fun z hz => H.out.2.2.2.2.2.1 z (by
            rw [H.out.2.2.2.1]
            simp only [List.mem_append, List.mem_cons] at hz ⊢
            have hs : ∀ u, u ∈ M ∨ u ∈ Q → u ∈ X := fun u hu => List.mem_of_mem_take ((srt_mem d u _).mp (by rw [← hP.all]; exact List.mem_append.mpr hu))
            rcases hz with (((h | h) | h | h) | h) | h
            · exact Or.inl (Or.inl h)
            · exact Or.inl (Or.inr (hs z (Or.inl h)))
            · rw [h]; exact Or.inl (Or.inr (List.mem_of_getElem? HX.out))
            · exact Or.inl (Or.inr (hs z (Or.inr h)))
            · exact Or.inl (Or.inr (List.mem_of_mem_drop h))
            · exact Or.inr h)
          have by_ := hmem y (by rw [eM]; simp)
          have bx := hmem x (by rw [eM]; simp)
          rw [eM] at hJ hlen
          have cy := hJ.cell (a + jp) y (by rw [← hjp]; exact get_at _ _ _)
          have ci := hJ.cell (a + jp + 1) x (by
            rw [← hjp, show (P ++ Mr.reverse) ++ y :: x :: (Q ++ X.drop (k + 1) ++ R) = (P ++ Mr.reverse ++ [y]) ++ x :: (Q ++ X.drop (k + 1) ++ R) by simp, show (P ++ Mr.reverse).length + 1 = (P ++ Mr.reverse ++ [y]).length by rw [List.length_append (bs := [y])]; rfl]
            exact get_at _ _ _)
          have hlb : blk < wr.heap.size := Nat.lt_of_lt_of_le hJ.lt hJ.size
          have ej : (a : Int) + ((jp + 1 : Nat) : Int) = (a : Int) + (jp : Int) + 1 := by omega
          have hwp : IntKind.i64.wrap ((a : Int) + (jp : Int) + 1 - 1) = (a : Int) + (jp : Int) := by rw [IntKind.wrap_i64]; have := HB.out; omega
          have hwp2 : IntKind.i64.wrap ((a : Int) + (jp : Int)) = (a : Int) + (jp : Int) := by rw [IntKind.wrap_i64]; have := HB.out; omega
          have jz : (a : Int) + (jp : Int) + 1 < (N : Int) := by have := HB.out; omega
          have jz1 : (a : Int) + (jp : Int) < (N : Int) := by have := HB.out; omega
          have hjpos : (a : Int) < (a : Int) + (jp : Int) + 1 := by omega
          have p0 : (0 : Int) ≤ (a : Int) + (jp : Int) + 1 := by omega
          have p1 : (0 : Int) ≤ (a : Int) + (jp : Int) := by omega
          have e0 : ((a : Int) + (jp : Int) + 1).toNat = a + jp + 1 := by omega
          have e1 : ((a : Int) + (jp : Int)).toNat = a + jp := by omega
          have hc := fun W (hb : Below wr.heap.size wr W) => hC W (hJ.below hb).size (hJ.below hb).keep x y bx by_
          rw [ej]
          by_cases hlv : d x < d y
          · have hcv : cmpI (d x) (d y) < 0 := (cmpI_lt _ _).mpr hlv
            have hJA := Aside.mk hJ
            have hnew : Put d P X R k x jp Mr.reverse (y :: Q) := ⟨by
                have := hP.len
                rw [hMn] at this
                simp only [List.length_append, List.length_reverse, List.length_singleton] at this ⊢
                omega, by rw [← hP.all, hMn]; simp, fun z hz => by rcases List.mem_cons.mp hz with rfl | hz; exact hlv; exact hP.gt z hz⟩
            have hKp := Aside.mk hnew
            have hlenA := Aside.mk hlen
            have hjpA := Aside.mk hjp
            clear hJ hstop hmem hP hnew eM hlen HI hjp hMn hMe
            go_wp2_with fail
            go_region_held3 (fun w' => w'.cell? ⟨blk, a + jp, none⟩ = some (.int .i64 y) ∧ w'.cell? ⟨blk, a + jp + 1, none⟩ = some (.int .i64 x)) (first | exact ⟨f0, f1⟩ | exact ⟨cy, ci⟩) (first
              | (refine (hc _ (by repeat (first | exact Below.refl _ _ | apply pw_below_drewN | apply below_drew1))).mono ?_; rintro e w4 ⟨rfl, hb4⟩; have f0 := (hb4.cell (p := ⟨blk, a + jp, none⟩) (by exact hlb)).trans cy; have f1 := (hb4.cell (p := ⟨blk, a + jp + 1, none⟩) (by exact hlb)).trans ci))
            all_goals go_wp2_with fail
            all_goals have hJ4 := (hJA.out.below (below_drew1 (Below.refl _ _))).below hb4
            all_goals have fz0 := hJ4.frz (a + jp) (by rw [hlenA.out]; have := HB.out; omega)
            all_goals have fz1 := hJ4.frz (a + jp + 1) (by rw [hlenA.out]; have := HB.out; omega)
            all_goals have hS4 := (hJ4.set (a + jp + 1) (by rw [hlenA.out]; have := HB.out; omega) y).set (a + jp) (by rw [List.length_set, hlenA.out]; have := HB.out; omega) x
            all_goals have hJ4A := Aside.mk hS4
            all_goals clear hJ4 hS4 hJA
            all_goals go_region
            all_goals go_wp2_with fail
            all_goals refine ⟨⟨jp, Mr.reverse, y :: Q, rfl, hKp.out, ?_⟩, by show ((a : Int) + (jp : Int)).toNat < ((a : Int) + (jp : Int) + 1).toNat; omega⟩
            all_goals have hfin := hJ4A.out.below (below_drew1 (Below.refl _ _))
            all_goals have he := set_swap x y (Q ++ X.drop (k + 1) ++ R) (P ++ Mr.reverse)
            all_goals rw [hjpA.out] at he
            all_goals rw [he] at hfin
            all_goals rw [show P ++ Mr.reverse ++ x :: (y :: Q) ++ X.drop (k + 1) ++ R = P ++ Mr.reverse ++ x :: y :: (Q ++ X.drop (k + 1) ++ R) by simp]
            all_goals exact hfin
          · have hcv : ¬ cmpI (d x) (d y) < 0 := fun h => hlv ((cmpI_lt _ _).mp h)
            have hst := hstop (fun M' z h => by
              rw [hMn] at h
              have := (List.append_inj' h rfl).2
              rw [← (List.cons.inj this).1]; exact hlv)
            rw [eM] at hst
            have hJA := Aside.mk (hst ▸ hJ)
            clear hJ hstop hmem hP hst eM hlen HI hMn hMe hjp
            go_wp2_with fail
            go_region_held3 (fun w' => w'.cell? ⟨blk, a + jp, none⟩ = some (.int .i64 y) ∧ w'.cell? ⟨blk, a + jp + 1, none⟩ = some (.int .i64 x)) (first | exact ⟨f0, f1⟩ | exact ⟨cy, ci⟩) (first
              | (refine (hc _ (by repeat (first | exact Below.refl _ _ | apply pw_below_drewN | apply below_drew1))).mono ?_; rintro e w4 ⟨rfl, hb4⟩; have f0 := (hb4.cell (p := ⟨blk, a + jp, none⟩) (by exact hlb)).trans cy; have f1 := (hb4.cell (p := ⟨blk, a + jp + 1, none⟩) (by exact hlb)).trans ci))
            all_goals go_wp2_with fail
            all_goals refine ⟨⟨k + 1, by omega, by rw [Int.natCast_add, ← Int.add_assoc]; rfl, Or.inl ⟨by omega, ?_⟩⟩, by show b + 1 - ((a : Int) + (k : Int) + 1).toNat < b + 1 - ((a : Int) + (k : Int)).toNat; have := HB.out; omega⟩
            all_goals exact (hJA.out.below (below_drew1 (Below.refl _ _))).below hb4
    · have hn2 : Aside (Arr B blk F wr) := by
        rcases hI with ⟨h1, h2⟩ | ⟨_, h2⟩
        · obtain rfl : k = xl := by omega
          refine ⟨?_⟩
          rw [H.out.2.2.2.2.1]
          rw [H.out.2.2.1] at h2
          rw [insL_end] at h2
          exact h2
        · exact ⟨h2⟩
      have hltz : ¬ (a : Int) + (k : Int) < (b : Int) := by have := HB.out; omega
      clear hI
      go_wp2
      go_end0
      exact ⟨rfl, hn2.out⟩
end Go.Proofs.Ytlpidjenifbjeaa.Sw
