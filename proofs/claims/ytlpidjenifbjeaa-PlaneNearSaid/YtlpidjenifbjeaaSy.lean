/- slices.symMergeCmpFunc: walked. -/
import Derived.Test.YtlpidjenifbjeaaSw
namespace Go.Proofs.Ytlpidjenifbjeaa.Sw
open Go.RowKit Go.Proofs.YtlpidjenifbjeaaW.PrintWords Go.Proofs.PlaceSort

/-- How two numbers compare. -/
def cmpI (a b : Int) : Int := if a < b then -1 else if b < a then 1 else 0
theorem cmpI_lt (a b : Int) : cmpI a b < 0 ↔ a < b := by unfold cmpI; split; · simp [*]
                                                         · split <;> simp [*] <;> omega
/-- Whatever comes to pass beside the row: numbers below n are compared by d. -/
def CmpIs (B : World) (blk : Nat) (g : Nat) (cb : Array Value) (d : Int → Int) (n : Nat) : Prop :=
  ∀ W, B.heap.size ≤ W.heap.size → (∀ k, k < B.heap.size → k ≠ blk → W.heap[k]? = B.heap[k]?) → ∀ x y : Int, 0 ≤ x ∧ x < n → 0 ≤ y ∧ y < n →
    Calls Try.prog g (#[.int .i64 x, .int .i64 y] ++ cb) W fun e W' => e = .returned (.int .i64 (cmpI (d x) (d y))) ∧ Below W.heap.size W W'
theorem up_idx {d : Int → Int} : ∀ {l : List Int}, Up d l → ∀ {i j : Nat} {x y : Int}, i < j → l[i]? = some x → l[j]? = some y → ¬ d y < d x
  | [], _, i, _, _, _, _, h, _ => by simp at h
  | z :: l, hu, 0, j, x, y, hij, hx, hy => by
    obtain ⟨j, rfl⟩ : ∃ j', j = j' + 1 := ⟨j - 1, by omega⟩
    rw [List.getElem?_cons_zero] at hx
    rw [List.getElem?_cons_succ] at hy
    rw [← Option.some.inj hx]
    exact hu.1 y (List.mem_of_getElem? hy)
  | z :: l, hu, i + 1, j, x, y, hij, hx, hy => by
    obtain ⟨j, rfl⟩ : ∃ j', j = j' + 1 := ⟨j - 1, by omega⟩
    rw [List.getElem?_cons_succ] at hx hy
    exact up_idx hu.2 (by omega) hx hy
theorem set_two (x y : Int) (B : List Int) : ∀ (A : List Int), ((A ++ x :: y :: B).set A.length y).set (A.length + 1) x = A ++ y :: x :: B
  | [] => rfl
  | z :: A => by
    have := set_two x y B A
    simp only [List.cons_append, List.length_cons, List.set_cons_succ]
    rw [this]
set_option maxHeartbeats 4000000 in
set_option maxRecDepth 100000 in
/-- One ahead is put into its place. -/
theorem symLeft (B : World) (blk cap g : Nat) (cb : Array Value) (d : Int → Int) (P T R L F : List Int) (x : Int) (N a m b : Nat) (hN : N = (P ++ x :: T ++ R).length) (hn : N ≤ 1000000) (ha : a = P.length) (hm : m = a + 1) (hb : b = m + T.length) (hL : L = P ++ x :: T ++ R) (hF : F = P ++ mrg d [x] T ++ R) (hU : Up d T) (hin : ∀ y ∈ L, 0 ≤ y ∧ y < N) (w : World)
    (eg : ∀ args w, (callFunc g args).run Try.prog w = .ok (.enter g args) w) (hC : CmpIs B blk g cb d N) (hA : Arr B blk L w) :
    Calls Try.prog 53 #[.slice (some ⟨blk, 0, none⟩) N cap, .int .i64 a, .int .i64 m, .int .i64 b, .func (.func g) #[] cb] w fun e w' => e = .returned (.tuple #[]) ∧ Arr B blk F w' := by
  have sz : b ≤ N ∧ N ≤ 1000000 := by
    simp only [List.length_append, List.length_cons] at hN
    omega
  have H := Aside.mk (And.intro hN (And.intro ha (And.intro hL (And.intro hF (And.intro hU (And.intro hin (And.intro hA hb)))))))
  have w1 : IntKind.i64.wrap ((m : Int) - (a : Int)) = 1 := by rw [IntKind.wrap_i64]; omega
  have hxL : L[a]? = some x := by rw [hL, ha, List.append_assoc]; exact get_at _ _ _
  have HX := Aside.mk hxL
  obtain ⟨tl, htl⟩ : ∃ tl, tl = T.length := ⟨_, rfl⟩
  have hbt : b = m + tl := by omega
  have HT := Aside.mk htl
  have HM := Aside.mk (And.intro hm hbt)
  have hmb : a < m ∧ m ≤ b := by omega
  have hw1 : ((m : Int) - (a : Int) == 1) = true := by rw [beq_iff_eq]; omega
  clear hN ha hL hF hU hin hA hb hxL htl hm hbt
  go_enter Try.func53, Try.ntmps53
  go_wp2
  go_loopw [10, 11] (fun iv jv wr => ∃ (i j : Nat), iv = .int .i64 i ∧ jv = .int .i64 j ∧ m ≤ i ∧ i ≤ j ∧ j ≤ b ∧ Aside (∀ (k : Nat) y, T[k]? = some y → (k + m < i → d y < d x) ∧ (j ≤ k + m → ¬ d y < d x)) ∧ Arr B blk L wr) (fun iv jv _ => (intOf jv).toNat - (intOf iv).toNat)
  case atStart => exact ⟨m, b, rfl, rfl, Nat.le_refl _, by omega, Nat.le_refl _, ⟨fun k y hk => ⟨fun h => by omega, fun h => by
      have := (List.getElem?_eq_some_iff.mp hk).1
      have := HT.out
      have := HM.out
      omega⟩⟩, H.out.2.2.2.2.2.2.1⟩
  case round =>
    obtain ⟨i, j, rfl, rfl, h1, h2, h3, hK, hI⟩ := hrel
    by_cases hlt : i < j
    · obtain ⟨h, hh⟩ : ∃ h, h = (i + j) / 2 := ⟨_, rfl⟩
      have hr : i ≤ h ∧ h < j := by omega
      obtain ⟨y, hy⟩ : ∃ y, T[h - m]? = some y := ⟨_, List.getElem?_eq_getElem (show h - m < T.length by have := HT.out; have := HM.out; omega)⟩
      have hyL : L[h]? = some y := by
        rw [H.out.2.2.1, List.append_assoc, List.getElem?_append_right (by have := H.out.2.1; omega), ← H.out.2.1, show h - a = (h - m) + 1 by have := HM.out; omega, List.cons_append, List.getElem?_cons_succ, List.getElem?_append_left (List.getElem?_eq_some_iff.mp hy).1]
        exact hy
      have cx := hI.cell a x HX.out
      have cy := hI.cell h y hyL
      have bx := H.out.2.2.2.2.2.1 x (List.mem_of_getElem? HX.out)
      have by_ := H.out.2.2.2.2.2.1 y (List.mem_of_getElem? hyL)
      have hlb : blk < wr.heap.size := Nat.lt_of_lt_of_le hI.lt hI.size
      have hc := fun W (hb : Below wr.heap.size wr W) => hC W (hI.below hb).size (hI.below hb).keep y x by_ bx
      have gl : (i : Int) < (j : Int) := by omega
      have wij : IntKind.i64.wrap ((i : Int) + (j : Int)) = (i : Int) + (j : Int) := by rw [IntKind.wrap_i64]; omega
      have hH : ((i : Int) + (j : Int)) / 2 = (h : Int) := by omega
      have ph : (0 : Int) ≤ (h : Int) := by omega
      have pa : (0 : Int) ≤ (a : Int) := by omega
      have qh : (h : Int) < (N : Int) := by omega
      have qa : (a : Int) < (N : Int) := by omega
      have hIA := Aside.mk hI
      clear hh hI
      by_cases hlv : d y < d x
      · have hcv : cmpI (d y) (d x) < 0 := (cmpI_lt _ _).mpr hlv
        have wh : IntKind.i64.wrap ((h : Int) + 1) = ((h + 1 : Nat) : Int) := by rw [IntKind.wrap_i64]; omega
        go_wp2_with fail
        go_region_held3 (fun w' => w'.cell? ⟨blk, h, none⟩ = some (.int .i64 y) ∧ w'.cell? ⟨blk, a, none⟩ = some (.int .i64 x)) (first | exact ⟨f0, f1⟩ | exact ⟨cy, cx⟩) (first
          | (refine (hc _ (by repeat (first | exact Below.refl _ _ | apply pw_below_drewN | apply below_drew1))).mono ?_; rintro e w4 ⟨rfl, hb4⟩; have f0 := (hb4.cell (p := ⟨blk, h, none⟩) (by exact hlb)).trans cy; have f1 := (hb4.cell (p := ⟨blk, a, none⟩) (by exact hlb)).trans cx))
        all_goals go_wp2_with fail
        all_goals refine ⟨⟨h + 1, j, by rw [Int.natCast_add]; rfl, rfl, by omega, by omega, h3, ⟨fun k z hk => ⟨fun hl => ?_, fun hl2 => by have := (hK.out k z hk).2 hl2; omega⟩⟩, (hIA.out.below (below_drew1 (Below.refl _ _))).below hb4⟩, by show (j : Int).toNat - ((h : Int) + 1).toNat < (j : Int).toNat - (i : Int).toNat; omega⟩
        all_goals rcases Nat.lt_or_ge k (h - m) with hk1 | hk1
        all_goals first
          | (have := up_idx H.out.2.2.2.2.1 hk1 hk hy; omega)
          | (obtain rfl : k = h - m := by omega
             rw [hk] at hy; have := Option.some.inj hy; subst this; omega)
      · have hcv : ¬ cmpI (d y) (d x) < 0 := fun hh => hlv ((cmpI_lt _ _).mp hh)
        go_wp2_with fail
        go_region_held3 (fun w' => w'.cell? ⟨blk, h, none⟩ = some (.int .i64 y) ∧ w'.cell? ⟨blk, a, none⟩ = some (.int .i64 x)) (first | exact ⟨f0, f1⟩ | exact ⟨cy, cx⟩) (first
          | (refine (hc _ (by repeat (first | exact Below.refl _ _ | apply pw_below_drewN | apply below_drew1))).mono ?_; rintro e w4 ⟨rfl, hb4⟩; have f0 := (hb4.cell (p := ⟨blk, h, none⟩) (by exact hlb)).trans cy; have f1 := (hb4.cell (p := ⟨blk, a, none⟩) (by exact hlb)).trans cx))
        all_goals go_wp2_with fail
        all_goals refine ⟨⟨i, h, rfl, rfl, h1, by omega, by omega, ⟨fun k z hk => ⟨fun hl2 => by have := (hK.out k z hk).1 hl2; omega, fun hl => ?_⟩⟩, (hIA.out.below (below_drew1 (Below.refl _ _))).below hb4⟩, by show (h : Int).toNat - (i : Int).toNat < (j : Int).toNat - (i : Int).toNat; omega⟩
        all_goals rcases Nat.lt_or_ge (h - m) k with hk1 | hk1
        all_goals first
          | (have := up_idx H.out.2.2.2.2.1 hk1 hy hk; omega)
          | (obtain rfl : k = h - m := by omega
             rw [hk] at hy; have := Option.some.inj hy; subst this; omega)
    · have hij : i = j := by omega
      have gl : ¬ (i : Int) < (j : Int) := by omega
      subst hij
      have hIA := Aside.mk hI
      have wi1 : IntKind.i64.wrap ((i : Int) - 1) = (i : Int) - 1 := by rw [IntKind.wrap_i64]; omega
      clear hI
      go_wp2_with fail
      obtain ⟨t, ht⟩ : ∃ t, i = a + 1 + t := ⟨i - a - 1, by have := HM.out; omega⟩
      have HI := Aside.mk (And.intro ht (And.intro h1 h3))
      have hai : a + 1 ≤ i := by omega
      clear ht
      go_loopw [13] (fun kv wr2 => ∃ c : Nat, kv = .int .i64 ((a : Int) + (c : Int)) ∧ a + c + 1 ≤ i ∧ Arr B blk (P ++ T.take c ++ x :: T.drop c ++ R) wr2) (fun kv _ => i - (intOf kv).toNat)
      case atStart => exact ⟨0, by rw [Int.natCast_zero, Int.add_zero], by omega, by
        have := hIA.out
        rw [H.out.2.2.1] at this
        simpa using this⟩
      case round =>
        obtain ⟨c, rfl, hc1, hJ⟩ := hrel
        by_cases hcl : a + c + 1 < i
        · have hcT : c < T.length := by have := HT.out; have := HM.out; have := HI.out; omega
          have hdr : T.drop c = T[c] :: T.drop (c + 1) := List.drop_eq_getElem_cons hcT
          have htk : T.take (c + 1) = T.take c ++ [T[c]] := by rw [List.take_add_one, List.getElem?_eq_getElem hcT]; rfl
          generalize T[c] = y at hdr htk
          have lA : (P ++ T.take c).length = a + c := by rw [List.length_append, List.length_take, ← H.out.2.1]; omega
          have eJ : P ++ T.take c ++ x :: T.drop c ++ R = (P ++ T.take c) ++ x :: y :: (T.drop (c + 1) ++ R) := by rw [hdr]; simp
          rw [eJ] at hJ
          have hlen : ((P ++ T.take c) ++ x :: y :: (T.drop (c + 1) ++ R)).length = N := by
            rw [← eJ, H.out.1]
            simp only [List.length_append, List.length_cons, List.length_take, List.length_drop]
            omega
          have cx := hJ.cell (a + c) x (by rw [← lA]; exact get_at _ _ _)
          have cy := hJ.cell (a + c + 1) y (by
            rw [← lA, show (P ++ T.take c) ++ x :: y :: (T.drop (c + 1) ++ R) = (P ++ T.take c ++ [x]) ++ y :: (T.drop (c + 1) ++ R) by simp, show (P ++ T.take c).length + 1 = (P ++ T.take c ++ [x]).length by rw [List.length_append (bs := [x])]; rfl]
            exact get_at _ _ _)
          have fx := hJ.frz (a + c) (by rw [hlen]; omega)
          have fy := hJ.frz (a + c + 1) (by rw [hlen]; omega)
          have hS := (hJ.set (a + c) (by rw [hlen]; omega) y).set (a + c + 1) (by rw [List.length_set, hlen]; omega) x
          have eS := set_two x y (T.drop (c + 1) ++ R) (P ++ T.take c)
          rw [lA] at eS
          rw [eS, show (P ++ T.take c) ++ y :: x :: (T.drop (c + 1) ++ R) = P ++ T.take (c + 1) ++ x :: T.drop (c + 1) ++ R by rw [htk]; simp] at hS
          have hSA := Aside.mk hS
          have wk : IntKind.i64.wrap ((a : Int) + (c : Int) + 1) = (a : Int) + (c : Int) + 1 := by rw [IntKind.wrap_i64]; omega
          have p0 : (0 : Int) ≤ (a : Int) + (c : Int) := by omega
          have p1 : (0 : Int) ≤ (a : Int) + (c : Int) + 1 := by omega
          have q0 : (a : Int) + (c : Int) < (N : Int) := by omega
          have q1 : (a : Int) + (c : Int) + 1 < (N : Int) := by omega
          have t0 : ((a : Int) + (c : Int)).toNat = a + c := by omega
          have t1 : ((a : Int) + (c : Int) + 1).toNat = a + c + 1 := by omega
          have gk : (a : Int) + (c : Int) < (i : Int) - 1 := by omega
          have ne : a + c ≠ a + c + 1 := by omega
          clear hJ hS eS eJ hdr htk lA hlen hcT
          go_wp2
          go_region
          all_goals go_wp2
          all_goals refine ⟨⟨c + 1, by rw [Int.natCast_add, ← Int.add_assoc]; rfl, by omega, hSA.out.below (below_drew1 (Below.refl _ _))⟩, by show i - ((a : Int) + (c : Int) + 1).toNat < i - ((a : Int) + (c : Int)).toNat; omega⟩
        · have hct : c = i - a - 1 := by omega
          have gk : ¬ (a : Int) + (c : Int) < (i : Int) - 1 := by omega
          have hF : Aside (Arr B blk F wr) := ⟨by
            have hT : T = T.take c ++ T.drop c := (List.take_append_drop c T).symm
            have hm2 := HM.out
            have key : mrg d [x] T = T.take c ++ x :: T.drop c := by
              conv => lhs; rw [hT]
              refine mrg_one d x _ _ (fun y hy => ?_) (fun y hy => ?_)
              · obtain ⟨k, hk⟩ := List.mem_iff_getElem?.mp hy
                have hkc : k < c := by
                  have := (List.getElem?_eq_some_iff.mp hk).1
                  rw [List.length_take] at this; omega
                rw [List.getElem?_take_of_lt hkc] at hk
                exact (hK.out k y hk).1 (by omega)
              · obtain ⟨k, hk⟩ := List.mem_iff_getElem?.mp hy
                rw [List.getElem?_drop] at hk
                have := (hK.out (c + k) y hk).2 (by omega)
                omega
            rw [H.out.2.2.2.1, key]
            simpa using hJ⟩
          clear hJ hct
          go_wp2
          refine bodyPost_ret (results_none rfl _ _ _) rfl ?_
          exact ⟨rfl, hF.out⟩
end Go.Proofs.Ytlpidjenifbjeaa.Sw
