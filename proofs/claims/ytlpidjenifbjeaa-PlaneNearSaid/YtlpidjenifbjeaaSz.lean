/- slices.symMergeCmpFunc, one behind: walked. -/
import Derived.Test.YtlpidjenifbjeaaSy
namespace Go.Proofs.Ytlpidjenifbjeaa.Sw
open Go.RowKit Go.Proofs.YtlpidjenifbjeaaW.PrintWords Go.Proofs.PlaceSort

theorem set_two' (x y : Int) (B : List Int) : ∀ (A : List Int), ((A ++ x :: y :: B).set (A.length + 1) x).set A.length y = A ++ y :: x :: B
  | [] => rfl
  | z :: A => by
    have := set_two' x y B A
    simp only [List.cons_append, List.length_cons, List.set_cons_succ]
    rw [this]
set_option maxHeartbeats 4000000 in
set_option maxRecDepth 100000 in
/-- One behind is put into its place. -/
theorem symRight (B : World) (blk cap g : Nat) (cb : Array Value) (d : Int → Int) (P T R L F : List Int) (x : Int) (N a m b : Nat) (hN : N = (P ++ T ++ x :: R).length) (hn : N ≤ 1000000) (ha : a = P.length) (hm : m = a + T.length) (h2 : 2 ≤ T.length) (hb : b = m + 1) (hL : L = P ++ T ++ x :: R) (hF : F = P ++ mrg d T [x] ++ R) (hU : Up d T) (hin : ∀ y ∈ L, 0 ≤ y ∧ y < N) (w : World)
    (eg : ∀ args w, (callFunc g args).run Try.prog w = .ok (.enter g args) w) (hC : CmpIs B blk g cb d N) (hA : Arr B blk L w) :
    Calls Try.prog 53 #[.slice (some ⟨blk, 0, none⟩) N cap, .int .i64 a, .int .i64 m, .int .i64 b, .func (.func g) #[] cb] w fun e w' => e = .returned (.tuple #[]) ∧ Arr B blk F w' := by
  obtain ⟨tl, htl⟩ : ∃ tl, tl = T.length := ⟨_, rfl⟩
  have sz : b ≤ N ∧ N ≤ 1000000 ∧ a + 2 ≤ m := by
    simp only [List.length_append, List.length_cons] at hN
    omega
  have H := Aside.mk (And.intro hN (And.intro ha (And.intro hL (And.intro hF (And.intro hU (And.intro hin hA))))))
  have w1 : IntKind.i64.wrap ((m : Int) - (a : Int)) = (m : Int) - (a : Int) := by rw [IntKind.wrap_i64]; omega
  have w2 : IntKind.i64.wrap ((b : Int) - (m : Int)) = 1 := by rw [IntKind.wrap_i64]; omega
  have hxL : L[m]? = some x := by
    rw [hL, hm, ha, show P.length + T.length = (P ++ T).length by rw [List.length_append]]; exact get_at _ _ _
  have HX := Aside.mk hxL
  have hbt : m = a + tl := by omega
  have HT := Aside.mk htl
  have HM := Aside.mk (And.intro hb hbt)
  have hmb : m < b := by omega
  have hw1 : ¬ ((m : Int) - (a : Int) = 1) := by omega
  clear hN ha hL hF hU hin hA hb hxL htl hm hbt h2
  go_enter Try.func53, Try.ntmps53
  go_wp2
  go_loopw [14, 15] (fun iv jv wr => ∃ (i j : Nat), iv = .int .i64 i ∧ jv = .int .i64 j ∧ a ≤ i ∧ i ≤ j ∧ j ≤ m ∧ Aside (∀ (k : Nat) y, T[k]? = some y → (k + a < i → ¬ d x < d y) ∧ (j ≤ k + a → d x < d y)) ∧ Arr B blk L wr) (fun iv jv _ => (intOf jv).toNat - (intOf iv).toNat)
  case atStart => exact ⟨a, m, rfl, rfl, Nat.le_refl _, by omega, Nat.le_refl _, ⟨fun k y hk => ⟨fun h => by omega, fun h => by
      have := (List.getElem?_eq_some_iff.mp hk).1
      have := HT.out
      have := HM.out
      omega⟩⟩, H.out.2.2.2.2.2.2⟩
  case round =>
    obtain ⟨i, j, rfl, rfl, h1, h2, h3, hK, hI⟩ := hrel
    by_cases hlt : i < j
    · obtain ⟨h, hh⟩ : ∃ h, h = (i + j) / 2 := ⟨_, rfl⟩
      have hr : i ≤ h ∧ h < j := by omega
      obtain ⟨y, hy⟩ : ∃ y, T[h - a]? = some y := ⟨_, List.getElem?_eq_getElem (show h - a < T.length by have := HT.out; have := HM.out; omega)⟩
      have hyL : L[h]? = some y := by
        rw [H.out.2.2.1, List.append_assoc, List.getElem?_append_right (by have := H.out.2.1; omega), ← H.out.2.1, List.getElem?_append_left (List.getElem?_eq_some_iff.mp hy).1]
        exact hy
      have cx := hI.cell m x HX.out
      have cy := hI.cell h y hyL
      have bx := H.out.2.2.2.2.2.1 x (List.mem_of_getElem? HX.out)
      have by_ := H.out.2.2.2.2.2.1 y (List.mem_of_getElem? hyL)
      have hlb : blk < wr.heap.size := Nat.lt_of_lt_of_le hI.lt hI.size
      have hc := fun W (hb : Below wr.heap.size wr W) => hC W (hI.below hb).size (hI.below hb).keep x y bx by_
      have gl : (i : Int) < (j : Int) := by omega
      have wij : IntKind.i64.wrap ((i : Int) + (j : Int)) = (i : Int) + (j : Int) := by rw [IntKind.wrap_i64]; omega
      have hH : ((i : Int) + (j : Int)) / 2 = (h : Int) := by omega
      have ph : (0 : Int) ≤ (h : Int) := by omega
      have pa : (0 : Int) ≤ (m : Int) := by omega
      have qh : (h : Int) < (N : Int) := by omega
      have qa : (m : Int) < (N : Int) := by omega
      have hIA := Aside.mk hI
      clear hh hI
      by_cases hlv : d x < d y
      · have hcv : cmpI (d x) (d y) < 0 := (cmpI_lt _ _).mpr hlv
        go_wp2_with fail
        go_region_held3 (fun w' => w'.cell? ⟨blk, m, none⟩ = some (.int .i64 x) ∧ w'.cell? ⟨blk, h, none⟩ = some (.int .i64 y)) (first | exact ⟨f0, f1⟩ | exact ⟨cx, cy⟩) (first
          | (refine (hc _ (by repeat (first | exact Below.refl _ _ | apply pw_below_drewN | apply below_drew1))).mono ?_; rintro e w4 ⟨rfl, hb4⟩; have f0 := (hb4.cell (p := ⟨blk, m, none⟩) (by exact hlb)).trans cx; have f1 := (hb4.cell (p := ⟨blk, h, none⟩) (by exact hlb)).trans cy))
        all_goals go_wp2_with fail
        all_goals try (rename_i hh; exfalso; simp only [Bool.not_eq_eq_eq_not, Bool.not_true, Bool.not_false, decide_eq_false_iff_not, decide_eq_true_eq] at hh; omega)
        all_goals refine ⟨⟨i, rfl, h, rfl, h1, by omega, by omega, ⟨fun k z hk => ⟨fun hl2 => by have := (hK.out k z hk).1 hl2; omega, fun hl => ?_⟩⟩, (hIA.out.below (below_drew1 (Below.refl _ _))).below hb4⟩, by show (h : Int).toNat - (i : Int).toNat < (j : Int).toNat - (i : Int).toNat; omega⟩
        all_goals rcases Nat.lt_or_ge (h - a) k with hk1 | hk1
        all_goals first
          | (have := up_idx H.out.2.2.2.2.1 hk1 hy hk; omega)
          | (obtain rfl : k = h - a := by omega
             rw [hk] at hy; have := Option.some.inj hy; subst this; omega)
      · have hcv : ¬ cmpI (d x) (d y) < 0 := fun hh => hlv ((cmpI_lt _ _).mp hh)
        have wh : IntKind.i64.wrap ((h : Int) + 1) = ((h + 1 : Nat) : Int) := by rw [IntKind.wrap_i64]; omega
        go_wp2_with fail
        go_region_held3 (fun w' => w'.cell? ⟨blk, m, none⟩ = some (.int .i64 x) ∧ w'.cell? ⟨blk, h, none⟩ = some (.int .i64 y)) (first | exact ⟨f0, f1⟩ | exact ⟨cx, cy⟩) (first
          | (refine (hc _ (by repeat (first | exact Below.refl _ _ | apply pw_below_drewN | apply below_drew1))).mono ?_; rintro e w4 ⟨rfl, hb4⟩; have f0 := (hb4.cell (p := ⟨blk, m, none⟩) (by exact hlb)).trans cx; have f1 := (hb4.cell (p := ⟨blk, h, none⟩) (by exact hlb)).trans cy))
        all_goals go_wp2_with fail
        all_goals try (rename_i hh; exfalso; simp only [Bool.not_eq_eq_eq_not, Bool.not_true, Bool.not_false, decide_eq_false_iff_not, decide_eq_true_eq] at hh; omega)
        all_goals refine ⟨⟨h + 1, by rw [Int.natCast_add]; rfl, j, rfl, by omega, by omega, h3, ⟨fun k z hk => ⟨fun hl => ?_, fun hl2 => by have := (hK.out k z hk).2 hl2; omega⟩⟩, (hIA.out.below (below_drew1 (Below.refl _ _))).below hb4⟩, by show (j : Int).toNat - ((h : Int) + 1).toNat < (j : Int).toNat - (i : Int).toNat; omega⟩
        all_goals rcases Nat.lt_or_ge k (h - a) with hk1 | hk1
        all_goals first
          | (have := up_idx H.out.2.2.2.2.1 hk1 hk hy; omega)
          | (obtain rfl : k = h - a := by omega
             rw [hk] at hy; have := Option.some.inj hy; subst this; omega)
    · have hij : i = j := by omega
      have gl : ¬ (i : Int) < (j : Int) := by omega
      subst hij
      have hIA := Aside.mk hI
      clear hI
      go_wp2_with fail
      have HI := Aside.mk (And.intro h1 h3)
      go_loopw [17] (fun kv wr2 => ∃ c : Nat, kv = .int .i64 ((a : Int) + (c : Int)) ∧ i ≤ a + c ∧ a + c ≤ m ∧ Arr B blk (P ++ T.take c ++ x :: T.drop c ++ R) wr2) (fun kv _ => (intOf kv).toNat)
      case atStart => exact ⟨tl, by rw [HM.out.2, Int.natCast_add], by have := HM.out; omega, by have := HM.out; omega, by
        have := hIA.out
        rw [H.out.2.2.1] at this
        rw [HT.out, List.take_length, List.drop_length]
        simpa using this⟩
      case round =>
        obtain ⟨c, rfl, hc1, hc2, hJ⟩ := hrel
        by_cases hcl : i < a + c
        · obtain ⟨c, rfl⟩ : ∃ c', c = c' + 1 := ⟨c - 1, by omega⟩
          have hcT : c < T.length := by have := HT.out; have := HM.out; have := HI.out; omega
          have hdr : T.drop c = T[c] :: T.drop (c + 1) := List.drop_eq_getElem_cons hcT
          have htk : T.take (c + 1) = T.take c ++ [T[c]] := by rw [List.take_add_one, List.getElem?_eq_getElem hcT]; rfl
          generalize T[c] = y at hdr htk
          have lA : (P ++ T.take c).length = a + c := by rw [List.length_append, List.length_take, ← H.out.2.1]; omega
          have eJ : P ++ T.take (c + 1) ++ x :: T.drop (c + 1) ++ R = (P ++ T.take c) ++ y :: x :: (T.drop (c + 1) ++ R) := by rw [htk]; simp
          rw [eJ] at hJ
          have hlen : ((P ++ T.take c) ++ y :: x :: (T.drop (c + 1) ++ R)).length = N := by
            rw [← eJ, H.out.1]
            simp only [List.length_append, List.length_cons, List.length_take, List.length_drop]
            omega
          have cy := hJ.cell (a + c) y (by rw [← lA]; exact get_at _ _ _)
          have cx := hJ.cell (a + c + 1) x (by
            rw [← lA, show (P ++ T.take c) ++ y :: x :: (T.drop (c + 1) ++ R) = (P ++ T.take c ++ [y]) ++ x :: (T.drop (c + 1) ++ R) by simp, show (P ++ T.take c).length + 1 = (P ++ T.take c ++ [y]).length by rw [List.length_append (bs := [y])]; rfl]
            exact get_at _ _ _)
          have fy := hJ.frz (a + c) (by rw [hlen]; omega)
          have fx := hJ.frz (a + c + 1) (by rw [hlen]; omega)
          have hS := (hJ.set (a + c + 1) (by rw [hlen]; omega) y).set (a + c) (by rw [List.length_set, hlen]; omega) x
          have eS := set_two' y x (T.drop (c + 1) ++ R) (P ++ T.take c)
          rw [lA] at eS
          rw [eS, show (P ++ T.take c) ++ x :: y :: (T.drop (c + 1) ++ R) = P ++ T.take c ++ x :: T.drop c ++ R by rw [hdr]; simp] at hS
          have hSA := Aside.mk hS
          have ek : (a : Int) + ((c + 1 : Nat) : Int) = (a : Int) + (c : Int) + 1 := by omega
          have wk : IntKind.i64.wrap ((a : Int) + (c : Int) + 1 - 1) = (a : Int) + (c : Int) := by rw [IntKind.wrap_i64]; omega
          have p0 : (0 : Int) ≤ (a : Int) + (c : Int) := by omega
          have p1 : (0 : Int) ≤ (a : Int) + (c : Int) + 1 := by omega
          have q0 : (a : Int) + (c : Int) < (N : Int) := by omega
          have q1 : (a : Int) + (c : Int) + 1 < (N : Int) := by omega
          have t0 : ((a : Int) + (c : Int)).toNat = a + c := by omega
          have t1 : ((a : Int) + (c : Int) + 1).toNat = a + c + 1 := by omega
          have gk : (i : Int) < (a : Int) + (c : Int) + 1 := by omega
          have ne : a + c + 1 ≠ a + c := by omega
          clear hJ hS eS eJ hdr htk lA hlen hcT
          rw [ek]
          go_wp2
          go_region
          all_goals go_wp2
          all_goals refine ⟨⟨c, rfl, by omega, by omega, hSA.out.below (below_drew1 (Below.refl _ _))⟩, by show ((a : Int) + (c : Int)).toNat < ((a : Int) + (c : Int) + 1).toNat; omega⟩
        · have hct : c = i - a := by omega
          have gk : ¬ (i : Int) < (a : Int) + (c : Int) := by omega
          have hF : Aside (Arr B blk F wr) := ⟨by
            have hT : T = T.take c ++ T.drop c := (List.take_append_drop c T).symm
            have hm2 := HM.out
            have key : mrg d T [x] = T.take c ++ x :: T.drop c := by
              conv => lhs; rw [hT]
              refine mrg_last d x _ _ (fun y hy => ?_) (fun y hy => ?_)
              · obtain ⟨k, hk⟩ := List.mem_iff_getElem?.mp hy
                have hkc : k < c := by
                  have := (List.getElem?_eq_some_iff.mp hk).1
                  rw [List.length_take] at this; omega
                rw [List.getElem?_take_of_lt hkc] at hk
                have := (hK.out k y hk).1 (by omega)
                omega
              · obtain ⟨k, hk⟩ := List.mem_iff_getElem?.mp hy
                rw [List.getElem?_drop] at hk
                exact (hK.out (c + k) y hk).2 (by omega)
            rw [H.out.2.2.2.1, key]
            simpa using hJ⟩
          clear hJ hct
          go_wp2
          refine bodyPost_ret (results_none rfl _ _ _) rfl ?_
          exact ⟨rfl, hF.out⟩
end Go.Proofs.Ytlpidjenifbjeaa.Sw
