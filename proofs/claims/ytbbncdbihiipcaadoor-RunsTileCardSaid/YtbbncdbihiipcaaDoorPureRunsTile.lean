/- Runs and gaps lie in turn: over lists of spans, no program in sight but its printed functions. -/
import Derived.Test.YtbbncdbihiipcaaDoorPx7
import Derived.Test.YtbbncdbihiipcaaDoorRt
namespace Go.Proofs.YtbbncdbihiipcaaDoor.Th
open Go.RowKit Go.Proofs.YtbbncdbihiipcaaDoor.P Go.Proofs.YtbbncdbihiipcaaDoorW.PrintWords Go.Proofs.YtbbncdbihiipcaaDoorW.PrintLast Go.Proofs.YtbbncdbihiipcaaDoor.Ru

/-- The run that begins just here, if one is there. -/
theorem first_is {N : Int} {at_ : Int} {l : List (Int × Int)} (hg : Ru.Good (at_ - 1) N l) (hm : mem l at_ = true) : ∃ x r, l = x :: r ∧ x.1 = at_ := by
  cases l with
  | nil => cases hm
  | cons x r =>
    refine ⟨x, r, rfl, ?_⟩
    have h1 := hg.1
    rcases Int.lt_or_le at_ x.1 with h | h
    · rw [mem_low N (x :: r) at_ at_ ⟨h, hg.2⟩ (Int.le_refl _)] at hm; cases hm
    · omega
theorem none_past {N : Int} {l : List (Int × Int)} (hg : Ru.Good (N - 1) N l) : l = [] := by
  cases l with
  | nil => rfl
  | cons x r => have h1 := hg.1; have h2 := hg.2.1; have h3 := hg.2.2.1; omega
theorem drop_split {α : Type} {l : List α} {i : Nat} {x : α} {r : List α} (h : l.drop i = x :: r) : i < l.length ∧ l[i]? = some x ∧ l.drop (i + 1) = r := by
  have hlt : i < l.length := by
    rcases Nat.lt_or_ge i l.length with h' | h'
    · exact h'
    · rw [List.drop_of_length_le h'] at h; cases h
  rw [List.drop_eq_getElem_cons hlt] at h
  have := List.cons.inj h
  exact ⟨hlt, by rw [List.getElem?_eq_getElem hlt, this.1], this.2⟩
theorem wrap_diff (i k : Nat) (hi : i ≤ 1000) (hk : k ≤ 1000) : wrap64 ((i : Int) - k) = (i : Int) - k := w64 (by omega)

theorem tile_l0 (n : Nat) (hn : n ≤ 160) (s : ByteArray) (hc : chk n s = true) (R G : List (Int × Int)) (hR : Ru.Good (-1) n R ∧ ∀ i : Nat, i < n → mem R i = inP s true i) (hG : Ru.Good (-1) n G ∧ ∀ i : Nat, i < n → mem G i = inP s false i) :
    ∀ (m a i k : Nat), a + m ≥ n → a ≤ n → i ≤ R.length → k ≤ G.length → Ru.Good ((a : Int) - 1) n (R.drop i) → Ru.Good ((a : Int) - 1) n (G.drop k) →
    (∀ j : Nat, a ≤ j → j < n → mem (R.drop i) j = inP s true j) → (∀ j : Nat, a ≤ j → j < n → mem (G.drop k) j = inP s false j) →
    (i = k + 1 ∧ Ru.Good a n (R.drop i) ∨ i = k ∨ k = i + 1 ∧ Ru.Good a n (G.drop k)) →
    Ev (fun q => mosaiclaw25_RunsTile.l0 q n s (R.map Hand.toSp) (G.map Hand.toSp) a i k) true := by
  have lR := good_len n R (-1) hR.1 (by omega)
  have lG := good_len n G (-1) hG.1 (by omega)
  intro m
  induction m with
  | zero =>
    intro a i k ha han hi hk gR gG mR mG hD
    have he : a = n := by omega
    subst he
    have eR := none_past gR
    have eG := none_past gG
    have hiR : i = R.length := by have := List.drop_eq_nil_iff.mp eR; omega
    have hkG : k = G.length := by have := List.drop_eq_nil_iff.mp eG; omega
    obtain ⟨r1, h1, S1⟩ := prog_set a ⟨by omega, by omega⟩ R (by omega)
    obtain ⟨r2, h2, S2⟩ := prog_set a ⟨by omega, by omega⟩ G (by omega)
    have hc0 := chk_true hc
    rcases S1 with ⟨_, c1, z1, b1⟩ | ⟨g, _⟩
    rotate_left
    · exact absurd hR.1 g
    rcases S2 with ⟨_, c2, z2, b2⟩ | ⟨g, _⟩
    rotate_left
    · exact absurd hG.1 g
    have e1 : r1.1 = s := chk_ext c1 hc (fun j hj => by rw [b1 j hj, hR.2 j (by omega)]; unfold inP; simp)
    have k1 := chk_true c1
    have k2 := chk_true c2
    have hsz : r2.1.size = r1.1.size := by rw [k1.2.2.1, k2.2.2.1]
    have hfull : Mi.opB .or r1.1 r2.1 = Mi.fullB a := by
      refine chk_ext (n := (a : Int)) (chk_mk (by omega) (by omega) (by rw [op_size]; exact k1.2.2.1) (fun j hj => ?_)) (chk_mk (by omega) (by omega) (full_size _ ⟨by omega, by omega⟩) (fun j hj => ?_)) (fun j hj => ?_)
      · rw [hb_or _ _ hsz, k1.2.2.2 j hj, k2.2.2.2 j hj]; rfl
      · rw [hb_full _ ⟨by omega, by omega⟩]; exact decide_eq_false (by omega)
      · rw [hb_or _ _ hsz, hb_full _ ⟨by omega, by omega⟩, decide_eq_true hj, b1 j hj, b2 j hj, hR.2 j (by omega), hG.2 j (by omega)]
        unfold inP; cases hb s j <;> rfl
    have hor : Hand.bits_Or.f r1.1 r2.1 = some (Mi.opB .or r1.1 r2.1, 0) := by unfold Hand.bits_Or.f; rw [if_pos ⟨by omega, hsz⟩]
    refine Ev.step (G := fun q => mosaiclaw25_RunsTile.j2 q a s (R.map Hand.toSp) (G.map Hand.toSp) a i k false) (fun q => by rw [mosaiclaw25_RunsTile.l0, if_neg (by rw [List.length_map]; omega), decide_eq_false (by rw [List.length_map]; omega)]) ?_
    refine Ev.step (fun q => by rw [mosaiclaw25_RunsTile.j2, if_neg (by simp)]) ?_
    refine Ev.bind (G := fun bt231 q => ((runs_Set.f q a (G.map Hand.toSp)).bind fun bt233 => ((Hand.bits_Or.f bt231.1 bt233.1).bind fun bt235 => ((mosaiclaw25_awake.f q).bind fun t237 => (if t237 = true then (if (a : Int) = a then (if (wrap64 ((i : Int) - k)) ≤ 1 then (if (wrap64 ((k : Int) - i)) ≤ 1 then (if (wrap64 ((wrap64 (bt231.2 + bt233.2)) + bt235.2)) = 0 then (if bt231.1.toList = s.toList then ((Hand.bits_Full.f a).bind fun t238 => (some (bt235.1.toList == t238.toList))) else (none)) else (none)) else (none)) else (none)) else (none)) else (none)))))) h1 ?_
    refine Ev.bind (G := fun bt233 q => ((Hand.bits_Or.f r1.1 bt233.1).bind fun bt235 => ((mosaiclaw25_awake.f q).bind fun t237 => (if t237 = true then (if (a : Int) = a then (if (wrap64 ((i : Int) - k)) ≤ 1 then (if (wrap64 ((k : Int) - i)) ≤ 1 then (if (wrap64 ((wrap64 (r1.2 + bt233.2)) + bt235.2)) = 0 then (if r1.1.toList = s.toList then ((Hand.bits_Full.f a).bind fun t238 => (some (bt235.1.toList == t238.toList))) else (none)) else (none)) else (none)) else (none)) else (none)) else (none))))) h2 ?_
    refine Ev.congr (fun q => by rw [hor, Option.bind_some]) ?_
    refine Ev.bind (G := fun t237 _ => _) awake (Ev.of fun q => ?_)
    rw [if_pos rfl, if_pos rfl, wrap_diff i k (by omega) (by omega), wrap_diff k i (by omega) (by omega), if_pos (by omega), if_pos (by omega), z1, z2, if_pos (show wrap64 (wrap64 ((0 : Int) + 0) + 0) = 0 by unfold wrap64; omega), e1, if_pos rfl]
    rw [e1] at hfull
    show (some (Mi.fullB a)).bind _ = _
    rw [Option.bind_some, hfull]
    simp
  | succ m ih =>
    intro a i k ha han hi hk gR gG mR mG hD
    by_cases hlt : a < n
    · have hbR := mR a (Nat.le_refl _) hlt
      have hbG := mG a (Nat.le_refl _) hlt
      cases hb1 : hb s a with
      | true =>
        rw [show inP s true a = true by unfold inP; rw [hb1]; rfl] at hbR
        rw [show inP s false a = false by unfold inP; rw [hb1]; rfl] at hbG
        obtain ⟨x, r, hr, hx⟩ := first_is gR hbR
        obtain ⟨h1, h2, h3⟩ := drop_split hr
        rw [hr] at gR
        have g2 := gR.2.1
        have g3 := gR.2.2.1
        have g4 := gR.2.2.2
        have hsp : rd_T39 (R.map Hand.toSp) (i : Int) = (⟨x.1, x.2⟩ : S39) := rd39 R i x h2
        obtain ⟨B, hB⟩ := Int.eq_ofNat_of_zero_le (show 0 ≤ x.2 by omega)
        rw [← h3, hB] at g4
        refine Ev.step (G := fun q => mosaiclaw25_RunsTile.j2 q n s (R.map Hand.toSp) (G.map Hand.toSp) a i k true) (fun q => by rw [mosaiclaw25_RunsTile.l0, if_pos (by rw [List.length_map]; omega)]) ?_
        refine Ev.step (G := fun q => mosaiclaw25_RunsTile.j3 q n s (R.map Hand.toSp) (G.map Hand.toSp) a i k true) (fun q => by rw [mosaiclaw25_RunsTile.j2, if_pos rfl, if_pos (by rw [List.length_map]; omega), if_pos (by omega), hsp]; dsimp only; rw [if_pos hx, decide_eq_true (by omega)]) ?_
        refine Ev.step (G := fun q => mosaiclaw25_RunsTile.l0 q n s (R.map Hand.toSp) (G.map Hand.toSp) B ((i + 1 : Nat) : Int) k) (fun q => by rw [mosaiclaw25_RunsTile.j3, if_pos rfl, if_pos (by omega), if_pos (by rw [List.length_map]; omega), hsp]; dsimp only; rw [w64 (by omega), hB]; rfl) ?_
        refine ih B (i + 1) k (by omega) (by omega) (by omega) hk (good_mono (by omega) g4) ?_ ?_ ?_ ?_
        · -- what has not begins behind this run
          cases hG2 : G.drop k with
          | nil => trivial
          | cons y t =>
            rw [hG2] at gG mG
            refine ⟨?_, gG.2⟩
            have q1 := gG.1
            have q2 := gG.2.1
            have q3 := gG.2.2.1
            rcases Int.lt_or_le ((B : Int) - 1) y.1 with h | h
            · exact h
            · exfalso
              obtain ⟨Y, hY⟩ := Int.eq_ofNat_of_zero_le (show 0 ≤ y.1 by omega)
              have u1 := mG Y (by omega) (by omega)
              have u2 := mR Y (by omega) (by omega)
              rw [hr, mem_cons, decide_eq_true (p := x.1 ≤ (Y : Int)) (by omega), decide_eq_true (p := (Y : Int) < x.2) (by omega)] at u2
              rw [mem_cons, decide_eq_true (p := y.1 ≤ (Y : Int)) (by omega), decide_eq_true (p := (Y : Int) < y.2) (by omega)] at u1
              unfold inP at u1 u2
              cases hbY : hb s Y <;> rw [hbY] at u1 u2 <;> simp at u1 u2
        · intro j hj hjn
          have := mR j (by omega) hjn
          rw [hr, mem_cons, decide_eq_false (p := (j : Int) < x.2) (by omega)] at this
          rw [h3, ← this]; simp
        · exact fun j hj hjn => mG j (by omega) hjn
        · rcases hD with ⟨_, hg⟩ | rfl | ⟨rfl, hg⟩
          · rw [hr] at hg
            have := hg.1
            omega
          · exact Or.inl ⟨rfl, g4⟩
          · exact Or.inr (Or.inl rfl)
      | false =>
        rw [show inP s true a = false by unfold inP; rw [hb1]; rfl] at hbR
        rw [show inP s false a = true by unfold inP; rw [hb1]; rfl] at hbG
        obtain ⟨x, r, hr, hx⟩ := first_is gG hbG
        obtain ⟨h1, h2, h3⟩ := drop_split hr
        rw [hr] at gG
        have g2 := gG.2.1
        have g3 := gG.2.2.1
        have g4 := gG.2.2.2
        have hsp : rd_T39 (G.map Hand.toSp) (k : Int) = (⟨x.1, x.2⟩ : S39) := rd39 G k x h2
        obtain ⟨B, hB⟩ := Int.eq_ofNat_of_zero_le (show 0 ≤ x.2 by omega)
        rw [← h3, hB] at g4
        have hnot : ∀ y, R[i]? = some y → ¬ y.1 = a := by
          intro y hy e
          have hiR : i < R.length := by
            rcases Nat.lt_or_ge i R.length with h' | h'
            · exact h'
            · rw [List.getElem?_eq_none h'] at hy; cases hy
          rw [List.getElem?_eq_getElem hiR] at hy
          have hy := Option.some.inj hy
          have hdr : R.drop i = y :: R.drop (i + 1) := by rw [List.drop_eq_getElem_cons hiR, hy]
          rw [hdr] at hbR gR
          have q2 := gR.2.1
          rw [mem_cons, decide_eq_true (p := y.1 ≤ (a : Int)) (by omega), decide_eq_true (p := (a : Int) < y.2) (by omega)] at hbR
          cases hbR
        have hl : Ev (fun q => mosaiclaw25_RunsTile.l0 q n s (R.map Hand.toSp) (G.map Hand.toSp) B i ((k + 1 : Nat) : Int)) true := by
          refine ih B i (k + 1) (by omega) (by omega) hi (by omega) ?_ (good_mono (by omega) g4) ?_ ?_ ?_
          · cases hR2 : R.drop i with
            | nil => trivial
            | cons y t =>
              rw [hR2] at gR mR
              refine ⟨?_, gR.2⟩
              have q1 := gR.1
              have q2 := gR.2.1
              have q3 := gR.2.2.1
              rcases Int.lt_or_le ((B : Int) - 1) y.1 with h | h
              · exact h
              · exfalso
                obtain ⟨Y, hY⟩ := Int.eq_ofNat_of_zero_le (show 0 ≤ y.1 by omega)
                have u1 := mR Y (by omega) (by omega)
                have u2 := mG Y (by omega) (by omega)
                rw [hr, mem_cons, decide_eq_true (p := x.1 ≤ (Y : Int)) (by omega), decide_eq_true (p := (Y : Int) < x.2) (by omega)] at u2
                rw [mem_cons, decide_eq_true (p := y.1 ≤ (Y : Int)) (by omega), decide_eq_true (p := (Y : Int) < y.2) (by omega)] at u1
                unfold inP at u1 u2
                cases hbY : hb s Y <;> rw [hbY] at u1 u2 <;> simp at u1 u2
          · exact fun j hj hjn => mR j (by omega) hjn
          · intro j hj hjn
            have := mG j (by omega) hjn
            rw [hr, mem_cons, decide_eq_false (p := (j : Int) < x.2) (by omega)] at this
            rw [h3, ← this]; simp
          · rcases hD with ⟨rfl, hg⟩ | rfl | ⟨_, hg⟩
            · exact Or.inr (Or.inl rfl)
            · exact Or.inr (Or.inr ⟨rfl, g4⟩)
            · rw [hr] at hg
              have := hg.1
              omega
        have hj3 : Ev (fun q => mosaiclaw25_RunsTile.j3 q n s (R.map Hand.toSp) (G.map Hand.toSp) a i k false) true := by
          refine Ev.step (fun q => ?_) hl
          rw [mosaiclaw25_RunsTile.j3, if_neg (by simp), if_pos (by rw [List.length_map]; omega), if_pos (by omega), hsp]
          dsimp only
          rw [if_pos hx, if_pos (by omega), w64 (by omega), hB]; rfl
        refine Ev.step (G := fun q => mosaiclaw25_RunsTile.j2 q n s (R.map Hand.toSp) (G.map Hand.toSp) a i k true) (fun q => by rw [mosaiclaw25_RunsTile.l0, decide_eq_true (p := (k : Int) < _) (by rw [List.length_map]; omega)]; split <;> rfl) ?_
        refine Ev.step (fun q => ?_) hj3
        rw [mosaiclaw25_RunsTile.j2, if_pos rfl]
        by_cases hiR : i < R.length
        · have hsr : rd_T39 (R.map Hand.toSp) (i : Int) = (⟨R[i].1, R[i].2⟩ : S39) := rd39 R i R[i] (List.getElem?_eq_getElem hiR)
          rw [if_pos (by rw [List.length_map]; omega), if_pos (by omega), hsr]
          dsimp only
          rw [if_neg (hnot _ (List.getElem?_eq_getElem hiR))]
        · rw [if_neg (by rw [List.length_map]; omega)]
    · exact ih a i k (by omega) han hi hk gR gG mR mG hD
theorem of_Ev {F : Nat → Option Bool} (h : Ev F true) : ∃ k, F k = some true := by
  obtain ⟨k, hk⟩ := h
  exact ⟨k, hk k (Nat.le_refl _)⟩
theorem pureRunsTile : mosaiclaw25_RunsTile.Pure := by
  intro n s _ hs
  refine of_Ev (F := fun k => mosaiclaw25_RunsTile.f k n s) ?_
  have h1 : runs_Of.f n s = some (if chk n s = true then ((runsOf (inP s true) n.toNat).map Hand.toSp, 0) else ([], 3)) := by
    unfold runs_Of.f; rw [prog_of]; rfl
  have h2 : runs_Gaps.f n s = some (if chk n s = true then ((runsOf (inP s false) n.toNat).map Hand.toSp, 0) else ([], 3)) := by
    unfold runs_Gaps.f; rw [prog_of]; rfl
  cases hc : chk n s with
  | false =>
    rw [hc] at h1 h2
    have hj : Ev (fun k => mosaiclaw25_RunsTile.j0 k n s [] 3 [] 3 true) true := by
      refine Ev.step (fun k => by rw [mosaiclaw25_RunsTile.j0, if_pos rfl]) ?_
      refine Ev.bind (G := fun t223 k => (if t223 = true then ((bits_Check.f k n s).bind fun t224 => (if t224 = true then (none) else (some ((3 : Int) == 3)))) else (none))) awake ?_
      have := check n s
      rw [hc] at this
      exact Ev.bind (G := fun t224 _ => (if t224 = true then (none) else (some ((3 : Int) == 3)))) this (Ev.const _)
    refine Ev.congr (fun k => ?_) hj
    unfold mosaiclaw25_RunsTile.f
    rw [h1, h2]; rfl
  | true =>
    rw [hc] at h1 h2
    obtain ⟨c1, c2, c3, c4⟩ := chk_true hc
    obtain ⟨N, rfl⟩ := Int.eq_ofNat_of_zero_le c1
    rw [Int.toNat_natCast] at h1 h2
    have gR := runsOf_good (inP s true) N
    have gG := runsOf_good (inP s false) N
    have hl := tile_l0 N (by omega) s hc _ _ gR gG N 0 0 0 (by omega) (by omega) (by omega) (by omega) gR.1 gG.1 (fun j _ h => gR.2 j h) (fun j _ h => gG.2 j h) (Or.inr (Or.inl rfl))
    have hj := Ev.step (F := fun k => mosaiclaw25_RunsTile.j0 k N s ((runsOf (inP s true) N).map Hand.toSp) 0 ((runsOf (inP s false) N).map Hand.toSp) 0 false) (fun k => by rw [mosaiclaw25_RunsTile.j0, if_neg (by simp)]; rfl) hl
    refine Ev.congr (fun k => ?_) hj
    unfold mosaiclaw25_RunsTile.f
    rw [h1, h2]; rfl
end Go.Proofs.YtbbncdbihiipcaaDoor.Th
namespace Go.Proofs.YtbbncdbihiipcaaDoor.Pure
open Go.Proofs.YtbbncdbihiipcaaDoor.P
theorem RunsTile : mosaiclaw25_RunsTile.Pure := Th.pureRunsTile
end Go.Proofs.YtbbncdbihiipcaaDoor.Pure
