/- What the document's functions of sets answer. -/
import Derived.Test.YtbbncdbihiipcaaDoorPx0
import Derived.Test.YtbbncdbihiipcaaDoorPx1
import Derived.Test.YtbbncdbihiipcaaDoorPx2
import Derived.Test.YtbbncdbihiipcaaDoorPx3
import Derived.Test.YtbbncdbihiipcaaDoorPx4
import Derived.Test.YtbbncdbihiipcaaDoorTi
import Derived.Test.YtbbncdbihiipcaaDoorRu
namespace Go.Proofs.YtbbncdbihiipcaaDoor.Th
open Go.RowKit Go.Proofs.YtbbncdbihiipcaaDoor.P Go.Proofs.YtbbncdbihiipcaaDoorW.PrintWords Go.Proofs.YtbbncdbihiipcaaDoor.Ru

/-- Is this a set below n? -/
def chk (n : Int) (s : ByteArray) : Bool := Bo.mayB n && decide (s.size = (n.toNat + 7) / 8) && (List.range' n.toNat (8 * s.size - n.toNat)).all fun j => !hb s j
theorem has_l0 (l : List Int) (a : Int) (hl : l.length ≤ 1000000) : ∀ (d i : Nat), i + d = l.length → Ev (fun k => mosaicref08_has.l0 k l a i) (decide (a ∈ l.drop i))
  | 0, i, h => by
    refine Ev.step (G := fun _ => some _) (fun k => ?_) (Ev.const _)
    rw [mosaicref08_has.l0, if_neg (by omega), List.drop_of_length_le (by omega)]
    simp
  | d + 1, i, h => by
    have hlt : i < l.length := by omega
    have hr : rd l (i : Int) = l[i] := by unfold rd; rw [Int.toNat_natCast, List.getD_eq_getElem?_getD, List.getElem?_eq_getElem hlt]; rfl
    have hd : l.drop i = l[i] :: l.drop (i + 1) := List.drop_eq_getElem_cons hlt
    by_cases he : l[i] = a
    · refine Ev.step (G := fun _ => some _) (fun k => ?_) (Ev.const _)
      rw [mosaicref08_has.l0, if_pos (by omega), if_pos (by omega), hr, if_pos he, hd, he]
      simp
    · refine Ev.step (G := fun k => mosaicref08_has.l0 k l a ((i + 1 : Nat) : Int)) (fun k => ?_) ?_
      · rw [mosaicref08_has.l0, if_pos (by omega), if_pos (by omega), hr, if_neg he, w64 (by omega)]; rfl
      · have := has_l0 l a hl d (i + 1) (by omega)
        rw [hd]
        have e : decide (a ∈ l[i] :: l.drop (i + 1)) = decide (a ∈ l.drop (i + 1)) := by
          apply decide_eq_decide.mpr
          rw [List.mem_cons]
          exact ⟨fun h => h.resolve_left (fun h => he h.symm), Or.inr⟩
        rw [e]; exact this
theorem has08 (l : List Int) (a : Int) (hl : l.length ≤ 1000000) : Ev (fun k => mosaicref08_has.f k l a) (decide (a ∈ l)) := has_l0 l a hl l.length 0 (by omega)
theorem div2 (v : Nat) : Int.tdiv (v : Int) 2 = ((v / 2 : Nat) : Int) := by rw [show (2 : Int) = ((2 : Nat) : Int) from rfl, ← Int.ofNat_tdiv]
theorem mod2 (v : Nat) : Int.tmod (v : Int) 2 = ((v % 2 : Nat) : Int) := by rw [show (2 : Int) = ((2 : Nat) : Int) from rfl, ← Int.ofNat_tmod]
theorem bit_l0 (i : Nat) : ∀ (d j v : Nat), j + d = i % 8 → v < 256 → Ev (fun k => mosaicref08_bit.l0 k i v j) ((v / 2 ^ d % 2 : Nat) : Int)
  | 0, j, v, h, hv => by
    refine Ev.step (G := fun _ => some _) (fun k => ?_) (Ev.const _)
    rw [mosaicref08_bit.l0, mod8, if_neg (by omega), mod2, Nat.pow_zero, Nat.div_one]
  | d + 1, j, v, h, hv => by
    refine Ev.step (G := fun k => mosaicref08_bit.l0 k i ((v / 2 : Nat) : Int) ((j + 1 : Nat) : Int)) (fun k => ?_) ?_
    · rw [mosaicref08_bit.l0, mod8, if_pos (by omega), div2, w64 (by omega), w64 (by omega)]; rfl
    · have := bit_l0 i d (j + 1) (v / 2) (by omega) (by omega)
      rw [Nat.div_div_eq_div_mul, ← Nat.pow_succ'] at this
      exact this
theorem has_ref (s : ByteArray) (i : Nat) (hi : i ≤ 1000000) : Ev (fun k => mosaicref08_Has.f k s i) (hb s i) := by
  by_cases hlt : i / 8 < s.size
  · have hf : ∀ k, mosaicref08_Has.f k s i = (mosaicref08_bit.l0 k i ((s.data.toList.getD (i / 8) 0).toNat : Int) (0 : Nat)).bind fun t => some (t == 1) := by
      intro k
      have hv := (s.data.toList.getD (i / 8) 0).toNat_lt
      unfold mosaicref08_Has.f mosaicref08_bit.f
      rw [if_pos (by omega), div8, w64 (by omega), if_pos (by omega), if_pos (by omega), if_pos (by omega), bt_val, w64 (by omega)]
      rfl
    refine Ev.congr hf ?_
    have h2 : hb s i = (((((s.data.toList.getD (i / 8) 0).toNat / 2 ^ (i % 8) % 2 : Nat) : Int)) == 1) := by
      unfold hb
      rw [Nat.testBit_eq_decide_div_mod_eq]
      generalize (s.data.toList.getD (i / 8) 0).toNat / 2 ^ (i % 8) % 2 = q
      by_cases h : q = 1
      · subst h; rfl
      · rw [decide_eq_false h]; symm; rw [beq_eq_false_iff_ne]; omega
    rw [h2]
    exact Ev.bind (G := fun t _ => some (t == 1)) (bit_l0 i (i % 8) 0 _ (by omega) (s.data.toList.getD (i / 8) 0).toNat_lt) (Ev.const _)
  · rw [hb_out s i (by omega)]
    refine Ev.of fun k => ?_
    unfold mosaicref08_Has.f
    rw [if_pos (by omega), div8, w64 (by omega), if_neg (by omega)]
theorem bits_has (s : ByteArray) (i : Nat) (hi : i ≤ 1000000) : bits_Has.f s i = some (hb s i) := by
  have := Bo.has_f s (i : Int) (by omega)
  rw [hasB_hb s i hi] at this
  exact this
theorem check_l0 (s : ByteArray) (hs : s.size ≤ 100000) : ∀ (d i : Nat), i + d = 8 * s.size → Ev (fun k => bits_Check.l0 k s i) ((List.range' i d).all fun j => !hb s j)
  | 0, i, h => by
    refine Ev.step (G := fun _ => some _) (fun k => ?_) (Ev.const _)
    rw [bits_Check.l0, w64 (by omega), if_neg (by omega)]
    rfl
  | d + 1, i, h => by
    rw [List.range'_succ, List.all_cons]
    cases hh : hb s i with
    | true =>
      refine Ev.step (G := fun _ => some _) (fun k => ?_) (Ev.const _)
      rw [bits_Check.l0, w64 (by omega), if_pos (by omega), bits_has s i (by omega), Option.bind_some, if_pos hh]
      rfl
    | false =>
      refine Ev.step (G := fun k => bits_Check.l0 k s ((i + 1 : Nat) : Int)) (fun k => ?_) ?_
      · rw [bits_Check.l0, w64 (by omega), if_pos (by omega), bits_has s i (by omega), Option.bind_some, if_neg (by rw [hh]; simp), w64 (by omega)]; rfl
      · exact check_l0 s hs d (i + 1) (by omega)
theorem checkA_l0 (s : ByteArray) (hs : s.size ≤ 100) : ∀ (d i k : Nat), i + d = 8 * s.size → d < k → A.bits_Check.l0 k s i = some ((List.range' i d).all fun j => !hb s j)
  | 0, i, k, h, hk => by
    obtain ⟨k, rfl⟩ : ∃ j, k = j + 1 := ⟨k - 1, by omega⟩
    rw [A.bits_Check.l0, w64 (by omega), if_neg (by omega)]
    rfl
  | d + 1, i, k, h, hk => by
    obtain ⟨k, rfl⟩ : ∃ j, k = j + 1 := ⟨k - 1, by omega⟩
    have h1 : A.bits_Has.f s (i : Int) = some (hb s i) := bits_has s i (by omega)
    rw [List.range'_succ, List.all_cons, A.bits_Check.l0, w64 (by omega), if_pos (by omega), h1, Option.bind_some]
    cases hh : hb s i with
    | true => rfl
    | false =>
      rw [if_neg (by simp), w64 (by omega)]
      exact checkA_l0 s hs d (i + 1) k (by omega) (by omega)
theorem long_f (n : Int) (h : 0 ≤ n ∧ n ≤ 160) : A.bits_long.f n = some (((n.toNat + 7) / 8 : Nat) : Int) := by
  unfold A.bits_long.f
  rw [w64 (n := n + 8) (by omega), w64 (n := n + 8 - 1) (by omega), show n + 8 - 1 = ((n.toNat + 7 : Nat) : Int) by omega, div8, w64 (by omega)]
theorem chk_of_may (n : Int) (s : ByteArray) (h : 0 ≤ n ∧ n ≤ 160) (hz : s.size = (n.toNat + 7) / 8) : chk n s = (List.range' n.toNat (8 * s.size - n.toNat)).all fun j => !hb s j := by
  unfold chk
  rw [decide_eq_true hz, show Bo.mayB n = true by unfold Bo.mayB; simp; omega]; rfl
theorem chk_no (n : Int) (s : ByteArray) (h : ¬ (0 ≤ n ∧ n ≤ 160 ∧ s.size = (n.toNat + 7) / 8)) : chk n s = false := by
  unfold chk
  by_cases h1 : s.size = (n.toNat + 7) / 8
  · rw [show Bo.mayB n = false by unfold Bo.mayB; simp; omega]; rfl
  · rw [decide_eq_false h1]; simp
theorem mayP (n : Int) : bits_may.f n = some (Bo.mayB n) := Bo.may_f n
theorem size_ne (a b : Nat) : ((a : Int) != (b : Int)) = !decide (a = b) := by
  by_cases h : a = b
  · subst h; simp
  · rw [decide_eq_false h]; simp; omega
theorem check (n : Int) (s : ByteArray) : Ev (fun k => bits_Check.f k n s) (chk n s) := by
  by_cases hn : 0 ≤ n ∧ n ≤ 160
  · have hm : Bo.mayB n = true := by unfold Bo.mayB; simp; omega
    have hf : ∀ k, bits_Check.f k n s = bits_Check.j0 k n s (!decide (s.size = (n.toNat + 7) / 8)) := by
      intro k
      unfold bits_Check.f
      rw [mayP, hm, Option.bind_some, if_pos rfl, show bits_long.f n = _ from long_f n hn, Option.bind_some, size_ne]
    refine Ev.congr hf ?_
    by_cases hz : s.size = (n.toNat + 7) / 8
    · rw [decide_eq_true hz, chk_of_may n s hn hz]
      refine Ev.step (G := fun k => bits_Check.l0 k s (n.toNat : Int)) (fun k => ?_) (check_l0 s (by omega) _ _ (by omega))
      rw [bits_Check.j0, if_neg (by simp), Int.toNat_of_nonneg hn.1]
    · rw [decide_eq_false hz, chk_no n s (fun h => hz h.2.2)]
      exact Ev.step (G := fun _ => some false) (fun k => by rw [bits_Check.j0]; rfl) (Ev.const _)
  · have hm : Bo.mayB n = false := by unfold Bo.mayB; simp; omega
    rw [chk_no n s (fun h => hn ⟨h.1, h.2.1⟩)]
    have hf : ∀ k, bits_Check.f k n s = bits_Check.j0 k n s true := by
      intro k
      unfold bits_Check.f
      rw [mayP, hm, Option.bind_some, if_neg (by simp)]
    exact Ev.congr hf (Ev.step (G := fun _ => some false) (fun k => by rw [bits_Check.j0, if_pos rfl]) (Ev.const _))
theorem checkA (n : Int) (s : ByteArray) : A.bits_Check.f 3000 n s = some (chk n s) := by
  unfold A.bits_Check.f
  rw [Bo.may_f, Option.bind_some]
  by_cases hn : 0 ≤ n ∧ n ≤ 160
  · have hm : Bo.mayB n = true := by unfold Bo.mayB; simp; omega
    rw [if_pos hm, long_f n hn, Option.bind_some, size_ne]
    by_cases hz : s.size = (n.toNat + 7) / 8
    · rw [decide_eq_true hz, chk_of_may n s hn hz, A.bits_Check.j0, if_neg (by simp)]
      have := checkA_l0 s (by omega) (8 * s.size - n.toNat) n.toNat 2999 (by omega) (by omega)
      rwa [Int.toNat_of_nonneg hn.1] at this
    · rw [decide_eq_false hz, chk_no n s (fun h => hz h.2.2), A.bits_Check.j0]; rfl
  · have hm : Bo.mayB n = false := by unfold Bo.mayB; simp; omega
    rw [chk_no n s (fun h => hn ⟨h.1, h.2.1⟩), if_neg (by rw [hm]; simp), A.bits_Check.j0]; rfl
theorem check08_l0 (s : ByteArray) (hs : s.size ≤ 100000) : ∀ (d i : Nat), i + d = 8 * s.size → Ev (fun k => mosaicref08_Check.l0 k s i) ((List.range' i d).all fun j => !hb s j)
  | 0, i, h => by
    refine Ev.step (G := fun _ => some _) (fun k => ?_) (Ev.const _)
    rw [mosaicref08_Check.l0, w64 (by omega), if_neg (by omega)]
    rfl
  | d + 1, i, h => by
    rw [List.range'_succ, List.all_cons]
    refine Ev.step (G := fun k => (mosaicref08_Has.f k s i).bind fun t => if t = true then some false else mosaicref08_Check.l0 k s ((i + 1 : Nat) : Int)) (fun k => ?_) ?_
    · rw [mosaicref08_Check.l0, w64 (by omega), if_pos (by omega), w64 (by omega)]; rfl
    · refine Ev.bind (G := fun t k => if t = true then some false else mosaicref08_Check.l0 k s ((i + 1 : Nat) : Int)) (has_ref s i (by omega)) ?_
      cases hb s i with
      | true => exact Ev.const _
      | false => exact check08_l0 s hs d (i + 1) (by omega)
theorem check08 (n : Int) (s : ByteArray) (hs : s.size ≤ 140737488351232) : Ev (fun k => mosaicref08_Check.f k n s) (chk n s) := by
  by_cases hn : 0 ≤ n ∧ n ≤ 160
  · have hf : ∀ k, mosaicref08_Check.f k n s = mosaicref08_Check.j0 k n s (!decide (s.size = (n.toNat + 7) / 8)) := by
      intro k
      unfold mosaicref08_Check.f
      rw [if_neg (by omega), if_neg (by omega), w64 (n := n + 7) (by omega), show n + 7 = ((n.toNat + 7 : Nat) : Int) by omega, div8, w64 (by omega), size_ne]
    refine Ev.congr hf ?_
    by_cases hz : s.size = (n.toNat + 7) / 8
    · rw [decide_eq_true hz, chk_of_may n s hn hz]
      refine Ev.step (G := fun k => mosaicref08_Check.l0 k s (n.toNat : Int)) (fun k => ?_) (check08_l0 s (by omega) _ _ (by omega))
      rw [mosaicref08_Check.j0, if_neg (by simp), Int.toNat_of_nonneg hn.1]
    · rw [decide_eq_false hz, chk_no n s (fun h => hz h.2.2)]
      exact Ev.step (G := fun _ => some false) (fun k => by rw [mosaicref08_Check.j0]; rfl) (Ev.const _)
  · rw [chk_no n s (fun h => hn ⟨h.1, h.2.1⟩)]
    have hf : ∀ k, mosaicref08_Check.f k n s = mosaicref08_Check.j0 k n s true := by
      intro k
      unfold mosaicref08_Check.f
      by_cases h0 : n < 0
      · rw [if_pos h0]
      · rw [if_neg h0, if_pos (by omega)]
    exact Ev.congr hf (Ev.step (G := fun _ => some false) (fun k => by rw [mosaicref08_Check.j0, if_pos rfl]) (Ev.const _))
theorem chk_true {n : Int} {s : ByteArray} (h : chk n s = true) : 0 ≤ n ∧ n ≤ 160 ∧ s.size = (n.toNat + 7) / 8 ∧ ∀ i : Nat, n ≤ i → hb s i = false := by
  by_cases h1 : 0 ≤ n ∧ n ≤ 160 ∧ s.size = (n.toNat + 7) / 8
  · refine ⟨h1.1, h1.2.1, h1.2.2, fun i hi => ?_⟩
    rw [chk_of_may n s ⟨h1.1, h1.2.1⟩ h1.2.2] at h
    by_cases h2 : i < 8 * s.size
    · have := List.all_eq_true.mp h i (by rw [List.mem_range'_1]; omega)
      simpa using this
    · exact hb_out s i (by omega)
  · rw [chk_no n s h1] at h; cases h
theorem chk_mk {n : Int} {s : ByteArray} (h0 : 0 ≤ n) (h1 : n ≤ 160) (h2 : s.size = (n.toNat + 7) / 8) (h3 : ∀ i : Nat, n ≤ i → hb s i = false) : chk n s = true := by
  rw [chk_of_may n s ⟨h0, h1⟩ h2]
  apply List.all_eq_true.mpr
  intro i hi
  rw [List.mem_range'_1] at hi
  rw [h3 i (by omega)]; rfl
/-- Two sets below one number that have the same. -/
theorem chk_ext {n : Int} {a b : ByteArray} (ha : chk n a = true) (hb' : chk n b = true) (h : ∀ i : Nat, (i : Int) < n → hb a i = hb b i) : a = b := by
  have h1 := chk_true ha
  have h2 := chk_true hb'
  refine hb_ext (by omega) fun i _ => ?_
  by_cases hi : (i : Int) < n
  · exact h i hi
  · rw [h1.2.2.2 i (by omega), h2.2.2.2 i (by omega)]
end Go.Proofs.YtbbncdbihiipcaaDoor.Th
/- The document's runs of a set, and the set of numbers. -/
namespace Go.Proofs.YtbbncdbihiipcaaDoor.Th
open Go.RowKit Go.Proofs.YtbbncdbihiipcaaDoor.P Go.Proofs.YtbbncdbihiipcaaDoorW.PrintWords Go.Proofs.YtbbncdbihiipcaaDoor.Ru

def toSp4 (x : Int × Int) : S54 := ⟨x.1, x.2⟩
/-- What is in (or is not). -/
def inP (s : ByteArray) (b : Bool) : Nat → Bool := fun i => hb s i == b
theorem of_l0 (N : Nat) (hN : N ≤ 160) (s : ByteArray) (b : Bool) : ∀ (d i : Nat) (o : List (Int × Int)) (lo : Int), i + d = N + 1 →
    Ru.Good (-1) N o → (lo = -1 ∧ endOf (-1) o < i ∧ (∀ j : Nat, j < i → j < N → mem o j = inP s b j) ∨ 0 ≤ lo ∧ endOf (-1) o < lo ∧ lo < i ∧ i ≤ N ∧ ∀ j : Nat, j < i → mem (o ++ [(lo, (i : Int))]) j = inP s b j) →
    Ev (fun k => mosaicref25_Of.l0 k N s b (o.map toSp4) lo i) ((runsOf (inP s b) N).map toSp4, 0)
  | 0, i, o, lo, h, hg, hI => by
    rcases hI with ⟨rfl, h1, h2⟩ | ⟨_, _, _, h4, _⟩
    · rw [runsOf_is (inP s b) N o hg (fun j hj => (h2 j (by omega) hj).symm)]
      refine Ev.step (G := fun _ => some _) (fun k => ?_) (Ev.const _)
      rw [mosaicref25_Of.l0, if_neg (by omega)]
    · omega
  | d + 1, i, o, lo, h, hg, hI => by
    have hlen : (o.map toSp4).length < 8796093022208 := by
      have := good_len N o (-1) hg (by omega)
      rw [List.length_map]; omega
    have hw : wrap64 ((i : Int) + 1) = ((i + 1 : Nat) : Int) := by rw [w64 (by omega)]; rfl
    -- what the round does with 'is'
    have key : ∀ is : Bool, (is = true → i < N ∧ inP s b i = true) → (is = false → i < N → inP s b i = false) → Ev (fun k => mosaicref25_Of.j1 k N s b (o.map toSp4) lo i is) ((runsOf (inP s b) N).map toSp4, 0) := by
      intro is hy hn
      cases is with
      | true =>
        obtain ⟨hi, hp⟩ := hy rfl
        rcases hI with ⟨rfl, h1, h2⟩ | ⟨g0, g1, g2, g3, g4⟩
        · refine Ev.step (G := fun k => mosaicref25_Of.j2 k N s b (o.map toSp4) (-1) i true true) (fun k => by rw [mosaicref25_Of.j1]; rfl) ?_
          refine Ev.step (G := fun k => mosaicref25_Of.l0 k N s b (o.map toSp4) i ((i + 1 : Nat) : Int)) (fun k => by rw [mosaicref25_Of.j2, if_pos rfl, if_pos rfl, hw]) ?_
          refine of_l0 N hN s b d (i + 1) o i (by omega) hg (Or.inr ⟨by omega, h1, by omega, by omega, fun j hj => ?_⟩)
          rw [mem_append, mem_cons, mem_nil]
          by_cases he : j = i
          · subst he; rw [hp]; simp; right; omega
          · rw [h2 j (by omega) (by omega), decide_eq_false (p := (i : Int) ≤ j) (by omega)]; simp
        · refine Ev.step (G := fun k => mosaicref25_Of.j2 k N s b (o.map toSp4) lo i true false) (fun k => by rw [mosaicref25_Of.j1, if_pos rfl, decide_eq_false (by omega)]) ?_
          refine Ev.step (G := fun k => mosaicref25_Of.l0 k N s b (o.map toSp4) lo ((i + 1 : Nat) : Int)) (fun k => by rw [mosaicref25_Of.j2, if_neg (by simp), if_pos rfl, hw]) ?_
          refine of_l0 N hN s b d (i + 1) o lo (by omega) hg (Or.inr ⟨g0, g1, by omega, by omega, fun j hj => ?_⟩)
          rw [mem_append, mem_cons, mem_nil]
          by_cases he : j = i
          · subst he; rw [hp]; simp; right; omega
          · rw [← g4 j (by omega), mem_append, mem_cons, mem_nil]
            have e : decide ((j : Int) < ((i + 1 : Nat) : Int)) = decide ((j : Int) < (i : Int)) := decide_eq_decide.mpr (by omega)
            rw [e]
      | false =>
        have hn := hn rfl
        rcases hI with ⟨rfl, h1, h2⟩ | ⟨g0, g1, g2, g3, g4⟩
        · refine Ev.step (G := fun k => mosaicref25_Of.j2 k N s b (o.map toSp4) (-1) i false false) (fun k => by rw [mosaicref25_Of.j1]; rfl) ?_
          refine Ev.step (G := fun k => mosaicref25_Of.l0 k N s b (o.map toSp4) (-1) ((i + 1 : Nat) : Int)) (fun k => by rw [mosaicref25_Of.j2, if_neg (by simp), if_neg (by simp), if_neg (by omega), hw]) ?_
          refine of_l0 N hN s b d (i + 1) o (-1) (by omega) hg (Or.inl ⟨rfl, by omega, fun j hj hjN => ?_⟩)
          by_cases he : j = i
          · subst he; rw [hn hjN]; exact mem_past N o (-1) j hg (by omega)
          · exact h2 j (by omega) hjN
        · have hg2 : Ru.Good (-1) N (o ++ [(lo, (i : Int))]) := (Ru.good_append N o [(lo, (i : Int))] (-1)).mpr ⟨hg, g1, g2, by show (i : Int) ≤ N; omega, trivial⟩
          refine Ev.step (G := fun k => mosaicref25_Of.j2 k N s b (o.map toSp4) lo i false false) (fun k => by rw [mosaicref25_Of.j1]; rfl) ?_
          refine Ev.step (G := fun k => mosaicref25_Of.l0 k N s b ((o ++ [(lo, (i : Int))]).map toSp4) (-1) ((i + 1 : Nat) : Int)) (fun k => by rw [mosaicref25_Of.j2, if_neg (by simp), if_neg (by simp), if_pos (by omega), if_pos hlen, hw, List.map_append]; rfl) ?_
          refine of_l0 N hN s b d (i + 1) _ (-1) (by omega) hg2 (Or.inl ⟨rfl, by rw [endOf_append]; show (i : Int) < _; omega, fun j hj hjN => ?_⟩)
          by_cases he : j = i
          · subst he; rw [hn hjN]; exact mem_past N _ (-1) j hg2 (by rw [endOf_append]; exact Int.le_refl _)
          · exact g4 j (by omega)
    by_cases hi : i < N
    · refine Ev.step (G := fun k => (mosaicref08_Has.f k s i).bind fun t => mosaicref25_Of.j1 k N s b (o.map toSp4) lo i (t == b)) (fun k => by rw [mosaicref25_Of.l0, if_pos (by omega), if_pos (by omega)]) ?_
      refine Ev.bind (G := fun t k => mosaicref25_Of.j1 k N s b (o.map toSp4) lo i (t == b)) (has_ref s i (by omega)) (key _ (fun h => ⟨hi, h⟩) (fun h _ => h))
    · exact Ev.step (G := fun k => mosaicref25_Of.j1 k N s b (o.map toSp4) lo i false) (fun k => by rw [mosaicref25_Of.l0, if_pos (by omega), if_neg (by omega)]) (key false (fun h => by cases h) (fun _ h => absurd h hi))
/-- The document's runs. -/
theorem ref_of (n : Int) (s : ByteArray) (b : Bool) (hs : s.size ≤ 140737488351232) : Ev (fun k => mosaicref25_Of.f k n s b) (if chk n s = true then ((runsOf (inP s b) n.toNat).map toSp4, 0) else ([], 3)) := by
  refine Ev.bind (G := fun t k => if t = true then mosaicref25_Of.l0 k n s b [] (-1) 0 else some ([], 3)) (check08 n s hs) ?_
  cases hc : chk n s with
  | true =>
    have h := chk_true hc
    have := of_l0 n.toNat (by omega) s b (n.toNat + 1) 0 [] (-1) (by omega) trivial (Or.inl ⟨rfl, by show (-1 : Int) < _; omega, fun j hj => by omega⟩)
    rw [Int.toNat_of_nonneg h.1] at this
    exact this
  | false => exact Ev.const _
/-- The program's runs. -/
theorem prog_of (n : Int) (s : ByteArray) (b : Bool) : Hand.runs_of.f n s b = some (if chk n s = true then ((runsOf (inP s b) n.toNat).map Hand.toSp, 0) else ([], 3)) := by
  unfold Hand.runs_of.f
  rw [checkA]
  cases hc : chk n s with
  | true =>
    have h := chk_true hc
    show (if 0 ≤ n ∧ n ≤ 160 then _ else _) = _
    rw [if_pos ⟨h.1, h.2.1⟩, if_pos rfl]
    have e : ∀ (p q : Nat → Bool) (N : Nat), (∀ i, i < N → p i = q i) → runsOf p N = runsOf q N := by
      intro p q N hpq
      have := runsOf_good q N
      exact runsOf_is p N _ this.1 (fun i hi => by rw [hpq i hi, this.2 i hi])
    have := e (Hand.gB s b) (inP s b) n.toNat (fun i hi => by unfold Hand.gB inP; rw [hasB_hb s i (by omega)])
    unfold runsOf at this
    rw [this]; rfl
  | false => rfl
/-- A set is what it has. -/
theorem make_l1 (n : Int) (l x5 : List Int) (K : Nat) (hn : n ≤ 1000) (h5 : x5.length ≤ 1000) (hl : l.length ≤ 1000000) (hK : K ≤ 1000) (R : ByteArray)
    (hrest : ∀ v : Nat, v < 256 → (∀ t, t < 8 → v.testBit t = decide (((8 * K + t : Nat) : Int) < n ∧ ((8 * K + t : Nat) : Int) ∈ l)) → Ev (fun k => mosaicref08_Make.l0 k n l (x5 ++ [(v : Int)]) ((K + 1 : Nat) : Int)) R) :
    ∀ (j v : Nat), j ≤ 8 → v < 2 ^ (8 - j) → (∀ t, t < 8 - j → v.testBit t = decide (((8 * K + j + t : Nat) : Int) < n ∧ ((8 * K + j + t : Nat) : Int) ∈ l)) → Ev (fun k => mosaicref08_Make.l1 k n l x5 K v ((j : Int) - 1)) R
  | 0, v, _, hv, ht => by
    have hv : v < 256 := hv
    have := hrest v hv (fun t h => by have := ht t h; rwa [Nat.add_zero] at this)
    refine Ev.step (fun k => ?_) this
    rw [mosaicref08_Make.l1, if_neg (by omega), if_pos (by omega), Int.emod_eq_of_lt (by omega) (by omega), w64 (by omega)]; rfl
  | j + 1, v, hj, hv, ht => by
    have hp : 2 ^ (8 - (j + 1)) ≤ 2 ^ 7 := Nat.pow_le_pow_right (by omega) (by omega)
    have e1 : wrap64 (wrap64 (8 * (K : Int)) + (((j + 1 : Nat) : Int) - 1)) = ((8 * K + j : Nat) : Int) := by rw [w64 (n := 8 * (K : Int)) (by omega), w64 (by omega)]; omega
    have e2 : wrap64 (((j + 1 : Nat) : Int) - 1 - 1) = (j : Int) - 1 := by rw [w64 (by omega)]; omega
    have e3 : wrap64 (2 * (v : Int)) = ((2 * v : Nat) : Int) := by rw [w64 (by omega)]; omega
    have e4 : wrap64 (wrap64 (2 * (v : Int)) + 1) = ((2 * v + 1 : Nat) : Int) := by rw [e3, w64 (by omega)]; rfl
    have hpw : 2 ^ (8 - j) = 2 * 2 ^ (8 - (j + 1)) := by rw [show 8 - j = (8 - (j + 1)) + 1 by omega, Nat.pow_succ, Nat.mul_comm]
    have ind : ∀ c : Bool, c = decide (((8 * K + j : Nat) : Int) < n ∧ ((8 * K + j : Nat) : Int) ∈ l) → Ev (fun k => mosaicref08_Make.l1 k n l x5 K ((2 * v + c.toNat : Nat) : Int) ((j : Int) - 1)) R := by
      intro c hc
      have hc1 : c.toNat ≤ 1 := by cases c <;> decide
      refine make_l1 n l x5 K hn h5 hl hK R hrest j (2 * v + c.toNat) (by omega) (by omega) (fun t htl => ?_)
      cases t with
      | zero =>
        rw [Nat.add_zero, ← hc, Nat.testBit_zero]
        cases c
        · simp
        · simp
      | succ t =>
        rw [Nat.testBit_succ, show (2 * v + c.toNat) / 2 = v by omega, ht t (by omega), show 8 * K + (j + 1) + t = 8 * K + j + (t + 1) by omega]
    by_cases hlt : ((8 * K + j : Nat) : Int) < n
    · refine Ev.step (G := fun k => (mosaicref08_has.f k l ((8 * K + j : Nat) : Int)).bind fun t => if t = true then mosaicref08_Make.l1 k n l x5 K ((2 * v + 1 : Nat) : Int) ((j : Int) - 1) else mosaicref08_Make.l1 k n l x5 K ((2 * v : Nat) : Int) ((j : Int) - 1)) (fun k => by rw [mosaicref08_Make.l1, if_pos (by omega), e1, if_pos hlt, e2, e4, e3]) ?_
      refine Ev.bind (G := fun t k => if t = true then mosaicref08_Make.l1 k n l x5 K ((2 * v + 1 : Nat) : Int) ((j : Int) - 1) else mosaicref08_Make.l1 k n l x5 K ((2 * v : Nat) : Int) ((j : Int) - 1)) (has08 l _ hl) ?_
      by_cases hin : ((8 * K + j : Nat) : Int) ∈ l
      · rw [decide_eq_true hin]
        exact ind true (decide_eq_true ⟨hlt, hin⟩).symm
      · rw [decide_eq_false hin]
        exact ind false (decide_eq_false (fun h => hin h.2)).symm
    · refine Ev.step (G := fun k => mosaicref08_Make.l1 k n l x5 K ((2 * v : Nat) : Int) ((j : Int) - 1)) (fun k => by rw [mosaicref08_Make.l1, if_pos (by omega), e1, if_neg hlt, e2, e3]) ?_
      exact ind false (decide_eq_false (fun h => hlt h.1)).symm
theorem some_bits : ∀ (m : Nat) (f : Nat → Bool), ∃ v : Nat, v < 2 ^ m ∧ ∀ t, t < m → v.testBit t = f t
  | 0, _ => ⟨0, by decide, fun t h => by omega⟩
  | m + 1, f => by
    obtain ⟨v, hv, ht⟩ := some_bits m (fun t => f (t + 1))
    have hc : (f 0).toNat ≤ 1 := by cases f 0 <;> decide
    refine ⟨2 * v + (f 0).toNat, by rw [Nat.pow_succ]; omega, fun t h => ?_⟩
    cases t with
    | zero =>
      rw [Nat.testBit_zero]
      cases f 0
      · simp
      · simp
    | succ t => rw [Nat.testBit_succ, show (2 * v + (f 0).toNat) / 2 = v by omega, ht t (by omega)]
theorem make_l0 (n : Int) (hn : 0 ≤ n ∧ n ≤ 160) (l : List Int) (hl : l.length ≤ 1000000) : ∀ (d K : Nat) (x5 : List Int), K + d = (n.toNat + 7) / 8 → x5.length = K → Byt x5 → (∀ i : Nat, i < 8 * K → lb x5 i = decide ((i : Int) < n ∧ (i : Int) ∈ l)) →
    ∃ r, Ev (fun k => mosaicref08_Make.l0 k n l x5 K) r ∧ r.size = (n.toNat + 7) / 8 ∧ ∀ i : Nat, hb r i = decide ((i : Int) < n ∧ (i : Int) ∈ l)
  | 0, K, x5, h, h5, hB, hm => by
    have e1 : wrap64 (Int.tdiv (wrap64 (n + 7)) 8) = (((n.toNat + 7) / 8 : Nat) : Int) := by rw [w64 (n := n + 7) (by omega), show n + 7 = ((n.toNat + 7 : Nat) : Int) by omega, div8, w64 (by omega)]
    refine ⟨strOfNums x5, Ev.step (G := fun _ => some _) (fun k => by rw [mosaicref08_Make.l0, e1, if_neg (by omega)]) (Ev.const _), by rw [Bo.strOfNums_size]; omega, fun i => ?_⟩
    rw [hb_lb _ hB]
    by_cases hi : i < 8 * K
    · exact hm i hi
    · unfold lb
      rw [List.getD_eq_getElem?_getD, List.getElem?_eq_none (by omega), decide_eq_false (by omega)]
      exact Nat.zero_testBit _
  | d + 1, K, x5, h, h5, hB, hm => by
    have e1 : wrap64 (Int.tdiv (wrap64 (n + 7)) 8) = (((n.toNat + 7) / 8 : Nat) : Int) := by rw [w64 (n := n + 7) (by omega), show n + 7 = ((n.toNat + 7 : Nat) : Int) by omega, div8, w64 (by omega)]
    -- the byte that comes next is what it is
    obtain ⟨v, hv, ht⟩ : ∃ v : Nat, v < 256 ∧ ∀ t, t < 8 → v.testBit t = decide (((8 * K + t : Nat) : Int) < n ∧ ((8 * K + t : Nat) : Int) ∈ l) := by
      exact some_bits 8 (fun t => decide (((8 * K + t : Nat) : Int) < n ∧ ((8 * K + t : Nat) : Int) ∈ l))
    have hB2 : Byt (x5 ++ [(v : Int)]) := by
      intro x hx
      rcases List.mem_append.mp hx with h1 | h1
      · exact hB x h1
      · rw [List.mem_singleton.mp h1]; omega
    have hlb : ∀ i : Nat, i < 8 * (K + 1) → lb (x5 ++ [(v : Int)]) i = decide ((i : Int) < n ∧ (i : Int) ∈ l) := by
      intro i hi
      by_cases h1 : i < 8 * K
      · rw [← hm i h1]
        unfold lb
        rw [List.getD_eq_getElem?_getD, List.getD_eq_getElem?_getD, List.getElem?_append_left (by omega)]
      · unfold lb
        rw [List.getD_eq_getElem?_getD, List.getElem?_append_right (by omega), show i / 8 - x5.length = 0 by omega]
        have := ht (i % 8) (by omega)
        rw [show 8 * K + i % 8 = i by omega] at this
        exact this
    obtain ⟨r, hr, hz, hbr⟩ := make_l0 n hn l hl d (K + 1) _ (by omega) (by simp; omega) hB2 hlb
    refine ⟨r, ?_, hz, hbr⟩
    refine Ev.step (G := fun k => mosaicref08_Make.l1 k n l x5 K ((0 : Nat) : Int) (((8 : Nat) : Int) - 1)) (fun k => by rw [mosaicref08_Make.l0, e1, if_pos (by omega)]; rfl) ?_
    refine make_l1 n l x5 K (by omega) (by omega) hl (by omega) r ?_ 8 0 (Nat.le_refl _) (by decide) (fun t h => by omega)
    intro v' hv' ht'
    have : v' = v := by
      apply Nat.eq_of_testBit_eq
      intro t
      by_cases h8 : t < 8
      · rw [ht t h8, ht' t h8]
      · have : 2 ^ 8 ≤ 2 ^ t := Nat.pow_le_pow_right (by omega) (by omega)
        rw [Nat.testBit_lt_two_pow (by omega), Nat.testBit_lt_two_pow (by omega)]
    rw [this]; exact hr
/-- The document's set of numbers. -/
theorem make (n : Int) (hn : 0 ≤ n ∧ n ≤ 160) (l : List Int) (hl : l.length ≤ 1000000) : ∃ r, Ev (fun k => mosaicref08_Make.f k n l) r ∧ chk n r = true ∧ ∀ i : Nat, (i : Int) < n → hb r i = decide ((i : Int) ∈ l) := by
  obtain ⟨r, h1, h2, h3⟩ := make_l0 n hn l hl ((n.toNat + 7) / 8) 0 [] (by omega) rfl (by intro x hx; cases hx) (fun i hi => by omega)
  refine ⟨r, h1, chk_mk hn.1 hn.2 h2 (fun i hi => by rw [h3]; exact decide_eq_false (by omega)), fun i hi => ?_⟩
  rw [h3]
  exact decide_eq_decide.mpr ⟨fun h => h.2, fun h => ⟨hi, h⟩⟩
end Go.Proofs.YtbbncdbihiipcaaDoor.Th
/- The set of runs: the program's and the document's. -/
namespace Go.Proofs.YtbbncdbihiipcaaDoor.Th
open Go.RowKit Go.Proofs.YtbbncdbihiipcaaDoor.P Go.Proofs.YtbbncdbihiipcaaDoorW.PrintWords Go.Proofs.YtbbncdbihiipcaaDoor.Ru

/-- What bits.Of makes of numbers that are all unlike and below n. -/
theorem ofB_is : ∀ (l : List Int) (s : ByteArray), l.Nodup → (∀ x ∈ l, 0 ≤ x ∧ x < 8 * (s.size : Int)) → s.size ≤ 1000 → (∀ x ∈ l, hb s x.toNat = false) →
    ∃ t, Bo.ofB s l = some t ∧ t.size = s.size ∧ ∀ i : Nat, hb t i = (hb s i || decide ((i : Int) ∈ l))
  | [], s, _, _, _, _ => ⟨s, rfl, rfl, fun i => by simp⟩
  | x :: r, s, hn, hr, hs, hf => by
    obtain ⟨h0, h1⟩ := hr x (by simp)
    obtain ⟨X, rfl⟩ := Int.eq_ofNat_of_zero_le h0
    have hx : hb s X = false := by have := hf (X : Int) (by simp); rwa [Int.toNat_natCast] at this
    have hX : X / 8 < s.size := by omega
    have hno := List.nodup_cons.mp hn
    obtain ⟨t, ht, hz, hm⟩ := ofB_is r (Tu.turnB s X) hno.2 (fun y hy => by rw [Bo.turn_size]; exact hr y (by simp [hy])) (by rw [Bo.turn_size]; exact hs)
      (fun y hy => by
        obtain ⟨hy0, hy1⟩ := hr y (by simp [hy])
        rw [hb_turn s X _ hX, hf y (by simp [hy]), decide_eq_false (by intro e; apply hno.1; rw [← e, Int.toNat_of_nonneg hy0]; exact hy)]; rfl)
    refine ⟨t, ?_, by rw [hz, Bo.turn_size], fun i => ?_⟩
    · rw [Bo.ofB, hasB_hb s X (by omega), hx, if_neg (by simp), Int.toNat_natCast]; exact ht
    · rw [hm i, hb_turn s X i hX]
      by_cases he : i = X
      · subst he; rw [hx]; simp
      · rw [decide_eq_false he]
        have : decide ((i : Int) ∈ (X : Int) :: r) = decide ((i : Int) ∈ r) := decide_eq_decide.mpr (by rw [List.mem_cons]; exact ⟨fun h => h.resolve_left (by omega), Or.inr⟩)
        rw [this]; cases hb s i <;> rfl
theorem span_nodup : ∀ (d : Nat) (lo : Int), (span lo d).Nodup
  | 0, _ => List.nodup_nil
  | d + 1, lo => by
    rw [span, List.nodup_cons, mem_span]
    exact ⟨by omega, span_nodup d _⟩
theorem nums_nodup (N : Int) : ∀ (l : List (Int × Int)) (last : Int), Ru.Good last N l → (Ru.nums l).Nodup
  | [], _, _ => List.nodup_nil
  | x :: r, last, g => by
    rw [Ru.nums, List.nodup_append]
    refine ⟨span_nodup _ _, nums_nodup N r x.2 g.2.2.2, fun a ha b hb' e => ?_⟩
    subst e
    rw [mem_span] at ha
    rw [mem_nums] at hb'
    have := g.2.1
    rw [mem_low N r x.2 a g.2.2.2 (by omega)] at hb'
    cases hb'
/-- The set of runs, or the error. -/
def SetR (n : Int) (L : List (Int × Int)) (r : ByteArray × Int) : Prop :=
  (Ru.Good (-1) n L ∧ chk n r.1 = true ∧ r.2 = 0 ∧ ∀ i : Nat, (i : Int) < n → hb r.1 i = mem L i) ∨ (¬ Ru.Good (-1) n L ∧ r = (⟨#[]⟩, 1))
theorem SetR.unique {n : Int} {L : List (Int × Int)} {r q : ByteArray × Int} (h : SetR n L r) (k : SetR n L q) : r = q := by
  rcases h with ⟨g, h1, h2, h3⟩ | ⟨g, rfl⟩
  · rcases k with ⟨_, k1, k2, k3⟩ | ⟨g', _⟩
    · exact Prod.ext (chk_ext h1 k1 (fun i hi => by rw [h3 i hi, k3 i hi])) (by rw [h2, k2])
    · exact absurd g g'
  · rcases k with ⟨g', _⟩ | ⟨_, rfl⟩
    · exact absurd g' g
    · rfl
theorem bitsOf_good (n : Int) (hn : 0 ≤ n ∧ n ≤ 160) (L : List (Int × Int)) (hg : Ru.Good (-1) n L) : ∃ r, Hand.bits_Of.f n (Ru.nums L) = some r ∧ SetR n L r := by
  have hlen := nums_len n L (-1) hg (by omega)
  have hin : ∀ x ∈ Ru.nums L, 0 ≤ x ∧ x < n := by
    intro x hx
    rw [mem_nums] at hx
    constructor
    · rcases Int.lt_or_le x 0 with h | h
      · rw [mem_low n L (-1) x hg (by omega)] at hx; cases hx
      · exact h
    · rcases Int.lt_or_le x n with h | h
      · exact h
      · rw [mem_high n L (-1) x hg h] at hx; cases hx
  have hz := Bo.empty_size n
  obtain ⟨t, ht, htz, hm⟩ := ofB_is (Ru.nums L) (Bo.emptyB n) (nums_nodup n L (-1) hg) (fun x hx => by have := hin x hx; rw [hz]; omega) (by rw [hz]; omega) (fun x _ => hb_empty n _)
  have hall : (Ru.nums L).all (Bo.inB n) = true := List.all_eq_true.mpr fun x hx => by have := hin x hx; unfold Bo.inB; simp; omega
  refine ⟨(t, 0), ?_, Or.inl ⟨hg, chk_mk hn.1 hn.2 (by show t.size = _; rw [htz, hz]) (fun i hi => ?_), rfl, fun i _ => ?_⟩⟩
  · unfold Hand.bits_Of.f Bo.ofR
    rw [if_pos (by omega), if_pos ⟨by unfold Bo.mayB; simp; omega, hall⟩, ht]
  · show hb t i = false
    rw [hm, hb_empty, Bool.false_or]
    exact decide_eq_false (fun h => by have := hin _ h; omega)
  · show hb t i = _
    rw [hm, hb_empty, Bool.false_or]
    by_cases h : (i : Int) ∈ Ru.nums L
    · rw [decide_eq_true h]; exact ((mem_nums L i).mp h).symm
    · rw [decide_eq_false h]
      cases hmm : mem L i with
      | true => exact absurd ((mem_nums L i).mpr hmm) h
      | false => rfl
theorem rd39 (L : List (Int × Int)) (i : Nat) (x : Int × Int) (h : L[i]? = some x) : rd_T39 (L.map Hand.toSp) (i : Int) = Hand.toSp x := by
  unfold rd_T39
  rw [Int.toNat_natCast, List.getD_eq_getElem?_getD, List.getElem?_map, h]; rfl
theorem rd54 (L : List (Int × Int)) (i : Nat) (x : Int × Int) (h : L[i]? = some x) : rd_T54 (L.map toSp4) (i : Int) = toSp4 x := by
  unfold rd_T54
  rw [Int.toNat_natCast, List.getD_eq_getElem?_getD, List.getElem?_map, h]; rfl
theorem nums_append : ∀ (a b : List (Int × Int)), Ru.nums (a ++ b) = Ru.nums a ++ Ru.nums b
  | [], _ => rfl
  | x :: a, b => by rw [List.cons_append, Ru.nums, Ru.nums, nums_append a b, List.append_assoc]
/-- The program's loops. -/
theorem set_l1 (n : Int) (L : List (Int × Int)) (i : Nat) (hL : L.length ≤ 1000000) (hi : i < L.length) (a b : Int) (R : ByteArray × Int) (hb' : b ≤ 160) (ha : 0 ≤ a) :
    ∀ (d : Nat) (x10 : Int) (x6 : List Int), x10 + d = b → 0 ≤ x10 → x6.length + d ≤ 1000 → Ev (fun k => runs_Set.l0 k n (x6 ++ span x10 d) b (L.map Hand.toSp) (L.length : Int) ((i + 1 : Nat) : Int)) R →
    Ev (fun k => runs_Set.l1 k n x6 x10 (L.map Hand.toSp) (L.length : Int) i a b) R
  | 0, x10, x6, h, h0, hl, hR => by
    rw [span, List.append_nil] at hR
    refine Ev.step (fun k => ?_) hR
    rw [runs_Set.l1, if_neg (by omega), w64 (by omega)]; rfl
  | d + 1, x10, x6, h, h0, hl, hR => by
    refine Ev.step (G := fun k => runs_Set.l1 k n (x6 ++ [x10]) (x10 + 1) (L.map Hand.toSp) (L.length : Int) i a b) (fun k => ?_) ?_
    · rw [runs_Set.l1, if_pos (by omega), if_pos (by omega), w64 (by omega)]
    · refine set_l1 n L i hL hi a b R hb' ha d (x10 + 1) (x6 ++ [x10]) (by omega) (by omega) (by simp; omega) ?_
      rw [List.append_assoc, show [x10] ++ span (x10 + 1) d = span x10 (d + 1) from rfl]
      exact hR
theorem set_l0 (n : Int) (hn : 0 ≤ n ∧ n ≤ 160) (L : List (Int × Int)) (hL : L.length ≤ 1000000) : ∀ (d i : Nat), i + d = L.length → Ru.Good (-1) n (L.take i) →
    ∃ r, Ev (fun k => runs_Set.l0 k n (Ru.nums (L.take i)) (endOf (-1) (L.take i)) (L.map Hand.toSp) (L.length : Int) i) r ∧ SetR n L r
  | 0, i, h, hg => by
    rw [List.take_of_length_le (by omega)] at hg ⊢
    obtain ⟨r, hr, hS⟩ := bitsOf_good n hn L hg
    refine ⟨r, Ev.step (G := fun _ => some r) (fun k => ?_) (Ev.const _), hS⟩
    rw [runs_Set.l0, if_neg (by omega), hr]; rfl
  | d + 1, i, h, hg => by
    have hlt : i < L.length := by omega
    obtain ⟨x, hx⟩ : ∃ x, L[i]? = some x := ⟨L[i], List.getElem?_eq_getElem hlt⟩
    have hT : L.take (i + 1) = L.take i ++ [x] := by rw [List.take_add_one, hx]; rfl
    have hend := end_le n _ (-1) hg (by omega)
    have hnl := nums_len n _ (-1) hg (by omega)
    have hsp : rd_T39 (L.map Hand.toSp) (i : Int) = (⟨x.1, x.2⟩ : S39) := rd39 L i x hx
    by_cases hok : endOf (-1) (L.take i) < x.1 ∧ x.1 < x.2 ∧ x.2 ≤ n
    · have hg2 : Ru.Good (-1) n (L.take (i + 1)) := by rw [hT, Ru.good_append]; exact ⟨hg, hok.1, hok.2.1, hok.2.2, trivial⟩
      obtain ⟨r, hr, hS⟩ := set_l0 n hn L hL d (i + 1) (by omega) hg2
      refine ⟨r, ?_, hS⟩
      have e1 : Ru.nums (L.take (i + 1)) = Ru.nums (L.take i) ++ span x.1 (x.2 - x.1).toNat := by rw [hT, nums_append, Ru.nums, Ru.nums, List.append_nil]
      rw [e1, hT, endOf_append] at hr
      refine Ev.step (G := fun k => runs_Set.j1 k n (Ru.nums (L.take i)) (L.map Hand.toSp) (L.length : Int) i false x.1 x.2) (fun k => ?_) ?_
      · rw [runs_Set.l0, if_pos (by omega), if_pos (by omega), if_pos (by rw [List.length_map]; omega), hsp]
        dsimp only
        rw [if_neg (show ¬ x.1 ≤ _ by omega), if_neg (show ¬ x.1 < 0 by omega), if_neg (show ¬ x.2 ≤ x.1 by omega), decide_eq_false (show ¬ x.2 > n by omega)]
      · refine Ev.step (G := fun k => runs_Set.l1 k n (Ru.nums (L.take i)) x.1 (L.map Hand.toSp) (L.length : Int) i x.1 x.2) (fun k => by rw [runs_Set.j1, if_neg (by simp)]) ?_
        exact set_l1 n L i hL hlt x.1 x.2 r (by omega) (by omega) (x.2 - x.1).toNat x.1 _ (by omega) (by omega) (by omega) hr
    · refine ⟨(⟨#[]⟩, 1), ?_, Or.inr ⟨fun g => ?_, rfl⟩⟩
      · refine Ev.step (G := fun k => runs_Set.j1 k n (Ru.nums (L.take i)) (L.map Hand.toSp) (L.length : Int) i true x.1 x.2) (fun k => ?_) (Ev.step (G := fun _ => some _) (fun k => by rw [runs_Set.j1, if_pos rfl]) (Ev.const _))
        rw [runs_Set.l0, if_pos (by omega), if_pos (by omega), if_pos (by rw [List.length_map]; omega), hsp]
        dsimp only
        by_cases c1 : x.1 ≤ endOf (-1) (L.take i)
        · rw [if_pos c1]
        · by_cases c2 : x.2 ≤ x.1
          · rw [if_neg c1, if_neg (show ¬ x.1 < 0 by omega), if_pos c2]
          · rw [if_neg c1, if_neg (show ¬ x.1 < 0 by omega), if_neg c2, decide_eq_true (show x.2 > n by omega)]
      · have hs : L = L.take i ++ x :: L.drop (i + 1) := by
          have := List.take_append_drop i L
          rw [List.drop_eq_getElem_cons hlt] at this
          rw [List.getElem?_eq_getElem hlt] at hx
          rw [← Option.some.inj hx]; exact this.symm
        rw [hs, Ru.good_append] at g
        exact hok ⟨g.2.1, g.2.2.1, g.2.2.2.1⟩
/-- The program's set of runs. -/
theorem prog_set (n : Int) (hn : 0 ≤ n ∧ n ≤ 160) (L : List (Int × Int)) (hL : L.length ≤ 1000000) : ∃ r, Ev (fun k => runs_Set.f k n (L.map Hand.toSp)) r ∧ SetR n L r := by
  obtain ⟨r, hr, hS⟩ := set_l0 n hn L hL L.length 0 (by omega) trivial
  refine ⟨r, Ev.congr (fun k => ?_) hr, hS⟩
  unfold runs_Set.f
  rw [show runs_may.f n = some (Bo.mayB n) from Bo.may_f n, show Bo.mayB n = true by unfold Bo.mayB; simp; omega, Option.bind_some, if_pos rfl, List.length_map]; rfl
theorem prog_set_no (n : Int) (hn : ¬ (0 ≤ n ∧ n ≤ 160)) (l : List S39) : Ev (fun k => runs_Set.f k n l) (⟨#[]⟩, 1) := by
  refine Ev.of fun k => ?_
  unfold runs_Set.f
  rw [show runs_may.f n = some (Bo.mayB n) from Bo.may_f n, show Bo.mayB n = false by unfold Bo.mayB; simp; omega, Option.bind_some, if_neg (by simp)]
end Go.Proofs.YtbbncdbihiipcaaDoor.Th
/- The set of runs as the document makes it, and the page's example. -/
namespace Go.Proofs.YtbbncdbihiipcaaDoor.Th
open Go.RowKit Go.Proofs.YtbbncdbihiipcaaDoor.P Go.Proofs.YtbbncdbihiipcaaDoorW.PrintWords Go.Proofs.YtbbncdbihiipcaaDoor.Ru

theorem awake : Ev (fun k => mosaiclaw25_awake.f k) true := by
  have h : mosaiclaw25_awake.f 100 = some true := by decide +kernel
  refine ⟨100, fun k hk => ?_⟩
  obtain ⟨d, rfl⟩ : ∃ d, k = 100 + d := ⟨k - 100, by omega⟩
  clear hk
  induction d with
  | zero => exact h
  | succ d ih => exact mosaiclaw25_awake.mono (100 + d) _ ih
end Go.Proofs.YtbbncdbihiipcaaDoor.Th
