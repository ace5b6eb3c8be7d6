/- Table.sweep: walked. -/
import Derived.Test.YtmimnlbkllgfpaaGreatDoorSq2
namespace Go.Proofs.YtmimnlbkllgfpaaGreatDoor.Tb
set_option linter.unusedVariables false
set_option linter.unusedSimpArgs false
open Go.RowKit Go.Maps Go.Proofs.YtmimnlbkllgfpaaGreatDoor.A Go.Proofs.YtmimnlbkllgfpaaGreatDoorW.PrintWords

/-- Names that are still to come are as they were; the others are swept. -/
def mixT (now : Int) (left : Lit → Bool) (T : List UInt8 → Nat → Option Nt) : List UInt8 → Nat → Option Nt := fun s j => if left (.string s) = true then T s j else swp now (T s j)
theorem mixT_start {D : DataW Unit} {T : List UInt8 → Nat → Option Nt} (now : Int) (h : ∀ s, has D (.string s) = false → ∀ j, T s j = none) : mixT now (has D) T = T := by
  funext s j
  unfold mixT
  cases hh : has D (.string s) with
  | true => rw [if_pos rfl]
  | false => rw [if_neg (by simp), h s hh j]; rfl
theorem mixT_end (now : Int) {left : Lit → Bool} (T : List UInt8 → Nat → Option Nt) (h : ∀ kl, left kl = false) : mixT now left T = fun s j => swp now (T s j) := by
  funext s j
  unfold mixT
  rw [h, if_neg (by simp)]
theorem mixT_step (now : Int) {left : Lit → Bool} (T : List UInt8 → Nat → Option Nt) (s : List UInt8) (hl : left (.string s) = true) :
    mixT now (fun z => left z && !z.sameKey (.string s)) T = fun s' j => if s' = s then swp now (T s j) else mixT now left T s' j := by
  funext s' j
  unfold mixT
  by_cases e : s' = s
  · subst e
    rw [if_neg (by simp [Lit.sameKey]), if_pos rfl]
  · rw [if_neg e]
    have : (Lit.string s').sameKey (.string s) = false := sameKey_ne (fun h => e (by cases h; rfl))
    simp only [this, Bool.not_false, Bool.and_true]
/-- The entry's first j places are swept. -/
def partS (now : Int) (f : Nat → Option Nt) (j : Nat) : Nat → Option Nt := fun i => if i < j then swp now (f i) else f i
theorem partS_step (now : Int) (f : Nat → Option Nt) (j : Nat) : partS now f (j + 1) = fun i => if i = j then swp now (f j) else partS now f j i := by
  funext i
  unfold partS
  by_cases e : i = j
  · subst e; rw [if_pos (Nat.lt_succ_self _), if_pos rfl]
  · rw [if_neg e]
    by_cases h : i < j
    · rw [if_pos h, if_pos (by omega)]
    · rw [if_neg h, if_neg (by omega)]
theorem ranges_iter {w : World} {bm r n : Nat} {D : DataW Unit} {left : Lit → Bool} {cnt : Nat} (h : w.ranges Tryz.prog 9 ptrE bm r n D left cnt) : ∃ a b c d, w.heap[r]? = some (.mapIter a b c d) := by
  obtain ⟨es, clock, since, seen, c0, _, _, _, _, hr, _⟩ := h
  exact ⟨_, _, _, _, hr⟩
theorem grown_trans {a b c : World} {k : Nat} (h : a.grownBy b (some k)) (g : b.grownBy c (some k)) : a.grownBy c (some k) :=
  ⟨g.os.trans h.os, g.tape.trans h.tape, g.output.trans h.output, Nat.le_trans h.size g.size, fun i hi hne => (g.block i (Nat.lt_of_lt_of_le hi h.size) hne).trans (h.block i hi hne)⟩
theorem grown_set (w : World) (b j : Nat) (v : Value) : w.grownBy (w.setCell ⟨b, j, none⟩ v) (some b) :=
  ⟨rfl, rfl, rfl, by simp [World.setCell], fun k _ hne => Below.heap_setCell w _ v k (fun e => hne (by rw [e]))⟩
theorem grown_drew (w : World) (k : Nat) : w.grownBy w.drew (some k) := ⟨rfl, rfl, rfl, Nat.le_refl _, fun _ _ _ => rfl⟩
theorem grown_refl (w : World) (k : Nat) : w.grownBy w (some k) := ⟨rfl, rfl, rfl, Nat.le_refl _, fun _ _ _ => rfl⟩
set_option maxHeartbeats 4000000 in
set_option maxRecDepth 100000 in
theorem sweep {lo t bm n : Nat} {room : Int} {D : DataW Unit} {T : List UInt8 → Nat → Option Nt} (now : Int) (w : World) (h : Tab w lo t bm n room D T) (hlw : lo ≤ w.heap.size) :
    Calls Tryz.prog 34 #[.pointer (some ⟨t, 0, none⟩), .int .i64 now] w fun e w' => e = .returned (.tuple #[]) ∧ ∃ D', Tab w' lo t bm n room D' (fun s j => swp now (T s j)) ∧ Kp lo w w' := by
  have c1 : w.cell? ⟨t, 1, none⟩ = some (.map (some bm)) := blk_cell h.hdr 1
  have hown := h.own
  have HT := Aside.mk h
  clear h
  go_enter Tryz.func34, Tryz.ntmps34
  go_wp2_with (first
    | (at_range; refine wpList_range_own _ rfl _ 76 rfl 9 84 law9 Tryz.underlying76 _ bm n _ rfl hown ?_; intro w0 hrg0 hg0 hs0)
    | go_in)
  go_frame
  go_loopw [4] (fun _ wr => ∃ (left : Lit → Bool) (cnt : Nat) (D' : DataW Unit), wr.ranges Tryz.prog 9 ptrE bm w.heap.size n D' left cnt ∧ Tab wr lo t bm n room D' (mixT now left T) ∧ Kp lo w wr)
    (fun _ wr => wr.rangeLeft bm w.heap.size)
  case atStart =>
    refine ⟨_, _, D, hrg0, ?_, ⟨hg0.os, hg0.tape, hg0.output, hg0.size, fun k _ hk => hg0.block k hk (by simp), fun k o hk _ => (hg0.block k (lt_of_some hk) (by simp)).trans hk⟩⟩
    rw [mixT_start now HT.out.gone]
    exact HT.out.turn fun k o hk _ => (hg0.block k (lt_of_some hk) (by simp)).trans hk
  case round =>
    obtain ⟨left, cnt, D', hrg, hTab, hKp⟩ := hrel
    have hHE := fun s hs => let ⟨b, _, hb, _⟩ := hTab.ent s hs; (⟨b, hb⟩ : ∃ b : Nat, D'.atKey (.string s) nilD = blkD b)
    go_wp2_with (first
      | (at_next; refine wpList_next_tab _ rfl _ rfl bm w.heap.size n _ _ _ rfl hrg hHE ?_ ?_)
      | go_in)
    · intro hl0
      go_wp2
      go_end0
      exact ⟨rfl, D', by rw [← mixT_end now T hl0]; exact hTab, hKp⟩
    · intro s b w1 cnt1 hsz hlk hhas hat hrg1 hlt hg1 hs1 hen
      obtain ⟨ia, ib, ic, id, hit⟩ := ranges_iter hrg
      have hTab1 := hTab.iter hg1 hit
      obtain ⟨b0, hlo, hb0, hE0⟩ := hTab1.ent _ hhas
      obtain rfl : b0 = b := blk_inj (hb0.symm.trans hat)
      obtain ⟨f, hf⟩ : ∃ f, f = mixT now left T s.data.toList := ⟨_, rfl⟩
      rw [← hf] at hE0
      have hNote := fun j x (hx : f j = some x) => hTab1.note s.data.toList j x (by rw [← hf]; exact hx)
      have hKp1 : Kp lo w w1 := hKp.trans (Kp.of_grown hg1 hlw hit rfl)
      have c1r : w1.cell? ⟨t, 1, none⟩ = some (.map (some bm)) := blk_cell hTab1.hdr 1
      have HA := Aside.mk (And.intro hTab1 (And.intro hKp1 (And.intro hNote (And.intro hf (And.intro hrg1 (And.intro hrg hlt))))))
      have HB := Aside.mk (And.intro hsz (And.intro hlk (And.intro hhas (And.intro hat (And.intro hlo hE0)))))
      clear hTab hKp hHE hTab1 hKp1 hNote hf hrg1 hrg hlt hit hg1 hs1 hsz hlk hhas hat hlo hE0 hb0 hrg0 hg0 hs0 hown
      go_wp2_with fail
      go_loopw [6, 7, 19] (fun _ _ jv wr2 => ∃ j : Nat, j ≤ 16 ∧ jv = .int .i64 j ∧ Ent wr2 b0 (partS now f j) ∧ w1.grownBy wr2 (some b0)) (fun _ _ jv _ => 16 - (intOf jv).toNat)
      case atStart => exact ⟨0, by omega, rfl, HB.out.2.2.2.2.2.ext (fun j _ => by unfold partS; rw [if_neg (by omega)]), grown_refl _ _⟩
      case round =>
        obtain ⟨j, hj, rfl, hE, hG⟩ := hrel
        by_cases hlt : j < 16
        · have gl : (j : Int) < 16 := by omega
          have p0 : (0 : Int) ≤ (j : Int) := by omega
          have wj : IntKind.i64.wrap ((j : Int) + 1) = ((j + 1 : Nat) : Int) := by rw [IntKind.wrap_i64]; omega
          have HE := Aside.mk hE
          obtain ⟨cur, hb, hs, hfj⟩ := hE
          have fz : wr.frozen? ⟨b0, j, none⟩ = false := blk_frozen hb j
          have hpj : partS now f j j = f j := by unfold partS; rw [if_neg (Nat.lt_irrefl _)]
          rcases hfj j hlt with ⟨hn, hc⟩ | ⟨x, nb, hn, hc, hnb⟩
          · rw [hpj] at hn
            have c0 : wr.cell? ⟨b0, j, none⟩ = some (.pointer none) := by unfold World.cell?; rw [hb]; simpa using hc
            have HE2 : Aside (Ent wr b0 (partS now f (j + 1))) := ⟨HE.out.ext (fun i _ => by
              rw [partS_step]
              by_cases e : i = j
              · subst e; simp only [if_true, hpj, hn, swp]
              · simp only [if_neg e])⟩
            clear hb hs hfj hn hc hpj
            go_wp2_with fail
            go_region
            all_goals go_wp2_with fail
            all_goals exact ⟨⟨j + 1, by omega, rfl, HE2.out, ⟨hG.os, hG.tape, hG.output, hG.size, hG.block⟩⟩, by show 16 - ((j + 1 : Nat) : Int).toNat < 16 - (j : Int).toNat; omega⟩
          · rw [hpj] at hn
            have c0 : wr.cell? ⟨b0, j, none⟩ = some (.pointer (some ⟨nb, 0, none⟩)) := by unfold World.cell?; rw [hb]; simpa using hc
            have d4 : wr.cell? ⟨nb, 4, none⟩ = some (.int .i64 x.f3) := blk_cell hnb 4
            by_cases hxt : x.f3 < now
            · have HE2 : Aside (Ent (wr.setCell ⟨b0, j, none⟩ (.pointer none)) b0 (partS now f (j + 1))) := ⟨(HE.out.put hlt none none (Or.inl ⟨rfl, rfl⟩)).ext (fun i _ => by
                rw [partS_step]
                by_cases e : i = j
                · subst e; simp only [if_true, hn, swp, if_pos hxt]
                · simp only [if_neg e])⟩
              clear hb hs hfj hn hc hpj hnb
              go_wp2_with fail
              go_region
              all_goals go_wp2_with fail
              all_goals exact ⟨⟨j + 1, by omega, rfl, HE2.out, grown_trans (grown_trans ⟨hG.os, hG.tape, hG.output, hG.size, hG.block⟩ (grown_set _ _ _ _)) (grown_drew _ _)⟩, by show 16 - ((j + 1 : Nat) : Int).toNat < 16 - (j : Int).toNat; omega⟩
            · have HE2 : Aside (Ent wr b0 (partS now f (j + 1))) := ⟨HE.out.ext (fun i _ => by
                rw [partS_step]
                by_cases e : i = j
                · subst e; simp only [if_true, hpj, hn, swp, if_neg hxt]
                · simp only [if_neg e])⟩
              clear hb hs hfj hn hc hpj hnb
              go_wp2_with fail
              go_region
              all_goals go_wp2_with fail
              all_goals exact ⟨⟨j + 1, by omega, rfl, HE2.out, ⟨hG.os, hG.tape, hG.output, hG.size, hG.block⟩⟩, by show 16 - ((j + 1 : Nat) : Int).toNat < 16 - (j : Int).toNat; omega⟩
        · obtain rfl : j = 16 := by omega
          have gl : ¬ (16 : Int) < 16 := by omega
          obtain ⟨pe, hcell, hnone⟩ := hE.ptrs
          have d0 := hcell 0 (by omega)
          have d1 := hcell 1 (by omega)
          have d2 := hcell 2 (by omega)
          have d3 := hcell 3 (by omega)
          have d4 := hcell 4 (by omega)
          have d5 := hcell 5 (by omega)
          have d6 := hcell 6 (by omega)
          have d7 := hcell 7 (by omega)
          have d8 := hcell 8 (by omega)
          have d9 := hcell 9 (by omega)
          have d10 := hcell 10 (by omega)
          have d11 := hcell 11 (by omega)
          have d12 := hcell 12 (by omega)
          have d13 := hcell 13 (by omega)
          have d14 := hcell 14 (by omega)
          have d15 := hcell 15 (by omega)
          have heq := fun W => entry_eql W pe
          have hE16 : Ent wr b0 (fun i => swp now (f i)) := hE.ext (fun i hi => by unfold partS; rw [if_pos hi])
          have hTab2 := HA.out.1.entry s.data.toList HB.out.2.2.1 HB.out.2.2.2.1 hG (fun i => swp now (f i)) hE16 (fun i x hx => by
            cases hfi : f i with
            | none => rw [hfi] at hx; cases hx
            | some y =>
              rw [hfi] at hx
              simp only [swp] at hx
              split at hx
              · cases hx
              · cases hx; exact HA.out.2.2.1 i _ hfi)
          have hKp2 : Kp lo w wr := HA.out.2.1.trans (by
            obtain ⟨cur, hb, _, _⟩ := HB.out.2.2.2.2.2
            exact Kp.of_grown hG HB.out.2.2.2.2.1 hb rfl)
          have hne1 : some bm ≠ some b0 := by
            obtain ⟨cur, hb, _, _⟩ := HB.out.2.2.2.2.2
            obtain ⟨es, clock, hm, _⟩ := HA.out.1.own
            intro e; cases e; rw [hb] at hm; cases hm
          have hne2 : some w.heap.size ≠ some b0 := by
            obtain ⟨cur, hb, _, _⟩ := HB.out.2.2.2.2.2
            obtain ⟨a, b', c, d, hr⟩ := ranges_iter HA.out.2.2.2.2.1
            intro e; cases e; rw [hb] at hr; cases hr
          have hrg3 := HA.out.2.2.2.2.1.kept hG hne1 hne2
          have c1w : wr.cell? ⟨t, 1, none⟩ = some (.map (some bm)) := blk_cell hTab2.hdr 1
          have hmix : (fun s' j => if s' = s.data.toList then swp now (f j) else mixT now left T s' j) = mixT now (fun z => left z && !z.sameKey (.string s.data.toList)) T := by
            rw [mixT_step now T s.data.toList HB.out.2.1]
            funext s' j
            by_cases e : s' = s.data.toList
            · rw [if_pos e, if_pos e, HA.out.2.2.2.1]
              unfold mixT
              rw [HB.out.2.1, if_pos rfl]
            · rw [if_neg e, if_neg e]
          rw [hmix] at hTab2
          have HT2 := Aside.mk (And.intro hTab2 hKp2)
          have HM := Aside.mk hmix
          have hszs := HB.out.1
          have hNN : ((List.range 16).all fun i => (pe i).isNone) = true → ∀ i, swp now (f i) = none := fun ha i => by
            by_cases hi : i < 16
            · have h1 := List.all_eq_true.1 ha i (List.mem_range.2 hi)
              have h2 := (hnone i hi).1 h1
              unfold partS at h2
              rwa [if_pos hi] at h2
            · cases hfi : f i with
              | none => rfl
              | some y => have := (HA.out.2.2.1 i y hfi).2.2.2; omega
          have HN := Aside.mk hNN
          clear hcell hnone hE hE16 hTab2 hKp2 hne1 hne2 hmix hNN
          cases hall : ((List.range 16).all fun i => (pe i).isNone) with
          | true =>
            rw [hall] at heq
            have hz := HN.out hall
            clear hall
            go_wp2_with (first
              | (at_delete; refine wpList_delete_ranges _ rfl _ _ 76 9 rfl 84 law9 Tryz.underlying76 _ bm w.heap.size n _ _ _ rfl hrg3 _ _ rfl (key9 s hszs) ?_; intro w2 cnt2 hrg2 hle hturn; go_frame)
              | go_in)
            rw [strike_twice] at hrg2
            go_roundw
            case rel =>
              refine ⟨_, cnt2, _, hrg2, HT2.out.1.drop s.data.toList (fun j => ?_) hturn.grown hrg2.owns, HT2.out.2.trans ?_⟩
              · rw [← HM.out]; simp only [if_true]; exact hz j
              · obtain ⟨es, clock, hm, _⟩ := HT2.out.1.own
                exact Kp.of_grown hturn.grown HT2.out.1.lom hm rfl
            case measure => rw [hrg2.left_eq, HA.out.2.2.2.2.2.1.left_eq]; have := HA.out.2.2.2.2.2.2; omega
          | false =>
            rw [hall] at heq
            clear hall
            go_wp2_with fail
            go_roundw
            case rel => exact ⟨_, cnt1, _, hrg3, HT2.out.1, HT2.out.2⟩
            case measure => rw [hrg3.left_eq, HA.out.2.2.2.2.2.1.left_eq]; exact HA.out.2.2.2.2.2.2
end Go.Proofs.YtmimnlbkllgfpaaGreatDoor.Tb
