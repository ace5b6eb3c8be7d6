/- Table.Leave: walked. -/
import Derived.Test.YtmimnlbkllgfpaaGreatDoorAw
import Derived.Test.YtmimnlbkllgfpaaGreatDoorAx2
namespace Go.Proofs.YtmimnlbkllgfpaaGreatDoor.Tb
set_option linter.unusedVariables false
set_option linter.unusedSimpArgs false
open Go.RowKit Go.Maps Go.Proofs.YtmimnlbkllgfpaaGreatDoor.A Go.Proofs.YtmimnlbkllgfpaaGreatDoorW.PrintWords

/-- A node that is let go. -/
def offT (s : List UInt8) (node : Int) (T : TT) : TT := fun s' j => if s' = s ∧ (j : Int) = node then none else T s' j
/-- What Leave answers, and what the table then holds. -/
inductive Lev (s : List UInt8) (node now : Int) (T : TT) : Int → TT → Prop
  | arg : tickB now = false → Lev s node now T 1 T
  | no : tickB now = true → (∀ (j : Nat) x, (j : Int) = node → T s j = some x → x.f3 < now) → Lev s node now T 4 T
  | ok (j : Nat) (x : Nt) : tickB now = true → (j : Int) = node → T s j = some x → now ≤ x.f3 → Lev s node now T 0 (offT s node T)
theorem Tab.off {W : World} {lo t bm n b j : Nat} {room : Int} {D : DataW Unit} {T : TT} (h : Tab W lo t bm n room D T) (s : List UInt8) (hs : has D (.string s) = true) (hb : D.atKey (.string s) nilD = blkD b) (hj : j < 16) :
    Tab (W.setCell ⟨b, j, none⟩ (.pointer none)) lo t bm n room D (offT s j T) ∧ Kp lo W (W.setCell ⟨b, j, none⟩ (.pointer none)) := by
  obtain ⟨b0, hlo, hb0, hE⟩ := h.ent _ hs
  obtain rfl : b0 = b := blk_inj (hb0.symm.trans hb)
  have hp := hE.put hj none none (Or.inl ⟨rfl, rfl⟩)
  have hT := h.entry s hs hb (grown_set W b0 j _) _ hp (fun i y hy => by
    by_cases e : i = j
    · subst e
      simp only [if_true] at hy
      cases hy
    · simp only [if_neg e] at hy
      exact h.note _ _ _ hy)
  refine ⟨?_, ?_⟩
  · have e : (fun s' i => if s' = s then (if i = j then none else T s i) else T s' i) = offT s j T := by
      funext s' i
      unfold offT
      by_cases e1 : s' = s
      · subst e1
        rw [if_pos rfl]
        by_cases e2 : i = j
        · subst e2; rw [if_pos rfl, if_pos ⟨rfl, rfl⟩]
        · rw [if_neg e2, if_neg (fun hh => e2 (by have := hh.2; omega))]
      · rw [if_neg e1, if_neg (fun hh => e1 hh.1)]
    rw [← e]; exact hT
  · obtain ⟨cur, hcur, _, _⟩ := hE
    exact Kp.set hlo hcur _
set_option maxHeartbeats 8000000 in
set_option maxRecDepth 100000 in
theorem leave {lo t bm n : Nat} {room : Int} {D : DataW Unit} {T : TT} (s : ByteArray) (hs : s.size ≤ maxLen) (node now : Int) (w : World) (h : Tab w lo t bm n room D T) :
    Calls Tryz.prog 12 #[.pointer (some ⟨t, 0, none⟩), .string s, .int .i64 node, .int .i64 now] w fun e w' => ∃ (c : Int) (T' : TT), e = .returned (.int .i64 c) ∧ Lev s.data.toList node now T c T' ∧ Tab w' lo t bm n room D T' ∧ Kp lo w w' := by
  have hTk := fun W => tracker_tick.calls now (tickB now) W (tick_eq now)
  have hPr := fun W => tracker_peer.calls node (decide (1 ≤ node ∧ node ≤ 15)) W (peer_eq node)
  have c1 : w.cell? ⟨t, 1, none⟩ = some (.map (some bm)) := blk_cell h.hdr 1
  have HT := Aside.mk h
  cases htk : tickB now with
  | false =>
    rw [htk] at hTk
    clear h
    go_enter Tryz.func12, Tryz.ntmps12
    go_wp2_with (go_at_call 35; refine (hTk _).mono ?_; rintro e w1 ⟨rfl, hd⟩)
    go_ret
    exact ⟨_, _, rfl, .arg htk, HT.out.below hd.below, Kp.of_below hd.below⟩
  | true =>
    rw [htk] at hTk
    by_cases hp : 1 ≤ node ∧ node ≤ 15
    · rw [decide_eq_true hp] at hPr
      obtain ⟨j, rfl⟩ : ∃ j : Nat, node = (j : Int) := ⟨node.toNat, by omega⟩
      have hj16 : 1 ≤ j ∧ j < 16 := by omega
      have gj : (j : Int) < 16 := by omega
      have gj0 : (0 : Int) ≤ (j : Int) := by omega
      cases hh : has D (.string s.data.toList) with
      | false =>
        have hno : ∀ (i : Nat) x, (i : Int) = (j : Int) → T s.data.toList i = some x → x.f3 < now := fun i x _ hx => by rw [h.gone _ hh i] at hx; cases hx
        have hlk := fun W (hb : Below w.heap.size w W) => (HT.out.below hb).look_none s hs hh
        have HN := Aside.mk hno
        clear h hp hno
        go_enter Tryz.func12, Tryz.ntmps12
        go_wp2_with (first
          | (go_at_call 35; refine (hTk _).mono ?_; rintro e w1 ⟨rfl, hd⟩)
          | (go_at_call 36; refine (hPr _).mono ?_; rintro e w2 ⟨rfl, hd2⟩; have hB2 := hd.below.trans (hd2.below.mono hd.below.size); have hl2 := hlk _ hB2; have c2 := (hB2.cell (World.block_lt_of_cell? w _ c1)).trans c1))
        go_ret
        exact ⟨_, _, rfl, .no htk HN.out, HT.out.below hB2, Kp.of_below hB2⟩
      | true =>
        obtain ⟨b, hlo, hat, hent⟩ := h.ent _ hh
        have hlk := fun W (hb : Below w.heap.size w W) => (HT.out.below hb).look_some s hs hat
        have hcell := fun W (hb : Below w.heap.size w W) => hent.mono (fun k hk => hb.block k hk)
        cases hx : T s.data.toList j with
        | none =>
          have hno : ∀ (i : Nat) x, (i : Int) = (j : Int) → T s.data.toList i = some x → x.f3 < now := fun i x hi hx' => by
            obtain rfl : i = j := by omega
            rw [hx] at hx'; cases hx'
          have HN := Aside.mk hno
          have hcj : ∀ W, Below w.heap.size w W → W.cell? ⟨b, j, none⟩ = some (.pointer none) := fun W hb => by
            obtain ⟨cur, h1, _, h3⟩ := hcell W hb
            rw [blk_cell h1 j]
            rcases h3 j hj16.2 with ⟨_, h5⟩ | ⟨x, nb, h4, _⟩
            · exact h5
            · rw [hx] at h4; cases h4
          clear h hp hno hent hcell
          go_enter Tryz.func12, Tryz.ntmps12
          go_wp2_with (first
            | (go_at_call 35; refine (hTk _).mono ?_; rintro e w1 ⟨rfl, hd⟩)
            | (go_at_call 36; refine (hPr _).mono ?_; rintro e w2 ⟨rfl, hd2⟩; have hB2 := hd.below.trans (hd2.below.mono hd.below.size); have hl2 := hlk _ hB2; have c2 := (hB2.cell (World.block_lt_of_cell? w _ c1)).trans c1; have k2 := hcj _ hB2))
          go_ret
          exact ⟨_, _, rfl, .no htk HN.out, HT.out.below hB2, Kp.of_below hB2⟩
        | some x =>
          have hcj : ∃ nb, ∀ W, Below w.heap.size w W → W.cell? ⟨b, j, none⟩ = some (.pointer (some ⟨nb, 0, none⟩)) ∧ W.cell? ⟨nb, 3 + 1, none⟩ = some (.int .i64 x.f3) ∧ W.frozen? ⟨b, j, none⟩ = false := by
            obtain ⟨cur, h1, _, h3⟩ := hent
            rcases h3 j hj16.2 with ⟨h4, _⟩ | ⟨x', nb, h4, h5, h6⟩
            · rw [hx] at h4; cases h4
            · rw [hx] at h4
              obtain rfl := Option.some.inj h4
              refine ⟨nb, fun W hb => ⟨?_, ?_, ?_⟩⟩
              · rw [blk_cell (blk_below h1 hb) j]; exact h5
              · exact blk_cell (blk_below h6 hb) 4
              · exact blk_frozen (blk_below h1 hb) j
          obtain ⟨nb, hcj⟩ := hcj
          have HX := Aside.mk (And.intro hh (And.intro hat hx))
          by_cases hw : now ≤ x.f3
          · have gw : ¬ x.f3 < now := by omega
            clear h hp hent hcell hx hat hh
            go_enter Tryz.func12, Tryz.ntmps12
            go_wp2_with (first
              | (go_at_call 35; refine (hTk _).mono ?_; rintro e w1 ⟨rfl, hd⟩)
              | (go_at_call 36; refine (hPr _).mono ?_; rintro e w2 ⟨rfl, hd2⟩; have hB2 := hd.below.trans (hd2.below.mono hd.below.size); have hl2 := hlk _ hB2; have c2 := (hB2.cell (World.block_lt_of_cell? w _ c1)).trans c1; obtain ⟨k2, k3, k4⟩ := hcj _ hB2))
            have hoff := (HT.out.below hB2).off _ HX.out.1 HX.out.2.1 hj16.2
            go_ret
            exact ⟨_, _, rfl, .ok j x htk rfl HX.out.2.2 hw, hoff.1, (Kp.of_below hB2).trans hoff.2⟩
          · have gw : x.f3 < now := by omega
            clear h hp hent hcell hx hat hh
            go_enter Tryz.func12, Tryz.ntmps12
            go_wp2_with (first
              | (go_at_call 35; refine (hTk _).mono ?_; rintro e w1 ⟨rfl, hd⟩)
              | (go_at_call 36; refine (hPr _).mono ?_; rintro e w2 ⟨rfl, hd2⟩; have hB2 := hd.below.trans (hd2.below.mono hd.below.size); have hl2 := hlk _ hB2; have c2 := (hB2.cell (World.block_lt_of_cell? w _ c1)).trans c1; obtain ⟨k2, k3, k4⟩ := hcj _ hB2))
            go_ret
            refine ⟨_, _, rfl, .no htk (fun i y hi hy => ?_), HT.out.below hB2, Kp.of_below hB2⟩
            obtain rfl : i = j := by omega
            rw [HX.out.2.2] at hy
            obtain rfl := Option.some.inj hy
            exact hw
    · rw [decide_eq_false hp] at hPr
      have hno : ∀ (j : Nat) x, (j : Int) = node → T s.data.toList j = some x → x.f3 < now := fun j x hj hx => by
        have := h.note _ _ _ hx
        omega
      have HN := Aside.mk hno
      clear h hp hno
      go_enter Tryz.func12, Tryz.ntmps12
      go_wp2_with (first
        | (go_at_call 35; refine (hTk _).mono ?_; rintro e w1 ⟨rfl, hd⟩)
        | (go_at_call 36; refine (hPr _).mono ?_; rintro e w2 ⟨rfl, hd2⟩; have hB2 := hd.below.trans (hd2.below.mono hd.below.size)))
      go_ret
      exact ⟨_, _, rfl, .no htk HN.out, HT.out.below hB2, Kp.of_below hB2⟩
end Go.Proofs.YtmimnlbkllgfpaaGreatDoor.Tb
