/- What stays as it is where the document's list is written; a table that may not be. -/
import Derived.Test.YtmimnlbkllgfpaaGreatDoorDg
import Derived.Test.YtmimnlbkllgfpaaGreatDoorCn
namespace Go.Proofs.YtmimnlbkllgfpaaGreatDoor.Tb
set_option linter.unusedVariables false
set_option linter.unusedSimpArgs false
open Go.RowKit Go.Maps Go.Proofs.YtmimnlbkllgfpaaGreatDoor.A Go.Proofs.YtmimnlbkllgfpaaGreatDoorW.PrintWords Go.Proofs.YtmimnlbkllgfpaaGreatDoor.Di Go.Proofs.YtmimnlbkllgfpaaGreatDoor.So

/-- Blocks that are the document's: its notes, its tables. -/
def docO : Obj → Bool
  | .cells _ t _ => t == 42 || t == 33
  | _ => false
theorem Tab.doc {W W' : World} {lo t bm n : Nat} {room : Int} {D : DataW Unit} {T : TT} (h : Tab W lo t bm n room D T) (hk : ∀ (k : Nat) (o : Obj), W.heap[k]? = some o → docO o = false → W'.heap[k]? = some o) : Tab W' lo t bm n room D T := by
  refine ⟨hk _ _ h.hdr rfl, ?_, h.lom, h.gone, fun s hs => ?_, h.inj, h.note⟩
  · obtain ⟨es, clock, h1, h2⟩ := h.own
    exact ⟨es, clock, hk _ _ h1 rfl, h2⟩
  · obtain ⟨b, h0, h1, cur, h2, h3, h4⟩ := h.ent s hs
    refine ⟨b, h0, h1, cur, hk _ _ h2 rfl, h3, fun j hj => ?_⟩
    rcases h4 j hj with h | ⟨n, nb, h5, h6, h7⟩
    · exact Or.inl h
    · exact Or.inr ⟨n, nb, h5, h6, hk _ _ h7 rfl⟩
/-- The block that a row of the document's notes owns. -/
theorem own42 {w : World} {base : Nat} {ok : Nat → Prop} {v : Value} {l : List S42} (h : Kd.R k42 42 w base ok v l) {k : Nat} (hk : v.ownBlock = some k) : ∃ cs, w.heap[k]? = some (.cells cs 42 (0, 0)) := by
  obtain ⟨inner, ho⟩ := Kd.R_own h
  rcases ho.2 with ⟨rfl, _⟩ | ⟨g, cap, cur, rfl, hg, hcur, _⟩
  · simp [Value.ownBlock] at hk
  · simp [Value.ownBlock] at hk
    subst hk
    exact ⟨cur, hcur⟩
theorem k42_move {w w' : World} {base base' : Nat} {ok ok' : Nat → Prop} {x : S42} {cs : List Value} (h : k42.M w base ok x cs) : k42.M w' base' ok' x cs := by
  obtain rfl := k42_open (Kd.K_of_M k42 h)
  exact k42_mkM _ _ _ x
/-- A row of the document's notes stays where its block stays. -/
theorem R42_keep {w w' : World} {base : Nat} {ok : Nat → Prop} {v : Value} {l : List S42} (h : Kd.R k42 42 w base ok v l) (hk : ∀ (k : Nat) (cs : Array Value), w.heap[k]? = some (.cells cs 42 (0, 0)) → w'.heap[k]? = some (.cells cs 42 (0, 0))) : Kd.R k42 42 w' base ok v l := by
  obtain ⟨h0, inner, ho, hr⟩ := h
  refine ⟨h0, inner, ⟨ho.1, ?_⟩, hr.imp_ (fun p c hp => k42_move hp)⟩
  rcases ho.2 with h | ⟨g, cap, cur, hv, hg, hcur, h4⟩
  · exact Or.inl h
  · exact Or.inr ⟨g, cap, cur, hv, hg, hk _ _ hcur, h4⟩
theorem R42_ok {w : World} {base : Nat} {ok ok' : Nat → Prop} {v : Value} {l : List S42} (h : Kd.R k42 42 w base ok v l) (hk : ∀ k, v.ownBlock = some k → ok' k) : Kd.R k42 42 w base ok' v l := by
  obtain ⟨h0, inner, ho, hr⟩ := h
  exact ⟨hk, inner, ho, hr.imp_ (fun p c hp => k42_move hp)⟩
/-- What is no note of the document's stays where only its list was written. -/
theorem kept_doc {w w' : World} {base : Nat} {ok : Nat → Prop} {v : Value} {l : List S42} (h : Kd.R k42 42 w base ok v l) (hK : Kept w w' (fun k => v.ownBlock = some k)) {k : Nat} {o : Obj} (ho : w.heap[k]? = some o) (h42 : ∀ cs, o ≠ .cells cs 42 (0, 0)) : w'.heap[k]? = some o := by
  refine (hK.2 k (lt_of_some ho) (fun hk => ?_)).trans ho
  obtain ⟨cs, h1⟩ := own42 h hk
  rw [h1] at ho
  exact h42 cs (Option.some.inj ho).symm
theorem doc_not42 {o : Obj} (h : docO o = false) : ∀ cs, o ≠ .cells cs 42 (0, 0) := by rintro cs rfl; cases h
/-- A store into a block of the document's. -/
theorem set_doc {w : World} {g : Nat} {cs : Array Value} (h : w.heap[g]? = some (.cells cs 33 (0, 0))) (j : Nat) (u : Value) {k : Nat} {o : Obj} (ho : w.heap[k]? = some o) (hd : ∀ cs, o ≠ .cells cs 33 (0, 0)) : (w.setCell ⟨g, j, none⟩ u).heap[k]? = some o := by
  rw [Below.heap_setCell w _ u k (by
    show k ≠ g
    rintro rfl
    rw [h] at ho
    exact hd cs (Option.some.inj ho).symm)]
  exact ho
theorem doc_not33 {o : Obj} (h : docO o = false) : ∀ cs, o ≠ .cells cs 33 (0, 0) := by rintro cs rfl; cases h
set_option maxRecDepth 100000 in
/-- A table of no room. -/
theorem new_none (room : Int) (w : World) (h : room < 1 ∨ 64 < room) : Calls Tryz.prog 7 #[.int .i64 room] w fun e w' => e = .returned (.pointer none) ∧ Below w.heap.size w w' := by
  rcases h with h | h
  · go_enter Tryz.func7, Tryz.ntmps7
    go_wp2
    go_ret
    exact ⟨rfl, Below.refl _ _⟩
  · have g1 : ¬ room < 1 := by omega
    have g2 : room > 64 := h
    go_enter Tryz.func7, Tryz.ntmps7
    go_wp2
    go_ret
    exact ⟨rfl, Below.refl _ _⟩
/-- Nothing is told of a table of no notes. -/
theorem dc_none : Dc noT [] := ⟨fun y => ⟨fun h => (by cases h), fun h => (by cases h)⟩, List.Pairwise.nil⟩
end Go.Proofs.YtmimnlbkllgfpaaGreatDoor.Tb
/- One step of a table, in the program and in the document. -/
namespace Go.Proofs.YtmimnlbkllgfpaaGreatDoor.Tb
set_option linter.unusedVariables false
set_option linter.unusedSimpArgs false
open Go.RowKit Go.Maps Go.Proofs.YtmimnlbkllgfpaaGreatDoor.A Go.Proofs.YtmimnlbkllgfpaaGreatDoorW.PrintWords Go.Proofs.YtmimnlbkllgfpaaGreatDoor.Di Go.Proofs.YtmimnlbkllgfpaaGreatDoor.So

theorem ann_ex {W : World} {lo t bm n : Nat} {rm : Int} {D : DataW Unit} {T : TT} (hT : Tab W lo t bm n rm D T) (x : Nt) (now : Int) : ∃ c T', Ann rm x now T c T' := by
  cases hm : mayB x now with
  | false => exact ⟨_, _, .arg hm⟩
  | true =>
    by_cases hN : nodesL T (nameS x) now = []
    · by_cases hF : rm ≤ ((namesL T now D).length : Nat)
      · exact ⟨_, _, .full _ hm hN (namesAre hT now) hF⟩
      · exact ⟨_, _, .ok hm (Or.inr ⟨_, namesAre hT now, by omega⟩)⟩
    · exact ⟨_, _, .ok hm (Or.inl hN)⟩
theorem ann_det {rm : Int} {x : Nt} {now : Int} {T T1 T2 : TT} {c1 c2 : Int} (h : Ann rm x now T c1 T1) (k : Ann rm x now T c2 T2) : c2 = c1 ∧ T2 = T1 := by
  have no : ∀ ss, nodesL T (nameS x) now = [] → NamesAre T now ss → rm ≤ ss.length → (nodesL T (nameS x) now ≠ [] ∨ ∃ ss, NamesAre T now ss ∧ (ss.length : Int) < rm) → False := fun ss h1 h2 h3 h4 => by
    rcases h4 with h4 | ⟨ss', h5, h6⟩
    · exact h4 h1
    · have := h2.length h5; omega
  cases h with
  | arg h =>
    cases k with
    | arg _ => exact ⟨rfl, rfl⟩
    | full _ k _ _ _ => rw [h] at k; cases k
    | ok k _ => rw [h] at k; cases k
  | full ss h h1 h2 h3 =>
    cases k with
    | arg k => rw [h] at k; cases k
    | full _ k _ _ _ => exact ⟨rfl, rfl⟩
    | ok k k1 => exact (no ss h1 h2 h3 k1).elim
  | ok h h1 =>
    cases k with
    | arg k => rw [h] at k; cases k
    | full ss k k1 k2 k3 => exact (no ss k1 k2 k3 h1).elim
    | ok k _ => exact ⟨rfl, rfl⟩
theorem lev_ex (s : List UInt8) (node now : Int) (T : TT) : ∃ c T', Lev s node now T c T' := by
  cases htk : tickB now with
  | false => exact ⟨_, _, .arg htk⟩
  | true =>
    rcases Classical.em (∃ (j : Nat) (x : Nt), (j : Int) = node ∧ T s j = some x ∧ now ≤ x.f3) with ⟨j, x, h1, h2, h3⟩ | h
    · exact ⟨_, _, .ok j x htk h1 h2 h3⟩
    · refine ⟨_, _, .no htk (fun j x h1 h2 => ?_)⟩
      rcases Int.lt_or_le x.f3 now with q | q
      · exact q
      · exact (h ⟨j, x, h1, h2, q⟩).elim
theorem lev_det {s : List UInt8} {node now : Int} {T T1 T2 : TT} {c1 c2 : Int} (h : Lev s node now T c1 T1) (k : Lev s node now T c2 T2) : c2 = c1 ∧ T2 = T1 := by
  cases h with
  | arg h =>
    cases k with
    | arg _ => exact ⟨rfl, rfl⟩
    | no k _ => rw [h] at k; cases k
    | ok _ _ k _ _ _ => rw [h] at k; cases k
  | no h h1 =>
    cases k with
    | arg k => rw [h] at k; cases k
    | no _ _ => exact ⟨rfl, rfl⟩
    | ok j x k k1 k2 k3 => have := h1 j x k1 k2; omega
  | ok j x h h1 h2 h3 =>
    cases k with
    | arg k => rw [h] at k; cases k
    | no k k1 => have := k1 j x h1 h2; omega
    | ok _ _ _ _ _ _ => exact ⟨rfl, rfl⟩
/-- The table, the document's list in its box, and the act. -/
structure Dy (wB : World) (t bm n : Nat) (room : Int) (rb ab : Nat) (x : S37) (vr : Value) (w : World) (D : DataW Unit) (T : TT) (v : Value) (L : List S42) : Prop where
  tab : Tab w wB.heap.size t bm n room D T
  bel : Below wB.heap.size wB w
  rblk : w.heap[rb]? = some (.cells #[.int .i64 room, vr] 33 (0, 0))
  ablk : w.heap[ab]? = some (.cells #[.int .i64 x.f0, .int .i64 x.f1, .string x.f2.f0, .int .i64 x.f2.f1, .int .i64 x.f2.f2.f0, .int .i64 x.f2.f2.f1, .int .i64 x.f2.f3] 37 (0, 0))
  row : Kd.R k42 42 w wB.heap.size (fun _ => True) v L
  okT : OkT T
  doc : Dc T L
  few : L.length ≤ n
section
variable {wB w w' : World} {t bm n : Nat} {room : Int} {rb ab : Nat} {x : S37} {vr v : Value} {D : DataW Unit} {T : TT} {L : List S42}
theorem Dy.below (h : Dy wB t bm n room rb ab x vr w D T v L) (hb : Below w.heap.size w w') : Dy wB t bm n room rb ab x vr w' D T v L :=
  ⟨h.tab.below hb, h.bel.trans (hb.mono h.bel.size), blk_below h.rblk hb, blk_below h.ablk hb, Kd.R_below h.row hb, h.okT, h.doc, h.few⟩
theorem Dy.note (h : Dy wB t bm n room rb ab x vr w D T v L) : NoteOk T := fun s j x hx => h.tab.note s j x hx
/-- The document announces. -/
theorem Dy.ann (h : Dy wB t bm n room rb ab x v w D T v L) (hn : n ≤ 800) {c : Int} {T' : TT} (hA : Ann room x.f2 x.f1 T c T') :
    ∃ L', mosaicref31_Table_Announce.f 3000 room L x.f2.f0 x.f2.f1 x.f2.f2.f0 x.f2.f2.f1 x.f2.f3 x.f1 = some (room, L', c) ∧ Dc T' L' ∧ L'.length ≤ n + 1 := by
  obtain ⟨L', hf, hd, hl⟩ := dann h.tab h.doc (by have := h.few; omega) hA 3000 (Nat.le_refl _)
  exact ⟨L', hf, hd, by have := h.few; omega⟩
theorem Dy.annC (h : Dy wB t bm n room rb ab x v w D T v L) {c : Int} {L' : List S42} (hf : mosaicref31_Table_Announce.f 3000 room L x.f2.f0 x.f2.f1 x.f2.f2.f0 x.f2.f2.f1 x.f2.f3 x.f1 = some (room, L', c)) :
    Calls Tryz.prog 8 #[.agg #[.int .i64 room, v], .agg #[.string x.f2.f0, .int .i64 x.f2.f1, .int .i64 x.f2.f2.f0, .int .i64 x.f2.f2.f1, .int .i64 x.f2.f3], .int .i64 x.f1] w fun e w' => ∃ v', e = .returned (.tuple #[.agg #[.int .i64 room, v'], .int .i64 c]) ∧ Tab w' wB.heap.size t bm n room D T ∧ Below wB.heap.size wB w' ∧ w'.heap[rb]? = some (.cells #[.int .i64 room, v] 33 (0, 0)) ∧ w'.heap[ab]? = w.heap[ab]? ∧ Kd.R k42 42 w' wB.heap.size (fun _ => True) v' L' ∧ w.heap.size ≤ w'.heap.size ∧ ∀ (k : Nat) (o : Obj), w.heap[k]? = some o → (∀ cs, o ≠ .cells cs 42 (0, 0)) → w'.heap[k]? = some o := by
  have hR := R42_ok h.row (ok' := fun k => v.ownBlock = some k) (fun k hk => hk)
  refine (mosaicref31_Table_Announce.calls 3000 room (fun k => v.ownBlock = some k) v L x.f2.f0 x.f2.f1 x.f2.f2.f0 x.f2.f2.f1 x.f2.f3 x.f1 room L' c wB w h.bel hR hf).mono ?_
  rintro e w' ⟨v', rfl, hR', hB', hK⟩
  have key : ∀ (k : Nat) (o : Obj), w.heap[k]? = some o → (∀ cs, o ≠ .cells cs 42 (0, 0)) → w'.heap[k]? = some o := fun k o ho h42 => kept_doc h.row hK ho h42
  exact ⟨v', rfl, h.tab.doc (fun k o ho hd => key k o ho (doc_not42 hd)), hB', key _ _ h.rblk (fun cs h => by cases h), (key _ _ h.ablk (fun cs h => by cases h)).trans h.ablk.symm, R42_ok hR' (fun _ _ => trivial), hK.1, key⟩
/-- The document lets go. -/
theorem Dy.lev (h : Dy wB t bm n room rb ab x v w D T v L) (hn : n ≤ 800) {c : Int} {T' : TT} (hA : Lev x.f2.f0.data.toList x.f2.f1 x.f1 T c T') :
    ∃ L', mosaicref31_Table_Leave.f 3000 room L x.f2.f0 x.f2.f1 x.f1 = some (room, L', c) ∧ Dc T' L' ∧ L'.length ≤ n + 1 := by
  obtain ⟨L', hf, hd, hl⟩ := dleave h.tab h.doc (by have := h.few; omega) hA 3000 (Nat.le_refl _)
  exact ⟨L', hf, hd, by have := h.few; omega⟩
theorem Dy.levC (h : Dy wB t bm n room rb ab x v w D T v L) {c : Int} {L' : List S42} (hf : mosaicref31_Table_Leave.f 3000 room L x.f2.f0 x.f2.f1 x.f1 = some (room, L', c)) :
    Calls Tryz.prog 11 #[.agg #[.int .i64 room, v], .string x.f2.f0, .int .i64 x.f2.f1, .int .i64 x.f1] w fun e w' => ∃ v', e = .returned (.tuple #[.agg #[.int .i64 room, v'], .int .i64 c]) ∧ Tab w' wB.heap.size t bm n room D T ∧ Below wB.heap.size wB w' ∧ w'.heap[rb]? = some (.cells #[.int .i64 room, v] 33 (0, 0)) ∧ w'.heap[ab]? = w.heap[ab]? ∧ Kd.R k42 42 w' wB.heap.size (fun _ => True) v' L' ∧ w.heap.size ≤ w'.heap.size ∧ ∀ (k : Nat) (o : Obj), w.heap[k]? = some o → (∀ cs, o ≠ .cells cs 42 (0, 0)) → w'.heap[k]? = some o := by
  have hR := R42_ok h.row (ok' := fun k => v.ownBlock = some k) (fun k hk => hk)
  refine (mosaicref31_Table_Leave.calls 3000 room (fun k => v.ownBlock = some k) v L x.f2.f0 x.f2.f1 x.f1 room L' c wB w h.bel hR hf).mono ?_
  rintro e w' ⟨v', rfl, hR', hB', hK⟩
  have key : ∀ (k : Nat) (o : Obj), w.heap[k]? = some o → (∀ cs, o ≠ .cells cs 42 (0, 0)) → w'.heap[k]? = some o := fun k o ho h42 => kept_doc h.row hK ho h42
  exact ⟨v', rfl, h.tab.doc (fun k o ho hd => key k o ho (doc_not42 hd)), hB', key _ _ h.rblk (fun cs h => by cases h), (key _ _ h.ablk (fun cs h => by cases h)).trans h.ablk.symm, R42_ok hR' (fun _ _ => trivial), hK.1, key⟩
/-- The list's box takes the new list. -/
theorem box_set {g : Nat} {r0 : Int} {u u' : Value} (hg : w.heap[g]? = some (.cells #[.int .i64 r0, u] 33 (0, 0))) (r1 : Int) : ((w.setCell ⟨g, 0, none⟩ (.int .i64 r1)).setCell ⟨g, 1, none⟩ u').heap[g]? = some (.cells #[.int .i64 r1, u'] 33 (0, 0)) :=
  blk_put (blk_put hg 0 (.int .i64 r1) rfl) 1 u' rfl
theorem box_far {g : Nat} {r0 : Int} {u u' : Value} (hg : w.heap[g]? = some (.cells #[.int .i64 r0, u] 33 (0, 0))) (r1 : Int) {k : Nat} {o : Obj} (ho : w.heap[k]? = some o) (hd : ∀ cs, o ≠ .cells cs 33 (0, 0)) : ((w.setCell ⟨g, 0, none⟩ (.int .i64 r1)).setCell ⟨g, 1, none⟩ u').heap[k]? = some o :=
  set_doc (blk_put hg 0 (.int .i64 r1) rfl) 1 u' (set_doc hg 0 (.int .i64 r1) ho hd) hd
theorem box_keep {g k : Nat} (u u' : Value) (hne : k ≠ g) : ((w.setCell ⟨g, 0, none⟩ u).setCell ⟨g, 1, none⟩ u').heap[k]? = w.heap[k]? := by
  rw [Below.heap_setCell _ _ u' k hne, Below.heap_setCell _ _ u k hne]
/-- A list's box is written: all else stays. -/
theorem box_all {g : Nat} {r0 : Int} {u u' v' : Value} {L' : List S42} (hg : w.heap[g]? = some (.cells #[.int .i64 r0, u] 33 (0, 0))) (r1 : Int) (hgl : wB.heap.size ≤ g)
    (hT : Tab w wB.heap.size t bm n room D T) (hB : Below wB.heap.size wB w) (hR : Kd.R k42 42 w wB.heap.size (fun _ => True) v' L')
    (ha : w.heap[ab]? = some (.cells #[.int .i64 x.f0, .int .i64 x.f1, .string x.f2.f0, .int .i64 x.f2.f1, .int .i64 x.f2.f2.f0, .int .i64 x.f2.f2.f1, .int .i64 x.f2.f3] 37 (0, 0))) {W : World} (hW : W = ((w.setCell ⟨g, 0, none⟩ (.int .i64 r1)).setCell ⟨g, 1, none⟩ u')) :
    Tab W wB.heap.size t bm n room D T ∧ Below wB.heap.size wB W ∧ Kd.R k42 42 W wB.heap.size (fun _ => True) v' L' ∧ W.heap[ab]? = some (.cells #[.int .i64 x.f0, .int .i64 x.f1, .string x.f2.f0, .int .i64 x.f2.f1, .int .i64 x.f2.f2.f0, .int .i64 x.f2.f2.f1, .int .i64 x.f2.f3] 37 (0, 0)) ∧ W.heap[g]? = some (.cells #[.int .i64 r1, u'] 33 (0, 0)) := by
  subst hW
  exact ⟨hT.doc (fun k o ho hd => box_far hg r1 ho (doc_not33 hd)), (hB.setCell (p := ⟨g, 0, none⟩) hgl (.int .i64 r1)).setCell (p := ⟨g, 1, none⟩) hgl u', R42_keep hR (fun k cs hk => box_far hg r1 hk (fun cs h => by cases h)), box_far hg r1 ha (fun cs h => by cases h), box_set hg r1⟩
/-- The program's step behind the document's. -/
theorem Dy.step {lo : Nat} {T' : TT} {D' : DataW Unit} {m : Nat} {v' : Value} {L' : List S42} (hlo : lo = wB.heap.size) (hB : Below wB.heap.size wB w) (hr : w.heap[rb]? = some (.cells #[.int .i64 room, v'] 33 (0, 0)))
    (ha : w.heap[ab]? = some (.cells #[.int .i64 x.f0, .int .i64 x.f1, .string x.f2.f0, .int .i64 x.f2.f1, .int .i64 x.f2.f2.f0, .int .i64 x.f2.f2.f1, .int .i64 x.f2.f3] 37 (0, 0)))
    (hR : Kd.R k42 42 w wB.heap.size (fun _ => True) v' L') (hT : Tab w' lo t bm m room D' T') (hK : Kp lo w w') (hO : OkT T') (hD : Dc T' L') (hl : L'.length ≤ m) : Dy wB t bm m room rb ab x v' w' D' T' v' L' := by
  subst hlo
  exact ⟨hT, hK.below (Nat.le_refl _) hB hB.size, hK.oth _ _ hr rfl, hK.oth _ _ ha rfl, R42_keep hR (fun k cs hk => hK.oth _ _ hk rfl), hO, hD, hl⟩
theorem Lev.okT {s : List UInt8} {node now c : Int} {T T' : TT} (h : Lev s node now T c T') (hO : OkT T) : OkT T' := by
  cases h with
  | arg _ => exact hO
  | no _ _ => exact hO
  | ok j x _ _ _ _ =>
    intro s' i y hy
    unfold offT at hy
    split at hy
    · cases hy
    · exact hO s' i y hy
end
end Go.Proofs.YtmimnlbkllgfpaaGreatDoor.Tb
/- Find and Link, whatever is asked: the program's answers are the document's. -/
namespace Go.Proofs.YtmimnlbkllgfpaaGreatDoor.Tb
set_option linter.unusedVariables false
set_option linter.unusedSimpArgs false
open Go.RowKit Go.Maps Go.Proofs.YtmimnlbkllgfpaaGreatDoor.A Go.Proofs.YtmimnlbkllgfpaaGreatDoorW.PrintWords Go.Proofs.YtmimnlbkllgfpaaGreatDoor.Di Go.Proofs.YtmimnlbkllgfpaaGreatDoor.So Go.Proofs.YtmimnlbkllgfpaaGreatDoor.Hand

theorem find_err {T : TT} {s : List UInt8} {a : Int × Int} {k now : Int} (hn : ¬ (tickB now = true ∧ okP a = true ∧ 0 ≤ k ∧ nodesL T s now ≠ [])) : (findL T s a k now).2 = 1 ∨ (findL T s a k now).2 = 4 := by
  unfold findL
  split
  · next h =>
    rw [if_pos (Classical.byContradiction fun q => hn ⟨h.1, h.2.1, h.2.2, q⟩)]
    exact Or.inr rfl
  · exact Or.inl rfl
section
variable {wB w : World} {t bm n : Nat} {room : Int} {rb ab : Nat} {x : S37} {vr v : Value} {D : DataW Unit} {T : TT} {L : List S42}
theorem Dy.find (h : Dy wB t bm n room rb ab x vr w D T v L) (s : ByteArray) (hs : s.size ≤ maxLen) (a : Int × Int) (k now : Int) :
    Calls Tryz.prog 13 #[.pointer (some ⟨t, 0, none⟩), .string s, .agg #[.int .i64 a.1, .int .i64 a.2], .int .i64 k, .int .i64 now] w fun e w' => ∃ u, e = .returned (.tuple #[u, .int .i64 (findL T s.data.toList a k now).2]) ∧ Kd.R (Kd.int .i64) 3 w' w.heap.size (fun _ => True) u (findL T s.data.toList a k now).1 ∧ Below w.heap.size w w' := by
  by_cases hg : tickB now = true ∧ okP a = true ∧ 0 ≤ k ∧ nodesL T s.data.toList now ≠ []
  · have hF : findL T s.data.toList a k now = (foundL (nodesL T s.data.toList now) a k.toNat, 0) := by
      unfold findL
      rw [if_pos ⟨hg.1, hg.2.1, hg.2.2.1⟩, if_neg hg.2.2.2]
    rw [hF]
    exact find_some s hs a k now w h.tab h.okT hg.1 hg.2.1 hg.2.2.1 hg.2.2.2
  · refine (find_none s hs a k now w h.tab hg).mono ?_
    rintro e w' ⟨rfl, h1, hb⟩
    rw [h1]
    exact ⟨_, rfl, Kd.R_nil _ _ _ _ _, hb⟩
theorem Dy.dfind (h : Dy wB t bm n room rb ab x vr w D T v L) (hn : n ≤ 800) (s : ByteArray) (a : Int × Int) (k now : Int) : mosaicref31_Table_Find.f 9000 room L s a.1 a.2 k now = some (findL T s.data.toList a k now) :=
  Tb.dfind h.note h.okT h.doc (by have := h.few; omega) room s a k now 9000 (by omega)
/-- A link: one answer. -/
theorem Dy.link (h : Dy wB t bm n room rb ab x vr w D T v L) (hn : n ≤ 800) (s ti : ByteArray) (hs : s.size ≤ maxLen) (a : Int × Int) (now : Int) :
    ∃ u c, mosaicref31_Table_Link.f 9000 room L s ti a.1 a.2 now = some (u, c) ∧ ∀ W, Dy wB t bm n room rb ab x vr W D T v L → TabW W → Calls Tryz.prog 16 #[.pointer (some ⟨t, 0, none⟩), .string s, .string ti, .agg #[.int .i64 a.1, .int .i64 a.2], .int .i64 now] W fun e w' => e = .returned (.tuple #[.string u, .int .i64 c]) ∧ Below W.heap.size W w' := by
  have hfew : L.length ≤ 900 := by have := h.few; omega
  by_cases hg : tickB now = true ∧ okP a = true ∧ (0 : Int) ≤ 6 ∧ nodesL T s.data.toList now ≠ []
  · obtain ⟨u, c, hT, _⟩ := Tx.text_eq s ti (lkN (nodesL T s.data.toList now) (foundL (nodesL T s.data.toList now) a 6)) (lkP (nodesL T s.data.toList now) (foundL (nodesL T s.data.toList now) a 6)) 6000 (by omega)
    refine ⟨u, c, ?_, fun W hW hL => link_some s ti hs a now W hW.tab hW.okT hL hg.1 hg.2.1 hg.2.2.2 6000 u c hT⟩
    rw [dlink_some h.note h.okT h.doc hfew room s ti a now 9000 (by omega) hg.1 hg.2.1 hg.2.2.2]
    exact hT
  · have hE := find_err hg
    have hE0 : (findL T s.data.toList a 6 now).2 ≠ 0 := by rcases hE with hE | hE <;> (rw [hE]; decide)
    exact ⟨_, _, dlink_none h.note h.okT h.doc hfew room s ti a now 9000 (by omega) hE0, fun W hW hL => link_none s ti hs a now W hW.tab hg hE0⟩
theorem Dy.nodesC (h : Dy wB t bm n room rb ab x vr w D T v L) (hn : n ≤ 800) {A : Option Addr} {c : Nat} (hv : v = .slice A L.length c) (s : ByteArray) (now : Int) :
    Calls Tryz.prog 21 #[.agg #[.int .i64 room, .slice A L.length c], .string s, .int .i64 now] w fun e w' => ∃ u : Value, e = .returned u ∧ Kd.R k42 42 w' w.heap.size (fun _ => True) u ((nodesL T s.data.toList now).map dN) ∧ Below w.heap.size w w' := by
  obtain ⟨A', c', h1, h2, h3⟩ := Kd.R_reads h.row
  rw [hv] at h1
  injection h1 with e1 _ e2
  subst e1
  subst e2
  exact mosaicref31_Table_Nodes.calls 2000 room A c L s now _ w h3 h2 (dnodes_eq h.note h.doc (by have := h.few; omega) room s now 2000 (by have := h.few; omega))
theorem Dy.namesC (h : Dy wB t bm n room rb ab x vr w D T v L) (hn : n ≤ 800) {A : Option Addr} {c : Nat} (hv : v = .slice A L.length c) (now : Int) :
    Calls Tryz.prog 24 #[.agg #[.int .i64 room, .slice A L.length c], .int .i64 now] w fun e w' => ∃ u : Value, e = .returned u ∧ Kd.R Kd.string 9 w' w.heap.size (fun _ => True) u ((namesL T now D).map ba) ∧ Below w.heap.size w w' := by
  obtain ⟨A', c', h1, h2, h3⟩ := Kd.R_reads h.row
  rw [hv] at h1
  injection h1 with e1 _ e2
  subst e1
  subst e2
  exact mosaicref31_Table_Names.calls 2000 room A c L now _ w h3 h2 (dnames h.tab h.doc (by have := h.few; omega) room now 2000 (by have := h.few; omega))
theorem Dy.findC (h : Dy wB t bm n room rb ab x vr w D T v L) (hn : n ≤ 800) {A : Option Addr} {c : Nat} (hv : v = .slice A L.length c) (s : ByteArray) (a : Int × Int) (k now : Int) :
    Calls Tryz.prog 14 #[.agg #[.int .i64 room, .slice A L.length c], .string s, .agg #[.int .i64 a.1, .int .i64 a.2], .int .i64 k, .int .i64 now] w fun e w' => ∃ u : Value, e = .returned (.tuple #[u, .int .i64 (findL T s.data.toList a k now).2]) ∧ Kd.R (Kd.int .i64) 3 w' w.heap.size (fun _ => True) u (findL T s.data.toList a k now).1 ∧ Below w.heap.size w w' := by
  obtain ⟨A', c', h1, h2, h3⟩ := Kd.R_reads h.row
  rw [hv] at h1
  injection h1 with e1 _ e2
  subst e1
  subst e2
  exact mosaicref31_Table_Find.calls 9000 room A c L s a.1 a.2 k now _ _ w h3 h2 (h.dfind hn s a k now)
theorem Dy.linkC (h : Dy wB t bm n room rb ab x vr w D T v L) {A : Option Addr} {c : Nat} (hv : v = .slice A L.length c) (s ti : ByteArray) (a : Int × Int) (now : Int) {u : ByteArray} {e : Int} (hf : mosaicref31_Table_Link.f 9000 room L s ti a.1 a.2 now = some (u, e)) :
    Calls Tryz.prog 17 #[.agg #[.int .i64 room, .slice A L.length c], .string s, .string ti, .agg #[.int .i64 a.1, .int .i64 a.2], .int .i64 now] w fun x w' => x = .returned (.tuple #[.string u, .int .i64 e]) ∧ Below w.heap.size w w' := by
  obtain ⟨A', c', h1, h2, h3⟩ := Kd.R_reads h.row
  rw [hv] at h1
  injection h1 with e1 _ e2
  subst e1
  subst e2
  exact mosaicref31_Table_Link.calls 9000 room A c L s ti a.1 a.2 now u e w h3 h2 hf
/-- How many are found. -/
theorem findL_len (T : TT) (s : List UInt8) (a : Int × Int) (k now : Int) : (findL T s a k now).1.length ≤ 16 := by
  unfold findL
  split
  · split
    · simp
    · show (foundL _ _ _).length ≤ 16
      rw [found_len]
      have := nodesL_le T s now
      omega
  · simp
theorem Dy.names_few (h : Dy wB t bm n room rb ab x vr w D T v L) (hn : n ≤ 800) (now : Int) : ((namesL T now D).map ba).length ≤ 900 := by
  have hf : L.length ≤ 900 := by have := h.few; omega
  have h1 := dnames h.tab h.doc (by omega) room now 2000 (by omega)
  unfold mosaicref31_Table_Names.f at h1
  cases htk : tickB now with
  | false =>
    have h0 : mosaicref31_Table_Names.l0 2000 now [] 0 room L = some [] := names_off L (by omega) room now htk L.length 0 2000 (by omega) (by omega)
    rw [h0] at h1
    rw [← Option.some.inj h1]; simp
  | true =>
    obtain ⟨r, hr, _, hl⟩ := names_l0 L h.doc.srt (by omega) room now htk L.length 0 2000 [] (by omega) (by omega) (by simp) ⟨List.Pairwise.nil, fun z h => (by cases h), fun y h => (by simp at h)⟩
    have hr' : mosaicref31_Table_Names.l0 2000 now [] 0 room L = some r := hr
    rw [hr'] at h1
    rw [← Option.some.inj h1]; omega
end
end Go.Proofs.YtmimnlbkllgfpaaGreatDoor.Tb
