/- Tables that are written: what stays. -/
import Derived.Test.YtmimnlbkllgfpaaGreatDoorNm
import Derived.ChangeKeysEq
namespace Go.Proofs.YtmimnlbkllgfpaaGreatDoor.Tb
set_option linter.unusedVariables false
set_option linter.unusedSimpArgs false
open Go.RowKit Go.Maps Go.Proofs.YtmimnlbkllgfpaaGreatDoor.A Go.Proofs.YtmimnlbkllgfpaaGreatDoorW.PrintWords

/-- Blocks that a table may write: entries and maps. -/
def tabO : Obj → Bool
  | .cells _ t _ => t == 87
  | .map _ _ => true
  | .mapIter _ _ _ _ => true
  | _ => false
/-- What lies below lo stays, and all that is no entry and no map. -/
structure Kp (lo : Nat) (w w' : World) : Prop where
  os : w'.os = w.os
  tape : w'.tape = w.tape
  output : w'.output = w.output
  size : w.heap.size ≤ w'.heap.size
  low : ∀ k : Nat, k < lo → k < w.heap.size → w'.heap[k]? = w.heap[k]?
  oth : ∀ (k : Nat) (o : Obj), w.heap[k]? = some o → tabO o = false → w'.heap[k]? = some o
theorem lt_of_some {w : World} {k : Nat} {o : Obj} (h : w.heap[k]? = some o) : k < w.heap.size := (Array.getElem?_eq_some_iff.1 h).1
theorem Kp.trans {lo : Nat} {a b c : World} (h : Kp lo a b) (k : Kp lo b c) : Kp lo a c :=
  ⟨k.os.trans h.os, k.tape.trans h.tape, k.output.trans h.output, Nat.le_trans h.size k.size, fun i hi hs => (k.low i hi (Nat.lt_of_lt_of_le hs h.size)).trans (h.low i hi hs), fun i o hi ho => k.oth i o (h.oth i o hi ho) ho⟩
theorem Kp.of_below {lo : Nat} {w w' : World} (h : Below w.heap.size w w') : Kp lo w w' :=
  ⟨h.os, h.tape, h.output, h.size, fun k _ hs => h.block k hs, fun k o ho _ => (h.block k (lt_of_some ho)).trans ho⟩
theorem Kp.of_grown {lo b : Nat} {w w' : World} {o : Obj} (h : w.grownBy w' (some b)) (hlo : lo ≤ b) (hb : w.heap[b]? = some o) (ho : tabO o = true) : Kp lo w w' :=
  ⟨h.os, h.tape, h.output, h.size, fun k hk hs => h.block k hs (fun e => by cases e; omega), fun k o' hk hk' => (h.block k (lt_of_some hk) (fun e => by cases e; rw [hb] at hk; cases hk; rw [ho] at hk'; cases hk')).trans hk⟩
theorem setCell_at {w : World} {b j : Nat} {cur : Array Value} {t : Nat} (h : w.heap[b]? = some (.cells cur t (0, 0))) (v : Value) : (w.setCell ⟨b, j, none⟩ v).heap[b]? = some (.cells (cur.setIfInBounds j v) t (0, 0)) := by
  show (w.heap.modify b _)[b]? = _
  rw [Array.getElem?_modify, if_pos rfl, h]; rfl
theorem Kp.set {lo b j : Nat} {w : World} {cur : Array Value} (hlo : lo ≤ b) (h : w.heap[b]? = some (.cells cur 87 (0, 0))) (v : Value) : Kp lo w (w.setCell ⟨b, j, none⟩ v) :=
  ⟨rfl, rfl, rfl, by simp [World.setCell], fun k hk _ => Below.heap_setCell w _ v k (by show k ≠ b; omega), fun k o hk ho => by
    rw [Below.heap_setCell w _ v k (by
      show k ≠ b
      rintro rfl
      rw [h] at hk; cases hk; cases ho)]
    exact hk⟩
theorem Ent.put {W : World} {b j : Nat} {f : Nat → Option Nt} (h : Ent W b f) (hj : j < 16) (o : Option Nt) (p : Option Addr) (hp : (o = none ∧ p = none) ∨ ∃ n nb, o = some n ∧ p = some ⟨nb, 0, none⟩ ∧ W.heap[nb]? = some (.cells (ntC n) 35 (0, 0))) :
    Ent (W.setCell ⟨b, j, none⟩ (.pointer p)) b (fun i => if i = j then o else f i) := by
  obtain ⟨cur, hb, hs, hf⟩ := h
  have other : ∀ (nb : Nat) (n : Nt), W.heap[nb]? = some (Obj.cells (ntC n) 35 (0, 0)) → (W.setCell ⟨b, j, none⟩ (.pointer p)).heap[nb]? = some (Obj.cells (ntC n) 35 (0, 0)) := fun nb n hn => by
    rw [Below.heap_setCell W _ _ nb (by show nb ≠ b; rintro rfl; rw [hb] at hn; cases hn)]; exact hn
  refine ⟨cur.setIfInBounds j (.pointer p), setCell_at hb _, by simpa using hs, fun i hi => ?_⟩
  by_cases e : i = j
  · subst e
    simp only [if_true]
    rw [Array.getElem?_setIfInBounds_self_of_lt (by omega)]
    rcases hp with ⟨rfl, rfl⟩ | ⟨n, nb, rfl, rfl, hn⟩
    · exact Or.inl ⟨rfl, rfl⟩
    · exact Or.inr ⟨n, nb, rfl, rfl, other nb n hn⟩
  · simp only [if_neg e]
    rw [Array.getElem?_setIfInBounds_ne (fun h => e h.symm)]
    rcases hf i hi with h | ⟨n, nb, h1, h2, h3⟩
    · exact Or.inl h
    · exact Or.inr ⟨n, nb, h1, h2, other nb n h3⟩
theorem Ent.ext {W : World} {b : Nat} {f g : Nat → Option Nt} (h : Ent W b f) (hfg : ∀ j, j < 16 → f j = g j) : Ent W b g := by
  obtain ⟨cur, hb, hs, hf⟩ := h
  exact ⟨cur, hb, hs, fun j hj => by rw [← hfg j hj]; exact hf j hj⟩
/-- Another entry stays as it is where only block b was written. -/
theorem Ent.other {W W' : World} {b b' : Nat} {f : Nat → Option Nt} (h : Ent W b' f) (hne : b' ≠ b) (hk : ∀ k, k < W.heap.size → k ≠ b → W'.heap[k]? = W.heap[k]?) (hb : ∀ n, W.heap[b]? ≠ some (.cells (ntC n) 35 (0, 0))) : Ent W' b' f := by
  obtain ⟨cur, hb', hs, hf⟩ := h
  refine ⟨cur, (hk b' (lt_of_some hb') hne).trans hb', hs, fun j hj => ?_⟩
  rcases hf j hj with h | ⟨n, nb, h1, h2, h3⟩
  · exact Or.inl h
  · exact Or.inr ⟨n, nb, h1, h2, (hk nb (lt_of_some h3) (fun e => hb n (e ▸ h3))).trans h3⟩
/-- What does not count any more goes. -/
def swp (now : Int) : Option Nt → Option Nt
  | some x => if x.f3 < now then none else some x
  | none => none
/-- The entry's pointers. -/
theorem Ent.ptrs {W : World} {b : Nat} {f : Nat → Option Nt} (h : Ent W b f) : ∃ pe : Nat → Option Addr, (∀ j, j < 16 → W.cell? ⟨b, j, none⟩ = some (.pointer (pe j))) ∧ ∀ j, j < 16 → ((pe j).isNone = true ↔ f j = none) := by
  obtain ⟨cur, hb, hs, hf⟩ := h
  refine ⟨fun j => match cur[j]? with | some (.pointer p) => p | _ => none, fun j hj => ?_, fun j hj => ?_⟩
  · rw [blk_cell hb j]
    rcases hf j hj with ⟨_, h2⟩ | ⟨n, nb, _, h2, _⟩
    all_goals simp only [h2]
  · rcases hf j hj with ⟨h1, h2⟩ | ⟨n, nb, h1, h2, _⟩
    · rw [h1]; simp [h2]
    · rw [h1]; simp [h2]
theorem eqItems_nil (d : Nat) (W : World) (xs ys : Array Value) (p : Nat → Option Addr) : ∀ is : List Nat, (∀ i ∈ is, xs[i]? = some (.pointer (p i)) ∧ ys[i]? = some (.pointer none)) →
    (Op.eqItems (d + 1) 85 1 xs ys is).run Tryz.prog W = .ok (is.all (fun i => (p i).isNone)) W
  | [], _ => by simp [Op.eqItems]
  | i :: is, h => by
    have ih := eqItems_nil d W xs ys p is (fun j hj => h j (by simp [hj]))
    obtain ⟨h1, h2⟩ := h i (by simp)
    have px : (part 85 xs (i * 1)).run Tryz.prog W = .ok (.pointer (p i)) W := by
      simp [part, isAgg, run_underlying Tryz.underlying85, h1]
    have py : (part 85 ys (i * 1)).run Tryz.prog W = .ok (.pointer none) W := by
      simp [part, isAgg, run_underlying Tryz.underlying85, h2]
    have pq := run_equalIn_pointer_nil (P := Tryz.prog) W d 85 (p i) (by kernel_rfl)
    simp only [Op.eqItems, Sem.run_bind, px, py, pq, Result.andThen_ok, List.all_cons]
    cases (p i).isNone
    · simp
    · simpa using ih
theorem somePtr : (Tryz.prog.info? 85).isSome = true := by kernel_rfl
theorem infoPtr : ∃ i, Tryz.prog.info? 85 = some i := Option.isSome_iff_exists.mp somePtr
theorem cellsPtr : Tryz.prog.cellsOf 85 = 1 := by kernel_rfl
theorem entry_eql (W : World) (p : Nat → Option Addr) :
    (binOp .eql 87 (.agg #[.pointer (p 0), .pointer (p 1), .pointer (p 2), .pointer (p 3), .pointer (p 4), .pointer (p 5), .pointer (p 6), .pointer (p 7), .pointer (p 8), .pointer (p 9), .pointer (p 10), .pointer (p 11), .pointer (p 12), .pointer (p 13), .pointer (p 14), .pointer (p 15)])
      (.agg #[.pointer none, .pointer none, .pointer none, .pointer none, .pointer none, .pointer none, .pointer none, .pointer none, .pointer none, .pointer none, .pointer none, .pointer none, .pointer none, .pointer none, .pointer none, .pointer none])).run Tryz.prog W = .ok (.bool ((List.range 16).all (fun i => (p i).isNone))) W := by
  obtain ⟨i, hi⟩ := infoPtr
  rw [run_eql_struct, show (10000 : Nat) = 9999 + 1 from rfl, run_equalIn_array W 9999 _ _ Tryz.underlying87 hi, cellsPtr, eqItems_nil 9998 W _ _ p (List.range 16) (fun j hj => ?_)]
  · rfl
  · have := List.mem_range.1 hj
    rcases j with _ | _ | _ | _ | _ | _ | _ | _ | _ | _ | _ | _ | _ | _ | _ | _ | j
    all_goals first | exact ⟨rfl, rfl⟩ | omega
end Go.Proofs.YtmimnlbkllgfpaaGreatDoor.Tb
/- Table.sweep: walked. -/
namespace Go.Proofs.YtmimnlbkllgfpaaGreatDoor.Tb
set_option linter.unusedVariables false
set_option linter.unusedSimpArgs false
open Go.RowKit Go.Maps Go.Proofs.YtmimnlbkllgfpaaGreatDoor.A Go.Proofs.YtmimnlbkllgfpaaGreatDoorW.PrintWords

theorem blk_inj {b c : Nat} (h : blkD b = blkD c) : b = c := by
  unfold blkD at h
  simp at h
  omega
theorem key_lit (s : List UInt8) : WideAt.IsKeyLit (.string s) := trivial
theorem wpList_next_tab (w : World) {ops : Array Oper} {rest : List Oper} {o : Oper} {a : Act} {Q : Exit → Act → World → Prop} (hg : o.guard = none) (it : Operand) (hop : o.op = Op.next it false) (bm r n : Nat) (D : DataW Unit) (left : Lit → Bool) (cnt : Nat)
    (hit : a.eval it = .pointer (some ⟨r, 0, none⟩)) (h : w.ranges Tryz.prog 9 ptrE bm r n D left cnt) (hE : ∀ s, has D (.string s) = true → ∃ b : Nat, D.atKey (.string s) nilD = blkD b)
    (hDone : (∀ kl, left kl = false) → wpList Tryz.prog ops Q rest (a.put o.dst (.tuple #[.bool false])) w)
    (hMore : ∀ (s : ByteArray) (b : Nat) (w' : World) (cnt' : Nat), s.size ≤ maxLen → left (.string s.data.toList) = true → has D (.string s.data.toList) = true → D.atKey (.string s.data.toList) nilD = blkD b → w'.ranges Tryz.prog 9 ptrE bm r n D (fun z => left z && !z.sameKey (.string s.data.toList)) cnt' → cnt' < cnt →
      w.grownBy w' (some r) → w'.heap.size = w.heap.size → (Instr.entry (.pointer (some ⟨r, 0, none⟩))).run Tryz.prog w' = .ok (.tuple #[.string s, .pointer (some ⟨b, 0, none⟩)]) w' → wpList Tryz.prog ops Q rest (a.put o.dst (.tuple #[.bool true, .string s, .pointer (some ⟨b, 0, none⟩)])) w') :
    wpList Tryz.prog ops Q (o :: rest) a w := by
  refine wpList_next_ranges w hg it hop 9 law9 ptrE Value.string Value.pointer (fun key kl hk => ?_) (fun v y hv => ?_) bm r n D left cnt hit h (fun _ hl => hDone hl) (fun x c kl y w' cnt' hkey hlk hR hat hrg hlt hgr hsz hen => ?_)
  · obtain ⟨x, rfl, _⟩ := Go.WideMaps.string_of_keyOf Tryz.underlying9 hk; exact ⟨x, rfl⟩
  · unfold ptrE at hv
    split at hv
    · exact ⟨_, rfl⟩
    · exact ⟨_, rfl⟩
    · cases hv
  · obtain ⟨x', ex, rfl, hx⟩ := Go.WideMaps.string_of_keyOf Tryz.underlying9 hkey
    cases ex
    have hh := has_true_of_atKey hat
    obtain ⟨b, hb⟩ := hE _ hh
    have hy : y.1 = blkD b := (hat nilD).symm.trans hb
    obtain ⟨y1, y2⟩ := y
    simp only at hy
    subst hy
    rcases ptrE_inv hR with ⟨_, h2⟩ | ⟨b', h1, h2⟩
    · omega
    · have : b' = b := by omega
      subst this
      cases h1
      exact hMore x b' w' cnt' hx hlk hh hb hrg hlt hgr hsz hen
/-- Nothing of the table turns where but iterators turn. -/
theorem Tab.turn {W W' : World} {lo t bm n : Nat} {room : Int} {D : DataW Unit} {T : List UInt8 → Nat → Option Nt} (h : Tab W lo t bm n room D T) (hk : ∀ (k : Nat) (o : Obj), W.heap[k]? = some o → (∀ a b c d, o ≠ .mapIter a b c d) → W'.heap[k]? = some o) : Tab W' lo t bm n room D T := by
  refine ⟨hk _ _ h.hdr (by simp), ?_, h.lom, h.gone, fun s hs => ?_, h.inj, h.note⟩
  · obtain ⟨es, clock, h1, h2⟩ := h.own
    exact ⟨es, clock, hk _ _ h1 (by simp), h2⟩
  · obtain ⟨b, h0, h1, cur, hb, hsz, hf⟩ := h.ent s hs
    refine ⟨b, h0, h1, cur, hk _ _ hb (by simp), hsz, fun j hj => ?_⟩
    rcases hf j hj with h | ⟨x, nb, g1, g2, g3⟩
    · exact Or.inl h
    · exact Or.inr ⟨x, nb, g1, g2, hk _ _ g3 (by simp)⟩
theorem Tab.iter {W W' : World} {lo t bm n r : Nat} {room : Int} {D : DataW Unit} {T : List UInt8 → Nat → Option Nt} (h : Tab W lo t bm n room D T) (hg : W.grownBy W' (some r)) {a b c d} (hr : W.heap[r]? = some (.mapIter a b c d)) : Tab W' lo t bm n room D T :=
  h.turn fun k o hk ho => (hg.block k (lt_of_some hk) (fun e => by cases e; rw [hr] at hk; cases hk; exact ho _ _ _ _ rfl)).trans hk
/-- One entry is written. -/
theorem Tab.entry {W W' : World} {lo t bm n b : Nat} {room : Int} {D : DataW Unit} {T : List UInt8 → Nat → Option Nt} (h : Tab W lo t bm n room D T) (s : List UInt8) (hs : has D (.string s) = true) (hb : D.atKey (.string s) nilD = blkD b) (hg : W.grownBy W' (some b)) (g : Nat → Option Nt) (hE : Ent W' b g)
    (hn : ∀ j x, g j = some x → x.f0.data.toList = s ∧ x.f1 = j ∧ 1 ≤ j ∧ j < 16) : Tab W' lo t bm n room D (fun s' j => if s' = s then g j else T s' j) := by
  obtain ⟨b0, hlo, hb0, hE0⟩ := h.ent s hs
  obtain rfl : b0 = b := blk_inj (hb0.symm.trans hb)
  obtain ⟨cur, hc, _, _⟩ := hE0
  have keep : ∀ (k : Nat) (o : Obj), W.heap[k]? = some o → (∀ c z, o ≠ .cells c 87 z) → W'.heap[k]? = some o := fun k o hk ho =>
    (hg.block k (lt_of_some hk) (fun e => by cases e; rw [hc] at hk; cases hk; exact ho _ _ rfl)).trans hk
  refine ⟨keep _ _ h.hdr (by simp), ?_, h.lom, fun s' hs' j => ?_, fun s' hs' => ?_, h.inj, fun s' j x hx => ?_⟩
  · obtain ⟨es, clock, h1, h2⟩ := h.own
    exact ⟨es, clock, keep _ _ h1 (by simp), h2⟩
  · have hne : s' ≠ s := fun e => by subst e; rw [hs] at hs'; cases hs'
    simp only [if_neg hne]
    exact h.gone s' hs' j
  · by_cases e : s' = s
    · subst e
      exact ⟨b0, hlo, hb, by simpa using hE⟩
    · obtain ⟨b1, h0, h1, h2⟩ := h.ent s' hs'
      refine ⟨b1, h0, h1, ?_⟩
      simp only [if_neg e]
      exact h2.other (b := b0) (fun e1 => e (by subst e1; exact h.inj _ _ _ hs' hs h1 hb0)) (fun k hk hne => hg.block k hk (fun e2 => hne (by cases e2; rfl))) (fun x hx => by rw [hc] at hx; cases hx)
  · by_cases e : s' = s
    · subst e
      simp only [if_true] at hx
      exact hn j x hx
    · simp only [if_neg e] at hx
      exact h.note s' j x hx
/-- A name that has no notes goes. -/
theorem Tab.drop {W W' : World} {lo t bm n : Nat} {room : Int} {D : DataW Unit} {T : List UInt8 → Nat → Option Nt} (h : Tab W lo t bm n room D T) (s : List UInt8) (hs : ∀ j, T s j = none) (hg : W.grownBy W' (some bm)) (hown : W'.ownsMap Tryz.prog 9 ptrE bm n (D.del (.string s))) : Tab W' lo t bm n room (D.del (.string s)) T := by
  obtain ⟨es, clock, hm, _⟩ := h.own
  have keep : ∀ (k : Nat) (o : Obj), W.heap[k]? = some o → (∀ c z, o ≠ .map c z) → W'.heap[k]? = some o := fun k o hk ho =>
    (hg.block k (lt_of_some hk) (fun e => by cases e; rw [hm] at hk; cases hk; exact ho _ _ rfl)).trans hk
  have hd : ∀ s', has (D.del (.string s)) (.string s') = true → s' ≠ s ∧ has D (.string s') = true ∧ (D.del (.string s)).atKey (.string s') nilD = D.atKey (.string s') nilD := fun s' hs' => by
    have hne : s' ≠ s := fun e => by subst e; rw [has_del_same] at hs'; cases hs'
    have hne' : (Lit.string s') ≠ .string s := fun e => hne (by cases e; rfl)
    rw [has_del_other hne'] at hs'
    exact ⟨hne, hs', atKey_del_other hne' _⟩
  refine ⟨keep _ _ h.hdr (by simp), hown, h.lom, fun s' hs' j => ?_, fun s' hs' => ?_, fun s1 s2 b h1 h2 h3 h4 => ?_, h.note⟩
  · by_cases e : s' = s
    · subst e; exact hs j
    · rw [has_del_other (fun e' => e (by cases e'; rfl))] at hs'
      exact h.gone s' hs' j
  · obtain ⟨_, h1, h2⟩ := hd s' hs'
    obtain ⟨b, h0, hb, cur, hc, hsz, hf⟩ := h.ent s' h1
    refine ⟨b, h0, h2.trans hb, cur, keep _ _ hc (by simp), hsz, fun j hj => ?_⟩
    rcases hf j hj with h | ⟨x, nb, g1, g2, g3⟩
    · exact Or.inl h
    · exact Or.inr ⟨x, nb, g1, g2, keep _ _ g3 (by simp)⟩
  · obtain ⟨_, a1, a2⟩ := hd s1 h1
    obtain ⟨_, c1, c2⟩ := hd s2 h2
    exact h.inj s1 s2 b a1 c1 (a2.symm.trans h3) (c2.symm.trans h4)
end Go.Proofs.YtmimnlbkllgfpaaGreatDoor.Tb
