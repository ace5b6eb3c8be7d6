/- Table.sweep: walked. -/
import Derived.Test.YtmimnlbkllgfpaaSp
namespace Go.Proofs.Ytmimnlbkllgfpaa.Tb
open Go.RowKit Go.Maps Go.Proofs.Ytmimnlbkllgfpaa.A Go.Proofs.YtmimnlbkllgfpaaW.PrintWords

theorem nil_ne_blk {b : Nat} (h : nilD = blkD b) : False := by
  unfold nilD blkD at h
  simp at h
theorem blk_inj {b c : Nat} (h : blkD b = blkD c) : b = c := by
  unfold blkD at h
  simp at h
  omega
theorem key_lit (s : List UInt8) : WideAt.IsKeyLit (.string s) := trivial
theorem wpList_next_tab (w : World) {ops : Array Oper} {rest : List Oper} {o : Oper} {a : Act} {Q : Exit → Act → World → Prop} (hg : o.guard = none) (it : Operand) (hop : o.op = Op.next it false) (bm r n : Nat) (D : DataW Unit) (left : Lit → Bool) (cnt : Nat)
    (hit : a.eval it = .pointer (some ⟨r, 0, none⟩)) (h : w.ranges Try.prog 9 ptrE bm r n D left cnt) (hE : ∀ s, has D (.string s) = true → ∃ b : Nat, D.atKey (.string s) nilD = blkD b)
    (hDone : (∀ kl, left kl = false) → wpList Try.prog ops Q rest (a.put o.dst (.tuple #[.bool false])) w)
    (hMore : ∀ (s : ByteArray) (b : Nat) (w' : World) (cnt' : Nat), s.size ≤ maxLen → left (.string s.data.toList) = true → has D (.string s.data.toList) = true → D.atKey (.string s.data.toList) nilD = blkD b → w'.ranges Try.prog 9 ptrE bm r n D (fun z => left z && !z.sameKey (.string s.data.toList)) cnt' → cnt' < cnt →
      w.grownBy w' (some r) → w'.heap.size = w.heap.size → (Instr.entry (.pointer (some ⟨r, 0, none⟩))).run Try.prog w' = .ok (.tuple #[.string s, .pointer (some ⟨b, 0, none⟩)]) w' → wpList Try.prog ops Q rest (a.put o.dst (.tuple #[.bool true, .string s, .pointer (some ⟨b, 0, none⟩)])) w') :
    wpList Try.prog ops Q (o :: rest) a w := by
  refine wpList_next_ranges w hg it hop 9 law9 ptrE Value.string Value.pointer (fun key kl hk => ?_) (fun v y hv => ?_) bm r n D left cnt hit h (fun _ hl => hDone hl) (fun x c kl y w' cnt' hkey hlk hR hat hrg hlt hgr hsz hen => ?_)
  · obtain ⟨x, rfl, _⟩ := Go.WideMaps.string_of_keyOf Try.underlying9 hk; exact ⟨x, rfl⟩
  · unfold ptrE at hv
    split at hv
    · exact ⟨_, rfl⟩
    · exact ⟨_, rfl⟩
    · cases hv
  · obtain ⟨x', ex, rfl, hx⟩ := Go.WideMaps.string_of_keyOf Try.underlying9 hkey
    cases ex
    have hh := has_true_of_atKey hat
    obtain ⟨b, hb⟩ := hE _ hh
    have hy : y.1 = blkD b := (hat nilD).symm.trans hb
    obtain ⟨y1, y2⟩ := y
    simp only at hy
    subst hy
    rcases ptrE_inv hR with ⟨_, h2⟩ | ⟨b', h1, h2⟩
    · omega
    · have : b' = b := by omega
      subst this
      cases h1
      exact hMore x b' w' cnt' hx hlk hh hb hrg hlt hgr hsz hen
/-- Nothing of the table turns where but iterators turn. -/
theorem Tab.turn {W W' : World} {lo t bm n : Nat} {room : Int} {D : DataW Unit} {T : List UInt8 → Nat → Option Nt} (h : Tab W lo t bm n room D T) (hk : ∀ (k : Nat) (o : Obj), W.heap[k]? = some o → (∀ a b c d, o ≠ .mapIter a b c d) → W'.heap[k]? = some o) : Tab W' lo t bm n room D T := by
  refine ⟨hk _ _ h.hdr (by simp), ?_, h.lom, h.gone, fun s hs => ?_, h.inj, h.note⟩
  · obtain ⟨es, clock, h1, h2⟩ := h.own
    exact ⟨es, clock, hk _ _ h1 (by simp), h2⟩
  · obtain ⟨b, h0, h1, cur, hb, hsz, hf⟩ := h.ent s hs
    refine ⟨b, h0, h1, cur, hk _ _ hb (by simp), hsz, fun j hj => ?_⟩
    rcases hf j hj with h | ⟨x, nb, g1, g2, g3⟩
    · exact Or.inl h
    · exact Or.inr ⟨x, nb, g1, g2, hk _ _ g3 (by simp)⟩
theorem Tab.iter {W W' : World} {lo t bm n r : Nat} {room : Int} {D : DataW Unit} {T : List UInt8 → Nat → Option Nt} (h : Tab W lo t bm n room D T) (hg : W.grownBy W' (some r)) {a b c d} (hr : W.heap[r]? = some (.mapIter a b c d)) : Tab W' lo t bm n room D T :=
  h.turn fun k o hk ho => (hg.block k (lt_of_some hk) (fun e => by cases e; rw [hr] at hk; cases hk; exact ho _ _ _ _ rfl)).trans hk
/-- One entry is written. -/
theorem Tab.entry {W W' : World} {lo t bm n b : Nat} {room : Int} {D : DataW Unit} {T : List UInt8 → Nat → Option Nt} (h : Tab W lo t bm n room D T) (s : List UInt8) (hs : has D (.string s) = true) (hb : D.atKey (.string s) nilD = blkD b) (hg : W.grownBy W' (some b)) (g : Nat → Option Nt) (hE : Ent W' b g)
    (hn : ∀ j x, g j = some x → x.f0.data.toList = s ∧ x.f1 = j ∧ 1 ≤ j ∧ j < 16) : Tab W' lo t bm n room D (fun s' j => if s' = s then g j else T s' j) := by
  obtain ⟨b0, hlo, hb0, hE0⟩ := h.ent s hs
  obtain rfl : b0 = b := blk_inj (hb0.symm.trans hb)
  obtain ⟨cur, hc, _, _⟩ := hE0
  have keep : ∀ (k : Nat) (o : Obj), W.heap[k]? = some o → (∀ c z, o ≠ .cells c 57 z) → W'.heap[k]? = some o := fun k o hk ho =>
    (hg.block k (lt_of_some hk) (fun e => by cases e; rw [hc] at hk; cases hk; exact ho _ _ rfl)).trans hk
  refine ⟨keep _ _ h.hdr (by simp), ?_, h.lom, fun s' hs' j => ?_, fun s' hs' => ?_, h.inj, fun s' j x hx => ?_⟩
  · obtain ⟨es, clock, h1, h2⟩ := h.own
    exact ⟨es, clock, keep _ _ h1 (by simp), h2⟩
  · have hne : s' ≠ s := fun e => by subst e; rw [hs] at hs'; cases hs'
    simp only [if_neg hne]
    exact h.gone s' hs' j
  · by_cases e : s' = s
    · subst e
      exact ⟨b0, hlo, hb, by simpa using hE⟩
    · obtain ⟨b1, h0, h1, h2⟩ := h.ent s' hs'
      refine ⟨b1, h0, h1, ?_⟩
      simp only [if_neg e]
      exact h2.other (b := b0) (fun e1 => e (by subst e1; exact h.inj _ _ _ hs' hs h1 hb0)) (fun k hk hne => hg.block k hk (fun e2 => hne (by cases e2; rfl))) (fun x hx => by rw [hc] at hx; cases hx)
  · by_cases e : s' = s
    · subst e
      simp only [if_true] at hx
      exact hn j x hx
    · simp only [if_neg e] at hx
      exact h.note s' j x hx
/-- A name that has no notes goes. -/
theorem Tab.drop {W W' : World} {lo t bm n : Nat} {room : Int} {D : DataW Unit} {T : List UInt8 → Nat → Option Nt} (h : Tab W lo t bm n room D T) (s : List UInt8) (hs : ∀ j, T s j = none) (hg : W.grownBy W' (some bm)) (hown : W'.ownsMap Try.prog 9 ptrE bm n (D.del (.string s))) : Tab W' lo t bm n room (D.del (.string s)) T := by
  obtain ⟨es, clock, hm, _⟩ := h.own
  have keep : ∀ (k : Nat) (o : Obj), W.heap[k]? = some o → (∀ c z, o ≠ .map c z) → W'.heap[k]? = some o := fun k o hk ho =>
    (hg.block k (lt_of_some hk) (fun e => by cases e; rw [hm] at hk; cases hk; exact ho _ _ rfl)).trans hk
  have hd : ∀ s', has (D.del (.string s)) (.string s') = true → s' ≠ s ∧ has D (.string s') = true ∧ (D.del (.string s)).atKey (.string s') nilD = D.atKey (.string s') nilD := fun s' hs' => by
    have hne : s' ≠ s := fun e => by subst e; rw [has_del_same] at hs'; cases hs'
    have hne' : (Lit.string s') ≠ .string s := fun e => hne (by cases e; rfl)
    rw [has_del_other hne'] at hs'
    exact ⟨hne, hs', atKey_del_other hne' _⟩
  refine ⟨keep _ _ h.hdr (by simp), hown, h.lom, fun s' hs' j => ?_, fun s' hs' => ?_, fun s1 s2 b h1 h2 h3 h4 => ?_, h.note⟩
  · by_cases e : s' = s
    · subst e; exact hs j
    · rw [has_del_other (fun e' => e (by cases e'; rfl))] at hs'
      exact h.gone s' hs' j
  · obtain ⟨_, h1, h2⟩ := hd s' hs'
    obtain ⟨b, h0, hb, cur, hc, hsz, hf⟩ := h.ent s' h1
    refine ⟨b, h0, h2.trans hb, cur, keep _ _ hc (by simp), hsz, fun j hj => ?_⟩
    rcases hf j hj with h | ⟨x, nb, g1, g2, g3⟩
    · exact Or.inl h
    · exact Or.inr ⟨x, nb, g1, g2, keep _ _ g3 (by simp)⟩
  · obtain ⟨_, a1, a2⟩ := hd s1 h1
    obtain ⟨_, c1, c2⟩ := hd s2 h2
    exact h.inj s1 s2 b a1 c1 (a2.symm.trans h3) (c2.symm.trans h4)
end Go.Proofs.Ytmimnlbkllgfpaa.Tb
