/- Tables that are written: what stays. -/
import Derived.Test.YtmimnlbkllgfpaaNm
import Derived.ChangeKeysEq
namespace Go.Proofs.Ytmimnlbkllgfpaa.Tb
open Go.RowKit Go.Maps Go.Proofs.Ytmimnlbkllgfpaa.A Go.Proofs.YtmimnlbkllgfpaaW.PrintWords

/-- Blocks that a table may write: entries and maps. -/
def tabO : Obj → Bool
  | .cells _ t _ => t == 57
  | .map _ _ => true
  | .mapIter _ _ _ _ => true
  | _ => false
/-- What lies below lo stays, and all that is no entry and no map. -/
structure Kp (lo : Nat) (w w' : World) : Prop where
  os : w'.os = w.os
  tape : w'.tape = w.tape
  output : w'.output = w.output
  size : w.heap.size ≤ w'.heap.size
  low : ∀ k : Nat, k < lo → k < w.heap.size → w'.heap[k]? = w.heap[k]?
  oth : ∀ (k : Nat) (o : Obj), w.heap[k]? = some o → tabO o = false → w'.heap[k]? = some o
theorem lt_of_some {w : World} {k : Nat} {o : Obj} (h : w.heap[k]? = some o) : k < w.heap.size := (Array.getElem?_eq_some_iff.1 h).1
theorem Kp.refl (lo : Nat) (w : World) : Kp lo w w := ⟨rfl, rfl, rfl, Nat.le_refl _, fun _ _ _ => rfl, fun _ _ h _ => h⟩
theorem Kp.trans {lo : Nat} {a b c : World} (h : Kp lo a b) (k : Kp lo b c) : Kp lo a c :=
  ⟨k.os.trans h.os, k.tape.trans h.tape, k.output.trans h.output, Nat.le_trans h.size k.size, fun i hi hs => (k.low i hi (Nat.lt_of_lt_of_le hs h.size)).trans (h.low i hi hs), fun i o hi ho => k.oth i o (h.oth i o hi ho) ho⟩
theorem Kp.of_below {lo : Nat} {w w' : World} (h : Below w.heap.size w w') : Kp lo w w' :=
  ⟨h.os, h.tape, h.output, h.size, fun k _ hs => h.block k hs, fun k o ho _ => (h.block k (lt_of_some ho)).trans ho⟩
theorem Kp.of_grown {lo b : Nat} {w w' : World} {o : Obj} (h : w.grownBy w' (some b)) (hlo : lo ≤ b) (hb : w.heap[b]? = some o) (ho : tabO o = true) : Kp lo w w' :=
  ⟨h.os, h.tape, h.output, h.size, fun k hk hs => h.block k hs (fun e => by cases e; omega), fun k o' hk hk' => (h.block k (lt_of_some hk) (fun e => by cases e; rw [hb] at hk; cases hk; rw [ho] at hk'; cases hk')).trans hk⟩
theorem setCell_at {w : World} {b j : Nat} {cur : Array Value} {t : Nat} (h : w.heap[b]? = some (.cells cur t (0, 0))) (v : Value) : (w.setCell ⟨b, j, none⟩ v).heap[b]? = some (.cells (cur.setIfInBounds j v) t (0, 0)) := by
  show (w.heap.modify b _)[b]? = _
  rw [Array.getElem?_modify, if_pos rfl, h]; rfl
theorem Kp.set {lo b j : Nat} {w : World} {cur : Array Value} (hlo : lo ≤ b) (h : w.heap[b]? = some (.cells cur 57 (0, 0))) (v : Value) : Kp lo w (w.setCell ⟨b, j, none⟩ v) :=
  ⟨rfl, rfl, rfl, by simp [World.setCell], fun k hk _ => Below.heap_setCell w _ v k (by show k ≠ b; omega), fun k o hk ho => by
    rw [Below.heap_setCell w _ v k (by
      show k ≠ b
      rintro rfl
      rw [h] at hk; cases hk; cases ho)]
    exact hk⟩
theorem Ent.put {W : World} {b j : Nat} {f : Nat → Option Nt} (h : Ent W b f) (hj : j < 16) (o : Option Nt) (p : Option Addr) (hp : (o = none ∧ p = none) ∨ ∃ n nb, o = some n ∧ p = some ⟨nb, 0, none⟩ ∧ W.heap[nb]? = some (.cells (ntC n) 25 (0, 0))) :
    Ent (W.setCell ⟨b, j, none⟩ (.pointer p)) b (fun i => if i = j then o else f i) := by
  obtain ⟨cur, hb, hs, hf⟩ := h
  have other : ∀ (nb : Nat) (n : Nt), W.heap[nb]? = some (Obj.cells (ntC n) 25 (0, 0)) → (W.setCell ⟨b, j, none⟩ (.pointer p)).heap[nb]? = some (Obj.cells (ntC n) 25 (0, 0)) := fun nb n hn => by
    rw [Below.heap_setCell W _ _ nb (by show nb ≠ b; rintro rfl; rw [hb] at hn; cases hn)]; exact hn
  refine ⟨cur.setIfInBounds j (.pointer p), setCell_at hb _, by simpa using hs, fun i hi => ?_⟩
  by_cases e : i = j
  · subst e
    simp only [if_true]
    rw [Array.getElem?_setIfInBounds_self_of_lt (by omega)]
    rcases hp with ⟨rfl, rfl⟩ | ⟨n, nb, rfl, rfl, hn⟩
    · exact Or.inl ⟨rfl, rfl⟩
    · exact Or.inr ⟨n, nb, rfl, rfl, other nb n hn⟩
  · simp only [if_neg e]
    rw [Array.getElem?_setIfInBounds_ne (fun h => e h.symm)]
    rcases hf i hi with h | ⟨n, nb, h1, h2, h3⟩
    · exact Or.inl h
    · exact Or.inr ⟨n, nb, h1, h2, other nb n h3⟩
theorem Ent.ext {W : World} {b : Nat} {f g : Nat → Option Nt} (h : Ent W b f) (hfg : ∀ j, j < 16 → f j = g j) : Ent W b g := by
  obtain ⟨cur, hb, hs, hf⟩ := h
  exact ⟨cur, hb, hs, fun j hj => by rw [← hfg j hj]; exact hf j hj⟩
/-- Another entry stays as it is where only block b was written. -/
theorem Ent.other {W W' : World} {b b' : Nat} {f : Nat → Option Nt} (h : Ent W b' f) (hne : b' ≠ b) (hk : ∀ k, k < W.heap.size → k ≠ b → W'.heap[k]? = W.heap[k]?) (hb : ∀ n, W.heap[b]? ≠ some (.cells (ntC n) 25 (0, 0))) : Ent W' b' f := by
  obtain ⟨cur, hb', hs, hf⟩ := h
  refine ⟨cur, (hk b' (lt_of_some hb') hne).trans hb', hs, fun j hj => ?_⟩
  rcases hf j hj with h | ⟨n, nb, h1, h2, h3⟩
  · exact Or.inl h
  · exact Or.inr ⟨n, nb, h1, h2, (hk nb (lt_of_some h3) (fun e => hb n (e ▸ h3))).trans h3⟩
/-- What does not count any more goes. -/
def swp (now : Int) : Option Nt → Option Nt
  | some x => if x.f3 < now then none else some x
  | none => none
/-- The entry's pointers. -/
theorem Ent.ptrs {W : World} {b : Nat} {f : Nat → Option Nt} (h : Ent W b f) : ∃ pe : Nat → Option Addr, (∀ j, j < 16 → W.cell? ⟨b, j, none⟩ = some (.pointer (pe j))) ∧ ∀ j, j < 16 → ((pe j).isNone = true ↔ f j = none) := by
  obtain ⟨cur, hb, hs, hf⟩ := h
  refine ⟨fun j => match cur[j]? with | some (.pointer p) => p | _ => none, fun j hj => ?_, fun j hj => ?_⟩
  · rw [blk_cell hb j]
    rcases hf j hj with ⟨_, h2⟩ | ⟨n, nb, _, h2, _⟩
    all_goals simp only [h2]
  · rcases hf j hj with ⟨h1, h2⟩ | ⟨n, nb, h1, h2, _⟩
    · rw [h1]; simp [h2]
    · rw [h1]; simp [h2]
theorem eqItems_nil (d : Nat) (W : World) (xs ys : Array Value) (p : Nat → Option Addr) : ∀ is : List Nat, (∀ i ∈ is, xs[i]? = some (.pointer (p i)) ∧ ys[i]? = some (.pointer none)) →
    (Op.eqItems (d + 1) 55 1 xs ys is).run Try.prog W = .ok (is.all (fun i => (p i).isNone)) W
  | [], _ => by simp [Op.eqItems]
  | i :: is, h => by
    have ih := eqItems_nil d W xs ys p is (fun j hj => h j (by simp [hj]))
    obtain ⟨h1, h2⟩ := h i (by simp)
    have px : (part 55 xs (i * 1)).run Try.prog W = .ok (.pointer (p i)) W := by
      simp [part, isAgg, run_underlying Try.underlying55, h1]
    have py : (part 55 ys (i * 1)).run Try.prog W = .ok (.pointer none) W := by
      simp [part, isAgg, run_underlying Try.underlying55, h2]
    have pq := run_equalIn_pointer_nil (P := Try.prog) W d 55 (p i) (by kernel_rfl)
    simp only [Op.eqItems, Sem.run_bind, px, py, pq, Result.andThen_ok, List.all_cons]
    cases (p i).isNone
    · simp
    · simpa using ih
theorem some55 : (Try.prog.info? 55).isSome = true := by kernel_rfl
theorem info55 : ∃ i, Try.prog.info? 55 = some i := Option.isSome_iff_exists.mp some55
theorem cells55 : Try.prog.cellsOf 55 = 1 := by kernel_rfl
theorem entry_eql (W : World) (p : Nat → Option Addr) :
    (binOp .eql 57 (.agg #[.pointer (p 0), .pointer (p 1), .pointer (p 2), .pointer (p 3), .pointer (p 4), .pointer (p 5), .pointer (p 6), .pointer (p 7), .pointer (p 8), .pointer (p 9), .pointer (p 10), .pointer (p 11), .pointer (p 12), .pointer (p 13), .pointer (p 14), .pointer (p 15)])
      (.agg #[.pointer none, .pointer none, .pointer none, .pointer none, .pointer none, .pointer none, .pointer none, .pointer none, .pointer none, .pointer none, .pointer none, .pointer none, .pointer none, .pointer none, .pointer none, .pointer none])).run Try.prog W = .ok (.bool ((List.range 16).all (fun i => (p i).isNone))) W := by
  obtain ⟨i, hi⟩ := info55
  rw [run_eql_struct, show (10000 : Nat) = 9999 + 1 from rfl, run_equalIn_array W 9999 _ _ Try.underlying57 hi, cells55, eqItems_nil 9998 W _ _ p (List.range 16) (fun j hj => ?_)]
  · rfl
  · have := List.mem_range.1 hj
    rcases j with _ | _ | _ | _ | _ | _ | _ | _ | _ | _ | _ | _ | _ | _ | _ | _ | j
    all_goals first | exact ⟨rfl, rfl⟩ | omega
end Go.Proofs.Ytmimnlbkllgfpaa.Tb
