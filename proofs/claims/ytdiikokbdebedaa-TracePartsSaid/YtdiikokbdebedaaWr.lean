/- An oct.Writer that the call itself has made: a strings.Builder and an error in one block: its methods write bytes behind those that it holds, or note an error. -/
import Derived.Test.YtdiikokbdebedaaProg
import Derived.Lib.Builder
import Derived.Lib.AppendStr
import Derived.Lib.Strings
import Derived.WalkKit
import Derived.Laws.Externs
import Derived.OwnWalk
import Derived.KernelRfl
namespace Go.Proofs.Ytdiikokbdebedaa.Wr
open Go.RowKit

/-- A writer in a block of its own. -/
def WAt (B b : Nat) (p : Value) (bs : List Value) (e : Int) (w : World) : Prop :=
  B ≤ b ∧ ∃ v, w.heap[b]? = some (.cells #[p, v, .int .i64 e] 78 (0, 0)) ∧ w.ownsRow B 5 1 v bs.length bs ∧ v.ownBlock ≠ some b
def IsW (B b : Nat) (bs : List Value) (e : Int) (w : World) : Prop := WAt B b (.pointer none) bs e w ∨ WAt B b (.pointer (some ⟨b, 0, none⟩)) bs e w

theorem IsW.at_ {B b : Nat} {bs : List Value} {e : Int} {w : World} (h : IsW B b bs e w) : ∃ p, WAt B b p bs e w := h.elim (fun h => ⟨_, h⟩) (fun h => ⟨_, h⟩)
theorem WAt.cell {B b : Nat} {p : Value} {bs : List Value} {e : Int} {w : World} (h : WAt B b p bs e w) : w.cell? ⟨b, 0, none⟩ = some p ∧ w.cell? ⟨b, 2, none⟩ = some (.int .i64 e) := by
  obtain ⟨_, v, hb, _⟩ := h
  exact ⟨by rw [Lib.cell_of_heap hb]; rfl, by rw [Lib.cell_of_heap hb]; rfl⟩
theorem WAt.frozen {B b : Nat} {p : Value} {bs : List Value} {e : Int} {w : World} (h : WAt B b p bs e w) (j : Nat) : w.frozen? ⟨b, j, none⟩ = false := by
  obtain ⟨_, v, hb, _⟩ := h
  exact Lib.frozen_of_heap hb j
theorem WAt.shape {B b : Nat} {p : Value} {bs : List Value} {e : Int} {w : World} (h : WAt B b p bs e w) : w.shape? b = some (78, 3) := by
  obtain ⟨_, v, hb, _⟩ := h
  simp [World.shape?, hb]
theorem WAt.lt {B b : Nat} {p : Value} {bs : List Value} {e : Int} {w : World} (h : WAt B b p bs e w) : b < w.heap.size := by
  obtain ⟨_, v, hb, _⟩ := h
  rcases Nat.lt_or_ge b w.heap.size with h' | h'
  · exact h'
  · simp [Array.getElem?_eq_none h'] at hb
theorem WAt.drew {B b : Nat} {p : Value} {bs : List Value} {e : Int} {w : World} (h : WAt B b p bs e w) : WAt B b p bs e w.drew := h
theorem WAt.mk_own {B b : Nat} {p v : Value} {bs : List Value} {e : Int} {w : World} (hB : B ≤ b) (hb : w.heap[b]? = some (.cells #[p, v, .int .i64 e] 78 (0, 0))) (hown : w.ownsRow B 5 1 v bs.length bs) : WAt B b p bs e w :=
  ⟨hB, v, hb, hown, Lib.ownBlock_ne hown hb (by decide)⟩
/-- A cell of the writer's own block is set: what the block then holds. -/
theorem set_heap {w : World} {b j : Nat} {cs : Array Value} {x : Value} (hb : w.heap[b]? = some (.cells cs 78 (0, 0))) : (w.setCell ⟨b, j, none⟩ x).heap[b]? = some (.cells (cs.setIfInBounds j x) 78 (0, 0)) := by
  simp [World.setCell, Array.getElem?_modify, hb]
theorem own_set {w : World} {B b j : Nat} {v x : Value} {bs : List Value} (hown : w.ownsRow B 5 1 v bs.length bs) (hne : v.ownBlock ≠ some b) : (w.setCell ⟨b, j, none⟩ x).ownsRow B 5 1 v bs.length bs :=
  hown.kept (row := some b) ⟨rfl, rfl, rfl, by simp [World.setCell], fun k _ hk => Below.heap_setCell _ _ _ _ (fun e => hk (by simp [e]))⟩ (Or.inr hne)
theorem WAt.addr {B b : Nat} {p : Value} {bs : List Value} {e : Int} {w : World} (h : WAt B b p bs e w) (q : Value) : WAt B b q bs e (w.setCell ⟨b, 0, none⟩ q) := by
  obtain ⟨hB, v, hb, hown, hne⟩ := h
  exact ⟨hB, v, set_heap hb, own_set hown hne, hne⟩
theorem WAt.err {B b : Nat} {p : Value} {bs : List Value} {e : Int} {w : World} (h : WAt B b p bs e w) (e' : Int) : WAt B b p bs e' (w.setCell ⟨b, 2, none⟩ (.int .i64 e')) := by
  obtain ⟨hB, v, hb, hown, hne⟩ := h
  exact ⟨hB, v, set_heap hb, own_set hown hne, hne⟩
theorem IsW.err {B b : Nat} {bs : List Value} {e : Int} {w : World} (h : IsW B b bs e w) (e' : Int) : IsW B b bs e' (w.setCell ⟨b, 2, none⟩ (.int .i64 e')) := h.imp (fun h => h.err e') (fun h => h.err e')
theorem WAt.buf {B b : Nat} {p v v' : Value} {bs' : List Value} {e : Int} {w : World} (hB : B ≤ b) (hb : w.heap[b]? = some (.cells #[p, v, .int .i64 e] 78 (0, 0))) (hown : w.ownsRow B 5 1 v' bs'.length bs') : WAt B b p bs' e (w.setCell ⟨b, 1, none⟩ v') := by
  have hne := Lib.ownBlock_ne hown hb (by decide)
  exact ⟨hB, v', set_heap hb, own_set hown hne, hne⟩
theorem fresh (w : World) : IsW w.heap.size w.heap.size [] 0 (w.alloc (.cells #[.pointer none, .slice none 0 0, .int .i64 0] 78)) := by
  have hb := heap_alloc_new w (.cells #[.pointer none, .slice none 0 0, .int .i64 0] 78)
  exact Or.inl (WAt.mk_own (Nat.le_refl _) hb (World.ownsRow_nil _ _ _ _))

/-- Events' copies are left as they are. -/
def K47 (w w' : World) : Prop := ∀ (k : Nat) (cs : Array Value) (fr : Nat × Nat), w.heap[k]? = some (.cells cs 47 fr) → w'.heap[k]? = some (.cells cs 47 fr)
theorem K47.refl (w : World) : K47 w w := fun _ _ _ h => h
theorem K47.trans {a b c : World} (h : K47 a b) (k : K47 b c) : K47 a c := fun _ _ _ x => k _ _ _ (h _ _ _ x)
theorem K47.below {w w' : World} (h : Below w.heap.size w w') : K47 w w' := fun k cs fr hk => by
  have hlt : k < w.heap.size := by
    rcases Nat.lt_or_ge k w.heap.size with h' | h'
    · exact h'
    · simp [Array.getElem?_eq_none h'] at hk
  exact (h.block k hlt).trans hk
theorem K47.set {w : World} {B b j : Nat} {p : Value} {bs : List Value} {e : Int} {x : Value} (h : WAt B b p bs e w) : K47 w (w.setCell ⟨b, j, none⟩ x) := fun k cs fr hk => by
  obtain ⟨_, v, hb, _⟩ := h
  have hne : k ≠ b := by rintro rfl; rw [hb] at hk; simp at hk
  exact (Below.heap_setCell _ _ _ _ hne).trans hk
theorem K47.grown {w w' : World} {B : Nat} {v : Value} {n : Nat} {bs : List Value} (hown : w.ownsRow B 5 1 v n bs) (hg : w.grownBy w' v.ownBlock) : K47 w w' := fun k cs fr hk => by
  have hlt : k < w.heap.size := by
    rcases Nat.lt_or_ge k w.heap.size with h' | h'
    · exact h'
    · simp [Array.getElem?_eq_none h'] at hk
  exact (hg.block k hlt (fun e => Lib.ownBlock_ne hown hk (by decide) e.symm)).trans hk

theorem sizeB : (Try.prog.info? 76).map (fun i => i.size) = some 2 := by kernel_rfl
theorem liesB : liesAt Try.prog Try.prog.depth 78 (3 / Try.prog.cellsOf 78) 0 76 1 = true := by kernel_rfl
theorem infoByte : (Try.prog.info? 5).map (fun i => (i.zero, i.size, i.bytes)) = some (some (.int .u8 0), 1, 1) := by kernel_rfl

set_option maxRecDepth 100000 in
theorem check_used (b : Nat) (w : World) (h0 : w.cell? ⟨b, 0, none⟩ = some (.pointer (some ⟨b, 0, none⟩))) :
    Calls Try.prog 54 #[.pointer (some ⟨b, 0, none⟩)] w fun e w' => e = .returned (.tuple #[]) ∧ w = w' := by
  obtain ⟨j, hj, _⟩ := Option.map_eq_some_iff.1 sizeB
  go_enter Try.func54, Try.ntmps54
  go_wp2
  rw [Lib.run_neq_ptr_same w _ Try.underlying73 hj]
  go_wp2
  go_end0
  exact ⟨rfl, rfl⟩

set_option maxRecDepth 100000 in
theorem check_fresh (b : Nat) (w : World) (h0 : w.cell? ⟨b, 0, none⟩ = some (.pointer none)) (hsh : w.shape? b = some (78, 3)) (hfz : w.frozen? ⟨b, 0, none⟩ = false) :
    Calls Try.prog 54 #[.pointer (some ⟨b, 0, none⟩)] w fun e w' => e = .returned (.tuple #[]) ∧ w.setCell ⟨b, 0, none⟩ (.pointer (some ⟨b, 0, none⟩)) = w' := by
  obtain ⟨j, hj, hjs⟩ := Option.map_eq_some_iff.1 sizeB
  go_enter Try.func54, Try.ntmps54
  go_wp2
  rw [Lib.run_to_unsafe w ⟨b, 0, none⟩ Try.underlying73 Try.underlying93 hj (by rw [hjs]; decide) hsh (Nat.zero_lt_succ 2)]
  simp only [Result.andThen]
  rw [Oper.upon_value]
  go_wp2
  rw [run_callFunc_extern Try.func55 (by kernel_rfl) (by kernel_rfl) (by kernel_rfl) (e := Extern.AbiNoEscape.same) (by kernel_rfl)]
  rw [Lib.run_noEscape]
  simp only [Result.andThen]
  rw [Oper.upon_value]
  go_wp2
  rw [Lib.run_from_unsafe w ⟨b, 0, none⟩ Try.underlying93 Try.underlying73 hj hsh liesB]
  simp only [Result.andThen]
  rw [Oper.upon_value]
  go_wp2
  go_end0
  exact ⟨rfl, rfl⟩

theorem check (B b : Nat) (bs : List Value) (e : Int) (w : World) (h : IsW B b bs e w) :
    Calls Try.prog 54 #[.pointer (some ⟨b, 0, none⟩)] w fun x w' => x = .returned (.tuple #[]) ∧ WAt B b (.pointer (some ⟨b, 0, none⟩)) bs e w' ∧ Below B w w' ∧ K47 w w' := by
  rcases h with h | h
  · refine (check_fresh b w h.cell.1 h.shape (h.frozen 0)).mono ?_
    rintro x w' ⟨rfl, rfl⟩
    exact ⟨rfl, h.addr _, (Below.refl B w).setCell (p := ⟨b, 0, none⟩) h.1 _, K47.set h⟩
  · refine (check_used b w h.cell.1).mono ?_
    rintro x w' ⟨rfl, rfl⟩
    exact ⟨rfl, h, Below.refl B _, K47.refl _⟩

set_option maxRecDepth 100000 in
theorem writeString (B b : Nat) (bs : List Value) (e : Int) (s : ByteArray) (w : World) (h : IsW B b bs e w) (hlen : bs.length + s.size ≤ 140737488355328) (hBw : B ≤ w.heap.size) :
    Calls Try.prog 52 #[.pointer (some ⟨b, 0, none⟩), .string s] w fun x w' => x = .returned (.tuple #[.int .i64 s.size, .nilIface]) ∧ WAt B b (.pointer (some ⟨b, 0, none⟩)) (bs ++ Lib.strCells s) e w' ∧ Below B w w' ∧ K47 w w' := by
  obtain ⟨i0, hi, hz0, hz1, hz2⟩ := info_parts infoByte
  go_enter Try.func52, Try.ntmps52
  go_wp2_with fail
  refine (check B b bs e _ h).mono ?_
  rintro x w1 ⟨rfl, h1, hb1, hk1⟩
  obtain ⟨hB, v, hbk, hown, hne⟩ := h1
  have c0 : w1.cell? ⟨b, 0, none⟩ = some (.pointer (some ⟨b, 0, none⟩)) := by rw [Lib.cell_of_heap hbk]; rfl
  have c1 : w1.cell? ⟨b, 1, none⟩ = some v := by rw [Lib.cell_of_heap hbk]; rfl
  go_wp2_with (at_builtin; refine Lib.wpList_append_own_string _ rfl _ _ 74 9 rfl B 5 i0 Try.underlying74 Try.underlying9 hi hz0 hz1 hz2 _ _ _ rfl hown s rfl ?c3 ?c4 ?c5 ?_)
  case c3 => unfold maxLen; omega
  case c4 => omega
  case c5 => have := hb1.size; omega
  intro v' w2 hown' hgrow _
  have hlt : b < w1.heap.size := WAt.lt ⟨hB, v, hbk, hown, hne⟩
  have hb2 : w2.heap[b]? = some (.cells #[.pointer (some ⟨b, 0, none⟩), v, .int .i64 e] 78 (0, 0)) := by
    rw [hgrow.block b hlt (fun e => hne e.symm)]
    exact hbk
  have d0 : w2.cell? ⟨b, 0, none⟩ = some (.pointer (some ⟨b, 0, none⟩)) := by rw [Lib.cell_of_heap hb2]; rfl
  have d1 : w2.cell? ⟨b, 1, none⟩ = some v := by rw [Lib.cell_of_heap hb2]; rfl
  have f1 : w2.frozen? ⟨b, 1, none⟩ = false := Lib.frozen_of_heap hb2 1
  obtain ⟨ao, n', cap, rfl⟩ : ∃ ao n' cap, v' = .slice ao n' cap := by
    rcases hown'.2 with ⟨hv, _⟩ | ⟨g, cap, cur, hv, _⟩
    · exact ⟨_, _, _, hv⟩
    · exact ⟨_, _, _, hv⟩
  go_wp2
  go_ret2
  refine ⟨rfl, ?_, ?_, hk1.trans ((K47.grown hown hgrow).trans ?_)⟩
  · exact WAt.buf hB hb2 (bs' := bs ++ Lib.strCells s) (by simpa [Lib.strCells_length] using hown')
  · exact (hb1.grown hgrow (by have := hb1.size; omega) (fun k hk => (hown.lt k hk).1)).setCell (p := ⟨b, 1, none⟩) hB _
  · exact fun k cs fr hk => (Below.heap_setCell _ _ _ _ (by rintro rfl; rw [hb2] at hk; simp at hk)).trans hk

theorem len (B b : Nat) (bs : List Value) (e : Int) (w : World) (h : IsW B b bs e w) :
    Calls Try.prog 51 #[.pointer (some ⟨b, 0, none⟩)] w fun x w' => x = .returned (.int .i64 bs.length) ∧ w' = w := by
  obtain ⟨p, hB, v, hbk, hown, hne⟩ := h.at_
  have c1 : w.cell? ⟨b, 1, none⟩ = some v := by rw [Lib.cell_of_heap hbk]; rfl
  obtain ⟨ao, cap, rfl⟩ : ∃ ao cap, v = .slice ao bs.length cap := by
    rcases hown.2 with ⟨hv, h0⟩ | ⟨g, cap, cur, hv, _⟩
    · rw [hv, ← h0]; exact ⟨_, _, rfl⟩
    · exact ⟨_, _, hv⟩
  go_enter Try.func51, Try.ntmps51
  go_wp2
  go_ret
  exact ⟨rfl, rfl⟩
end Go.Proofs.Ytdiikokbdebedaa.Wr
