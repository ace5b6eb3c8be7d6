/- An oct.Writer that the call itself has made: a strings.Builder and an error in one block: its methods write bytes behind those that it holds, or note an error. -/
import Derived.Test.YtbbncdbihiipcaaDoorProg
import Derived.Lib.Builder
import Derived.Lib.AppendStr
import Derived.Lib.Strings
import Derived.WalkKit
import Derived.Laws.Externs
import Derived.OwnWalk
import Derived.KernelRfl
import Derived.Test.YtbbncdbihiipcaaDoorAx1
import Derived.BigCall
import Derived.RegionTactic
import Derived.Lib.UnsafeStr
import Derived.Shelf.RegionOpenPlain
namespace Go.Proofs.YtbbncdbihiipcaaDoor.Wr
open Go.RowKit

/-- A writer in a block of its own. -/
def WAt (B b : Nat) (p : Value) (bs : List Value) (e : Int) (w : World) : Prop :=
  B ≤ b ∧ ∃ v, w.heap[b]? = some (.cells #[p, v, .int .i64 e] 87 (0, 0)) ∧ w.ownsRow B 5 1 v bs.length bs ∧ v.ownBlock ≠ some b
def IsW (B b : Nat) (bs : List Value) (e : Int) (w : World) : Prop := WAt B b (.pointer none) bs e w ∨ WAt B b (.pointer (some ⟨b, 0, none⟩)) bs e w

theorem IsW.at_ {B b : Nat} {bs : List Value} {e : Int} {w : World} (h : IsW B b bs e w) : ∃ p, WAt B b p bs e w := h.elim (fun h => ⟨_, h⟩) (fun h => ⟨_, h⟩)
theorem WAt.cell {B b : Nat} {p : Value} {bs : List Value} {e : Int} {w : World} (h : WAt B b p bs e w) : w.cell? ⟨b, 0, none⟩ = some p ∧ w.cell? ⟨b, 2, none⟩ = some (.int .i64 e) := by
  obtain ⟨_, v, hb, _⟩ := h
  exact ⟨by rw [Lib.cell_of_heap hb]; rfl, by rw [Lib.cell_of_heap hb]; rfl⟩
theorem WAt.frozen {B b : Nat} {p : Value} {bs : List Value} {e : Int} {w : World} (h : WAt B b p bs e w) (j : Nat) : w.frozen? ⟨b, j, none⟩ = false := by
  obtain ⟨_, v, hb, _⟩ := h
  exact Lib.frozen_of_heap hb j
theorem WAt.shape {B b : Nat} {p : Value} {bs : List Value} {e : Int} {w : World} (h : WAt B b p bs e w) : w.shape? b = some (87, 3) := by
  obtain ⟨_, v, hb, _⟩ := h
  simp [World.shape?, hb]
theorem WAt.lt {B b : Nat} {p : Value} {bs : List Value} {e : Int} {w : World} (h : WAt B b p bs e w) : b < w.heap.size := by
  obtain ⟨_, v, hb, _⟩ := h
  rcases Nat.lt_or_ge b w.heap.size with h' | h'
  · exact h'
  · simp [Array.getElem?_eq_none h'] at hb
theorem WAt.drew {B b : Nat} {p : Value} {bs : List Value} {e : Int} {w : World} (h : WAt B b p bs e w) : WAt B b p bs e w.drew := h
theorem WAt.mk_own {B b : Nat} {p v : Value} {bs : List Value} {e : Int} {w : World} (hB : B ≤ b) (hb : w.heap[b]? = some (.cells #[p, v, .int .i64 e] 87 (0, 0))) (hown : w.ownsRow B 5 1 v bs.length bs) : WAt B b p bs e w :=
  ⟨hB, v, hb, hown, Lib.ownBlock_ne hown hb (by decide)⟩
/-- A cell of the writer's own block is set: what the block then holds. -/
theorem set_heap {w : World} {b j : Nat} {cs : Array Value} {x : Value} (hb : w.heap[b]? = some (.cells cs 87 (0, 0))) : (w.setCell ⟨b, j, none⟩ x).heap[b]? = some (.cells (cs.setIfInBounds j x) 87 (0, 0)) := by
  simp [World.setCell, Array.getElem?_modify, hb]
theorem own_set {w : World} {B b j : Nat} {v x : Value} {bs : List Value} (hown : w.ownsRow B 5 1 v bs.length bs) (hne : v.ownBlock ≠ some b) : (w.setCell ⟨b, j, none⟩ x).ownsRow B 5 1 v bs.length bs :=
  hown.kept (row := some b) ⟨rfl, rfl, rfl, by simp [World.setCell], fun k _ hk => Below.heap_setCell _ _ _ _ (fun e => hk (by simp [e]))⟩ (Or.inr hne)
theorem WAt.addr {B b : Nat} {p : Value} {bs : List Value} {e : Int} {w : World} (h : WAt B b p bs e w) (q : Value) : WAt B b q bs e (w.setCell ⟨b, 0, none⟩ q) := by
  obtain ⟨hB, v, hb, hown, hne⟩ := h
  exact ⟨hB, v, set_heap hb, own_set hown hne, hne⟩
theorem WAt.err {B b : Nat} {p : Value} {bs : List Value} {e : Int} {w : World} (h : WAt B b p bs e w) (e' : Int) : WAt B b p bs e' (w.setCell ⟨b, 2, none⟩ (.int .i64 e')) := by
  obtain ⟨hB, v, hb, hown, hne⟩ := h
  exact ⟨hB, v, set_heap hb, own_set hown hne, hne⟩
theorem IsW.err {B b : Nat} {bs : List Value} {e : Int} {w : World} (h : IsW B b bs e w) (e' : Int) : IsW B b bs e' (w.setCell ⟨b, 2, none⟩ (.int .i64 e')) := h.imp (fun h => h.err e') (fun h => h.err e')
theorem WAt.buf {B b : Nat} {p v v' : Value} {bs' : List Value} {e : Int} {w : World} (hB : B ≤ b) (hb : w.heap[b]? = some (.cells #[p, v, .int .i64 e] 87 (0, 0))) (hown : w.ownsRow B 5 1 v' bs'.length bs') : WAt B b p bs' e (w.setCell ⟨b, 1, none⟩ v') := by
  have hne := Lib.ownBlock_ne hown hb (by decide)
  exact ⟨hB, v', set_heap hb, own_set hown hne, hne⟩
theorem fresh (w : World) : IsW w.heap.size w.heap.size [] 0 (w.alloc (.cells #[.pointer none, .slice none 0 0, .int .i64 0] 87)) := by
  have hb := heap_alloc_new w (.cells #[.pointer none, .slice none 0 0, .int .i64 0] 87)
  exact Or.inl (WAt.mk_own (Nat.le_refl _) hb (World.ownsRow_nil _ _ _ _))

/-- Events' copies are left as they are. -/
def K47 (w w' : World) : Prop := ∀ (k : Nat) (cs : Array Value) (fr : Nat × Nat), w.heap[k]? = some (.cells cs 39 fr) → w'.heap[k]? = some (.cells cs 39 fr)
theorem K47.refl (w : World) : K47 w w := fun _ _ _ h => h
theorem K47.trans {a b c : World} (h : K47 a b) (k : K47 b c) : K47 a c := fun _ _ _ x => k _ _ _ (h _ _ _ x)
theorem K47.below {w w' : World} (h : Below w.heap.size w w') : K47 w w' := fun k cs fr hk => by
  have hlt : k < w.heap.size := by
    rcases Nat.lt_or_ge k w.heap.size with h' | h'
    · exact h'
    · simp [Array.getElem?_eq_none h'] at hk
  exact (h.block k hlt).trans hk
theorem K47.set {w : World} {B b j : Nat} {p : Value} {bs : List Value} {e : Int} {x : Value} (h : WAt B b p bs e w) : K47 w (w.setCell ⟨b, j, none⟩ x) := fun k cs fr hk => by
  obtain ⟨_, v, hb, _⟩ := h
  have hne : k ≠ b := by rintro rfl; rw [hb] at hk; simp at hk
  exact (Below.heap_setCell _ _ _ _ hne).trans hk
theorem K47.grown {w w' : World} {B : Nat} {v : Value} {n : Nat} {bs : List Value} (hown : w.ownsRow B 5 1 v n bs) (hg : w.grownBy w' v.ownBlock) : K47 w w' := fun k cs fr hk => by
  have hlt : k < w.heap.size := by
    rcases Nat.lt_or_ge k w.heap.size with h' | h'
    · exact h'
    · simp [Array.getElem?_eq_none h'] at hk
  exact (hg.block k hlt (fun e => Lib.ownBlock_ne hown hk (by decide) e.symm)).trans hk

theorem sizeB : (Tryd.prog.info? 85).map (fun i => i.size) = some 2 := by kernel_rfl
theorem liesB : liesAt Tryd.prog Tryd.prog.depth 87 (3 / Tryd.prog.cellsOf 87) 0 85 1 = true := by kernel_rfl
theorem infoByte : (Tryd.prog.info? 5).map (fun i => (i.zero, i.size, i.bytes)) = some (some (.int .u8 0), 1, 1) := by kernel_rfl

set_option maxRecDepth 100000 in
theorem check_used (b : Nat) (w : World) (h0 : w.cell? ⟨b, 0, none⟩ = some (.pointer (some ⟨b, 0, none⟩))) :
    Calls Tryd.prog 85 #[.pointer (some ⟨b, 0, none⟩)] w fun e w' => e = .returned (.tuple #[]) ∧ w = w' := by
  obtain ⟨j, hj, _⟩ := Option.map_eq_some_iff.1 sizeB
  go_enter Tryd.func85, Tryd.ntmps85
  go_wp2
  rw [Lib.run_neq_ptr_same w _ Tryd.underlying83 hj]
  go_wp2
  go_end0
  exact ⟨rfl, rfl⟩

set_option maxRecDepth 100000 in
theorem check_fresh (b : Nat) (w : World) (h0 : w.cell? ⟨b, 0, none⟩ = some (.pointer none)) (hsh : w.shape? b = some (87, 3)) (hfz : w.frozen? ⟨b, 0, none⟩ = false) :
    Calls Tryd.prog 85 #[.pointer (some ⟨b, 0, none⟩)] w fun e w' => e = .returned (.tuple #[]) ∧ w.setCell ⟨b, 0, none⟩ (.pointer (some ⟨b, 0, none⟩)) = w' := by
  obtain ⟨j, hj, hjs⟩ := Option.map_eq_some_iff.1 sizeB
  go_enter Tryd.func85, Tryd.ntmps85
  go_wp2
  rw [Lib.run_to_unsafe w ⟨b, 0, none⟩ Tryd.underlying83 Tryd.underlying111 hj (by rw [hjs]; decide) hsh (Nat.zero_lt_succ 2)]
  simp only [Result.andThen]
  rw [Oper.upon_value]
  go_wp2
  rw [run_callFunc_extern Tryd.func94 (by kernel_rfl) (by kernel_rfl) (by kernel_rfl) (e := Extern.AbiNoEscape.same) (by kernel_rfl)]
  rw [Lib.run_noEscape]
  simp only [Result.andThen]
  rw [Oper.upon_value]
  go_wp2
  rw [Lib.run_from_unsafe w ⟨b, 0, none⟩ Tryd.underlying111 Tryd.underlying83 hj hsh liesB]
  simp only [Result.andThen]
  rw [Oper.upon_value]
  go_wp2
  go_end0
  exact ⟨rfl, rfl⟩

theorem check (B b : Nat) (bs : List Value) (e : Int) (w : World) (h : IsW B b bs e w) :
    Calls Tryd.prog 85 #[.pointer (some ⟨b, 0, none⟩)] w fun x w' => x = .returned (.tuple #[]) ∧ WAt B b (.pointer (some ⟨b, 0, none⟩)) bs e w' ∧ Below B w w' ∧ K47 w w' := by
  rcases h with h | h
  · refine (check_fresh b w h.cell.1 h.shape (h.frozen 0)).mono ?_
    rintro x w' ⟨rfl, rfl⟩
    exact ⟨rfl, h.addr _, (Below.refl B w).setCell (p := ⟨b, 0, none⟩) h.1 _, K47.set h⟩
  · refine (check_used b w h.cell.1).mono ?_
    rintro x w' ⟨rfl, rfl⟩
    exact ⟨rfl, h, Below.refl B _, K47.refl _⟩

set_option maxRecDepth 100000 in
theorem writeString (B b : Nat) (bs : List Value) (e : Int) (s : ByteArray) (w : World) (h : IsW B b bs e w) (hlen : bs.length + s.size ≤ 140737488355328) (hBw : B ≤ w.heap.size) :
    Calls Tryd.prog 76 #[.pointer (some ⟨b, 0, none⟩), .string s] w fun x w' => x = .returned (.tuple #[.int .i64 s.size, .nilIface]) ∧ WAt B b (.pointer (some ⟨b, 0, none⟩)) (bs ++ Lib.strCells s) e w' ∧ Below B w w' ∧ K47 w w' := by
  obtain ⟨i0, hi, hz0, hz1, hz2⟩ := info_parts infoByte
  go_enter Tryd.func76, Tryd.ntmps76
  go_wp2_with fail
  refine (check B b bs e _ h).mono ?_
  rintro x w1 ⟨rfl, h1, hb1, hk1⟩
  obtain ⟨hB, v, hbk, hown, hne⟩ := h1
  have c0 : w1.cell? ⟨b, 0, none⟩ = some (.pointer (some ⟨b, 0, none⟩)) := by rw [Lib.cell_of_heap hbk]; rfl
  have c1 : w1.cell? ⟨b, 1, none⟩ = some v := by rw [Lib.cell_of_heap hbk]; rfl
  go_wp2_with (at_builtin; refine Lib.wpList_append_own_string _ rfl _ _ 59 9 rfl B 5 i0 Tryd.underlying59 Tryd.underlying9 hi hz0 hz1 hz2 _ _ _ rfl hown s rfl ?c3 ?c4 ?c5 ?_)
  case c3 => unfold maxLen; omega
  case c4 => omega
  case c5 => have := hb1.size; omega
  intro v' w2 hown' hgrow _
  have hlt : b < w1.heap.size := WAt.lt ⟨hB, v, hbk, hown, hne⟩
  have hb2 : w2.heap[b]? = some (.cells #[.pointer (some ⟨b, 0, none⟩), v, .int .i64 e] 87 (0, 0)) := by
    rw [hgrow.block b hlt (fun e => hne e.symm)]
    exact hbk
  have d0 : w2.cell? ⟨b, 0, none⟩ = some (.pointer (some ⟨b, 0, none⟩)) := by rw [Lib.cell_of_heap hb2]; rfl
  have d1 : w2.cell? ⟨b, 1, none⟩ = some v := by rw [Lib.cell_of_heap hb2]; rfl
  have f1 : w2.frozen? ⟨b, 1, none⟩ = false := Lib.frozen_of_heap hb2 1
  obtain ⟨ao, n', cap, rfl⟩ : ∃ ao n' cap, v' = .slice ao n' cap := by
    rcases hown'.2 with ⟨hv, _⟩ | ⟨g, cap, cur, hv, _⟩
    · exact ⟨_, _, _, hv⟩
    · exact ⟨_, _, _, hv⟩
  go_wp2
  go_ret2
  refine ⟨rfl, ?_, ?_, hk1.trans ((K47.grown hown hgrow).trans ?_)⟩
  · exact WAt.buf hB hb2 (bs' := bs ++ Lib.strCells s) (by simpa [Lib.strCells_length] using hown')
  · exact (hb1.grown hgrow (by have := hb1.size; omega) (fun k hk => (hown.lt k hk).1)).setCell (p := ⟨b, 1, none⟩) hB _
  · exact fun k cs fr hk => (Below.heap_setCell _ _ _ _ (by rintro rfl; rw [hb2] at hk; simp at hk)).trans hk

theorem len (B b : Nat) (bs : List Value) (e : Int) (w : World) (h : IsW B b bs e w) :
    Calls Tryd.prog 82 #[.pointer (some ⟨b, 0, none⟩)] w fun x w' => x = .returned (.int .i64 bs.length) ∧ w' = w := by
  obtain ⟨p, hB, v, hbk, hown, hne⟩ := h.at_
  have c1 : w.cell? ⟨b, 1, none⟩ = some v := by rw [Lib.cell_of_heap hbk]; rfl
  obtain ⟨ao, cap, rfl⟩ : ∃ ao cap, v = .slice ao bs.length cap := by
    rcases hown.2 with ⟨hv, h0⟩ | ⟨g, cap, cur, hv, _⟩
    · rw [hv, ← h0]; exact ⟨_, _, rfl⟩
    · exact ⟨_, _, hv⟩
  go_enter Tryd.func82, Tryd.ntmps82
  go_wp2
  go_ret
  exact ⟨rfl, rfl⟩
end Go.Proofs.YtbbncdbihiipcaaDoor.Wr
/- oct.Writer's own methods, over a writer that the call itself has made. -/
namespace Go.Proofs.YtbbncdbihiipcaaDoor.Wr
open Go.RowKit

/-- What a writer holds when bytes are put to it, or an error. -/
def putL (l : List UInt8) (e : Int) (s : List UInt8) (e1 : Int) : List UInt8 × Int :=
  if e ≠ 0 then (l, e) else if e1 ≠ 0 then (l, e1) else if 65536 < l.length + s.length then (l, 2) else (l ++ s, 0)

set_option maxHeartbeats 1000000 in
set_option maxRecDepth 100000 in
theorem put (B b : Nat) (l : List UInt8) (e e1 : Int) (s : ByteArray) (w : World) (h : IsW B b (Lib.byteCells l) e w) (hl : l.length ≤ 65536) (_hs : s.size ≤ 1000000000) (hBw : B ≤ w.heap.size) :
    Calls Tryd.prog 66 #[.pointer (some ⟨b, 0, none⟩), .string s, .int .i64 e1] w fun x w' => x = .returned (.tuple #[]) ∧ IsW B b (Lib.byteCells (putL l e s.data.toList e1).1) (putL l e s.data.toList e1).2 w' ∧ Below B w w' ∧ K47 w w' := by
  obtain ⟨p, h0⟩ := h.at_
  have hB := h0.1
  obtain ⟨c0, c2⟩ := h0.cell
  have f2 := h0.frozen 2
  have hz : s.data.toList.length = s.size := Array.length_toList
  have hln : (Lib.byteCells l).length = l.length := Lib.byteCells_length l
  by_cases he : e = 0
  · subst he
    by_cases he1 : e1 = 0
    · subst he1
      go_enter Tryd.func66, Tryd.ntmps66
      go_wp2_with (first | (go_at_call 82; refine (len B b _ 0 _ h).mono ?_; rintro x w1 ⟨rfl, rfl⟩) | (go_at_call 76; refine (writeString B b _ 0 s _ h (by rw [hln]; omega) hBw).mono ?_; rintro x w1 ⟨rfl, h1, hb1, hk1⟩))
      · go_end0
        have hp : putL l 0 s.data.toList 0 = (l, 2) := by unfold putL; rw [if_neg (by omega), if_neg (by omega), if_pos (by omega)]
        rw [hp]
        exact ⟨rfl, h.err 2, (Below.refl B _).setCell (p := ⟨b, 2, none⟩) hB _, K47.set h0⟩
      · go_end0
        have hp : putL l 0 s.data.toList 0 = (l ++ s.data.toList, 0) := by unfold putL; rw [if_neg (by omega), if_neg (by omega), if_neg (by omega)]
        rw [hp, Lib.byteCells_append]
        exact ⟨rfl, Or.inr h1, hb1, hk1⟩
    · have hp : putL l 0 s.data.toList e1 = (l, e1) := by unfold putL; rw [if_neg (by omega), if_pos he1]
      rw [hp]
      go_enter Tryd.func66, Tryd.ntmps66
      go_wp2_with fail
      go_end0
      exact ⟨rfl, h.err e1, (Below.refl B _).setCell (p := ⟨b, 2, none⟩) hB _, K47.set h0⟩
  · have hp : putL l e s.data.toList e1 = (l, e) := by unfold putL; rw [if_pos he]
    rw [hp]
    go_enter Tryd.func66, Tryd.ntmps66
    go_wp2_with fail
    go_end0
    exact ⟨rfl, h, Below.refl B _, K47.refl _⟩

/-- What a callee above the writer's world makes does not touch it. -/
theorem IsW.below {B b : Nat} {bs : List Value} {e : Int} {w w' : World} (h : IsW B b bs e w) (hb : Below w.heap.size w w') : IsW B b bs e w' := by
  have key : ∀ p, WAt B b p bs e w → WAt B b p bs e w' := fun p h => by
    have hlt := h.lt
    obtain ⟨hB, v, hbk, hown, hne⟩ := h
    exact ⟨hB, v, (hb.block b hlt).trans hbk, hown.kept (row := some b) ⟨hb.os, hb.tape, hb.output, hb.size, fun k hk _ => hb.block k hk⟩ (Or.inr hne), hne⟩
  exact h.imp (key _) (key _)

set_option maxRecDepth 100000 in
theorem num (B b : Nat) (l : List UInt8) (e n size : Int) (r1 : ByteArray) (r2 : Int) (k : Nat) (w : World) (h : IsW B b (Lib.byteCells l) e w) (hl : l.length ≤ 65536) (hs : r1.size ≤ 1000000000) (hBw : B ≤ w.heap.size) (hp : A.oct_Put.f k n size = some (r1, r2)) :
    Calls Tryd.prog 45 #[.pointer (some ⟨b, 0, none⟩), .int .i64 n, .int .i64 size] w fun x w' => x = .returned (.tuple #[]) ∧ IsW B b (Lib.byteCells (putL l e r1.data.toList r2).1) (putL l e r1.data.toList r2).2 w' ∧ Below B w w' ∧ K47 w w' := by
  go_enter Tryd.func45, Tryd.ntmps45
  go_wp2_with (first | (go_at_call 67; refine (A.oct_Put.calls k n size r1 r2 _ hp).mono ?_; rintro x w1 ⟨rfl, hb0⟩) | (go_at_call 66; refine (put B b l e r2 r1 _ (h.below hb0) hl hs (Nat.le_trans hBw hb0.size)).mono ?_; rintro x w2 ⟨rfl, h1, hb1, hk1⟩))
  go_end0
  exact ⟨rfl, h1, (hb0.mono hBw).trans hb1, (K47.below hb0).trans hk1⟩

theorem cellsByte : Tryd.prog.cellsOf 5 = 1 := by kernel_rfl

set_option maxHeartbeats 2000000 in
set_option maxRecDepth 100000 in
/-- The bytes of a builder that holds at least one. -/
theorem string (B b : Nat) (l : List UInt8) (e : Int) (w : World) (h : IsW B b (Lib.byteCells l) e w) (h0 : l ≠ []) :
    Calls Tryd.prog 68 #[.pointer (some ⟨b, 0, none⟩)] w fun x w' => x = .returned (.string ⟨l.toArray⟩) ∧ Below B w w' := by
  obtain ⟨p, hB, v, hbk, hown, hne⟩ := h.at_
  have hl0 : l.length ≠ 0 := by simpa using h0
  rw [Lib.byteCells_length] at hown
  obtain ⟨g, cap, cur, rfl, hbg, hg, hnc, hcm, hcs, htake⟩ : ∃ g cap cur, v = .slice (some ⟨g, 0, none⟩) l.length cap ∧ B ≤ g ∧ w.heap[g]? = some (.cells cur 5 (0, 0)) ∧ l.length ≤ cap ∧ cap ≤ maxLen ∧ cur.size = cap * 1 ∧ True := by
    rcases hown.2 with ⟨_, hz⟩ | ⟨g, cap, cur, hv, r⟩
    · exact absurd hz hl0
    · exact ⟨g, cap, cur, hv, r.1, r.2.1, r.2.2.1, r.2.2.2.1, r.2.2.2.2.1, trivial⟩
  have c1 : w.drew.cell? ⟨b, 1, none⟩ = some (.slice (some ⟨g, 0, none⟩) l.length cap) := by
    have : w.drew.heap[b]? = some (.cells #[p, .slice (some ⟨g, 0, none⟩) l.length cap, .int .i64 e] 87 (0, 0)) := hbk
    rw [Lib.cell_of_heap this]; rfl
  have hSD : (Builtin.unsafeSliceData_ #[59] 105 #[.slice (some ⟨g, 0, none⟩) l.length cap]).run Tryd.prog w.drew = .ok (.pointer (some ⟨g, 0, none⟩)) w.drew :=
    Lib.run_unsafeSliceData_row _ _ _ _ _ _ (by omega)
  have hUS : (Builtin.unsafeString_ #[105, 3] 9 #[.pointer (some ⟨g, 0, none⟩), .int .i64 l.length]).run Tryd.prog w.drew = .ok (.string ⟨l.toArray⟩) (w.drew.freeze ⟨g, 0, none⟩ l.length) := by
    refine Lib.run_unsafeString_row w.drew 105 3 9 5 Tryd.underlying105 cellsByte g cur.size (by have hg' : w.drew.heap[g]? = some (.cells cur 5 (0, 0)) := hg; simp [World.shape?, hg']) l h0 (by omega) (by unfold maxLen at hcm; omega) ?_
    intro j x hx
    have := hown.cells (g := g) rfl j (.int .u8 x.toNat) (by simp [Lib.byteCells, hx])
    exact this
  go_enter Tryd.func68, Tryd.ntmps68
  go_wp2
  go_region
  all_goals (go_wp2; go_ret; exact ⟨rfl, Lib.below_freeze (Below.drew (Below.refl B w)) (p := ⟨g, 0, none⟩) hbg _⟩)

set_option maxRecDepth 100000 in
theorem bytes (B b : Nat) (l : List UInt8) (w : World) (h : IsW B b (Lib.byteCells l) 0 w) (h0 : l ≠ []) :
    Calls Tryd.prog 46 #[.pointer (some ⟨b, 0, none⟩)] w fun x w' => x = .returned (.tuple #[.string ⟨l.toArray⟩, .int .i64 0]) ∧ Below B w w' := by
  obtain ⟨p, h1⟩ := h.at_
  obtain ⟨c0, c2⟩ := h1.cell
  go_enter Tryd.func46, Tryd.ntmps46
  go_wp2_with (go_at_call 68; refine (string B b l 0 _ h h0).mono ?_; rintro x w2 ⟨rfl, hb1⟩)
  go_ret2
  exact ⟨rfl, hb1⟩
end Go.Proofs.YtbbncdbihiipcaaDoor.Wr
