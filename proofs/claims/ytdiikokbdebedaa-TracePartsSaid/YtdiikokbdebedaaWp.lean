/- oct.Writer's own methods, over a writer that the call itself has made. -/
import Derived.Test.YtdiikokbdebedaaWr
import Derived.Test.YtdiikokbdebedaaAx1
import Derived.BigCall
import Derived.RegionTactic
import Derived.Lib.UnsafeStr
import Derived.Shelf.RegionOpenPlain
namespace Go.Proofs.Ytdiikokbdebedaa.Wr
open Go.RowKit

/-- What a writer holds when bytes are put to it, or an error. -/
def putL (l : List UInt8) (e : Int) (s : List UInt8) (e1 : Int) : List UInt8 × Int :=
  if e ≠ 0 then (l, e) else if e1 ≠ 0 then (l, e1) else if 65536 < l.length + s.length then (l, 2) else (l ++ s, 0)

set_option maxHeartbeats 1000000 in
set_option maxRecDepth 100000 in
theorem put (B b : Nat) (l : List UInt8) (e e1 : Int) (s : ByteArray) (w : World) (h : IsW B b (Lib.byteCells l) e w) (hl : l.length ≤ 65536) (_hs : s.size ≤ 1000000000) (hBw : B ≤ w.heap.size) :
    Calls Try.prog 41 #[.pointer (some ⟨b, 0, none⟩), .string s, .int .i64 e1] w fun x w' => x = .returned (.tuple #[]) ∧ IsW B b (Lib.byteCells (putL l e s.data.toList e1).1) (putL l e s.data.toList e1).2 w' ∧ Below B w w' ∧ K47 w w' := by
  obtain ⟨p, h0⟩ := h.at_
  have hB := h0.1
  obtain ⟨c0, c2⟩ := h0.cell
  have f2 := h0.frozen 2
  have hz : s.data.toList.length = s.size := Array.length_toList
  have hln : (Lib.byteCells l).length = l.length := Lib.byteCells_length l
  by_cases he : e = 0
  · subst he
    by_cases he1 : e1 = 0
    · subst he1
      go_enter Try.func41, Try.ntmps41
      go_wp2_with (first | (go_at_call 51; refine (len B b _ 0 _ h).mono ?_; rintro x w1 ⟨rfl, rfl⟩) | (go_at_call 52; refine (writeString B b _ 0 s _ h (by rw [hln]; omega) hBw).mono ?_; rintro x w1 ⟨rfl, h1, hb1, hk1⟩))
      · go_end0
        have hp : putL l 0 s.data.toList 0 = (l, 2) := by unfold putL; rw [if_neg (by omega), if_neg (by omega), if_pos (by omega)]
        rw [hp]
        exact ⟨rfl, h.err 2, (Below.refl B _).setCell (p := ⟨b, 2, none⟩) hB _, K47.set h0⟩
      · go_end0
        have hp : putL l 0 s.data.toList 0 = (l ++ s.data.toList, 0) := by unfold putL; rw [if_neg (by omega), if_neg (by omega), if_neg (by omega)]
        rw [hp, Lib.byteCells_append]
        exact ⟨rfl, Or.inr h1, hb1, hk1⟩
    · have hp : putL l 0 s.data.toList e1 = (l, e1) := by unfold putL; rw [if_neg (by omega), if_pos he1]
      rw [hp]
      go_enter Try.func41, Try.ntmps41
      go_wp2_with fail
      go_end0
      exact ⟨rfl, h.err e1, (Below.refl B _).setCell (p := ⟨b, 2, none⟩) hB _, K47.set h0⟩
  · have hp : putL l e s.data.toList e1 = (l, e) := by unfold putL; rw [if_pos he]
    rw [hp]
    go_enter Try.func41, Try.ntmps41
    go_wp2_with fail
    go_end0
    exact ⟨rfl, h, Below.refl B _, K47.refl _⟩

/-- What a callee above the writer's world makes does not touch it. -/
theorem IsW.below {B b : Nat} {bs : List Value} {e : Int} {w w' : World} (h : IsW B b bs e w) (hb : Below w.heap.size w w') : IsW B b bs e w' := by
  have key : ∀ p, WAt B b p bs e w → WAt B b p bs e w' := fun p h => by
    have hlt := h.lt
    obtain ⟨hB, v, hbk, hown, hne⟩ := h
    exact ⟨hB, v, (hb.block b hlt).trans hbk, hown.kept (row := some b) ⟨hb.os, hb.tape, hb.output, hb.size, fun k hk _ => hb.block k hk⟩ (Or.inr hne), hne⟩
  exact h.imp (key _) (key _)

set_option maxRecDepth 100000 in
theorem raw (B b : Nat) (l : List UInt8) (e : Int) (s : ByteArray) (w : World) (h : IsW B b (Lib.byteCells l) e w) (hl : l.length ≤ 65536) (hs : s.size ≤ 1000000000) (hBw : B ≤ w.heap.size) :
    Calls Try.prog 21 #[.pointer (some ⟨b, 0, none⟩), .string s] w fun x w' => x = .returned (.tuple #[]) ∧ IsW B b (Lib.byteCells (putL l e s.data.toList 0).1) (putL l e s.data.toList 0).2 w' ∧ Below B w w' ∧ K47 w w' := by
  go_enter Try.func21, Try.ntmps21
  go_wp2_with (go_at_call 41; refine (put B b l e 0 s _ h hl hs hBw).mono ?_; rintro x w1 ⟨rfl, h1, hb1, hk1⟩)
  go_end0
  exact ⟨rfl, h1, hb1, hk1⟩

set_option maxRecDepth 100000 in
theorem num (B b : Nat) (l : List UInt8) (e n size : Int) (r1 : ByteArray) (r2 : Int) (k : Nat) (w : World) (h : IsW B b (Lib.byteCells l) e w) (hl : l.length ≤ 65536) (hs : r1.size ≤ 1000000000) (hBw : B ≤ w.heap.size) (hp : A.oct_Put.f k n size = some (r1, r2)) :
    Calls Try.prog 22 #[.pointer (some ⟨b, 0, none⟩), .int .i64 n, .int .i64 size] w fun x w' => x = .returned (.tuple #[]) ∧ IsW B b (Lib.byteCells (putL l e r1.data.toList r2).1) (putL l e r1.data.toList r2).2 w' ∧ Below B w w' ∧ K47 w w' := by
  go_enter Try.func22, Try.ntmps22
  go_wp2_with (first | (go_at_call 42; refine (A.oct_Put.calls k n size r1 r2 _ hp).mono ?_; rintro x w1 ⟨rfl, hb0⟩) | (go_at_call 41; refine (put B b l e r2 r1 _ (h.below hb0) hl hs (Nat.le_trans hBw hb0.size)).mono ?_; rintro x w2 ⟨rfl, h1, hb1, hk1⟩))
  go_end0
  exact ⟨rfl, h1, (hb0.mono hBw).trans hb1, (K47.below hb0).trans hk1⟩

set_option maxRecDepth 100000 in
theorem text (B b : Nat) (l : List UInt8) (e : Int) (s r1 : ByteArray) (r2 : Int) (k : Nat) (w : World) (h : IsW B b (Lib.byteCells l) e w) (hl : l.length ≤ 65536) (hs : s.size ≤ 65535) (hr : r1.size ≤ 100) (hBw : B ≤ w.heap.size) (hp : A.oct_Put.f k s.size 2 = some (r1, r2)) :
    Calls Try.prog 23 #[.pointer (some ⟨b, 0, none⟩), .string s] w fun x w' => x = .returned (.tuple #[]) ∧ IsW B b (Lib.byteCells (putL l e (r1 ++ s).data.toList 0).1) (putL l e (r1 ++ s).data.toList 0).2 w' ∧ Below B w w' ∧ K47 w w' := by
  have hz : (r1 ++ s).size = r1.size + s.size := by simp
  go_enter Try.func23, Try.ntmps23
  go_wp2_with (first | (go_at_call 42; refine (A.oct_Put.calls k s.size 2 r1 r2 _ hp).mono ?_; rintro x w1 ⟨rfl, hb0⟩) | (go_at_call 41; refine (put B b l e 0 (r1 ++ s) _ (h.below hb0) hl (by omega) (Nat.le_trans hBw hb0.size)).mono ?_; rintro x w2 ⟨rfl, h1, hb1, hk1⟩))
  go_end0
  exact ⟨rfl, h1, (hb0.mono hBw).trans hb1, (K47.below hb0).trans hk1⟩

theorem cellsByte : Try.prog.cellsOf 5 = 1 := by kernel_rfl

set_option maxHeartbeats 2000000 in
set_option maxRecDepth 100000 in
/-- The bytes of a builder that holds at least one. -/
theorem string (B b : Nat) (l : List UInt8) (e : Int) (w : World) (h : IsW B b (Lib.byteCells l) e w) (h0 : l ≠ []) :
    Calls Try.prog 43 #[.pointer (some ⟨b, 0, none⟩)] w fun x w' => x = .returned (.string ⟨l.toArray⟩) ∧ Below B w w' := by
  obtain ⟨p, hB, v, hbk, hown, hne⟩ := h.at_
  have hl0 : l.length ≠ 0 := by simpa using h0
  rw [Lib.byteCells_length] at hown
  obtain ⟨g, cap, cur, rfl, hbg, hg, hnc, hcm, hcs, htake⟩ : ∃ g cap cur, v = .slice (some ⟨g, 0, none⟩) l.length cap ∧ B ≤ g ∧ w.heap[g]? = some (.cells cur 5 (0, 0)) ∧ l.length ≤ cap ∧ cap ≤ maxLen ∧ cur.size = cap * 1 ∧ True := by
    rcases hown.2 with ⟨_, hz⟩ | ⟨g, cap, cur, hv, r⟩
    · exact absurd hz hl0
    · exact ⟨g, cap, cur, hv, r.1, r.2.1, r.2.2.1, r.2.2.2.1, r.2.2.2.2.1, trivial⟩
  have c1 : w.drew.cell? ⟨b, 1, none⟩ = some (.slice (some ⟨g, 0, none⟩) l.length cap) := by
    have : w.drew.heap[b]? = some (.cells #[p, .slice (some ⟨g, 0, none⟩) l.length cap, .int .i64 e] 78 (0, 0)) := hbk
    rw [Lib.cell_of_heap this]; rfl
  have hSD : (Builtin.unsafeSliceData_ #[74] 91 #[.slice (some ⟨g, 0, none⟩) l.length cap]).run Try.prog w.drew = .ok (.pointer (some ⟨g, 0, none⟩)) w.drew :=
    Lib.run_unsafeSliceData_row _ _ _ _ _ _ (by omega)
  have hUS : (Builtin.unsafeString_ #[91, 3] 9 #[.pointer (some ⟨g, 0, none⟩), .int .i64 l.length]).run Try.prog w.drew = .ok (.string ⟨l.toArray⟩) (w.drew.freeze ⟨g, 0, none⟩ l.length) := by
    refine Lib.run_unsafeString_row w.drew 91 3 9 5 Try.underlying91 cellsByte g cur.size (by have hg' : w.drew.heap[g]? = some (.cells cur 5 (0, 0)) := hg; simp [World.shape?, hg']) l h0 (by omega) (by unfold maxLen at hcm; omega) ?_
    intro j x hx
    have := hown.cells (g := g) rfl j (.int .u8 x.toNat) (by simp [Lib.byteCells, hx])
    exact this
  go_enter Try.func43, Try.ntmps43
  go_wp2
  go_region
  all_goals (go_wp2; go_ret; exact ⟨rfl, Lib.below_freeze (Below.drew (Below.refl B w)) (p := ⟨g, 0, none⟩) hbg _⟩)

set_option maxRecDepth 100000 in
theorem bytes (B b : Nat) (l : List UInt8) (w : World) (h : IsW B b (Lib.byteCells l) 0 w) (h0 : l ≠ []) :
    Calls Try.prog 24 #[.pointer (some ⟨b, 0, none⟩)] w fun x w' => x = .returned (.tuple #[.string ⟨l.toArray⟩, .int .i64 0]) ∧ Below B w w' := by
  obtain ⟨p, h1⟩ := h.at_
  obtain ⟨c0, c2⟩ := h1.cell
  go_enter Try.func24, Try.ntmps24
  go_wp2_with (go_at_call 43; refine (string B b l 0 _ h h0).mono ?_; rintro x w2 ⟨rfl, hb1⟩)
  go_ret2
  exact ⟨rfl, hb1⟩
end Go.Proofs.Ytdiikokbdebedaa.Wr
