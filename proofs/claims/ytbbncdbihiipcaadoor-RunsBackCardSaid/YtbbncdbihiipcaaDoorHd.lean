/- The contracts of the functions that were walked by hand, in the printed texts' form. -/
import Derived.Test.YtbbncdbihiipcaaDoorPx0
import Derived.Test.YtbbncdbihiipcaaDoorOf
import Derived.Test.YtbbncdbihiipcaaDoorBs
namespace Go.Proofs.YtbbncdbihiipcaaDoor.Hand
open Go.RowKit Go.Proofs.YtbbncdbihiipcaaDoor.P Go.Proofs.YtbbncdbihiipcaaDoorW.PrintWords

def toSp (x : Int × Int) : S39 := ⟨x.1, x.2⟩
theorem reps_cells2 (w : World) (base : Nat) (ok : Nat → Prop) (l : List (Int × Int)) : Reps (k39.M w base ok) 2 (l.map toSp) (It.cells2 l) := by
  have key : ∀ (l a : List (Int × Int)), Reps (k39.M w base ok) 2 (a.map toSp) (It.cells2 a) → Reps (k39.M w base ok) 2 ((a ++ l).map toSp) (It.cells2 (a ++ l)) := by
    intro l
    induction l with
    | nil => intro a h; rwa [List.append_nil]
    | cons x l ih =>
      intro a h
      rw [show a ++ x :: l = (a ++ [x]) ++ l by simp]
      refine ih _ ?_
      rw [It.cells2_snoc, List.map_append]
      exact h.snoc (k39_mkM w base ok (toSp x)) rfl
  exact key l [] (Reps.none _ _)

def gB (s : ByteArray) (b : Bool) : Nat → Bool := fun i => Bo.hasB s (i : Int) == b
def runs_of.f (a0 : Int) (a1 : ByteArray) (a2 : Bool) : Option (List S39 × Int) :=
  match A.bits_Check.f 3000 a0 a1 with
  | some true => if 0 ≤ a0 ∧ a0 ≤ 160 then some ((It.runsFrom (gB a1 a2) a0.toNat a0.toNat 0).map toSp, 0) else none
  | some false => some ([], 3)
  | none => none
set_option maxRecDepth 100000 in
theorem of_no (n : Int) (s : ByteArray) (b : Bool) (w : World) (hCheck : Calls Tryd.prog 18 #[.int .i64 n, .string s] w fun e w' => e = .returned (.bool false) ∧ Drawn0 w w') :
    Calls Tryd.prog 34 #[.int .i64 n, .string s, .bool b] w fun e w' => e = .returned (.tuple #[.slice none 0 0, .int .i64 3]) ∧ Below w.heap.size w w' := by
  go_enter Tryd.func34, Tryd.ntmps34
  go_wp2_with (go_at_call 18; refine hCheck.mono ?_; rintro e w1 ⟨rfl, hd⟩)
  go_ret2
  exact ⟨rfl, hd.below⟩
theorem runs_of.calls (a0 : Int) (a1 : ByteArray) (a2 : Bool) (r1 : List S39) (r2 : Int) (w : World) (h : runs_of.f a0 a1 a2 = some (r1, r2)) :
    Calls Tryd.prog 34 #[.int .i64 a0, .string a1, .bool a2] w fun e w' => ∃ v0_ : Value, e = .returned (.tuple #[v0_, .int .i64 r2]) ∧ Kd.R k39 39 w' w.heap.size (fun _ => True) v0_ r1 ∧ Below w.heap.size w w' := by
  unfold runs_of.f at h
  split at h
  · rename_i hc
    split at h
    · rename_i hn
      obtain ⟨rfl, rfl⟩ := Prod.mk.inj (Option.some.inj h)
      obtain ⟨N, rfl⟩ := Int.eq_ofNat_of_zero_le hn.1
      rw [Int.toNat_natCast]
      refine (It.of_yes N a1 a2 (fun i => Bo.hasB a1 (i : Int)) (by omega) (fun i w hi => A.bits_Has.calls a1 (i : Int) _ w (Bo.has_f a1 _ (by omega))) w (A.bits_Check.calls 3000 (N : Int) a1 true w hc)).mono ?_
      rintro e w' ⟨v, rfl, ho, hb⟩
      exact ⟨v, rfl, ⟨fun _ _ => trivial, It.cells2 (It.runsFrom (gB a1 a2) N N 0), by rw [List.length_map]; exact ho, reps_cells2 _ _ _ _⟩, hb⟩
    · cases h
  · rename_i hc
    obtain ⟨rfl, rfl⟩ := Prod.mk.inj (Option.some.inj h)
    refine (of_no a0 a1 a2 w (A.bits_Check.calls 3000 a0 a1 false w hc)).mono ?_
    rintro e w' ⟨rfl, hb⟩
    exact ⟨_, rfl, Kd.R_nil _ _ _ _ _, hb⟩
  · cases h

def bits_Of.f (a0 : Int) (l1 : List Int) : Option (ByteArray × Int) := if l1.length ≤ 100000 then some (Bo.ofR a0 l1) else none
theorem ints_of {w : World} {A : Option Addr} {l : List Int} (h : Kd.C (Kd.int .i64) w A l.length l) : Bo.Ints w A l := by
  intro k x hx
  have hlt : k < l.length := by
    rcases Nat.lt_or_ge k l.length with h' | h'
    · exact h'
    · rw [List.getElem?_eq_none h'] at hx; cases hx
  obtain ⟨ad, e, hc⟩ := h.2.2 (by omega)
  obtain ⟨c, _, hK, hu⟩ := hc k x hx
  have hc1 : c = [.int .i64 x] := hK
  subst hc1
  have := hu 0 _ rfl
  refine ⟨ad, e, ?_⟩
  rwa [show k * (Kd.int .i64).sz + 0 = k from by show k * 1 + 0 = k; omega] at this
theorem bits_Of.calls (a0 : Int) (A1 : Option Addr) (c1 : Nat) (l1 : List Int) (r1 : ByteArray) (r2 : Int) (w : World) (hr1 : Kd.C (Kd.int .i64) w A1 l1.length l1) (_hc1 : l1.length ≤ c1) (h : bits_Of.f a0 l1 = some (r1, r2)) :
    Calls Tryd.prog 33 #[.int .i64 a0, .slice A1 l1.length c1] w fun e w' => e = .returned (.tuple #[.string r1, .int .i64 r2]) ∧ Below w.heap.size w w' := by
  unfold bits_Of.f at h
  split at h
  · rename_i hl
    have h := Option.some.inj h
    have := Bo.of_all A1 c1 l1 a0 w (ints_of hr1) hl
    rw [h] at this
    exact this
  · cases h

end Go.Proofs.YtbbncdbihiipcaaDoor.Hand
