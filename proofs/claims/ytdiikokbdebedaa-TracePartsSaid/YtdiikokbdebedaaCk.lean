/- trace.Check: no event that may not be, and not too many: the events' cells are read, one after the other. -/
import Derived.Test.YtdiikokbdebedaaAx1
import Derived.WalkKit
import Derived.BigCall
import Derived.FnLit
import Derived.LoopTactic
import Derived.Below
namespace Go.Proofs.Ytdiikokbdebedaa.Ck
open Go.RowKit

abbrev Ev := Int × Int × ByteArray
/-- Where events lie: their cells, one event behind the other. -/
def Evs (w : World) (A : Option Addr) (l : List Ev) : Prop :=
  ∀ (i : Nat) (x : Ev), l[i]? = some x → ∃ ad, A = some ad ∧ w.cell? (ad.add (i * 3)) = some (.int .i64 x.1) ∧ w.cell? ⟨(ad.add (i * 3)).block, (ad.add (i * 3)).off + 1, none⟩ = some (.int .i64 x.2.1) ∧ w.cell? ⟨(ad.add (i * 3)).block, (ad.add (i * 3)).off + 2, none⟩ = some (.string x.2.2)
theorem Evs.below {w w' : World} {A : Option Addr} {l : List Ev} (h : Evs w A l) (hb : Below w.heap.size w w') : Evs w' A l := by
  intro i x hx
  obtain ⟨ad, e, c0, c1, c2⟩ := h i x hx
  exact ⟨ad, e, (hb.cell (World.block_lt_of_cell? _ _ c0)).trans c0, (hb.cell (World.block_lt_of_cell? _ _ c1)).trans c1, (hb.cell (World.block_lt_of_cell? _ _ c2)).trans c2⟩

/-- May an event be? -/
def evB (x : Ev) : Bool := if x.1 = 1 then (decide (1 ≤ x.2.1) && decide (x.2.1 ≤ 15) && decide (x.2.2.size ≤ 400)) else if x.1 = 2 then (decide (0 ≤ x.2.1) && decide (x.2.1 ≤ 65535) && decide (x.2.2.size = 0)) else if x.1 = 3 then (decide (1 ≤ x.2.1) && decide (x.2.1 ≤ 15) && decide (x.2.2.size = 0)) else false
theorem nil_eq (s : ByteArray) : (s.toList == ([] : List UInt8)) = decide (s.size = 0) := by
  rw [ByteArray.toList_eq, Bool.eq_iff_iff, beq_iff_eq, decide_eq_true_iff, ← List.length_eq_zero_iff, Array.length_toList]; rfl
theorem peer_eq (n : Int) : A.trace_peer.f n = some (decide (1 ≤ n) && decide (n ≤ 15)) := by
  unfold A.trace_peer.f
  by_cases h : 1 ≤ n <;> simp [h]
theorem event_eq (x : Ev) : A.trace_event.f x.1 x.2.1 x.2.2 = some (evB x) := by
  unfold A.trace_event.f evB
  simp only [peer_eq, Option.bind_some, nil_eq]
  split
  · cases h1 : (decide (1 ≤ x.2.1) && decide (x.2.1 ≤ 15)) <;> simp; omega
  · split
    · by_cases h1 : 0 ≤ x.2.1 <;> by_cases h2 : x.2.1 ≤ 65535 <;> simp [h1, h2]
    · split
      · cases h1 : (decide (1 ≤ x.2.1) && decide (x.2.1 ≤ 15)) <;> simp
      · rfl

set_option maxRecDepth 100000 in
theorem lit (x : Ev) (w : World) : Calls Try.prog 37 #[.agg #[.int .i64 x.1, .int .i64 x.2.1, .string x.2.2]] w fun e w' => e = .returned (.bool !(evB x)) ∧ Below w.heap.size w w' := by
  go_enter Try.func37, Try.ntmps37
  go_wp2_with (go_at_call 38; refine (A.trace_event.calls _ _ _ _ _ (event_eq x)).mono ?_; rintro e w1 ⟨rfl, hb1⟩)
  go_ret
  exact ⟨rfl, ((Below.refl w.heap.size w).alloc (Nat.le_refl _) _).trans (hb1.mono (by simp))⟩

structure Aside (p : Prop) : Prop where mk :: (out : p)
def intOf : Value → Int | .int _ q => q | _ => 0
set_option maxHeartbeats 1000000 in
set_option maxRecDepth 100000 in
theorem indexFunc (A : Option Addr) (c : Nat) (l : List Ev) (w : World) (h : Evs w A l) (hl : l.length ≤ 100000) :
    Calls Try.prog 49 #[.slice A l.length c, .func (.func 37) #[] #[]] w fun e w' => e = .returned (.int .i64 (if l.all evB then -1 else (l.takeWhile evB).length)) ∧ Below w.heap.size w w' := by
  obtain ⟨R, hRR⟩ : ∃ R : Int, R = if l.all evB then (-1 : Int) else ((l.takeWhile evB).length : Int) := ⟨_, rfl⟩
  rw [← hRR]
  have hRR := Aside.mk hRR
  go_enter Try.func49, Try.ntmps49
  go_wp2
  go_loopw [8] (fun iv wr => ∃ k : Nat, k ≤ l.length ∧ iv = .int .i64 k ∧ (l.take k).all evB = true ∧ Below w.heap.size w wr) (fun iv _ => l.length - (intOf iv).toNat)
  case atStart => exact ⟨0, by omega, rfl, rfl, Below.refl _ w⟩
  case round =>
    obtain ⟨k, hk, rfl, ha, hB⟩ := hrel
    by_cases hlt : k < l.length
    · obtain ⟨x, hx⟩ : ∃ x, l[k]? = some x := ⟨l[k], List.getElem?_eq_getElem hlt⟩
      obtain ⟨ad, rfl, c0, c1, c2⟩ := (h.below hB) k x hx
      have hT : l.take (k + 1) = l.take k ++ [x] := by rw [List.take_add_one, hx]; rfl
      have hd : (l.drop k) = x :: l.drop (k + 1) := by rw [List.drop_eq_getElem_cons hlt]; congr 1; rw [List.getElem?_eq_getElem hlt] at hx; exact Option.some.inj hx
      cases hev : evB x with
      | true =>
        have hL := lit x
        rw [hev] at hL
        go_wp2_with (go_at_call 37; refine (hL _).mono ?_; rintro e w1 ⟨rfl, hb1⟩)
        refine ⟨⟨k + 1, by omega, by rw [Int.natCast_add]; rfl, by rw [hT, List.all_append, ha]; simp [hev], hB.trans (hb1.mono hB.size)⟩, ?_⟩
        show l.length - ((k : Int) + 1).toNat < l.length - (k : Int).toNat
        omega
      | false =>
        have hL := lit x
        rw [hev] at hL
        have hR : (if l.all evB then (-1 : Int) else ((l.takeWhile evB).length : Int)) = (k : Int) := by
          have hsplit : l = l.take k ++ x :: l.drop (k + 1) := by rw [← hd, List.take_append_drop]
          have hall : l.all evB = false := by rw [hsplit, List.all_append]; simp [hev]
          rw [if_neg (by rw [hall]; simp), hsplit, List.takeWhile_append_of_pos (by intro y hy; exact List.all_eq_true.mp ha y hy)]
          simp [hev, List.length_take]; omega
        have hRk := Aside.mk (hRR.out.trans hR)
        clear hR hT hd
        go_wp2_with (go_at_call 37; refine (hL _).mono ?_; rintro e w1 ⟨rfl, hb1⟩)
        go_ret
        exact ⟨by rw [hRk.out]; rfl, hB.trans (hb1.mono hB.size)⟩
    · have hke : k = l.length := by omega
      have hall : l.all evB = true := by rw [hke, List.take_of_length_le (Nat.le_refl _)] at ha; exact ha
      have hRk := Aside.mk (hRR.out.trans (if_pos hall))
      clear hall
      go_wp2_with fail
      go_ret
      exact ⟨by rw [hRk.out]; rfl, hB⟩

set_option maxRecDepth 100000 in
theorem containsFunc (A : Option Addr) (c : Nat) (l : List Ev) (w : World) (h : Evs w A l) (hl : l.length ≤ 100000) :
    Calls Try.prog 36 #[.slice A l.length c, .func (.func 37) #[] #[]] w fun e w' => e = .returned (.bool (!(l.all evB))) ∧ Below w.heap.size w w' := by
  have hI := indexFunc A c l w h hl
  have hz : decide ((0 : Int) ≤ (if l.all evB then (-1 : Int) else ((l.takeWhile evB).length : Int))) = !(l.all evB) := by
    cases l.all evB <;> simp
  generalize (if l.all evB then (-1 : Int) else ((l.takeWhile evB).length : Int)) = R at *
  go_enter Try.func36, Try.ntmps36
  go_wp2_with (go_at_call 49; refine hI.mono ?_; rintro e w1 ⟨rfl, hb1⟩)
  go_ret
  exact ⟨by rw [← hz]; rfl, hb1⟩

/-- Are events a trace? -/
def checkB (l : List Ev) : Bool := decide (l.length ≤ 500) && l.all evB
set_option maxRecDepth 100000 in
theorem check (A : Option Addr) (c : Nat) (l : List Ev) (w : World) (h : Evs w A l) (hl : l.length ≤ 100000) :
    Calls Try.prog 14 #[.slice A l.length c] w fun e w' => e = .returned (.bool (checkB l)) ∧ Below w.heap.size w w' := by
  have hC := containsFunc A c l w h hl
  unfold checkB
  generalize l.all evB = R at *
  by_cases h5 : l.length ≤ 500
  · go_enter Try.func14, Try.ntmps14
    go_wp2_with (go_at_call 36; refine hC.mono ?_; rintro e w1 ⟨rfl, hb1⟩)
    go_ret
    exact ⟨by cases R <;> simp [h5], hb1⟩
  · go_enter Try.func14, Try.ntmps14
    go_wp2_with fail
    go_ret
    exact ⟨by simp, Below.refl _ w⟩
end Go.Proofs.Ytdiikokbdebedaa.Ck
