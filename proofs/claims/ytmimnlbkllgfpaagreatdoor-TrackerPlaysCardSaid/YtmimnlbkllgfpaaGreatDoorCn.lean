/- The page's example comes out. -/
import Derived.Test.YtmimnlbkllgfpaaGreatDoorAx2
import Derived.Test.YtmimnlbkllgfpaaGreatDoorAw
import Derived.Test.YtmimnlbkllgfpaaGreatDoorAx0
import Derived.Test.YtmimnlbkllgfpaaGreatDoorWMore
namespace Go.Proofs.YtmimnlbkllgfpaaGreatDoor.Tb
set_option linter.unusedVariables false
set_option linter.unusedSimpArgs false
open Go.RowKit Go.Maps Go.Proofs.YtmimnlbkllgfpaaGreatDoor.A Go.Proofs.YtmimnlbkllgfpaaGreatDoorW.PrintWords

/-- A name of a number. -/
def nmL (n : Int) : List Int := (List.replicate 32 0).set 0 ((Int.tmod n 256) % 256)
def nm (n : Int) : ByteArray := strOfNums (nmL n)
theorem name_eq (n : Int) : mosaiclaw31_name.f n = some (nm n) := by
  unfold mosaiclaw31_name.f
  rw [if_pos (by decide), Option.bind_some, if_pos (by decide)]
  rfl
theorem nm_size (n : Int) : (nm n).size = 32 := by
  unfold nm strOfNums nmL
  simp [ByteArray.size]
def x1 : Nt := ⟨nm 1, 3, ⟨0, 0⟩, 9⟩
def x2 : Nt := ⟨nm 1, 5, ⟨0, 0⟩, 4⟩
theorem may_x1 : mayB x1 0 = true := (may_iff x1 0).2 ⟨by decide, nm_size 1, by decide, by decide, by decide⟩
theorem may_x2 : mayB x2 0 = true := (may_iff x2 0).2 ⟨by decide, nm_size 1, by decide, by decide, by decide⟩
def T1 : TT := putT x1 (fun s j => swp 0 (noT s j))
def T2 : TT := putT x2 (fun s j => swp 0 (T1 s j))
theorem T1_at (j : Nat) : T1 (nameS x1) j = if j = 3 then some x1 else none := by
  unfold T1 putT
  by_cases h : j = 3
  · subst h; rw [if_pos ⟨rfl, rfl⟩, if_pos rfl]
  · rw [if_neg (fun hh => h (by have : (j : Int) = 3 := hh.2; omega)), if_neg h]; rfl
theorem T2_at (j : Nat) : T2 (nameS x1) j = if j = 5 then some x2 else if j = 3 then some x1 else none := by
  unfold T2
  rw [putT]
  by_cases h : j = 5
  · subst h; rw [if_pos ⟨rfl, rfl⟩, if_pos rfl]
  · rw [if_neg (fun hh => h (by have : (j : Int) = 5 := hh.2; omega)), if_neg h, T1_at]
    by_cases h3 : j = 3
    · rw [if_pos h3]; rfl
    · rw [if_neg h3]; rfl
theorem T1_other (s : List UInt8) (h : s ≠ nameS x1) (j : Nat) : T1 s j = none := by
  unfold T1 putT
  rw [if_neg (fun hh => h hh.1)]; rfl
theorem T2_other (s : List UInt8) (h : s ≠ nameS x1) (j : Nat) : T2 s j = none := by
  unfold T2
  rw [putT, if_neg (fun hh => h hh.1)]
  show swp 0 (T1 s j) = none
  rw [T1_other s h j]; rfl
theorem n1_0 : nodesL T1 (nameS x1) 0 = [x1] := by
  unfold nodesL
  rw [if_pos (by decide), show T1 (nameS x1) = fun j => if j = 3 then some x1 else none from funext T1_at]
  simp [cntL, x1]
theorem n2 (now : Int) (h : 0 ≤ now ∧ now ≤ 1000) : nodesL T2 (nameS x1) now = (if now ≤ 9 then [x1] else []) ++ (if now ≤ 4 then [x2] else []) := by
  unfold nodesL
  rw [if_pos (by unfold tickB; simp; omega), show T2 (nameS x1) = fun j => if j = 5 then some x2 else if j = 3 then some x1 else none from funext T2_at]
  simp [cntL, x1, x2]
set_option maxHeartbeats 1000000 in
set_option maxRecDepth 100000 in
theorem awake_calls (w : World) : Calls Tryz.prog 6 #[] w fun e w' => e = .returned (.bool true) ∧ Below w.heap.size w w' := by
  have hNew := fun W => new_ok 2 W (by decide) (by decide)
  have hNm := fun W => mosaiclaw31_name.calls 1 (nm 1) W (name_eq 1)
  go_enter Tryz.func6, Tryz.ntmps6
  go_wp2_with (first
    | (go_at_call 7; refine (hNew _).mono ?_; rintro e w1 ⟨t, bm, rfl, hT, hb⟩; have hK : Kp w.heap.size w w1 := Kp.of_below hb; have hsz := hb.size)
    | (go_at_call 28; refine (hNm _).mono ?_; rintro e w2 ⟨rfl, hb2⟩; have hTb := hT.below hb2; have hKb := hK.trans (Kp.of_below hb2)))
  have hA := announce x1 0 _ hTb (by omega) hKb.size (by rw [show x1.f0 = nm 1 from rfl, nm_size]; unfold maxLen; omega)
  refine hA.mono ?_
  rintro e w3 ⟨c, D3, T3, rfl, hAnn, hT3, hK3⟩
  obtain ⟨rfl, rfl⟩ := hAnn.ok_of may_x1 (Or.inr ⟨[], names_none 0, by decide⟩)
  have hKc := hKb.trans hK3
  clear hA hAnn
  go_wp2_with (first
    | (go_at_call 28; refine (hNm _).mono ?_; rintro e w4 ⟨rfl, hb4⟩; have hTd := hT3.below hb4; have hKd := hKc.trans (Kp.of_below hb4)))
  have hA := announce x2 0 _ hTd (by omega) hKd.size (by rw [show x2.f0 = nm 1 from rfl, nm_size]; unfold maxLen; omega)
  refine hA.mono ?_
  rintro e w5 ⟨c, D5, T5, rfl, hAnn, hT5, hK5⟩
  obtain ⟨rfl, rfl⟩ := hAnn.ok_of may_x2 (Or.inl (by
    show nodesL T1 (nameS x1) 0 ≠ []
    rw [n1_0]; simp))
  have hKe := hKd.trans hK5
  clear hA hAnn
  have hTc : Tab w5 w.heap.size t bm 2 2 D5 T2 := hT5
  have hl4 : (nodesL T2 (nm 1).data.toList 4).length = 2 := by
    have := n2 4 (by decide)
    rw [show (nm 1).data.toList = nameS x1 from rfl, this]; rfl
  have hl5 : (nodesL T2 (nm 1).data.toList 5).length = 1 := by
    have := n2 5 (by decide)
    rw [show (nm 1).data.toList = nameS x1 from rfl, this]; rfl
  have hL9 : (namesL T2 9 D5).length = 1 := by
    rw [(namesAre hTc 9).length (names_one T2_other), n2 9 (by decide)]; rfl
  have hL10 : (namesL T2 10 D5).length = 0 := by
    rw [(namesAre hTc 10).length (names_one T2_other), n2 10 (by decide)]; rfl
  have hs1 : (nm 1).size ≤ maxLen := by rw [nm_size]; unfold maxLen; omega
  clear hT5 hT3 hTd hTb hT hK hKb hKc hKd hK3 hK5 hNew
  go_wp2_with (first
    | (go_at_call 28; refine (hNm _).mono ?_; rintro e w6 ⟨rfl, hb6⟩; have hTc := hTc.below hb6; have hKe := hKe.trans (Kp.of_below hb6))
    | (go_at_call 20; refine (nodes (nm 1) hs1 _ _ hTc).mono ?_; rintro e w7 ⟨v7, rfl, hR7, hb7⟩; obtain ⟨A7, c7, rfl, _, _⟩ := Kd.R_reads hR7; have hTc := hTc.below hb7; have hKe := hKe.trans (Kp.of_below hb7))
    | (go_at_call 25; refine (len_calls _ _ hTc (by omega)).mono ?_; rintro e w8 ⟨rfl, hb8⟩; have hTc := hTc.below hb8; have hKe := hKe.trans (Kp.of_below hb8)))
  go_ret
  exact ⟨rfl, ⟨hKe.os, hKe.tape, hKe.output, hKe.size, fun k hk => hKe.low k hk hk⟩⟩
end Go.Proofs.YtmimnlbkllgfpaaGreatDoor.Tb
/- A table with one note: what counts. -/
namespace Go.Proofs.YtmimnlbkllgfpaaGreatDoor.Tb
set_option linter.unusedVariables false
set_option linter.unusedSimpArgs false
open Go.RowKit Go.Maps Go.Proofs.YtmimnlbkllgfpaaGreatDoor.A Go.Proofs.YtmimnlbkllgfpaaGreatDoorW.PrintWords

/-- One note alone. -/
def oneT (y : Nt) : TT := putT y noT
theorem oneT_other (y : Nt) (s : List UInt8) (h : s ≠ nameS y) (j : Nat) : oneT y s j = none := by
  unfold oneT putT; rw [if_neg (fun hh => h hh.1)]; rfl
theorem Kp.below {lo B : Nat} {a w w' : World} (h : Kp lo w w') (hB : B ≤ lo) (hb : Below B a w) (hBa : B ≤ w.heap.size) : Below B a w' :=
  hb.trans ⟨h.os, h.tape, h.output, h.size, fun k hk => h.low k (Nat.lt_of_lt_of_le hk hB) (Nat.lt_of_lt_of_le hk hBa)⟩
theorem names_few (y : Nt) (now : Int) : ∃ ss, NamesAre (oneT y) now ss ∧ (ss.length : Int) < 3 := by
  refine ⟨_, names_one (oneT_other y), ?_⟩
  split <;> simp
end Go.Proofs.YtmimnlbkllgfpaaGreatDoor.Tb
