/- What the document makes of a leave; what it finds; what is the same: in plain lists. -/
import Derived.Test.YtmimnlbkllgfpaaGreatDoorDe
import Derived.Test.YtmimnlbkllgfpaaGreatDoorLw
import Derived.Test.YtmimnlbkllgfpaaGreatDoorAx7
import Derived.Test.YtmimnlbkllgfpaaGreatDoorAx10
import Derived.Test.YtmimnlbkllgfpaaGreatDoorAx15
import Derived.Test.YtmimnlbkllgfpaaGreatDoorAx16
import Derived.Test.YtmimnlbkllgfpaaGreatDoorAx18
namespace Go.Proofs.YtmimnlbkllgfpaaGreatDoor.Tb
set_option linter.unusedVariables false
set_option linter.unusedSimpArgs false
open Go.RowKit Go.Maps Go.Proofs.YtmimnlbkllgfpaaGreatDoor.A Go.Proofs.YtmimnlbkllgfpaaGreatDoorW.PrintWords Go.Proofs.YtmimnlbkllgfpaaGreatDoor.Di Go.Proofs.YtmimnlbkllgfpaaGreatDoor.So

/-- Which note goes at a leave. -/
def goB (s : List UInt8) (node now : Int) (y : S42) : Bool := decide (nmD y = s) && (decide (y.f1 = node) && decide (now ≤ y.f3))
theorem leave_l0 (L : List S42) (hl : L.length ≤ 1000) (room : Int) (s : ByteArray) (node now : Int) : ∀ (m j k : Nat) (out : List S42) (f : Bool), j + m = L.length → m < k → out.length ≤ j →
    mosaicref31_Table_Leave.l0 k s node now out f (j : Int) room L = (if (f || (L.drop j).any (goB s.data.toList node now)) = true then some (room, out ++ (L.drop j).filter (fun y => !goB s.data.toList node now y), 0) else some (room, L, 4))
  | m, j, 0, out, f, _, hk, _ => by omega
  | 0, j, k + 1, out, f, hj, hk, ho => by
    rw [mosaicref31_Table_Leave.l0, if_neg (by omega), List.drop_eq_nil_of_le (by omega)]
    cases f <;> simp
  | m + 1, j, k + 1, out, f, hj, hk, ho => by
    have hlt : j < L.length := by omega
    have g1 : (j : Int) < (L.length : Int) := by omega
    have g2 : (0 : Int) ≤ (j : Int) := by omega
    have c1 : out.length < 2932031007402 := by omega
    have ih := fun o f ho => leave_l0 L hl room s node now m (j + 1) k o f (by omega) (by omega) ho
    have hdr : L.drop j = L[j] :: L.drop (j + 1) := List.drop_eq_getElem_cons hlt
    have hno : goB s.data.toList node now L[j] = false → mosaicref31_Table_Leave.l0 k s node now (out ++ [L[j]]) f ((j + 1 : Nat) : Int) room L = (if (f || (L.drop j).any (goB s.data.toList node now)) = true then some (room, out ++ (L.drop j).filter (fun y => !goB s.data.toList node now y), 0) else some (room, L, 4)) := fun h => by
      rw [ih _ _ (by rw [List.length_append, List.length_singleton]; omega), hdr, List.any_cons, List.filter_cons, h]
      simp
    rw [mosaicref31_Table_Leave.l0, if_pos g1, if_pos g2, rd42 hlt, wS (by omega)]
    by_cases h1 : nmD L[j] = s.data.toList
    · rw [if_pos (nm_eq.2 h1)]
      by_cases h2 : L[j].f1 = node
      · rw [if_pos h2]
        by_cases h3 : now ≤ L[j].f3
        · have hg : goB s.data.toList node now L[j] = true := by unfold goB; simp [h1, h2, h3]
          rw [if_pos h3, ih _ _ (by omega), hdr, List.any_cons, List.filter_cons, hg]
          simp
        · rw [if_neg h3, if_pos c1]
          exact hno (by unfold goB; simp [h3])
      · rw [if_neg h2, if_pos c1]
        exact hno (by unfold goB; simp [h2])
    · rw [if_neg (fun h => h1 (nm_eq.1 h)), if_pos c1]
      exact hno (by unfold goB; simp [h1])
/-- A leave: the document's answer and its list. -/
theorem dleave {W : World} {lo t bm n : Nat} {rm : Int} {D : DataW Unit} {T T' : TT} {s : ByteArray} {node now c : Int} (hT : Tab W lo t bm n rm D T) {L : List S42} (hD : Dc T L) (hl : L.length ≤ 900) (h : Lev s.data.toList node now T c T') (k : Nat) (hk : 3000 ≤ k) :
    ∃ L', mosaicref31_Table_Leave.f k rm L s node now = some (rm, L', c) ∧ Dc T' L' ∧ L'.length ≤ L.length + 1 := by
  have hn : NoteOk T := fun s j x h => hT.note s j x h
  have hl0 := leave_l0 L (by omega) rm s node now L.length 0 k [] false (by omega) (by omega) (by simp)
  rw [List.drop_zero, List.nil_append, Bool.false_or] at hl0
  have hl0' : mosaicref31_Table_Leave.l0 k s node now [] false 0 rm L = _ := hl0
  unfold mosaicref31_Table_Leave.f
  rw [dtick, Option.bind_some]
  have hin : ∀ y, y ∈ L → y.f1 = (y.f1.toNat : Int) := fun y hy => (hn _ _ _ ((hD.mem y).1 hy)).2.1
  cases h with
  | arg htk => rw [htk, if_neg (by simp)]; exact ⟨L, rfl, hD, by omega⟩
  | no htk hno =>
    rw [htk, if_pos rfl, hl0']
    refine ⟨L, ?_, hD, by omega⟩
    rw [if_neg]
    intro ha
    obtain ⟨y, hy, hg⟩ := List.any_eq_true.1 ha
    unfold goB at hg
    simp only [Bool.and_eq_true, decide_eq_true_eq] at hg
    have h1 := (hD.mem y).1 hy
    rw [hg.1] at h1
    have := hno y.f1.toNat (pN y) (by rw [← hin y hy]; exact hg.2.1) h1
    have h3 : (pN y).f3 = y.f3 := rfl
    omega
  | ok j x htk hj hx hw =>
    rw [htk, if_pos rfl, hl0']
    have hxn := hn _ _ _ hx
    have hgx : goB s.data.toList node now (dN x) = true := by
      unfold goB
      simp only [Bool.and_eq_true, decide_eq_true_eq]
      exact ⟨hxn.1, hxn.2.1.trans hj, hw⟩
    refine ⟨L.filter (fun y => !goB s.data.toList node now y), ?_, ⟨fun y => ?_, hD.srt.sublist List.filter_sublist⟩, Nat.le_trans (List.length_filter_le _ _) (by omega)⟩
    · rw [if_pos (List.any_eq_true.2 ⟨dN x, hD.at hn hx, hgx⟩)]
    · rw [List.mem_filter, hD.mem]
      show _ ↔ (if nmD y = s.data.toList ∧ (y.f1.toNat : Int) = node then none else T (nmD y) y.f1.toNat) = some (pN y)
      constructor
      · rintro ⟨h1, h2⟩
        rw [if_neg, h1]
        rintro ⟨h3, h4⟩
        have e : y.f1.toNat = j := by omega
        rw [h3, e, hx] at h1
        have e2 : x = pN y := Option.some.inj h1
        rw [e2, dN_pN] at hgx
        rw [hgx] at h2; cases h2
      · intro h
        split at h
        · cases h
        · next hne =>
          refine ⟨h, ?_⟩
          have h1 := hin y ((hD.mem y).2 h)
          cases hg : goB s.data.toList node now y with
          | false => rfl
          | true =>
            unfold goB at hg
            simp only [Bool.and_eq_true, decide_eq_true_eq] at hg
            exact absurd ⟨hg.1, h1.symm.trans hg.2.1⟩ hne
/-- Same lists are the same. -/
theorem same04_l0 (l : List Int) (hl : l.length ≤ 1000) : ∀ (m i k : Nat), i + m = l.length → m < k → mosaicref04_Same.l0 k l l (i : Int) = some true
  | m, i, 0, _, hk => by omega
  | 0, i, k + 1, h, hk => by rw [mosaicref04_Same.l0, if_neg (by omega)]
  | m + 1, i, k + 1, h, hk => by
    rw [mosaicref04_Same.l0, if_pos (by omega), if_pos (by omega), if_pos (by omega), if_pos rfl, wS (by omega)]
    exact same04_l0 l hl m (i + 1) k (by omega) (by omega)
theorem same04 (l : List Int) (hl : l.length ≤ 1000) (k : Nat) (hk : l.length < k) : mosaicref04_Same.f k l l = some true := by
  unfold mosaicref04_Same.f; rw [if_pos rfl]; exact same04_l0 l hl l.length 0 k (by omega) hk
theorem same03_l0 (l : List ByteArray) (hl : l.length ≤ 1000) : ∀ (m i k : Nat), i + m = l.length → m < k → mosaicref03_Same.l0 k l l (i : Int) = some true
  | m, i, 0, _, hk => by omega
  | 0, i, k + 1, h, hk => by rw [mosaicref03_Same.l0, if_neg (by omega)]
  | m + 1, i, k + 1, h, hk => by
    rw [mosaicref03_Same.l0, if_pos (by omega), if_pos (by omega), if_pos (by omega), if_pos rfl, wS (by omega)]
    exact same03_l0 l hl m (i + 1) k (by omega) (by omega)
theorem same03 (l : List ByteArray) (hl : l.length ≤ 1000) (k : Nat) (hk : l.length < k) : mosaicref03_Same.f k l l = some true := by
  unfold mosaicref03_Same.f; rw [if_pos rfl]; exact same03_l0 l hl l.length 0 k (by omega) hk
theorem rdm (l : List Nt) (i : Nat) (h : i < l.length) : rd_T42 (l.map dN) (i : Int) = dN (rd_T35 l (i : Int)) := by
  rw [rd42 (by rw [List.length_map]; exact h), List.getElem_map, rd_at h]
theorem same31_l0 (l : List Nt) (hl : l.length ≤ 1000) : ∀ (m i k : Nat), i + m = l.length → m < k → mosaiclaw31_same.l0 k l (l.map dN) (i : Int) = some true
  | m, i, 0, _, hk => by omega
  | 0, i, k + 1, h, hk => by rw [mosaiclaw31_same.l0, if_neg (by omega)]
  | m + 1, i, k + 1, h, hk => by
    rw [mosaiclaw31_same.l0, if_pos (by omega), if_pos (by omega), rdm l i (by omega)]
    have hr : ∀ a b c d e, mosaiclaw31_ref.f a b c d e = some (a, b, c, d, e) := fun a b c d e => by
      unfold mosaiclaw31_ref.f mosaiclaw17_Ref.f; rfl
    rw [hr, Option.bind_some, if_pos (by rw [List.length_map]; omega), if_neg, wS (by omega)]
    · exact same31_l0 l hl m (i + 1) k (by omega) (by omega)
    · unfold dN; simp
theorem same31 (l : List Nt) (hl : l.length ≤ 1000) (k : Nat) (hk : l.length < k) : mosaiclaw31_same.f k l (l.map dN) = some true := by
  unfold mosaiclaw31_same.f; rw [if_pos (by rw [List.length_map])]; exact same31_l0 l hl l.length 0 k (by omega) hk
end Go.Proofs.YtmimnlbkllgfpaaGreatDoor.Tb
