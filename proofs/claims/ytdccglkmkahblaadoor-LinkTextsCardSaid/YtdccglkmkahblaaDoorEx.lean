/- link.plain and link.Escape, walked: what stands as it is, and what is escaped. -/
import Derived.Test.YtdccglkmkahblaaDoorBd
import Derived.Test.YtdccglkmkahblaaDoorSh
import Derived.Test.YtdccglkmkahblaaDoorBp
import Derived.Tactics
import Derived.Tactics2
import Derived.StillTactics
import Derived.Laws.Shifts
import Derived.Laws.Bits
import Derived.Laws.Bits64
import Derived.Laws.BitsAll
import Derived.Laws.Strings
import Derived.Laws.Concat
import Derived.Laws.Strings2
import Derived.Laws.Strings3
import Derived.RegionTactic
import Derived.LoopTactic
import Derived.WalkMore
import Derived.StillTailTactics
namespace Go.Proofs.YtdccglkmkahblaaDoor.Ex
open Go.RowKit Go.Proofs.YtdccglkmkahblaaDoor.Bp

def plainB (c : Int) : Bool := (decide (97 ≤ c) && decide (c ≤ 122)) || (decide (65 ≤ c) && decide (c ≤ 90)) || (decide (48 ≤ c) && decide (c ≤ 57)) || decide (0 ≤ Lib.indexByte [45, 46, 95, 126] c.toNat.toUInt8)

set_option maxRecDepth 1000000 in
theorem plain (c : Int) (w : World) :
    Calls Tryd.prog 24 #[.int .u8 c] w fun e w' => e = .returned (.bool (plainB c)) ∧ w' = w := by
  go_enter Tryd.func24, Tryd.ntmps24
  go_wp2_with (go_at_call 48; refine (Tryd.strings_IndexByte _ _ _).mono ?_; rintro e w1 ⟨rfl, rfl⟩)
  all_goals (go_ret; refine ⟨congrArg (fun b => Ending.returned (Value.bool b)) ?_, rfl⟩; unfold plainB; rw [Bool.eq_iff_iff]; simp; try omega)

def hexs : List UInt8 := [48, 49, 50, 51, 52, 53, 54, 55, 56, 57, 65, 66, 67, 68, 69, 70]
def hexB (k : Nat) : UInt8 := hexs.getD k 0
/-- A byte escaped. -/
def esc1 (b : UInt8) : List UInt8 := if plainB b.toNat then [b] else [37, hexB (b.toNat / 16), hexB (b.toNat % 16)]
def escL (s : List UInt8) : List UInt8 := s.flatMap esc1
def escB (s : ByteArray) : ByteArray := ⟨(escL s.data.toList).toArray⟩
theorem esc1_length (b : UInt8) : (esc1 b).length ≤ 3 := by unfold esc1; split <;> simp
theorem escL_length (s : List UInt8) : (escL s).length ≤ 3 * s.length := by
  induction s with
  | nil => simp [escL]
  | cons b s ih => have := esc1_length b; simp only [escL, List.flatMap_cons, List.length_append, List.length_cons] at *; omega
theorem escL_take (s : List UInt8) (k : Nat) (b : UInt8) (h : s[k]? = some b) : escL (s.take (k + 1)) = escL (s.take k) ++ esc1 b := by
  have hk : k < s.length := by
    rcases Nat.lt_or_ge k s.length with h' | h'
    · exact h'
    · rw [List.getElem?_eq_none h'] at h; cases h
  rw [List.take_add_one, h]
  simp [escL, List.flatMap_append]
def intOf : Value → Int | .int _ q => q | _ => 0

theorem and15 (x : Nat) (h : x < 256) : bits .and .u8 (x : Int) 15 = (x : Int) % 16 := by
  have h2 : (BitVec.ofInt 8 15).toNat = 2 ^ 4 - 1 := by decide
  have h1 : (BitVec.ofInt 8 (x : Int)).toNat = x := by
    rw [BitVec.ofInt_natCast, BitVec.toNat_ofNat]; exact Nat.mod_eq_of_lt (by omega)
  show IntKind.u8.wrap ((BitVec.ofInt 8 (x : Int) &&& BitVec.ofInt 8 15).toNat : Int) = _
  rw [BitVec.toNat_and, h1, h2, Nat.and_two_pow_sub_one_eq_mod, IntKind.wrap_u8']
  omega
theorem digS (n : Nat) (h : n < 16) (W : World) : Sem.run Tryd.prog (Instr.slice 9 (.string ⟨#[48, 49, 50, 51, 52, 53, 54, 55, 56, 57, 65, 66, 67, 68, 69, 70]⟩) (some (.int .u8 (n : Int))) (some (.int .u8 ((n : Int) + 1))) none) W = .ok (.string ⟨#[hexB n]⟩) W := by
  rw [run_slice_string W 9 _ _ _ _ _ Tryd.underlying9 (by omega) (by omega) (by show (n : Int) + 1 ≤ ((16 : Nat) : Int); omega)]
  have : ∀ m : Fin 16, (⟨#[48, 49, 50, 51, 52, 53, 54, 55, 56, 57, 65, 66, 67, 68, 69, 70]⟩ : ByteArray).extract ((m.1 : Int)).toNat ((m.1 : Int) + 1).toNat = ⟨#[hexB m.1]⟩ := by decide
  exact congrArg (fun x => Result.ok (Value.string x) W) (this ⟨n, h⟩)
theorem digS1 (x : Nat) (h : x < 256) (W : World) : Sem.run Tryd.prog (Instr.slice 9 (.string ⟨#[48, 49, 50, 51, 52, 53, 54, 55, 56, 57, 65, 66, 67, 68, 69, 70]⟩) (some (.int .u8 ((x : Int) / 16))) (some (.int .u8 ((x : Int) / 16 + 1))) none) W = .ok (.string ⟨#[hexB (x / 16)]⟩) W := by
  have := digS (x / 16) (by omega) W
  rwa [Int.natCast_ediv] at this
theorem digS2 (x : Nat) (W : World) : Sem.run Tryd.prog (Instr.slice 9 (.string ⟨#[48, 49, 50, 51, 52, 53, 54, 55, 56, 57, 65, 66, 67, 68, 69, 70]⟩) (some (.int .u8 ((x : Int) % 16))) (some (.int .u8 ((x : Int) % 16 + 1))) none) W = .ok (.string ⟨#[hexB (x % 16)]⟩) W := by
  have := digS (x % 16) (by omega) W
  rwa [Int.natCast_emod] at this

set_option maxHeartbeats 4000000 in
set_option maxRecDepth 1000000 in
theorem escape (s : ByteArray) (w : World) (hs : s.size ≤ 100000) :
    Calls Tryd.prog 9 #[.string s] w fun e w' => e = .returned (.string (escB s)) ∧ Below w.heap.size w w' := by
  go_enter Tryd.func9, Tryd.ntmps9
  go_wp2
  go_loopw [7] (fun iv wr => ∃ k : Nat, k ≤ s.size ∧ iv = .int .i64 k ∧ Lib.IsBuilder 59 5 w.heap.size w.heap.size (Lib.byteCells (escL (s.data.toList.take k))) wr ∧ Below w.heap.size w wr) (fun iv _ => s.size - (intOf iv).toNat)
  case atStart => exact ⟨0, by omega, rfl, Lib.fresh_isBuilder 59 5 w, (Below.refl _ w).alloc (Nat.le_refl _) _⟩
  case round =>
    obtain ⟨k, hk, rfl, hI, hB⟩ := hrel
    have hln : (Lib.byteCells (escL (s.data.toList.take k))).length ≤ 300000 := by
      rw [Lib.byteCells_length]
      have h1 := escL_length (s.data.toList.take k)
      have h2 : (s.data.toList.take k).length ≤ s.size := by rw [List.length_take]; exact Nat.le_trans (Nat.min_le_right _ _) (Nat.le_of_eq Array.length_toList)
      omega
    by_cases hlt : k < s.size
    · have hb0 : s.data.toList[k]? = some s[k] := by rw [List.getElem?_eq_getElem (by simpa using hlt)]; rfl
      have hb1 := s[k].toNat_lt
      have hT := escL_take _ k _ hb0
      by_cases hp : plainB s[k].toNat = true
      · have hE : esc1 s[k] = [s[k]] := by unfold esc1; rw [if_pos hp]
        go_wp2_with (first | (go_at_call 24; refine (plain _ _).mono ?_; rintro e w1 ⟨rfl, rfl⟩) | rw [hp] | (go_at_call 25; refine (Bd.writeByte w.heap.size w.heap.size _ _ _ hI (by omega) hB.size).mono ?_; rintro e w1 ⟨rfl, h1, hb1⟩))
        refine ⟨⟨k + 1, by omega, by rw [Int.natCast_add]; rfl, Or.inr ?_, hB.trans (by assumption)⟩, ?_⟩
        · rw [hT, hE, Lib.byteCells_append]; exact h1
        · show s.size - ((k : Int) + 1).toNat < s.size - (k : Int).toNat
          omega
      · have hp : plainB s[k].toNat = false := by simpa using hp
        have hE : esc1 s[k] = [37, hexB (s[k].toNat / 16), hexB (s[k].toNat % 16)] := by unfold esc1; rw [if_neg (by rw [hp]; simp)]
        go_wp2_with (first | (go_at_call 24; refine (plain _ _).mono ?_; rintro e w1 ⟨rfl, rfl⟩) | rw [hp])
        have d1 := digS1 s[k].toNat hb1
        have d2 := digS2 s[k].toNat
        have v1 : IntKind.u8.wrap ((s[k].toNat : Int) / 16 + 1) = (s[k].toNat : Int) / 16 + 1 := by rw [IntKind.wrap_u8']; omega
        have v2 : IntKind.u8.wrap ((s[k].toNat : Int) % 16 + 1) = (s[k].toNat : Int) % 16 + 1 := by rw [IntKind.wrap_u8']; omega
        have v3 := and15 s[k].toNat hb1
        go_still_tail 22, (by kernel_rfl)
        change wpList _ _ _ _ _ w1.drew
        have hI2 : Lib.IsBuilder 59 5 w.heap.size w.heap.size (Lib.byteCells (escL (s.data.toList.take k))) w1.drew := hI
        have hB2 : Below w.heap.size w w1.drew := hB.drew
        generalize w1.drew = w2 at *
        go_wp2_with (go_at_call 26; refine (Bd.writeString w.heap.size w.heap.size _ ⟨#[37, hexB (s[k].toNat / 16), hexB (s[k].toNat % 16)]⟩ _ hI2 (by show _ + 3 ≤ _; omega) hB2.size).mono ?_; rintro e w3 ⟨rfl, h1, hb3⟩)
        refine ⟨⟨k + 1, by omega, by rw [Int.natCast_add]; rfl, Or.inr ?_, hB2.trans hb3⟩, ?_⟩
        · rw [hT, hE, Lib.byteCells_append]; exact h1
        · show s.size - ((k : Int) + 1).toNat < s.size - (k : Int).toNat
          omega
    · go_wp2_with (go_at_call 27; refine (Tryd.Builder_String_any w.heap.size w.heap.size (escL (s.data.toList.take k)) _ hI hB.size).mono ?_; rintro e w1 ⟨rfl, hb1⟩)
      go_ret
      refine ⟨?_, hB.trans hb1⟩
      have hk2 : k = s.size := by omega
      show Ending.returned (.string ⟨(escL (s.data.toList.take k)).toArray⟩) = _
      rw [escB, hk2, show s.data.toList.take s.size = s.data.toList from List.take_of_length_le (Nat.le_of_eq Array.length_toList)]
end Go.Proofs.YtdccglkmkahblaaDoor.Ex
