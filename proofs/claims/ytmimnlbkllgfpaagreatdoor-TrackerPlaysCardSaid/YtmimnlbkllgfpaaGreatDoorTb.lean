/- What a tracker's table is in memory: a map from names to entries, each sixteen pointers to notes. -/
import Derived.Test.YtmimnlbkllgfpaaGreatDoorAx0
import Derived.Test.YtmimnlbkllgfpaaGreatDoorWMore
import Derived.Test.YtmimnlbkllgfpaaGreatDoorProg
import Derived.Maps.RangeWalk
import Derived.Maps.OwnSet
import Derived.Maps.OwnOps
import Derived.StringKeys
import Derived.Sort.KeysCollected
import Derived.WalkKit
import Derived.LoopTactic
import Derived.Deep.RegionHeld3
import Derived.Below
import Derived.BigCall
import Derived.Shelf.Abstract
import Derived.Deep.QuietTactic
namespace Go.Proofs.YtmimnlbkllgfpaaGreatDoor.Tb
open Go.RowKit Go.Maps Go.Proofs.YtmimnlbkllgfpaaGreatDoor.A Go.Proofs.YtmimnlbkllgfpaaGreatDoorW.PrintWords

structure Aside (p : Prop) : Prop where mk :: (out : p)
def intOf : Value → Int | .int _ q => q | _ => 0
/-- A note. -/
abbrev Nt := S35
def ntC (n : Nt) : Array Value := #[.string n.f0, .int .i64 n.f1, .int .i64 n.f2.f0, .int .i64 n.f2.f1, .int .i64 n.f3]
/-- How an entry's pointer reads. -/
def ptrE : Value → Option (DataW Unit × List MemPlace)
  | .pointer none => some (.lit (.int .i64 (-1)), [])
  | .pointer (some ⟨b, 0, none⟩) => some (.lit (.int .i64 (b : Int)), [])
  | _ => none
theorem ptrE_nil : ptrE (.pointer none) = some (.lit (.int .i64 (-1)), []) := rfl
theorem ptrE_at (b : Nat) : ptrE (.pointer (some ⟨b, 0, none⟩)) = some (.lit (.int .i64 (b : Int)), []) := rfl
theorem ptrE_inv {v : Value} {d : Int} {ps : List MemPlace} (h : ptrE v = some (.lit (.int .i64 d), ps)) : (v = .pointer none ∧ d = -1) ∨ ∃ b : Nat, v = .pointer (some ⟨b, 0, none⟩) ∧ d = b := by
  unfold ptrE at h
  split at h
  · simp at h; exact Or.inl ⟨rfl, h.1.symm⟩
  · simp at h; exact Or.inr ⟨_, rfl, h.1.symm⟩
  · cases h
/-- What the map has of a name: the entry's block, or -1. -/
def nilD : DataW Unit := .lit (.int .i64 (-1))
def blkD (b : Nat) : DataW Unit := .lit (.int .i64 (b : Int))
/-- An entry in memory: at each place nil, or a note. -/
def Ent (W : World) (b : Nat) (f : Nat → Option Nt) : Prop :=
  ∃ cur : Array Value, W.heap[b]? = some (.cells cur 87 (0, 0)) ∧ cur.size = 16 ∧ ∀ j, j < 16 →
    (f j = none ∧ cur[j]? = some (.pointer none)) ∨ ∃ n nb, f j = some n ∧ cur[j]? = some (.pointer (some ⟨nb, 0, none⟩)) ∧ W.heap[nb]? = some (.cells (ntC n) 35 (0, 0))
/-- The table. -/
structure Tab (W : World) (lo t bm n : Nat) (room : Int) (D : DataW Unit) (T : List UInt8 → Nat → Option Nt) : Prop where
  hdr : W.heap[t]? = some (.cells #[.int .i64 room, .map (some bm)] 78 (0, 0))
  own : W.ownsMap Tryz.prog 9 ptrE bm n D
  lom : lo ≤ bm
  gone : ∀ s, has D (.string s) = false → ∀ j, T s j = none
  ent : ∀ s, has D (.string s) = true → ∃ b, lo ≤ b ∧ D.atKey (.string s) nilD = blkD b ∧ Ent W b (T s)
  inj : ∀ s s' b, has D (.string s) = true → has D (.string s') = true → D.atKey (.string s) nilD = blkD b → D.atKey (.string s') nilD = blkD b → s = s'
  note : ∀ s j x, T s j = some x → x.f0.data.toList = s ∧ x.f1 = j ∧ 1 ≤ j ∧ j < 16
theorem Ent.mono {W W' : World} {b : Nat} {f : Nat → Option Nt} (h : Ent W b f) (hk : ∀ k, k < W.heap.size → W'.heap[k]? = W.heap[k]?) : Ent W' b f := by
  obtain ⟨cur, hb, hs, hf⟩ := h
  have lt : ∀ {k : Nat} {o : Obj}, W.heap[k]? = some o → W'.heap[k]? = some o := fun {k o} ho => by
    rw [hk k (Array.getElem?_eq_some_iff.1 ho).1]; exact ho
  refine ⟨cur, lt hb, hs, fun j hj => ?_⟩
  rcases hf j hj with h | ⟨n, nb, h1, h2, h3⟩
  · exact Or.inl h
  · exact Or.inr ⟨n, nb, h1, h2, lt h3⟩
theorem Tab.below {W W' : World} {lo t bm n : Nat} {room : Int} {D : DataW Unit} {T : List UInt8 → Nat → Option Nt} (h : Tab W lo t bm n room D T) (hb : Below W.heap.size W W') : Tab W' lo t bm n room D T := by
  have lt : ∀ {k : Nat} {o : Obj}, W.heap[k]? = some o → W'.heap[k]? = some o := fun {k o} ho => by
    rw [hb.block k (Array.getElem?_eq_some_iff.1 ho).1]; exact ho
  refine ⟨lt h.hdr, ?_, h.lom, h.gone, fun s hs => ?_, h.inj, h.note⟩
  · obtain ⟨es, clock, h1, h2⟩ := h.own
    exact ⟨es, clock, lt h1, h2⟩
  · obtain ⟨b, h0, h1, h2⟩ := h.ent s hs
    exact ⟨b, h0, h1, h2.mono (fun k hk => hb.block k hk)⟩
/-- What counts of an entry's first places. -/
def cntL (f : Nat → Option Nt) (now : Int) : Nat → List Nt
  | 0 => []
  | m + 1 => cntL f now m ++ (match f m with | some x => if now ≤ x.f3 then [x] else [] | none => [])
def tickB (n : Int) : Bool := decide (0 ≤ n) && decide (n ≤ 1099511627776)
/-- What is announced of a name, and counts. -/
def nodesL (T : List UInt8 → Nat → Option Nt) (s : List UInt8) (now : Int) : List Nt := if tickB now = true then cntL (T s) now 16 else []
/-- The names that are there are these. -/
def NamesAre (T : List UInt8 → Nat → Option Nt) (now : Int) (ss : List (List UInt8)) : Prop := ss.Nodup ∧ ∀ s, s ∈ ss ↔ nodesL T s now ≠ []
theorem NamesAre.length {T : List UInt8 → Nat → Option Nt} {now : Int} {ss ss' : List (List UInt8)} (h : NamesAre T now ss) (h' : NamesAre T now ss') : ss.length = ss'.length :=
  List.Perm.length_eq ((List.perm_ext_iff_of_nodup h.1 h'.1).2 fun s => by rw [h.2, h'.2])
theorem law9 : Keyed Tryz.prog 9 := string_keyed Tryz.underlying9
end Go.Proofs.YtmimnlbkllgfpaaGreatDoor.Tb
