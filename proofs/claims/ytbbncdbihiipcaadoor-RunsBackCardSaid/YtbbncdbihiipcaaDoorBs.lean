/- bits.turn: a bit turned. -/
import Derived.Test.YtbbncdbihiipcaaDoorAx1
import Derived.WalkKit
import Derived.BigCall
import Derived.FnLit
import Derived.LoopTactic
import Derived.Below
namespace Go.Proofs.YtbbncdbihiipcaaDoor.Tu
open Go.RowKit
open Go.Proofs.YtbbncdbihiipcaaDoorW.PrintWords

theorem frozen_bytes (w : World) (e : TypeId) (s : ByteArray) (j : Nat) (hj : j < s.size) : (Lib.bytesWorld w e s).frozen? ⟨w.heap.size, j, none⟩ = false := by
  have h := Lib.bytesWorld_at_new w e s
  have hz : s.size ≤ (Lib.bytesCells w e s).size := by unfold Lib.bytesCells; simp [show s.data.size = s.size from rfl]
  unfold World.frozen?
  rw [h]
  simp
  omega

/-- A byte of a row of bytes is written. -/
theorem reads_set {w : World} {b n : Nat} {xs : List Int} (h : ReadsInt w .u8 (some ⟨b, 0, none⟩) n xs) (j : Nat) (hj : j < n) (v : Int) :
    ReadsInt (w.setCell ⟨b, j, none⟩ (.int .u8 v)) .u8 (some ⟨b, 0, none⟩) n (xs.set j v) := by
  obtain ⟨h1, h2, h3⟩ := h
  refine ⟨by rw [List.length_set]; exact h1, h2, fun hp => ⟨_, rfl, fun k hk => ?_⟩⟩
  obtain ⟨ad, e, hc⟩ := h3 hp
  cases e
  have hj' := hc j hj
  have hk' := hc k hk
  rw [Go.Proofs.YtbbncdbihiipcaaDoorW.PrintWords.add_plain] at hj' hk' ⊢
  by_cases hkj : j = k
  · subst hkj
    rw [World.cell?_setCell_same' _ _ _ (by rw [hj']; rfl), List.getD_eq_getElem?_getD, List.getElem?_set_self (by omega)]; rfl
  · have hne : (⟨b, j, none⟩ : Addr) ≠ ⟨b, k, none⟩ := by intro h; cases h; exact hkj rfl
    have ho : (w.setCell ⟨b, j, none⟩ (.int .u8 v)).cell? ⟨b, k, none⟩ = w.cell? ⟨b, k, none⟩ := by apply World.cell?_setCell_other; exact hne
    rw [ho, hk', List.getD_eq_getElem?_getD, List.getD_eq_getElem?_getD, List.getElem?_set_ne hkj]
/-- The bytes with a bit turned. -/
def turnB (s : ByteArray) (i : Nat) : ByteArray := strOfNums ((bytesOf s).set (i / 8) (bits .xor .u8 (s.data.toList.getD (i / 8) 0).toNat (2 ^ (i % 8) % 256)))

set_option maxRecDepth 100000 in
set_option maxHeartbeats 1000000 in
theorem turn (s : ByteArray) (i : Nat) (hs : s.size ≤ 1000) (hi : i / 8 < s.size) (w : World) :
    Calls Tryd.prog 62 #[.string s, .int .i64 i] w fun e w' => e = .returned (.string (turnB s i)) ∧ Below w.heap.size w w' := by
  obtain ⟨Z, hZ⟩ : ∃ Z, Z = turnB s i := ⟨_, rfl⟩
  rw [← hZ]
  have kb := fun W => print_bytes (P := Tryd.prog) 9 59 5 Tryd.underlying9 Tryd.underlying59 Tryd.underlying5 s W
  have hB := bytes_below (Below.refl w.heap.size w) (Nat.le_refl _) 5 s
  have hc := Lib.bytesWorld_cell w 5 s (i / 8) hi
  have hf := frozen_bytes w 5 s (i / 8) hi
  have hz := Lib.bytesWorld_size w 5 s
  have hr := bytes_reads w 5 s (by omega)
  have q1 : Int.tdiv (i : Int) 8 = ((i / 8 : Nat) : Int) := by rw [show (8 : Int) = ((8 : Nat) : Int) from rfl, ← Int.ofNat_tdiv]
  have q2 : Int.tmod (i : Int) 8 = ((i % 8 : Nat) : Int) := by rw [show (8 : Int) = ((8 : Nat) : Int) from rfl, ← Int.ofNat_tmod]
  have q3 : ((i / 8 : Nat) : Int) < (s.size : Int) := by omega
  obtain ⟨c, hcap⟩ : ∃ c, c = grownCap w s.size 0 5 := ⟨_, rfl⟩
  go_enter Tryd.func62, Tryd.ntmps62
  go_wp2
  generalize Lib.bytesWorld w 5 s = w1 at *
  go_region
  have hx : s.data[i / 8]'hi = s.data.toList.getD (i / 8) 0 := by
    rw [List.getD_eq_getElem?_getD, List.getElem?_eq_getElem (by rw [data_length]; exact hi)]; rfl
  rw [hx]
  obtain ⟨v, hv⟩ : ∃ v, v = bits .xor .u8 ((s.data.toList.getD (i / 8) 0).toNat : Int) (2 ^ (i % 8) % 256) := ⟨_, rfl⟩
  rw [← hv]
  have hT : strOfNums ((bytesOf s).set (i / 8) v) = Z := by rw [hZ, hv]; rfl
  have hr2 := reads_set hr (i / 8) hi v
  have hB2 : Below w.heap.size w (w1.setCell ⟨w.heap.size, i / 8, none⟩ (.int .u8 v)) := hB.setCell (p := ⟨w.heap.size, i / 8, none⟩) (Nat.le_refl _) _
  generalize w1.setCell ⟨w.heap.size, i / 8, none⟩ (.int .u8 v) = w2 at *
  have hS := string_of_reads (P := Tryd.prog) (w := w2.drew) (src := 59) (dst := 9) (c := grownCap w s.size 0 5) Tryd.underlying59 Tryd.underlying5 Tryd.underlying9 (hr2.drewN 1)
  rw [hT] at hS
  have hB3 := below_drew1 hB2
  generalize w2.drew = w3 at *
  clear hT hZ hv hx hr2 hB2 hB hc hf hz hr kb q1 q2 q3 hcap
  go_wp2
  go_ret
  exact ⟨rfl, hB3⟩

end Go.Proofs.YtbbncdbihiipcaaDoor.Tu
/- bits.Of: the set of numbers. -/
namespace Go.Proofs.YtbbncdbihiipcaaDoor.Bo
open Go.RowKit
open Go.Proofs.YtbbncdbihiipcaaDoorW.PrintWords (Drawn0 ReadsRow)
open Go.Proofs.YtbbncdbihiipcaaDoorW

/-- Where whole numbers lie. -/
def Ints (w : World) (A : Option Addr) (l : List Int) : Prop := ∀ (k : Nat) (x : Int), l[k]? = some x → ∃ ad, A = some ad ∧ w.cell? (ad.add k) = some (.int .i64 x)
theorem Ints.below {w w' : World} {A : Option Addr} {l : List Int} (h : Ints w A l) (hb : Below w.heap.size w w') : Ints w' A l := by
  intro k x hx
  obtain ⟨ad, e, c⟩ := h k x hx
  exact ⟨ad, e, (hb.cell (World.block_lt_of_cell? _ _ c)).trans c⟩

def inB (n i : Int) : Bool := decide (0 ≤ i) && decide (i < n)
theorem in_eq (n i : Int) : A.bits_in.f n i = some (inB n i) := by
  unfold A.bits_in.f inB
  by_cases h : 0 ≤ i <;> simp [h]
structure Aside (p : Prop) : Prop where mk :: (out : p)
def intOf : Value → Int | .int _ q => q | _ => 0

set_option maxRecDepth 100000 in
theorem lit (b : Nat) (n i : Int) (w : World) (hbx : w.cell? ⟨b, 0, none⟩ = some (.int .i64 n)) : Calls Tryd.prog 60 #[.int .i64 i, .pointer (some ⟨b, 0, none⟩)] w fun e w' => e = .returned (.bool !(inB n i)) ∧ Below w.heap.size w w' := by
  have hI := fun w => A.bits_in.calls n i (inB n i) w (in_eq n i)
  generalize inB n i = r at *
  go_enter Tryd.func60, Tryd.ntmps60
  go_wp2_with (go_at_call 61; refine (hI _).mono ?_; rintro e w1 ⟨rfl, hd⟩)
  go_ret
  exact ⟨rfl, hd.below⟩

set_option maxHeartbeats 1000000 in
set_option maxRecDepth 100000 in
theorem indexFunc (A : Option Addr) (c : Nat) (l : List Int) (b : Nat) (n : Int) (w : World) (h : Ints w A l) (hl : l.length ≤ 100000) (hbx : w.cell? ⟨b, 0, none⟩ = some (.int .i64 n)) :
    Calls Tryd.prog 80 #[.slice A l.length c, .func (.func 60) #[] #[.pointer (some ⟨b, 0, none⟩)]] w fun e w' => e = .returned (.int .i64 (if l.all (inB n) then -1 else (l.takeWhile (inB n)).length)) ∧ Below w.heap.size w w' := by
  obtain ⟨R, hRR⟩ : ∃ R : Int, R = if l.all (inB n) then (-1 : Int) else ((l.takeWhile (inB n)).length : Int) := ⟨_, rfl⟩
  rw [← hRR]
  have hRR := Aside.mk hRR
  have hbl := World.block_lt_of_cell? _ _ hbx
  go_enter Tryd.func80, Tryd.ntmps80
  go_wp2
  go_loopw [8] (fun iv wr => ∃ k : Nat, k ≤ l.length ∧ iv = .int .i64 k ∧ (l.take k).all (inB n) = true ∧ Below w.heap.size w wr) (fun iv _ => l.length - (Bo.intOf iv).toNat)
  case atStart => exact ⟨0, by omega, rfl, rfl, Below.refl _ w⟩
  case round =>
    obtain ⟨k, hk, rfl, ha, hB⟩ := hrel
    by_cases hlt : k < l.length
    · obtain ⟨x, hx⟩ : ∃ x, l[k]? = some x := ⟨l[k], List.getElem?_eq_getElem hlt⟩
      obtain ⟨ad, rfl, c0⟩ := (h.below hB) k x hx
      have hbx' : wr.cell? ⟨b, 0, none⟩ = some (.int .i64 n) := (hB.cell (p := ⟨b, 0, none⟩) hbl).trans hbx
      have hT : l.take (k + 1) = l.take k ++ [x] := by rw [List.take_add_one, hx]; rfl
      have hd : (l.drop k) = x :: l.drop (k + 1) := by rw [List.drop_eq_getElem_cons hlt]; congr 1; rw [List.getElem?_eq_getElem hlt] at hx; exact Option.some.inj hx
      cases hev : inB n x with
      | true =>
        have hL := lit b n x wr hbx'
        rw [hev] at hL
        go_wp2_with (go_at_call 60; refine hL.mono ?_; rintro e w1 ⟨rfl, hb1⟩)
        refine ⟨⟨k + 1, by omega, by rw [Int.natCast_add]; rfl, by rw [hT, List.all_append, ha]; simp [hev], hB.trans (hb1.mono hB.size)⟩, ?_⟩
        show l.length - ((k : Int) + 1).toNat < l.length - (k : Int).toNat
        omega
      | false =>
        have hL := lit b n x wr hbx'
        rw [hev] at hL
        have hR : (if l.all (inB n) then (-1 : Int) else ((l.takeWhile (inB n)).length : Int)) = (k : Int) := by
          have hsplit : l = l.take k ++ x :: l.drop (k + 1) := by rw [← hd, List.take_append_drop]
          have hall : l.all (inB n) = false := by rw [hsplit, List.all_append]; simp [hev]
          rw [if_neg (by rw [hall]; simp), hsplit, List.takeWhile_append_of_pos (by intro y hy; exact List.all_eq_true.mp ha y hy)]
          simp [hev, List.length_take]; omega
        have hRk := Aside.mk (hRR.out.trans hR)
        clear hR hT hd
        go_wp2_with (go_at_call 60; refine hL.mono ?_; rintro e w1 ⟨rfl, hb1⟩)
        go_ret
        exact ⟨by rw [hRk.out]; rfl, hB.trans (hb1.mono hB.size)⟩
    · have hke : k = l.length := by omega
      have hall : l.all (inB n) = true := by rw [hke, List.take_of_length_le (Nat.le_refl _)] at ha; exact ha
      have hRk := Aside.mk (hRR.out.trans (if_pos hall))
      clear hall
      go_wp2_with fail
      go_ret
      exact ⟨by rw [hRk.out]; rfl, hB⟩

set_option maxRecDepth 100000 in
theorem containsFunc (A : Option Addr) (c : Nat) (l : List Int) (b : Nat) (n : Int) (w : World) (h : Ints w A l) (hl : l.length ≤ 100000) (hbx : w.cell? ⟨b, 0, none⟩ = some (.int .i64 n)) :
    Calls Tryd.prog 59 #[.slice A l.length c, .func (.func 60) #[] #[.pointer (some ⟨b, 0, none⟩)]] w fun e w' => e = .returned (.bool (!(l.all (inB n)))) ∧ Below w.heap.size w w' := by
  have hI := indexFunc A c l b n w h hl hbx
  have hz : decide ((0 : Int) ≤ (if l.all (inB n) then (-1 : Int) else ((l.takeWhile (inB n)).length : Int))) = !(l.all (inB n)) := by
    cases l.all (inB n) <;> simp
  generalize (if l.all (inB n) then (-1 : Int) else ((l.takeWhile (inB n)).length : Int)) = R at *
  go_enter Tryd.func59, Tryd.ntmps59
  go_wp2_with (go_at_call 80; refine hI.mono ?_; rintro e w1 ⟨rfl, hb1⟩)
  go_ret
  exact ⟨by rw [← hz]; rfl, hb1⟩

end Go.Proofs.YtbbncdbihiipcaaDoor.Bo
/- bits.Of as a whole. -/
namespace Go.Proofs.YtbbncdbihiipcaaDoor.Bo
open Go.RowKit
open Go.Proofs.YtbbncdbihiipcaaDoorW.PrintWords

theorem w64 {n : Int} (h : -9223372036854775808 ≤ n ∧ n ≤ 9223372036854775807) : wrap64 n = n := by
  unfold wrap64; omega
def hasB (s : ByteArray) (i : Int) : Bool := A.bits_Has.f s i == some true
theorem has_f (s : ByteArray) (i : Int) (h : -9223372036854775808 ≤ i ∧ i ≤ 9223372036854775807) : A.bits_Has.f s i = some (hasB s i) := by
  have key : ∃ r, A.bits_Has.f s i = some r := by
    unfold A.bits_Has.f
    by_cases h1 : i ≥ 0
    · rw [if_pos h1]
      obtain ⟨k, rfl⟩ := Int.eq_ofNat_of_zero_le h1
      have q1 : Int.tdiv (k : Int) 8 = ((k / 8 : Nat) : Int) := by rw [show (8 : Int) = ((8 : Nat) : Int) from rfl, ← Int.ofNat_tdiv]
      have q2 : Int.tmod (k : Int) 8 = ((k % 8 : Nat) : Int) := by rw [show (8 : Int) = ((8 : Nat) : Int) from rfl, ← Int.ofNat_tmod]
      rw [q1, q2, w64 (by omega)]
      split
      · rw [if_pos (by omega), if_pos (by omega)]; exact ⟨_, rfl⟩
      · exact ⟨_, rfl⟩
    · rw [if_neg h1]; exact ⟨_, rfl⟩
  obtain ⟨r, hr⟩ := key
  unfold hasB
  rw [hr]
  cases r <;> rfl
def emptyB (n : Int) : ByteArray := strOfNums (List.replicate ((n.toNat + 7) / 8) 0)
theorem empty_f (n : Int) (h : 0 ≤ n ∧ n ≤ 160) : A.bits_Empty.f n = some (emptyB n) := by
  obtain ⟨k, rfl⟩ := Int.eq_ofNat_of_zero_le h.1
  have hm : A.bits_may.f (k : Int) = some true := by
    unfold A.bits_may.f; rw [if_pos (by omega)]; simp; omega
  have hg : A.bits_long.f (k : Int) = some (((k + 7) / 8 : Nat) : Int) := by
    unfold A.bits_long.f
    rw [w64 (n := (k : Int) + 8) (by omega), w64 (n := (k : Int) + 8 - 1) (by omega), show (k : Int) + 8 - 1 = ((k + 7 : Nat) : Int) by omega, show (8 : Int) = ((8 : Nat) : Int) from rfl, ← Int.ofNat_tdiv, w64 (by omega)]
  unfold A.bits_Empty.f
  rw [hm, Option.bind_some, if_pos rfl, hg, Option.bind_some, if_pos (by omega), if_pos (by omega), Int.toNat_natCast]
  rfl
theorem strOfNums_size (l : List Int) : (strOfNums l).size = l.length := by
  unfold strOfNums; simp [ByteArray.size]
theorem empty_size (n : Int) : (emptyB n).size = (n.toNat + 7) / 8 := by unfold emptyB; rw [strOfNums_size, List.length_replicate]
theorem turn_size (s : ByteArray) (i : Nat) : (Tu.turnB s i).size = s.size := by unfold Tu.turnB; rw [strOfNums_size, List.length_set, bytesOf_length]
/-- Numbers put into a set, one after the other; none: one was there. -/
def ofB : ByteArray → List Int → Option ByteArray
  | s, [] => some s
  | s, i :: r => if hasB s i = true then none else ofB (Tu.turnB s i.toNat) r
theorem ofB_snoc (x : Int) : ∀ (l : List Int) (s : ByteArray), ofB s (l ++ [x]) = (ofB s l).bind fun t => if hasB t x = true then none else some (Tu.turnB t x.toNat)
  | [], s => by simp [ofB]
  | i :: r, s => by
    simp only [List.cons_append, ofB]
    split
    · rfl
    · exact ofB_snoc x r _
theorem ofB_none (l : List Int) (k : Nat) (s : ByteArray) (h : ofB s (l.take k) = none) : ofB s l = none := by
  have key : ∀ (a b : List Int) (s : ByteArray), ofB s a = none → ofB s (a ++ b) = none := by
    intro a
    induction a with
    | nil => intro b s h; cases h
    | cons i r ih =>
      intro b s h
      simp only [List.cons_append, ofB] at h ⊢
      split
      · rfl
      · rename_i hh; rw [if_neg hh] at h; exact ih b _ h
  have := key (l.take k) (l.drop k) s h
  rwa [List.take_append_drop] at this
theorem ofB_size : ∀ (l : List Int) (s t : ByteArray), ofB s l = some t → t.size = s.size
  | [], s, t, h => by cases h; rfl
  | i :: r, s, t, h => by
    simp only [ofB] at h
    split at h
    · cases h
    · rw [ofB_size r _ t h, turn_size]

set_option maxHeartbeats 2000000 in
set_option maxRecDepth 100000 in
theorem of_yes (A0 : Option Addr) (c : Nat) (l : List Int) (n : Int) (w : World) (h : Ints w A0 l) (hl : l.length ≤ 100000) (hn : 0 ≤ n ∧ n ≤ 160) (hall : l.all (inB n) = true) (r1 : ByteArray) (r2 : Int)
    (hr : (ofB (emptyB n) l = none ∧ r1 = ⟨#[]⟩ ∧ r2 = 5) ∨ (ofB (emptyB n) l = some r1 ∧ r2 = 0)) :
    Calls Tryd.prog 33 #[.int .i64 n, .slice A0 l.length c] w fun e w' => e = .returned (.tuple #[.string r1, .int .i64 r2]) ∧ Below w.heap.size w w' := by
  have hr := Aside.mk hr
  have hMay := fun w => A.bits_may.calls n true w (by unfold A.bits_may.f; rw [if_pos (by omega)]; simp; omega)
  have hE := fun w => A.bits_Empty.calls n _ w (empty_f n hn)
  have hCF := fun (b : Nat) (w' : World) (h' : Ints w' A0 l) (hb : w'.cell? ⟨b, 0, none⟩ = some (.int .i64 n)) => containsFunc A0 c l b n w' h' hl hb
  rw [hall] at hCF
  have hbox := heap_alloc_new w (.cells #[.int .i64 n] 3)
  have hbx := blk_cell hbox 0
  have hB1 : Below w.heap.size w (w.alloc (.cells #[.int .i64 n] 3)) := (Below.refl _ w).alloc (Nat.le_refl _) _
  have hs1 : (w.alloc (.cells #[.int .i64 n] 3)).heap.size = w.heap.size + 1 := by simp
  have hI1 := h.below hB1
  go_enter Tryd.func33, Tryd.ntmps33
  go_wp2_with (first | (go_at_call 40; refine (hMay _).mono ?_; rintro e w1 ⟨rfl, hd1⟩; have hbx1 := (hd1.below.cell (p := ⟨w.heap.size, 0, none⟩) (by show w.heap.size < _; rw [hs1]; omega)).trans hbx) | (go_at_call 59; refine (hCF _ _ (hI1.below hd1.below) hbx1).mono ?_; rintro e w2 ⟨rfl, hb2⟩; have hbx2 := (hb2.cell (p := ⟨w.heap.size, 0, none⟩) (World.block_lt_of_cell? _ _ hbx1)).trans hbx1) | (go_at_call 43; refine (hE _).mono ?_; rintro e w3 ⟨rfl, hb3⟩))
  have hB3 : Below w.heap.size w w3 := hB1.trans ((hd1.below.mono hB1.size).trans ((hb2.mono (Nat.le_trans hB1.size hd1.below.size)).trans (hb3.mono (Nat.le_trans (Nat.le_trans hB1.size hd1.below.size) hb2.size))))
  clear hMay hE hCF hbox hbx hB1 hI1 hbx1 hbx2 hd1 hb2 hb3
  go_loopw [6, 21] (fun sv iv wr => ∃ (k : Nat) (t : ByteArray), k ≤ l.length ∧ sv = .string t ∧ iv = .int .i64 k ∧ ofB (emptyB n) (l.take k) = some t ∧ Below w.heap.size w wr) (fun _ iv _ => l.length - (Bo.intOf iv).toNat)
  case atStart => exact ⟨0, emptyB n, by omega, rfl, rfl, rfl, hB3⟩
  case round =>
    obtain ⟨k, t, hk, rfl, rfl, ht, hB⟩ := hrel
    by_cases hlt : k < l.length
    · obtain ⟨x, hx⟩ : ∃ x, l[k]? = some x := ⟨l[k], List.getElem?_eq_getElem hlt⟩
      obtain ⟨ad, rfl, c0⟩ := (h.below hB) k x hx
      have hT : l.take (k + 1) = l.take k ++ [x] := by rw [List.take_add_one, hx]; rfl
      have hxin : inB n x = true := List.all_eq_true.mp hall x (List.mem_of_getElem? hx)
      have hx0 : 0 ≤ x ∧ x < n := by unfold inB at hxin; simpa using hxin
      obtain ⟨xn, rfl⟩ := Int.eq_ofNat_of_zero_le hx0.1
      have hts : t.size = (n.toNat + 7) / 8 := by rw [ofB_size _ _ _ ht, empty_size]
      have hH := fun w => A.bits_Has.calls t (xn : Int) (hasB t (xn : Int)) w (has_f t _ (by omega))
      have hTu := fun w => Tu.turn t xn (by omega) (by omega) w
      have hsn := ofB_snoc (xn : Int) (l.take k) (emptyB n)
      rw [← hT, ht, Option.bind_some, Int.toNat_natCast] at hsn
      have hsn := Aside.mk hsn
      have hT := Aside.mk hT
      cases hhas : hasB t (xn : Int) with
      | true =>
        rw [hhas] at hH
        have hno : ofB (emptyB n) l = none := ofB_none l (k + 1) _ (by rw [hsn.out, if_pos hhas])
        have hres : r1 = ⟨#[]⟩ ∧ r2 = 5 := by
          rcases hr.out with ⟨_, q1, q2⟩ | ⟨q1, _⟩
          · exact ⟨q1, q2⟩
          · rw [hno] at q1; cases q1
        obtain ⟨rfl, rfl⟩ := hres
        clear hno hr hsn hT hTu
        go_wp2_with (first | (go_at_call 42; refine (hH _).mono ?_; rintro e w4 ⟨rfl, hd4⟩))
        go_ret2
        exact ⟨rfl, hB.trans (hd4.below.mono hB.size)⟩
      | false =>
        rw [hhas] at hH
        go_wp2_with (first | (go_at_call 42; refine (hH _).mono ?_; rintro e w4 ⟨rfl, hd4⟩) | (go_at_call 62; refine (hTu _).mono ?_; rintro e w5 ⟨rfl, hb5⟩))
        refine ⟨⟨k + 1, Tu.turnB t xn, by omega, rfl, by rw [Int.natCast_add]; rfl, by rw [hsn.out, if_neg (by rw [hhas]; simp)], hB.trans ((hd4.below.mono hB.size).trans (hb5.mono (Nat.le_trans hB.size hd4.below.size)))⟩, ?_⟩
        show l.length - ((k : Int) + 1).toNat < l.length - (k : Int).toNat
        omega
    · have hke : k = l.length := by omega
      rw [hke, List.take_of_length_le (Nat.le_refl _)] at ht
      have hres : r1 = t ∧ r2 = 0 := by
        rcases hr.out with ⟨q, _, _⟩ | ⟨q1, q2⟩
        · rw [ht] at q; cases q
        · rw [ht] at q1; exact ⟨(Option.some.inj q1).symm, q2⟩
      obtain ⟨rfl, rfl⟩ := hres
      clear hr
      go_wp2_with fail
      go_ret2
      exact ⟨rfl, hB⟩

def mayB (n : Int) : Bool := decide (0 ≤ n) && decide (n ≤ 160)
theorem may_f (n : Int) : A.bits_may.f n = some (mayB n) := by
  unfold A.bits_may.f mayB
  by_cases h : 0 ≤ n <;> simp [h]
set_option maxRecDepth 100000 in
theorem of_may (A0 : Option Addr) (c : Nat) (l : List Int) (n : Int) (w : World) (hn : mayB n = false) :
    Calls Tryd.prog 33 #[.int .i64 n, .slice A0 l.length c] w fun e w' => e = .returned (.tuple #[.string ⟨#[]⟩, .int .i64 1]) ∧ Below w.heap.size w w' := by
  have hMay := fun w => A.bits_may.calls n false w (by rw [may_f, hn])
  have hB1 : Below w.heap.size w (w.alloc (.cells #[.int .i64 n] 3)) := (Below.refl _ w).alloc (Nat.le_refl _) _
  go_enter Tryd.func33, Tryd.ntmps33
  go_wp2_with (first | (go_at_call 40; refine (hMay _).mono ?_; rintro e w1 ⟨rfl, hd1⟩))
  go_ret2
  exact ⟨rfl, hB1.trans (hd1.below.mono hB1.size)⟩
set_option maxHeartbeats 1000000 in
set_option maxRecDepth 100000 in
theorem of_in (A0 : Option Addr) (c : Nat) (l : List Int) (n : Int) (w : World) (h : Ints w A0 l) (hl : l.length ≤ 100000) (hn : mayB n = true) (hall : l.all (inB n) = false) :
    Calls Tryd.prog 33 #[.int .i64 n, .slice A0 l.length c] w fun e w' => e = .returned (.tuple #[.string ⟨#[]⟩, .int .i64 1]) ∧ Below w.heap.size w w' := by
  have hMay := fun w => A.bits_may.calls n true w (by rw [may_f, hn])
  have hCF := fun (b : Nat) (w' : World) (h' : Ints w' A0 l) (hb : w'.cell? ⟨b, 0, none⟩ = some (.int .i64 n)) => containsFunc A0 c l b n w' h' hl hb
  rw [hall] at hCF
  have hbox := heap_alloc_new w (.cells #[.int .i64 n] 3)
  have hbx := blk_cell hbox 0
  have hB1 : Below w.heap.size w (w.alloc (.cells #[.int .i64 n] 3)) := (Below.refl _ w).alloc (Nat.le_refl _) _
  have hs1 : (w.alloc (.cells #[.int .i64 n] 3)).heap.size = w.heap.size + 1 := by simp
  have hI1 := h.below hB1
  go_enter Tryd.func33, Tryd.ntmps33
  go_wp2_with (first | (go_at_call 40; refine (hMay _).mono ?_; rintro e w1 ⟨rfl, hd1⟩; have hbx1 := (hd1.below.cell (p := ⟨w.heap.size, 0, none⟩) (by show w.heap.size < _; rw [hs1]; omega)).trans hbx) | (go_at_call 59; refine (hCF _ _ (hI1.below hd1.below) hbx1).mono ?_; rintro e w2 ⟨rfl, hb2⟩))
  go_ret2
  exact ⟨rfl, hB1.trans ((hd1.below.mono hB1.size).trans (hb2.mono (Nat.le_trans hB1.size hd1.below.size)))⟩
/-- bits.Of's answer. -/
def ofR (n : Int) (l : List Int) : ByteArray × Int :=
  if mayB n = true ∧ l.all (inB n) = true then (match ofB (emptyB n) l with | none => (⟨#[]⟩, 5) | some t => (t, 0)) else (⟨#[]⟩, 1)
theorem of_all (A0 : Option Addr) (c : Nat) (l : List Int) (n : Int) (w : World) (h : Ints w A0 l) (hl : l.length ≤ 100000) :
    Calls Tryd.prog 33 #[.int .i64 n, .slice A0 l.length c] w fun e w' => e = .returned (.tuple #[.string (ofR n l).1, .int .i64 (ofR n l).2]) ∧ Below w.heap.size w w' := by
  unfold ofR
  cases hn : mayB n with
  | false => rw [if_neg (by simp)]; exact of_may A0 c l n w hn
  | true =>
    cases hall : l.all (inB n) with
    | false => rw [if_neg (by simp)]; exact of_in A0 c l n w h hl hn hall
    | true =>
      rw [if_pos ⟨rfl, rfl⟩]
      have hn2 : 0 ≤ n ∧ n ≤ 160 := by unfold mayB at hn; simpa using hn
      cases ho : ofB (emptyB n) l with
      | none => exact of_yes A0 c l n w h hl hn2 hall _ _ (Or.inl ⟨ho, rfl, rfl⟩)
      | some t => exact of_yes A0 c l n w h hl hn2 hall _ _ (Or.inr ⟨ho, rfl⟩)

end Go.Proofs.YtbbncdbihiipcaaDoor.Bo
