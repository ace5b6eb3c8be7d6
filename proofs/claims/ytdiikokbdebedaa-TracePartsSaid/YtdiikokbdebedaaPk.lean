/- trace.Pack: the bytes of events that are a trace, or the error. -/
import Derived.Test.YtdiikokbdebedaaWp
import Derived.Test.YtdiikokbdebedaaCk
namespace Go.Proofs.Ytdiikokbdebedaa.Pk
open Go.RowKit Go.Proofs.Ytdiikokbdebedaa.Wr Go.Proofs.Ytdiikokbdebedaa.Ck
open Go.Proofs.YtdiikokbdebedaaW.PrintWords (shr)

def be1 (n : Nat) : List UInt8 := [UInt8.ofNat n]
def be2 (n : Nat) : List UInt8 := [UInt8.ofNat (n / 256), UInt8.ofNat n]

set_option maxRecDepth 100000 in
theorem newW (w : World) : Calls Try.prog 20 #[] w fun e w' => ∃ b, e = .returned (.pointer (some ⟨b, 0, none⟩)) ∧ IsW w.heap.size b [] 0 w' ∧ Below w.heap.size w w' := by
  go_enter Try.func20, Try.ntmps20
  go_wp2
  go_ret
  exact ⟨_, rfl, fresh w, (Below.refl _ w).alloc (Nat.le_refl _) _⟩

theorem shrN (X k : Nat) (hk : k ≤ 64) : shr .i64 (X : Int) (k : Int) = ((X / 2 ^ k : Nat) : Int) := by
  unfold shr
  rw [Int.toNat_natCast, Nat.min_eq_left (show k ≤ IntKind.i64.bits from hk), Int.natCast_ediv, Int.natCast_pow]; rfl
theorem ofNat_int (n : Nat) : UInt8.ofNat (((n : Int) % 256)).toNat = UInt8.ofNat n := by
  rw [show ((n : Int) % 256) = ((n % 256 : Nat) : Int) by omega, Int.toNat_natCast]
  apply UInt8.toNat_inj.mp
  simp
theorem put1 (k n : Nat) (hn : n < 256) : A.oct_Put.f (k + 4) (n : Int) 1 = some (⟨(be1 n).toArray⟩, 0) := by
  have s8 := shrN n 8 (by omega)
  have s0 := shrN n 0 (by omega)
  rw [show ((8 : Nat) : Int) = 8 from rfl, show n / 2 ^ 8 = 0 from Nat.div_eq_of_lt (by omega)] at s8
  rw [show ((0 : Nat) : Int) = 0 from rfl, Nat.pow_zero, Nat.div_one] at s0
  have w1 : wrap64 (8 * 1) = 8 := by unfold wrap64; decide
  have w2 : wrap64 (1 - 1) = 0 := by unfold wrap64; decide
  have w3 : wrap64 (8 * 0) = 0 := by unfold wrap64; decide
  have w4 : wrap64 (0 - 1) = -1 := by unfold wrap64; decide
  unfold A.oct_Put.f
  rw [if_neg (by omega), show decide ((1 : Int) > 7) = false from rfl]
  simp only [A.oct_Put.j0, A.oct_Put.l0, w1, w2, w3, w4]
  rw [if_neg (by simp), if_neg (by omega), if_pos (by omega), s8, if_pos (show ((0 : Nat) : Int) = 0 from rfl), if_pos (by omega), if_pos (by omega), if_pos (by decide), if_neg (by omega), s0]
  have := ofNat_int n
  simp only [strOfNums, List.nil_append, List.map_cons, List.map_nil, this]
  rfl
theorem put2 (k n : Nat) (hn : n < 65536) : A.oct_Put.f (k + 5) (n : Int) 2 = some (⟨(be2 n).toArray⟩, 0) := by
  have s16 := shrN n 16 (by omega)
  have s8 := shrN n 8 (by omega)
  have s0 := shrN n 0 (by omega)
  rw [show ((16 : Nat) : Int) = 16 from rfl, show n / 2 ^ 16 = 0 from Nat.div_eq_of_lt (by omega)] at s16
  rw [show ((8 : Nat) : Int) = 8 from rfl, show (2 : Nat) ^ 8 = 256 from rfl] at s8
  rw [show ((0 : Nat) : Int) = 0 from rfl, Nat.pow_zero, Nat.div_one] at s0
  have w0 : wrap64 (8 * 2) = 16 := by unfold wrap64; decide
  have w1 : wrap64 (8 * 1) = 8 := by unfold wrap64; decide
  have w2 : wrap64 (1 - 1) = 0 := by unfold wrap64; decide
  have w3 : wrap64 (8 * 0) = 0 := by unfold wrap64; decide
  have w4 : wrap64 (0 - 1) = -1 := by unfold wrap64; decide
  have w5 : wrap64 (2 - 1) = 1 := by unfold wrap64; decide
  unfold A.oct_Put.f
  rw [if_neg (by omega), show decide ((2 : Int) > 7) = false from rfl]
  simp only [A.oct_Put.j0, A.oct_Put.l0, w0, w1, w2, w3, w4, w5]
  rw [if_neg (by simp), if_neg (by omega), if_pos (by omega), s16, if_pos (show ((0 : Nat) : Int) = 0 from rfl), if_pos (by omega), if_pos (by omega), if_pos (by decide), if_pos (by omega), if_pos (by omega), if_pos (by simp), if_neg (by omega), s0, s8]
  have h1 := ofNat_int n
  have h2 := ofNat_int (n / 256)
  simp only [strOfNums, List.nil_append, List.cons_append, List.map_cons, List.map_nil, h1, h2]
  rfl

def evBytes (x : Ev) : List UInt8 := be1 x.1.toNat ++ be2 x.2.1.toNat ++ (if x.1 = 1 then be2 x.2.2.size ++ x.2.2.data.toList else [])
def packL (l : List Ev) : List UInt8 := [116, 114, 99, 49] ++ be2 l.length ++ l.flatMap evBytes

theorem sz1 (n : Nat) : (⟨(be1 n).toArray⟩ : ByteArray).size ≤ 1000000000 := (by decide : 1 ≤ 1000000000)
theorem sz2 (n : Nat) : (⟨(be2 n).toArray⟩ : ByteArray).size ≤ 1000000000 := (by decide : 2 ≤ 1000000000)
theorem evB_facts (x : Ev) (h : evB x = true) : 1 ≤ x.1 ∧ x.1 ≤ 3 ∧ 0 ≤ x.2.1 ∧ x.2.1 ≤ 65535 ∧ x.2.2.size ≤ 400 := by
  unfold evB at h
  split at h
  · simp at h; omega
  · split at h
    · simp at h
      have h1 : x.2.2.size = 0 := by rw [h.2]; rfl
      omega
    · split at h
      · simp at h
        have h1 : x.2.2.size = 0 := by rw [h.2]; rfl
        omega
      · cases h
theorem putL_ok (l s : List UInt8) (h : l.length + s.length ≤ 65536) : putL l 0 s 0 = (l ++ s, 0) := by
  unfold putL; rw [if_neg (by omega), if_neg (by omega), if_neg (by omega)]

def intOf : Value → Int | .int _ q => q | _ => 0
set_option maxHeartbeats 4000000 in
set_option maxRecDepth 100000 in
theorem pack (A : Option Addr) (c : Nat) (l : List Ev) (w : World) (h : Evs w A l) (hc : checkB l = true) (hl : (packL l).length ≤ 65536) :
    Calls Try.prog 8 #[.slice A l.length c] w fun e w' => e = .returned (.tuple #[.string ⟨(packL l).toArray⟩, .int .i64 0]) ∧ Below w.heap.size w w' := by
  have h5 : l.length ≤ 500 := by unfold checkB at hc; simp at hc; exact hc.1
  have hC := check A c l w h (by omega)
  rw [hc] at hC
  go_enter Try.func8, Try.ntmps8
  have hlen2 : (packL l).length = 6 + (l.flatMap evBytes).length := by simp [packL, be2]; omega
  go_wp2_with (first | (go_at_call 14; refine hC.mono ?_; rintro e w1 ⟨rfl, hb1⟩) | (go_at_call 20; refine (newW _).mono ?_; rintro e w2 ⟨b, rfl, h2, hb2⟩))
  have hb3 := hb2.size
  go_wp2_with (go_at_call 21; refine (raw w1.heap.size b [] 0 ⟨#[116, 114, 99, 49]⟩ _ h2 (by simp) (by decide) hb2.size).mono ?_; rintro e w3 ⟨rfl, h3, hb4, _⟩)
  replace h3 : IsW w1.heap.size b (Lib.byteCells [116, 114, 99, 49]) 0 w3 := by rw [putL_ok _ _ (by decide)] at h3; exact h3
  have hb5 := hb2.trans hb4
  go_wp2_with (go_at_call 22; refine (num w1.heap.size b [116, 114, 99, 49] 0 l.length 2 ⟨(be2 l.length).toArray⟩ 0 5 _ h3 (by decide) (sz2 _) hb5.size (put2 0 l.length (by omega))).mono ?_; rintro e w4 ⟨rfl, h4, hb6, _⟩)
  replace h4 : IsW w1.heap.size b (Lib.byteCells ([116, 114, 99, 49] ++ be2 l.length)) 0 w4 := by rw [putL_ok [116, 114, 99, 49] (be2 l.length) (show 4 + 2 ≤ 65536 by decide)] at h4; exact h4
  have hb7 := hb5.trans hb6
  go_loopw [19] (fun iv wr => ∃ k : Nat, k ≤ l.length ∧ iv = .int .i64 k ∧ IsW w1.heap.size b (Lib.byteCells ([116, 114, 99, 49] ++ be2 l.length ++ (l.take k).flatMap evBytes)) 0 wr ∧ Below w1.heap.size w1 wr) (fun iv _ => l.length - (intOf iv).toNat)
  case atStart => exact ⟨0, by omega, rfl, by simpa using h4, hb7⟩
  case round =>
    obtain ⟨k, hk, rfl, hW, hB⟩ := hrel
    by_cases hlt : k < l.length
    · obtain ⟨x, hx⟩ : ∃ x, l[k]? = some x := ⟨l[k], List.getElem?_eq_getElem hlt⟩
      obtain ⟨ad, rfl, c0, c1, c2⟩ := (h.below (hb1.trans (hB.mono hb1.size))) k x hx
      have hT : l.take (k + 1) = l.take k ++ [x] := by rw [List.take_add_one, hx]; rfl
      have hev : evB x = true := by
        unfold checkB at hc
        rw [Bool.and_eq_true] at hc
        exact List.all_eq_true.mp hc.2 x (List.mem_of_getElem? hx)
      obtain ⟨e1, e2, e3, e4, e5⟩ := evB_facts x hev
      have hfl : (l.flatMap evBytes).length = ((l.take k).flatMap evBytes).length + ((evBytes x).length + ((l.drop (k + 1)).flatMap evBytes).length) := by
        have hd : l = l.take k ++ (x :: l.drop (k + 1)) := by
          have : l.drop k = x :: l.drop (k + 1) := by rw [List.drop_eq_getElem_cons hlt]; congr 1; rw [List.getElem?_eq_getElem hlt] at hx; exact Option.some.inj hx
          rw [← this, List.take_append_drop]
        conv => lhs; rw [hd]
        rw [List.flatMap_append, List.flatMap_cons, List.length_append, List.length_append]
      obtain ⟨pre, hpre⟩ : ∃ pre, pre = [116, 114, 99, 49] ++ be2 l.length ++ (l.take k).flatMap evBytes := ⟨_, rfl⟩
      have hpl : pre.length = 6 + ((l.take k).flatMap evBytes).length := by rw [hpre]; simp [be2]; omega
      have hbe : (evBytes x).length = 3 + (if x.1 = 1 then be2 x.2.2.size ++ x.2.2.data.toList else []).length := by unfold evBytes; simp [be1, be2]; omega
      rw [← hpre] at hW
      have hpost : [116, 114, 99, 49] ++ be2 l.length ++ (l.take (k + 1)).flatMap evBytes = pre ++ be1 x.1.toNat ++ be2 x.2.1.toNat ++ (if x.1 = 1 then be2 x.2.2.size ++ x.2.2.data.toList else []) := by
        rw [hT, List.flatMap_append, hpre]; simp [evBytes]
      have q1 : A.oct_Put.f 4 x.1 1 = some (⟨(be1 x.1.toNat).toArray⟩, 0) := by have := put1 0 x.1.toNat (by omega); rwa [show ((x.1.toNat : Nat) : Int) = x.1 by omega] at this
      have q2 : A.oct_Put.f 5 x.2.1 2 = some (⟨(be2 x.2.1.toNat).toArray⟩, 0) := by have := put2 0 x.2.1.toNat (by omega); rwa [show ((x.2.1.toNat : Nat) : Int) = x.2.1 by omega] at this
      have hb8 : Below wr.heap.size wr (wr.alloc (Obj.cells #[Value.int IntKind.i64 x.1, Value.int IntKind.i64 x.2.1, Value.string x.2.2] 47)) := (Below.refl _ wr).alloc (Nat.le_refl _) _
      have hW8 := hW.below hb8
      have hB8 := hB.trans (hb8.mono hB.size)
      have hblk := heap_alloc_new wr (Obj.cells #[Value.int IntKind.i64 x.1, Value.int IntKind.i64 x.2.1, Value.string x.2.2] 47)
      have Hs := Aside.mk (And.intro hpost (And.intro hfl (And.intro hbe (And.intro hpl hT))))
      clear hpost hfl hbe hpre hT hc
      have hpl1 : pre.length + 3 ≤ 65536 := by have := Hs.out.2.1; have := Hs.out.2.2.1; have := Hs.out.2.2.2.1; omega
      go_wp2_with fail
      refine (num w1.heap.size b pre 0 x.1 1 ⟨(be1 x.1.toNat).toArray⟩ 0 4 _ hW8 (by omega) (sz1 _) hB8.size q1).mono ?_
      rintro e w5 ⟨rfl, h5', hb9, k9⟩
      replace h5' : IsW w1.heap.size b (Lib.byteCells (pre ++ be1 x.1.toNat)) 0 w5 := by rw [putL_ok pre (be1 x.1.toNat) (show pre.length + 1 ≤ 65536 by omega)] at h5'; exact h5'
      have hblk5 := k9 _ _ _ hblk
      have d1 : w5.cell? ⟨wr.heap.size, 1, none⟩ = some (.int .i64 x.2.1) := by rw [Lib.cell_of_heap hblk5]; rfl
      have hB9 := hB8.trans hb9
      have hpl2 : (pre ++ be1 x.1.toNat).length = pre.length + 1 := by simp [be1]
      go_wp2_with fail
      refine (num w1.heap.size b (pre ++ be1 x.1.toNat) 0 x.2.1 2 ⟨(be2 x.2.1.toNat).toArray⟩ 0 5 _ h5' (by omega) (sz2 _) hB9.size q2).mono ?_
      rintro e w6 ⟨rfl, h6, hb10, k10⟩
      replace h6 : IsW w1.heap.size b (Lib.byteCells (pre ++ be1 x.1.toNat ++ be2 x.2.1.toNat)) 0 w6 := by rw [putL_ok (pre ++ be1 x.1.toNat) (be2 x.2.1.toNat) (show (pre ++ be1 x.1.toNat).length + 2 ≤ 65536 by omega)] at h6; exact h6
      have hblk6 := k10 _ _ _ hblk5
      have d0 : w6.cell? ⟨wr.heap.size, 0, none⟩ = some (.int .i64 x.1) := by rw [Lib.cell_of_heap hblk6]; rfl
      have d2 : w6.cell? ⟨wr.heap.size, 2, none⟩ = some (.string x.2.2) := by rw [Lib.cell_of_heap hblk6]; rfl
      have hB10 := hB9.trans hb10
      have hpl3 : (pre ++ be1 x.1.toNat ++ be2 x.2.1.toNat).length = pre.length + 3 := by simp [be1, be2]
      by_cases hk1 : x.1 = 1
      · have q3 := put2 0 x.2.2.size (by omega)
        have hpl4 : pre.length + 3 + (2 + x.2.2.size) ≤ 65536 := by
          have g1 := Hs.out.2.1
          have g2 := Hs.out.2.2.1
          have g3 := Hs.out.2.2.2.1
          rw [if_pos hk1] at g2
          simp only [List.length_append, Array.length_toList] at g2
          have g4 : (be2 x.2.2.size).length = 2 := rfl
          have g5 : x.2.2.data.size = x.2.2.size := rfl
          omega
        go_wp2_with fail
        refine (text w1.heap.size b (pre ++ be1 x.1.toNat ++ be2 x.2.1.toNat) 0 x.2.2 ⟨(be2 x.2.2.size).toArray⟩ 0 5 _ h6 (by omega) (by omega) (show 2 ≤ 100 by decide) hB10.size q3).mono ?_
        rintro e w7 ⟨rfl, h7, hb11, _⟩
        have hdl : ((⟨(be2 x.2.2.size).toArray⟩ : ByteArray) ++ x.2.2).data.toList = be2 x.2.2.size ++ x.2.2.data.toList := by simp
        replace h7 : IsW w1.heap.size b (Lib.byteCells (pre ++ be1 x.1.toNat ++ be2 x.2.1.toNat ++ (be2 x.2.2.size ++ x.2.2.data.toList))) 0 w7 := by
          rw [hdl, putL_ok _ _ (by simp only [List.length_append] at *; have g4 : (be2 x.2.2.size).length = 2 := rfl; have g5 : x.2.2.data.toList.length = x.2.2.size := Array.length_toList; omega)] at h7
          exact h7
        clear hdl
        go_wp2_with fail
        refine ⟨⟨k + 1, by omega, by rw [Int.natCast_add]; rfl, ?_, hB10.trans hb11⟩, ?_⟩
        · rw [Hs.out.1, if_pos hk1]; exact h7
        · show l.length - ((k : Int) + 1).toNat < l.length - (k : Int).toNat
          omega
      · go_wp2_with fail
        refine ⟨⟨k + 1, by omega, by rw [Int.natCast_add]; rfl, ?_, hB10⟩, ?_⟩
        · rw [Hs.out.1, if_neg hk1, List.append_nil]; exact h6
        · show l.length - ((k : Int) + 1).toNat < l.length - (k : Int).toNat
          omega
    · have hke : k = l.length := by omega
      have hWl : IsW w1.heap.size b (Lib.byteCells (packL l)) 0 wr := by rw [hke, List.take_of_length_le (Nat.le_refl _)] at hW; exact hW
      have hne : packL l ≠ [] := by intro h'; have h0 : (packL l).length = 0 := by rw [h']; rfl
                                    omega
      clear hW hlen2
      go_wp2_with fail
      refine (Wr.bytes w1.heap.size b (packL l) _ hWl hne).mono ?_
      rintro e w7 ⟨rfl, hb11⟩
      go_wp2_with fail
      go_ret2
      exact ⟨rfl, hb1.trans ((hB.trans hb11).mono hb1.size)⟩

set_option maxRecDepth 100000 in
theorem packNo (A : Option Addr) (c : Nat) (l : List Ev) (w : World) (h : Evs w A l) (hc : checkB l = false) (hl : l.length ≤ 100000) :
    Calls Try.prog 8 #[.slice A l.length c] w fun e w' => e = .returned (.tuple #[.string ⟨#[]⟩, .int .i64 1]) ∧ Below w.heap.size w w' := by
  have hC := check A c l w h hl
  rw [hc] at hC
  go_enter Try.func8, Try.ntmps8
  go_wp2_with fail
  refine hC.mono ?_
  rintro e w1 ⟨rfl, hb1⟩
  go_wp2_with fail
  go_ret2
  exact ⟨rfl, hb1⟩
end Go.Proofs.Ytdiikokbdebedaa.Pk
