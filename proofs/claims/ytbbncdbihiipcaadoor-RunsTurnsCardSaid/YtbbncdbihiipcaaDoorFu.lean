/- bits.Or, bits.Minus: two sets byte by byte. -/
import Derived.Test.YtbbncdbihiipcaaDoorBs
import Derived.LoopTactic
import Derived.Below
namespace Go.Proofs.YtbbncdbihiipcaaDoor.Mi
open Go.RowKit
open Go.Proofs.YtbbncdbihiipcaaDoorW.PrintWords

structure Aside (p : Prop) : Prop where mk :: (out : p)
def intOf : Value → Int | .int _ q => q | _ => 0
/-- Bytes of which the first k are done. -/
def stepL (op : BinOp) (a b : ByteArray) (k : Nat) : List Int := (List.range a.size).map fun i => if i < k then bits op .u8 (bt a i) (bt b i) else bt a i
def opB (op : BinOp) (a b : ByteArray) : ByteArray := strOfNums (stepL op a b a.size)
theorem step_length (op : BinOp) (a b : ByteArray) (k : Nat) : (stepL op a b k).length = a.size := by simp [stepL]
theorem step_get (op : BinOp) (a b : ByteArray) (k i : Nat) (hi : i < a.size) : (stepL op a b k).getD i 0 = if i < k then bits op .u8 (bt a i) (bt b i) else bt a i := by
  simp [stepL, List.getD_eq_getElem?_getD, hi]
theorem bt_eq (s : ByteArray) (i : Nat) (h : i < s.size) : bt s (i : Int) = (s[i].toNat : Int) := (bt_at s (i : Int) (by simpa using h)).symm.trans (by simp)
theorem step_zero (op : BinOp) (a b : ByteArray) : stepL op a b 0 = bytesOf a := by
  apply List.ext_getElem
  · rw [step_length, bytesOf_length]
  · intro i h1 h2
    rw [step_length] at h1
    simp only [stepL, List.getElem_map, List.getElem_range]
    rw [if_neg (by omega), bt_eq a i h1]
    simp [bytesOf]
    first | rfl | skip
theorem step_set (op : BinOp) (a b : ByteArray) (k : Nat) : (stepL op a b k).set k (bits op .u8 (bt a k) (bt b k)) = stepL op a b (k + 1) := by
  apply List.ext_getElem
  · rw [List.length_set, step_length, step_length]
  · intro i h1 h2
    rw [List.length_set, step_length] at h1
    rw [List.getElem_set]
    simp only [stepL, List.getElem_map, List.getElem_range]
    split
    · next h => subst h; rw [if_pos (by omega)]
    · by_cases h : i < k
      · rw [if_pos h, if_pos (by omega)]
      · rw [if_neg h, if_neg (by omega)]
theorem reads_step (op : BinOp) (a b : ByteArray) (k : Nat) (hk : k < a.size) {w : World} {B : Nat} (h : ReadsInt w .u8 (some ⟨B, 0, none⟩) a.size (stepL op a b k)) :
    ReadsInt (w.setCell ⟨B, k, none⟩ (.int .u8 (bits op .u8 (bt a k) (bt b k)))) .u8 (some ⟨B, 0, none⟩) a.size (stepL op a b (k + 1)) := by
  have := Tu.reads_set h k hk (bits op .u8 (bt a k) (bt b k))
  rwa [step_set op a b k] at this
set_option maxHeartbeats 2000000 in
set_option maxRecDepth 100000 in
theorem or (a b : ByteArray) (hs : a.size ≤ 1000) (hz : b.size = a.size) (w : World) :
    Calls Tryd.prog 19 #[.string a, .string b] w fun e w' => e = .returned (.tuple #[.string (opB .or a b), .int .i64 0]) ∧ Below w.heap.size w w' := by
  obtain ⟨Z, hZ⟩ : ∃ Z, Z = opB .or a b := ⟨_, rfl⟩
  rw [← hZ]
  have kb := fun W => print_bytes (P := Tryd.prog) 9 59 5 Tryd.underlying9 Tryd.underlying59 Tryd.underlying5 a W
  have hB := bytes_below (Below.refl w.heap.size w) (Nat.le_refl _) 5 a
  have hf := fun j (hj : j < a.size) => Tu.frozen_bytes w 5 a j hj
  have hr := bytes_reads w 5 a (by omega)
  obtain ⟨c, hcap⟩ : ∃ c, c = grownCap w a.size 0 5 := ⟨_, rfl⟩
  rw [← step_zero .or a b] at hr
  have hlen : (b.size : Int) = (a.size : Int) := by omega
  go_enter Tryd.func19, Tryd.ntmps19
  go_wp2
  generalize Lib.bytesWorld w 5 a = w1 at *
  rw [← hcap]
  clear hcap kb
  go_loopw [17] (fun iv wr => ∃ k : Nat, k ≤ a.size ∧ iv = .int .i64 k ∧ ReadsInt wr .u8 (some ⟨w.heap.size, 0, none⟩) a.size (stepL .or a b k) ∧ Below w.heap.size w wr ∧ ∀ j, j < a.size → wr.frozen? ⟨w.heap.size, j, none⟩ = false) (fun iv _ => a.size - (Mi.intOf iv).toNat)
  case atStart => exact ⟨0, by omega, rfl, hr, hB, hf⟩
  case round =>
    obtain ⟨k, hk, rfl, hR, hBr, hfr⟩ := hrel
    by_cases hlt : k < a.size
    · have hR3 := hR
      obtain ⟨_, _, h3⟩ := hR3
      obtain ⟨ad, e, hc⟩ := h3 (by omega)
      cases e
      have hck := hc k hlt
      rw [Go.Proofs.YtbbncdbihiipcaaDoorW.PrintWords.add_plain, step_get _ _ _ _ _ hlt, if_neg (by omega)] at hck
      have hfk := hfr k hlt
      have hbk := (bt_eq b k (by omega)).symm
      have hset := reads_step .or a b k hlt hR
      have hB2 : Below w.heap.size w (wr.setCell ⟨w.heap.size, k, none⟩ (.int .u8 (bits .or .u8 (bt a k) (bt b k)))) := hBr.setCell (p := ⟨w.heap.size, k, none⟩) (Nat.le_refl _) _
      have hf2 : ∀ j, j < a.size → (wr.setCell ⟨w.heap.size, k, none⟩ (.int .u8 (bits .or .u8 (bt a k) (bt b k)))).frozen? ⟨w.heap.size, j, none⟩ = false := fun j hj => by rw [World.frozen?_setCell]; exact hfr j hj
      have hsz : (wr.setCell ⟨w.heap.size, k, none⟩ (.int .u8 (bits .or .u8 (bt a k) (bt b k)))).heap.size = wr.heap.size := by simp
      have hs64 : IntKind.i64.wrap ((k : Int) + 1) = ((k + 1 : Nat) : Int) := by rw [IntKind.wrap_i64]; omega
      clear hc h3 hR hf hr hB
      go_wp2_with fail
      go_region
      go_wp2_with fail
      refine ⟨⟨k + 1, by omega, by rw [Int.natCast_add]; rfl, hset, below_drew1 hB2, hf2⟩, ?_⟩
      show a.size - ((k : Int) + 1).toNat < a.size - (k : Int).toNat
      omega
    · have hke : k = a.size := by omega
      subst hke
      have hS := string_of_reads (P := Tryd.prog) (w := wr) (src := 59) (dst := 9) (c := c) Tryd.underlying59 Tryd.underlying5 Tryd.underlying9 hR
      rw [show strOfNums (stepL .or a b a.size) = Z from hZ.symm] at hS
      go_wp2_with fail
      go_ret2
      exact ⟨by rw [hZ]; rfl, hBr⟩
set_option maxHeartbeats 2000000 in
set_option maxRecDepth 100000 in
theorem minus (a b : ByteArray) (hs : a.size ≤ 1000) (hz : b.size = a.size) (w : World) :
    Calls Tryd.prog 73 #[.string a, .string b] w fun e w' => e = .returned (.tuple #[.string (opB .andNot a b), .int .i64 0]) ∧ Below w.heap.size w w' := by
  obtain ⟨Z, hZ⟩ : ∃ Z, Z = opB .andNot a b := ⟨_, rfl⟩
  rw [← hZ]
  have kb := fun W => print_bytes (P := Tryd.prog) 9 59 5 Tryd.underlying9 Tryd.underlying59 Tryd.underlying5 a W
  have hB := bytes_below (Below.refl w.heap.size w) (Nat.le_refl _) 5 a
  have hf := fun j (hj : j < a.size) => Tu.frozen_bytes w 5 a j hj
  have hr := bytes_reads w 5 a (by omega)
  obtain ⟨c, hcap⟩ : ∃ c, c = grownCap w a.size 0 5 := ⟨_, rfl⟩
  rw [← step_zero .andNot a b] at hr
  have hlen : (b.size : Int) = (a.size : Int) := by omega
  go_enter Tryd.func73, Tryd.ntmps73
  go_wp2
  generalize Lib.bytesWorld w 5 a = w1 at *
  rw [← hcap]
  clear hcap kb
  go_loopw [17] (fun iv wr => ∃ k : Nat, k ≤ a.size ∧ iv = .int .i64 k ∧ ReadsInt wr .u8 (some ⟨w.heap.size, 0, none⟩) a.size (stepL .andNot a b k) ∧ Below w.heap.size w wr ∧ ∀ j, j < a.size → wr.frozen? ⟨w.heap.size, j, none⟩ = false) (fun iv _ => a.size - (Mi.intOf iv).toNat)
  case atStart => exact ⟨0, by omega, rfl, hr, hB, hf⟩
  case round =>
    obtain ⟨k, hk, rfl, hR, hBr, hfr⟩ := hrel
    by_cases hlt : k < a.size
    · have hR3 := hR
      obtain ⟨_, _, h3⟩ := hR3
      obtain ⟨ad, e, hc⟩ := h3 (by omega)
      cases e
      have hck := hc k hlt
      rw [Go.Proofs.YtbbncdbihiipcaaDoorW.PrintWords.add_plain, step_get _ _ _ _ _ hlt, if_neg (by omega)] at hck
      have hfk := hfr k hlt
      have hbk := (bt_eq b k (by omega)).symm
      have hset := reads_step .andNot a b k hlt hR
      have hB2 : Below w.heap.size w (wr.setCell ⟨w.heap.size, k, none⟩ (.int .u8 (bits .andNot .u8 (bt a k) (bt b k)))) := hBr.setCell (p := ⟨w.heap.size, k, none⟩) (Nat.le_refl _) _
      have hf2 : ∀ j, j < a.size → (wr.setCell ⟨w.heap.size, k, none⟩ (.int .u8 (bits .andNot .u8 (bt a k) (bt b k)))).frozen? ⟨w.heap.size, j, none⟩ = false := fun j hj => by rw [World.frozen?_setCell]; exact hfr j hj
      have hsz : (wr.setCell ⟨w.heap.size, k, none⟩ (.int .u8 (bits .andNot .u8 (bt a k) (bt b k)))).heap.size = wr.heap.size := by simp
      have hs64 : IntKind.i64.wrap ((k : Int) + 1) = ((k + 1 : Nat) : Int) := by rw [IntKind.wrap_i64]; omega
      clear hc h3 hR hf hr hB
      go_wp2_with fail
      go_region
      go_wp2_with fail
      refine ⟨⟨k + 1, by omega, by rw [Int.natCast_add]; rfl, hset, below_drew1 hB2, hf2⟩, ?_⟩
      show a.size - ((k : Int) + 1).toNat < a.size - (k : Int).toNat
      omega
    · have hke : k = a.size := by omega
      subst hke
      have hS := string_of_reads (P := Tryd.prog) (w := wr) (src := 59) (dst := 9) (c := c) Tryd.underlying59 Tryd.underlying5 Tryd.underlying9 hR
      rw [show strOfNums (stepL .andNot a b a.size) = Z from hZ.symm] at hS
      go_wp2_with fail
      go_ret2
      exact ⟨by rw [hZ]; rfl, hBr⟩
end Go.Proofs.YtbbncdbihiipcaaDoor.Mi
/- bits.Full: the set of all. -/
namespace Go.Proofs.YtbbncdbihiipcaaDoor.Mi
open Go.RowKit
open Go.Proofs.YtbbncdbihiipcaaDoorW.PrintWords

def fullL (n : Int) (L : Nat) : Nat → List Int
  | 0 => List.replicate L 0
  | k + 1 => if (k : Int) < n then (fullL n L k).set (k / 8) (bits .or .u8 ((fullL n L k).getD (k / 8) 0) (2 ^ (k % 8) % 256)) else fullL n L k
theorem full_length (n : Int) (L : Nat) : ∀ k, (fullL n L k).length = L
  | 0 => by simp [fullL]
  | k + 1 => by unfold fullL; split <;> simp [full_length n L k]
def fullB (n : Int) : ByteArray := if 0 ≤ n ∧ n ≤ 160 then strOfNums (fullL n ((n.toNat + 7) / 8) (8 * ((n.toNat + 7) / 8))) else ⟨#[]⟩
theorem bytes_empty (n : Int) : bytesOf (Bo.emptyB n) = List.replicate ((n.toNat + 7) / 8) 0 := by
  unfold Bo.emptyB bytesOf strOfNums
  simp

set_option maxHeartbeats 2000000 in
set_option maxRecDepth 100000 in
theorem full_of (n : Int) (a Z : ByteArray) (hEf : A.bits_Empty.f n = some a) (hbe : bytesOf a = List.replicate a.size 0) (hs : a.size ≤ 20) (hZ : Z = strOfNums (fullL n a.size (8 * a.size))) (w : World) :
    Calls Tryd.prog 20 #[.int .i64 n] w fun e w' => e = .returned (.string Z) ∧ Below w.heap.size w w' := by
  have hE := fun w => A.bits_Empty.calls n _ w hEf
  have hZ0 := Aside.mk hZ
  clear hEf hZ
  have kb := fun W => print_bytes (P := Tryd.prog) 9 59 5 Tryd.underlying9 Tryd.underlying59 Tryd.underlying5 a W
  have u8 : IntKind.i64.wrap (8 * (a.size : Int)) = ((8 * a.size : Nat) : Int) := by rw [IntKind.wrap_i64]; omega
  go_enter Tryd.func20, Tryd.ntmps20
  go_wp2_with (go_at_call 43; refine (hE _).mono ?_; rintro e w0 ⟨rfl, hb0⟩)
  have hB := bytes_below hb0 hb0.size 5 a
  have hf := fun j (hj : j < a.size) => Tu.frozen_bytes w0 5 a j hj
  have hr := bytes_reads w0 5 a (by omega)
  rw [hbe] at hr
  obtain ⟨c, hcap⟩ : ∃ c, c = grownCap w0 a.size 0 5 := ⟨_, rfl⟩
  have hw0 := hb0.size
  rw [← hcap]
  clear hcap kb hE hbe
  generalize Lib.bytesWorld w0 5 a = w1 at *
  generalize w0.heap.size = B at *
  generalize a.size = L at *
  go_loopw [11] (fun iv wr => ∃ k : Nat, k ≤ 8 * L ∧ iv = .int .i64 k ∧ ReadsInt wr .u8 (some ⟨B, 0, none⟩) L (fullL n L k) ∧ Below w.heap.size w wr ∧ ∀ j, j < L → wr.frozen? ⟨B, j, none⟩ = false) (fun iv _ => 8 * L - (Mi.intOf iv).toNat)
  case atStart => exact ⟨0, by omega, rfl, hr, hB, hf⟩
  case round =>
    obtain ⟨k, hk, rfl, hR, hBr, hfr⟩ := hrel
    have hs64 : IntKind.i64.wrap ((k : Int) + 1) = ((k + 1 : Nat) : Int) := by rw [IntKind.wrap_i64]; omega
    by_cases hlt : k < 8 * L
    · by_cases hkn : (k : Int) < n
      · have hR3 := hR
        obtain ⟨_, _, h3⟩ := hR3
        obtain ⟨ad, e, hc⟩ := h3 (by omega)
        cases e
        have hck := hc (k / 8) (by omega)
        rw [Go.Proofs.YtbbncdbihiipcaaDoorW.PrintWords.add_plain] at hck
        have hfk := hfr (k / 8) (by omega)
        have q1 : Int.tdiv (k : Int) 8 = ((k / 8 : Nat) : Int) := by rw [show (8 : Int) = ((8 : Nat) : Int) from rfl, ← Int.ofNat_tdiv]
        have q2 : Int.tmod (k : Int) 8 = ((k % 8 : Nat) : Int) := by rw [show (8 : Int) = ((8 : Nat) : Int) from rfl, ← Int.ofNat_tmod]
        have q3 : ((k / 8 : Nat) : Int) < (L : Int) := by omega
        have hset := Tu.reads_set hR (k / 8) (by omega) (bits .or .u8 ((fullL n L k).getD (k / 8) 0) (2 ^ (k % 8) % 256))
        have hstep : fullL n L (k + 1) = (fullL n L k).set (k / 8) (bits .or .u8 ((fullL n L k).getD (k / 8) 0) (2 ^ (k % 8) % 256)) := by rw [fullL, if_pos hkn]
        rw [← hstep] at hset
        generalize (fullL n L k).getD (k / 8) 0 = x at *
        have hB2 : Below w.heap.size w (wr.setCell ⟨B, k / 8, none⟩ (.int .u8 (bits .or .u8 x (2 ^ (k % 8) % 256)))) := hBr.setCell (p := ⟨B, k / 8, none⟩) hw0 _
        have hf2 : ∀ j, j < L → (wr.setCell ⟨B, k / 8, none⟩ (.int .u8 (bits .or .u8 x (2 ^ (k % 8) % 256)))).frozen? ⟨B, j, none⟩ = false := fun j hj => by rw [World.frozen?_setCell]; exact hfr j hj
        clear hc h3 hR hf hr hB hstep hfr hBr
        go_wp2_with fail
        go_region
        go_wp2_with fail
        exact ⟨⟨k + 1, by omega, by rw [Int.natCast_add]; rfl, hset, below_drew1 hB2, hf2⟩, by show 8 * L - ((k : Int) + 1).toNat < 8 * L - (k : Int).toNat; omega⟩
      · have hstep : fullL n L (k + 1) = fullL n L k := by rw [fullL, if_neg hkn]
        rw [← hstep] at hR
        clear hstep
        go_wp2_with fail
        exact ⟨⟨k + 1, by omega, by rw [Int.natCast_add]; rfl, hR, hBr, hfr⟩, by show 8 * L - ((k : Int) + 1).toNat < 8 * L - (k : Int).toNat; omega⟩
    · have hke : k = 8 * L := by omega
      subst hke
      have hS := string_of_reads (P := Tryd.prog) (w := wr) (src := 59) (dst := 9) (c := c) Tryd.underlying59 Tryd.underlying5 Tryd.underlying9 hR
      rw [← hZ0.out] at hS
      clear hZ0
      go_wp2_with fail
      go_ret
      exact ⟨rfl, hBr⟩
theorem full (n : Int) (w : World) : Calls Tryd.prog 20 #[.int .i64 n] w fun e w' => e = .returned (.string (fullB n)) ∧ Below w.heap.size w w' := by
  by_cases hn : 0 ≤ n ∧ n ≤ 160
  · have hz := Bo.empty_size n
    refine full_of n (Bo.emptyB n) _ (Bo.empty_f n hn) (by rw [bytes_empty, hz]) (by omega) ?_ w
    unfold fullB; rw [if_pos hn, hz]
  · refine full_of n ⟨#[]⟩ _ ?_ rfl (by decide) ?_ w
    · unfold A.bits_Empty.f
      rw [Bo.may_f, Option.bind_some, if_neg]
      unfold Bo.mayB; simp; omega
    · unfold fullB; rw [if_neg hn]; rfl
end Go.Proofs.YtbbncdbihiipcaaDoor.Mi
