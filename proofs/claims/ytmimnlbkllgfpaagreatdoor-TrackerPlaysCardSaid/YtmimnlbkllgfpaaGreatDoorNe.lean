/- How far two places are from one another: the program's distance in plain numbers; and what puts numbers in the order of their distance. -/
import Derived.Test.YtmimnlbkllgfpaaGreatDoorAx0
import Derived.Test.YtmimnlbkllgfpaaGreatDoorAx2
import Derived.Test.YtmimnlbkllgfpaaGreatDoorFl
import Derived.Test.YtmimnlbkllgfpaaGreatDoorProg
import Derived.WalkKit
import Derived.LoopTactic
import Derived.Deep.RegionHeld3
import Derived.Below
import Derived.BigCall
import Derived.FnLit
import Derived.Shelf.Abstract
import Derived.Deep.QuietTactic
namespace Go.Proofs.YtmimnlbkllgfpaaGreatDoor.Di
open Go.RowKit Go.Proofs.YtmimnlbkllgfpaaGreatDoor.A Go.Proofs.YtmimnlbkllgfpaaGreatDoorW.PrintWords Go.Proofs.YtmimnlbkllgfpaaGreatDoor.Fl

def inB (n : Int) : Bool := decide (-1048576 ≤ n ∧ n ≤ 1048576)
def okB (x y : Int) : Bool := inB x && inB y
theorem okB_iff (x y : Int) : okB x y = true ↔ (-1048576 ≤ x ∧ x ≤ 1048576) ∧ (-1048576 ≤ y ∧ y ≤ 1048576) := by simp [okB, inB]
theorem within_eq (n : Int) : plane_within.f n = some (inB n) := by
  unfold plane_within.f inB
  split
  · congr 1; simp; omega
  · congr 1; simp; omega

theorem check_eq (x y : Int) : plane_Check.f x y = some (okB x y) := by
  unfold plane_Check.f okB
  simp only [within_eq, Option.bind_some]
  cases inB x <;> simp

theorem both_eq (a b c d : Int) : plane_both.f a b c d = some (okB a b && okB c d) := by
  unfold plane_both.f
  simp only [check_eq, Option.bind_some]
  cases okB a b <;> simp

theorem wrap_eq {n : Int} (h : -9223372036854775808 ≤ n ∧ n ≤ 9223372036854775807) : wrap64 n = n := by
  unfold wrap64; omega

theorem ftoi_of {b : Nat} {n : Int} (h : FI b n) : ftoiOk b = true ∧ ftoi b = n := by
  unfold ftoiOk ftoi; rw [toInt h]; simp

theorem fi (n : Int) (h : -9007199254740992 < n ∧ n < 9007199254740992) : FI (floatOfInt .f64 n) n := ofInt n (by omega)

theorem csub_of {a b c d : Nat} {x y z t : Int} (ha : FI a x) (hb : FI b y) (hc : FI c z) (hd : FI d t) (h1 : (x - z).natAbs < 2 ^ 53) (h2 : (y - t).natAbs < 2 ^ 53) :
    csubOk a b c d = true ∧ FI (csubR a b c d) (x - z) ∧ FI (csubI a b c d) (y - t) := by
  obtain ⟨r, e1, f1⟩ := sub_of ha hc h1
  obtain ⟨s, e2, f2⟩ := sub_of hb hd h2
  have e : cSumBits .sub .f64 a b c d = some (r, s) := by unfold cSumBits; rw [e1, e2]; rfl
  unfold csubOk csubR csubI
  rw [e]; exact ⟨rfl, f1, f2⟩

theorem cmul_of {a b c d : Nat} {x y z t : Int} (ha : FI a x) (hb : FI b y) (hc : FI c z) (hd : FI d t) (m1 : (x * z).natAbs < 2 ^ 53) (m2 : (y * t).natAbs < 2 ^ 53) (m3 : (x * t).natAbs < 2 ^ 53) (m4 : (y * z).natAbs < 2 ^ 53)
    (h1 : (x * z - y * t).natAbs < 2 ^ 53) (h2 : (x * t + y * z).natAbs < 2 ^ 53) :
    cmulOk a b c d = true ∧ FI (cmulR a b c d) (x * z - y * t) ∧ FI (cmulI a b c d) (x * t + y * z) := by
  obtain ⟨p, e1, f1⟩ := mul_of ha hc m1
  obtain ⟨q, e2, f2⟩ := mul_of hb hd m2
  obtain ⟨r, e3, f3⟩ := sub_of f1 f2 h1
  obtain ⟨s, e4, f4⟩ := mul_of ha hd m3
  obtain ⟨u, e5, f5⟩ := mul_of hb hc m4
  obtain ⟨v, e6, f6⟩ := add_of f4 f5 h2
  have e : cMulBits a b c d = some (r, v) := by unfold cMulBits; simp only [e1, e2, e3, e4, e5, e6, Option.bind_some]
  unfold cmulOk cmulR cmulI
  rw [e]; exact ⟨rfl, f3, f6⟩

/-- |x| ≤ a and |y| ≤ b: |x y| ≤ a b. -/
theorem mul_le {x y a b : Int} (hx : -a ≤ x ∧ x ≤ a) (hy : -b ≤ y ∧ y ≤ b) : -(a * b) ≤ x * y ∧ x * y ≤ a * b := by
  have ha : 0 ≤ a := by omega
  have hb : 0 ≤ b := by omega
  have h : (x * y).natAbs ≤ (a * b).natAbs := by
    rw [Int.natAbs_mul, Int.natAbs_mul]
    exact Nat.mul_le_mul (by omega) (by omega)
  have : 0 ≤ a * b := Int.mul_nonneg ha hb
  omega

theorem norm_of {a b : Nat} {x y : Int} (ha : FI a x) (hb : FI b y) (hx : -2097152 ≤ x ∧ x ≤ 2097152) (hy : -2097152 ≤ y ∧ y ≤ 2097152) : plane_norm.f (a, b) = some (x * x + y * y) := by
  have m1 : _ ∧ x * x ≤ 2097152 * 2097152 := mul_le hx hx
  have m2 : _ ∧ y * y ≤ 2097152 * 2097152 := mul_le hy hy
  have m3 : -(2097152 * 2097152) ≤ x * y ∧ x * y ≤ 2097152 * 2097152 := mul_le hx hy
  obtain ⟨ok, f1, f2⟩ := cmul_of ha hb ha (neg_of hb) (by omega) (by rw [Int.mul_neg]; omega) (by rw [Int.mul_neg]; omega) (by rw [Int.mul_comm]; omega) (by rw [Int.mul_neg]; omega) (by rw [Int.mul_neg, Int.mul_comm y x]; omega)
  obtain ⟨i1, i2⟩ := ftoi_of f1
  unfold plane_norm.f
  simp only [ok, if_true, i1, i2]
  congr 1
  rw [Int.mul_neg]; omega

def distP (a b c d : Int) : Int := if okB a b && okB c d then (a - c) * (a - c) + (b - d) * (b - d) else -1

theorem dist_eq (a b c d : Int) : plane_Dist.f a b c d = some (distP a b c d) := by
  unfold plane_Dist.f distP
  simp only [both_eq, Option.bind_some]
  cases h : (okB a b && okB c d)
  · simp
  · obtain ⟨h1, h2⟩ := Bool.and_eq_true_iff.1 h
    rw [okB_iff] at h1 h2
    obtain ⟨ok, f1, f2⟩ := csub_of (fi a (by omega)) (fi b (by omega)) (fi c (by omega)) (fi d (by omega)) (by omega) (by omega)
    simp only [plane_of.f, Option.bind_some, if_true, ok, norm_of f1 f2 (by omega) (by omega)]

/-- cmp.Compare of whole numbers. -/
def cmpI (x y : Int) : Int := if x < y then -1 else if x > y then 1 else 0
theorem compare_eq (x y : Int) : cmp_Compare_int.f x y = some (cmpI x y) := by
  unfold cmp_Compare_int.f cmp_isNaN_int.f cmpI
  simp only [Option.bind_some, bne_self_eq_false]
  rw [if_neg (by simp), if_neg (by simp)]
  split
  · rfl
  · split <;> rfl
theorem cmpI_lt (x y : Int) : cmpI x y < 0 ↔ x < y := by
  unfold cmpI
  split
  · next h => exact ⟨fun _ => h, fun _ => by decide⟩
  · split
    · next h1 h2 => exact ⟨fun h => absurd h (by decide), fun h => by omega⟩
    · next h1 h2 => exact ⟨fun h => absurd h (by decide), fun h => by omega⟩
/-- x put into a list ahead of the first that is farther. -/
def insL (d : Int → Int) (x : Int) : List Int → List Int
  | [] => [x]
  | y :: r => if d x < d y then x :: y :: r else y :: insL d x r
/-- The numbers below n by their distance; of equals the smaller one first. -/
def nearL (d : Int → Int) : Nat → List Int
  | 0 => []
  | n + 1 => insL d n (nearL d n)
def Up (d : Int → Int) : List Int → Prop
  | [] => True
  | x :: r => (∀ y ∈ r, d x ≤ d y) ∧ Up d r
theorem insL_len (d : Int → Int) (x : Int) : ∀ l, (insL d x l).length = l.length + 1
  | [] => rfl
  | y :: r => by unfold insL; split <;> simp [insL_len d x r]
theorem nearL_len (d : Int → Int) : ∀ n, (nearL d n).length = n
  | 0 => rfl
  | n + 1 => by rw [nearL, insL_len, nearL_len d n]
theorem insL_mem (d : Int → Int) (x : Int) : ∀ (l : List Int) (y : Int), y ∈ insL d x l ↔ y = x ∨ y ∈ l
  | [], y => by simp [insL]
  | z :: r, y => by
    unfold insL
    split
    · simp
    · rw [List.mem_cons, insL_mem d x r y, List.mem_cons]
      constructor
      · rintro (h | h | h)
        · exact Or.inr (Or.inl h)
        · exact Or.inl h
        · exact Or.inr (Or.inr h)
      · rintro (h | h | h)
        · exact Or.inr (Or.inl h)
        · exact Or.inl h
        · exact Or.inr (Or.inr h)
theorem nearL_mem (d : Int → Int) : ∀ (n : Nat) (y : Int), y ∈ nearL d n ↔ 0 ≤ y ∧ y < n
  | 0, y => by
    rw [nearL]
    exact ⟨fun h => (by cases h), fun h => (by omega)⟩
  | n + 1, y => by rw [nearL, insL_mem, nearL_mem d n]; omega
theorem insL_up (d : Int → Int) (x : Int) : ∀ (l : List Int), Up d l → Up d (insL d x l)
  | [], _ => ⟨fun y h => (by cases h), trivial⟩
  | z :: r, h => by
    unfold insL
    split
    · next hlt => exact ⟨fun y hy => by rcases List.mem_cons.mp hy with rfl | hy; exact Int.le_of_lt hlt; exact Int.le_trans (Int.le_of_lt hlt) (h.1 y hy), h⟩
    · next hlt =>
      refine ⟨fun y hy => ?_, insL_up d x r h.2⟩
      rcases (insL_mem d x r y).mp hy with rfl | hy
      · omega
      · exact h.1 y hy
theorem nearL_up (d : Int → Int) : ∀ n, Up d (nearL d n)
  | 0 => trivial
  | n + 1 => insL_up d n _ (nearL_up d n)
theorem up_append (d : Int → Int) : ∀ (a b : List Int), Up d (a ++ b) → Up d a ∧ Up d b ∧ ∀ x ∈ a, ∀ y ∈ b, d x ≤ d y
  | [], b, h => ⟨trivial, h, fun x hx => (by cases hx)⟩
  | z :: a, b, h => by
    obtain ⟨h1, h2, h3⟩ := up_append d a b h.2
    refine ⟨⟨fun y hy => h.1 y (List.mem_append_left _ hy), h1⟩, h2, fun x hx y hy => ?_⟩
    rcases List.mem_cons.mp hx with rfl | hx
    · exact h.1 y (List.mem_append_right _ hy)
    · exact h3 x hx y hy
/-- Where the one that goes down stops. -/
theorem insL_at (d : Int → Int) (x : Int) : ∀ (a b : List Int), (∀ y ∈ a, ¬ d x < d y) → (∀ y ∈ b, d x < d y) → insL d x (a ++ b) = a ++ x :: b
  | [], [], _, _ => rfl
  | [], y :: b, _, h => by rw [List.nil_append, insL, if_pos (h y (by simp))]; rfl
  | z :: a, b, ha, hb => by
    rw [List.cons_append, insL, if_neg (ha z (by simp)), insL_at d x a b (fun y hy => ha y (List.mem_cons_of_mem _ hy)) hb]; rfl
theorem insL_stop (d : Int → Int) (x : Int) (a b : List Int) (hu : Up d (a ++ b)) (hl : ∀ a' y, a = a' ++ [y] → ¬ d x < d y) (hb : ∀ y ∈ b, d x < d y) : insL d x (a ++ b) = a ++ x :: b := by
  refine insL_at d x a b (fun y hy => ?_) hb
  rcases List.eq_nil_or_concat a with rfl | ⟨a', z, rfl⟩
  · cases hy
  · have hz := hl a' z (by simp)
    rcases List.mem_append.mp (by simpa using hy : y ∈ a' ++ [z]) with hy | hy
    · have hu2 : Up d ((a' ++ [z]) ++ b) := by simpa using hu
      have := (up_append d a' [z] (up_append d _ b hu2).1).2.2 y hy z (by simp)
      omega
    · rw [List.mem_singleton.mp hy]; exact hz
end Go.Proofs.YtmimnlbkllgfpaaGreatDoor.Di
/- slices.SortStableFunc over fewer than twenty numbers: walked. -/
namespace Go.Proofs.YtmimnlbkllgfpaaGreatDoor.So
open Go.RowKit Go.Proofs.YtmimnlbkllgfpaaGreatDoorW.PrintWords Go.Proofs.YtmimnlbkllgfpaaGreatDoor.Di

/-- What the sort leaves as it was, and the row that it sorts. -/
structure Arr (B : World) (blk : Nat) (xs : List Int) (W : World) : Prop where
  cell : ∀ (j : Nat) x, xs[j]? = some x → W.cell? ⟨blk, j, none⟩ = some (.int .i64 x)
  frz : ∀ j, j < xs.length → W.frozen? ⟨blk, j, none⟩ = false
  lt : blk < B.heap.size
  size : B.heap.size ≤ W.heap.size
  keep : ∀ k, k < B.heap.size → k ≠ blk → W.heap[k]? = B.heap[k]?
  os : W.os = B.os
  tape : W.tape = B.tape
  output : W.output = B.output
theorem Arr.below {B : World} {blk : Nat} {xs : List Int} {W W' : World} (h : Arr B blk xs W) (hb : Below W.heap.size W W') : Arr B blk xs W' := by
  have hlt : blk < W.heap.size := Nat.lt_of_lt_of_le h.lt h.size
  refine ⟨fun j x hj => (hb.cell (p := ⟨blk, j, none⟩) hlt).trans (h.cell j x hj), fun j hj => ?_, h.lt, Nat.le_trans h.size hb.size, fun k hk hne => (hb.block k (Nat.lt_of_lt_of_le hk h.size)).trans (h.keep k hk hne), hb.os.trans h.os, hb.tape.trans h.tape, hb.output.trans h.output⟩
  have := h.frz j hj
  unfold World.frozen? at this ⊢
  rw [hb.block blk hlt]; exact this
theorem Arr.set {B : World} {blk : Nat} {xs : List Int} {W : World} (h : Arr B blk xs W) (i : Nat) (hi : i < xs.length) (v : Int) : Arr B blk (xs.set i v) (W.setCell ⟨blk, i, none⟩ (.int .i64 v)) := by
  have hc := h.cell i xs[i] (List.getElem?_eq_getElem hi)
  refine ⟨fun j x hj => ?_, fun j hj => ?_, h.lt, by simpa using h.size, fun k hk hne => ?_, h.os, h.tape, h.output⟩
  · by_cases e : i = j
    · subst e
      rw [List.getElem?_set_self hi] at hj
      rw [← Option.some.inj hj]
      exact World.cell?_setCell_same _ _ _ hc
    · rw [List.getElem?_set_ne e] at hj
      rw [World.cell?_setCell_other _ _ _ _ (by intro q; injection q with _ q2; exact e q2)]
      exact h.cell j x hj
  · rw [World.frozen?_setCell]; exact h.frz j (by simpa using hj)
  · rw [← h.keep k hk hne]
    exact Below.heap_setCell W _ _ k hne
/-- Whatever comes to pass beside the row. -/
def CmpIs (B : World) (blk : Nat) (g : Nat) (cb : Array Value) (d : Int → Int) (n : Nat) : Prop :=
  ∀ W, B.heap.size ≤ W.heap.size → (∀ k, k < B.heap.size → k ≠ blk → W.heap[k]? = B.heap[k]?) → ∀ x y : Int, 0 ≤ x ∧ x < n → 0 ≤ y ∧ y < n →
    Calls Tryz.prog g (#[.int .i64 x, .int .i64 y] ++ cb) W fun e W' => e = .returned (.int .i64 (cmpI (d x) (d y))) ∧ Below W.heap.size W W'
/-- Numbers from i on. -/
def from_ (i : Nat) : Nat → List Int
  | 0 => []
  | m + 1 => (i : Int) :: from_ (i + 1) m
theorem from_len (m : Nat) : ∀ i, (from_ i m).length = m := by
  induction m with
  | zero => intro i; rfl
  | succ m ih => intro i; simp [from_, ih]
theorem set_swap (x y : Int) (R : List Int) : ∀ (A : List Int), ((A ++ [y] ++ (x :: R)).set (A.length + 1) y).set A.length x = A ++ (x :: y :: R)
  | [] => rfl
  | z :: A => by
    have := set_swap x y R A
    simp only [List.cons_append, List.length_cons, List.set_cons_succ]
    rw [this]
structure Aside (p : Prop) : Prop where mk :: (out : p)
def intOf : Value → Int | .int _ q => q | _ => 0
set_option maxHeartbeats 4000000 in
set_option maxRecDepth 100000 in
theorem insert (B : World) (blk cap n : Nat) (g : Nat) (cb : Array Value) (d : Int → Int) (w : World) (hn : n ≤ 1000000) (eg : ∀ args w, (callFunc g args).run Tryz.prog w = .ok (.enter g args) w) (hC : CmpIs B blk g cb d n) (hA : Arr B blk (from_ 0 n) w) :
    Calls Tryz.prog 106 #[.slice (some ⟨blk, 0, none⟩) n cap, .int .i64 0, .int .i64 n, .func (.func g) #[] cb] w fun e w' => e = .returned (.tuple #[]) ∧ Arr B blk (nearL d n) w' := by
  go_enter Tryz.func106, Tryz.ntmps106
  go_wp2
  go_loopw [8] (fun iv wr => ∃ i : Nat, 1 ≤ i ∧ iv = .int .i64 i ∧ (i ≤ n ∧ Arr B blk (nearL d i ++ from_ i (n - i)) wr ∨ n < i ∧ Arr B blk (nearL d n) wr)) (fun iv _ => n + 1 - (intOf iv).toNat)
  case atStart =>
    refine ⟨1, Nat.le_refl _, rfl, ?_⟩
    by_cases h1 : 1 ≤ n
    · exact Or.inl ⟨h1, by
        obtain ⟨m, rfl⟩ : ∃ m, n = m + 1 := ⟨n - 1, by omega⟩
        exact hA⟩
    · obtain rfl : n = 0 := by omega
      exact Or.inr ⟨by omega, hA⟩
  case round =>
    obtain ⟨i, hi, rfl, hI⟩ := hrel
    by_cases hlt : i < n
    · obtain ⟨_, hI⟩ := hI.resolve_right (by omega)
      have hltz : (i : Int) < (n : Int) := by omega
      obtain ⟨m, hm⟩ : ∃ m, n - i = m + 1 := ⟨n - i - 1, by omega⟩
      rw [hm] at hI
      go_wp2
      go_loopw [9] (fun jv wr2 => ∃ (j : Nat) (P Q : List Int), jv = .int .i64 j ∧ P.length = j ∧ P ++ Q = nearL d i ∧ (∀ y ∈ Q, d i < d y) ∧ Arr B blk (P ++ ((i : Int) :: Q ++ from_ (i + 1) m)) wr2) (fun jv _ => (intOf jv).toNat)
      case atStart => exact ⟨i, nearL d i, [], rfl, nearL_len d i, by simp, fun y hy => (by cases hy), hI⟩
      case round =>
        obtain ⟨j, P, Q, rfl, hP, hPQ, hQ, hJ⟩ := hrel
        have hmem : ∀ y, y ∈ P ++ Q → 0 ≤ y ∧ y < i := fun y hy => by rw [hPQ] at hy; exact (nearL_mem d i y).mp hy
        have hstop : (∀ P' y, P = P' ++ [y] → ¬ d i < d y) → Aside (P ++ ((i : Int) :: Q ++ from_ (i + 1) m) = nearL d (i + 1) ++ from_ (i + 1) (n - (i + 1))) := fun hs => by
          have hu := nearL_up d i
          rw [← hPQ] at hu
          have := insL_stop d i P Q hu hs hQ
          refine ⟨?_⟩
          rw [nearL, ← hPQ, this, show n - (i + 1) = m by omega]; simp
        cases hPe : P.reverse with
        | nil =>
          have hPn : P = [] := by have := congrArg List.reverse hPe; simpa using this
          have hj0 : j = 0 := by rw [← hP, hPn]; rfl
          have hst := (hstop (fun P' y h => by rw [hPn] at h; cases P' <;> cases h)).out
          have hJ2 := hst ▸ hJ
          subst hj0
          have HS := Aside.mk hst
          clear hst hstop hmem hQ hPQ hP hPe hI hJ
          have z0 : ¬ ((0 : Nat) : Int) > 0 := by omega
          have z1 : decide (((0 : Nat) : Int) > 0) = false := by decide
          go_wp2_with fail
          go_region
          all_goals go_wp2_with fail
          all_goals refine ⟨⟨i + 1, by omega, by rw [Int.natCast_add]; rfl, Or.inl ⟨by omega, ?_⟩⟩, by show n + 1 - ((i : Int) + 1).toNat < n + 1 - (i : Int).toNat; omega⟩
          all_goals exact hJ2.below (below_drew1 (Below.refl _ _))
        | cons y Pr =>
          have hPn : P = Pr.reverse ++ [y] := by have := congrArg List.reverse hPe; simpa using this
          obtain ⟨jp, rfl⟩ : ∃ jp, j = jp + 1 := ⟨Pr.length, by rw [← hP, hPn]; simp⟩
          have hjp : Pr.reverse.length = jp := by rw [hPn] at hP; simpa using hP
          have hPl : Pr.length = jp := by simpa using hjp
          subst hPn
          have hy := hmem y (by simp)
          have cy := hJ.cell jp y (by rw [List.append_assoc, List.getElem?_append_right (Nat.le_of_eq hjp), hjp, Nat.sub_self]; rfl)
          have ci := hJ.cell (jp + 1) i (by rw [List.getElem?_append_right (Nat.le_of_eq hP), hP, Nat.sub_self]; rfl)
          have hji : jp + 1 ≤ i := by have := congrArg List.length hPQ; rw [List.length_append, nearL_len, hP] at this; omega
          have hlb : blk < wr.heap.size := Nat.lt_of_lt_of_le hJ.lt hJ.size
          have hwp : IntKind.i64.wrap ((jp : Int) + 1 - 1) = (jp : Int) := by rw [IntKind.wrap_i64]; omega
          have hwp2 : IntKind.i64.wrap (jp : Int) = (jp : Int) := by rw [IntKind.wrap_i64]; omega
          have jz : (jp : Int) + 1 < (n : Int) := by omega
          have jz1 : (jp : Int) < (n : Int) := by omega
          have hjpos : (0 : Int) < (jp : Int) + 1 := by omega
          have p0 : (0 : Int) ≤ (jp : Int) + 1 := by omega
          have p1 : (0 : Int) ≤ (jp : Int) := by omega
          have e0 : ((jp : Int) + 1).toNat = jp + 1 := by omega
          have hc := fun W (hb : Below wr.heap.size wr W) => hC W (hJ.below hb).size (hJ.below hb).keep i y ⟨by omega, by omega⟩ ⟨by omega, by omega⟩
          by_cases hlv : d i < d y
          · have hcv : cmpI (d i) (d y) < 0 := (cmpI_lt _ _).mpr hlv
            have hJA := Aside.mk hJ
            have hKp := Aside.mk (And.intro hPQ hQ)
            clear hJ hstop hQ hmem hPQ hP
            go_wp2_with fail
            go_region_held3 (fun w' => w'.cell? ⟨blk, jp, none⟩ = some (.int .i64 y) ∧ w'.cell? ⟨blk, jp + 1, none⟩ = some (.int .i64 i)) (first | exact ⟨f0, f1⟩ | exact ⟨cy, ci⟩) (first
              | (refine (hc _ (by repeat (first | exact Below.refl _ _ | apply pw_below_drewN | apply below_drew1))).mono ?_; rintro e w4 ⟨rfl, hb4⟩; have f0 := (hb4.cell (p := ⟨blk, jp, none⟩) (by exact hlb)).trans cy; have f1 := (hb4.cell (p := ⟨blk, jp + 1, none⟩) (by exact hlb)).trans ci))
            all_goals go_wp2_with fail
            all_goals have hJ4 := (hJA.out.below (below_drew1 (Below.refl _ _))).below hb4
            all_goals have fz0 := hJ4.frz jp (by simp; omega)
            all_goals have fz1 := hJ4.frz (jp + 1) (by simp; omega)
            all_goals have hS4 := (hJ4.set (jp + 1) (by simp; omega) y).set jp (by simp; omega) i
            all_goals have hJ4A := Aside.mk hS4
            all_goals clear hJ4 hS4 hJA
            all_goals go_region
            all_goals go_wp2_with fail
            all_goals refine ⟨⟨jp, Pr.reverse, y :: Q, rfl, hjp, by rw [← hKp.out.1]; simp, fun z hz => by rcases List.mem_cons.mp hz with rfl | hz; exact hlv; exact hKp.out.2 z hz, ?_⟩, by show (jp : Int).toNat < ((jp : Int) + 1).toNat; omega⟩
            all_goals have hfin := hJ4A.out.below (below_drew1 (Below.refl _ _))
            all_goals have he := set_swap i y (Q ++ from_ (i + 1) m) Pr.reverse
            all_goals rw [hjp] at he
            all_goals rw [show Pr.reverse ++ [y] ++ ((i : Int) :: Q ++ from_ (i + 1) m) = Pr.reverse ++ [y] ++ ((i : Int) :: (Q ++ from_ (i + 1) m)) from rfl, he] at hfin
            all_goals exact hfin
          · have hcv : ¬ cmpI (d i) (d y) < 0 := fun h => hlv ((cmpI_lt _ _).mp h)
            have hst := (hstop (fun P' z h => by
              have := (List.append_inj' h rfl).2
              rw [← (List.cons.inj this).1]; exact hlv)).out
            have hJA := Aside.mk (hst ▸ hJ)
            clear hJ hstop hQ hmem hPQ hP hst
            go_wp2_with fail
            go_region_held3 (fun w' => w'.cell? ⟨blk, jp, none⟩ = some (.int .i64 y) ∧ w'.cell? ⟨blk, jp + 1, none⟩ = some (.int .i64 i)) (first | exact ⟨f0, f1⟩ | exact ⟨cy, ci⟩) (first
              | (refine (hc _ (by repeat (first | exact Below.refl _ _ | apply pw_below_drewN | apply below_drew1))).mono ?_; rintro e w4 ⟨rfl, hb4⟩; have f0 := (hb4.cell (p := ⟨blk, jp, none⟩) (by exact hlb)).trans cy; have f1 := (hb4.cell (p := ⟨blk, jp + 1, none⟩) (by exact hlb)).trans ci))
            all_goals go_wp2_with fail
            all_goals refine ⟨⟨i + 1, by omega, by rw [Int.natCast_add]; rfl, Or.inl ⟨by omega, ?_⟩⟩, by show n + 1 - ((i : Int) + 1).toNat < n + 1 - (i : Int).toNat; omega⟩
            all_goals exact (hJA.out.below (below_drew1 (Below.refl _ _))).below hb4
    · have hn2 : Arr B blk (nearL d n) wr := by
        rcases hI with ⟨h1, h2⟩ | ⟨_, h2⟩
        · obtain rfl : i = n := by omega
          rw [Nat.sub_self] at h2
          simpa [from_] using h2
        · exact h2
      have hltz : ¬ (i : Int) < (n : Int) := by omega
      go_wp2
      go_end0
      exact ⟨rfl, hn2⟩
set_option maxHeartbeats 1000000 in
set_option maxRecDepth 100000 in
theorem stable (B : World) (blk cap n : Nat) (g : Nat) (cb : Array Value) (d : Int → Int) (w : World) (hn : n < 20) (eg : ∀ args w, (callFunc g args).run Tryz.prog w = .ok (.enter g args) w) (hC : CmpIs B blk g cb d n) (hA : Arr B blk (from_ 0 n) w) :
    Calls Tryz.prog 82 #[.slice (some ⟨blk, 0, none⟩) n cap, .int .i64 n, .func (.func g) #[] cb] w fun e w' => e = .returned (.tuple #[]) ∧ Arr B blk (nearL d n) w' := by
  have z0 : ¬ (20 : Int) ≤ (n : Int) := by omega
  have z1 : ¬ (20 : Int) < (n : Int) := by omega
  go_enter Tryz.func82, Tryz.ntmps82
  go_wp2
  refine wp_loop_rounds 1 ?_
  rw [rounds_succ]
  go_wp2_with (go_at_call 106; refine (insert B blk cap n g cb d _ (by omega) eg hC hA).mono ?_; rintro e w1 ⟨rfl, h1⟩)
  refine wp_loop_rounds 1 ?_
  rw [rounds_succ]
  go_wp2
  all_goals first | (exfalso; omega) | (go_end0; exact ⟨rfl, h1⟩)
set_option maxHeartbeats 1000000 in
set_option maxRecDepth 100000 in
theorem sort (B : World) (blk cap n : Nat) (g : Nat) (cb : Array Value) (d : Int → Int) (w : World) (hn : n < 20) (eg : ∀ args w, (callFunc g args).run Tryz.prog w = .ok (.enter g args) w) (hC : CmpIs B blk g cb d n) (hA : Arr B blk (from_ 0 n) w) :
    Calls Tryz.prog 57 #[.slice (some ⟨blk, 0, none⟩) n cap, .func (.func g) #[] cb] w fun e w' => e = .returned (.tuple #[]) ∧ Arr B blk (nearL d n) w' := by
  go_enter Tryz.func57, Tryz.ntmps57
  go_wp2_with (go_at_call 82; refine (stable B blk cap n g cb d _ hn eg hC hA).mono ?_; rintro e w1 ⟨rfl, h1⟩)
  go_end0
  exact ⟨rfl, h1⟩
end Go.Proofs.YtmimnlbkllgfpaaGreatDoor.So
/- plane.Near over fewer than twenty places: walked. -/
namespace Go.Proofs.YtmimnlbkllgfpaaGreatDoor.So
open Go.RowKit Go.Proofs.YtmimnlbkllgfpaaGreatDoorW.PrintWords Go.Proofs.YtmimnlbkllgfpaaGreatDoor.Di

/-- Where places lie: a row of its own. -/
def Pls (w : World) (b : Nat) (l : List (Int × Int)) : Prop := ∀ (k : Nat) (x : Int × Int), l[k]? = some x → w.cell? ⟨b, k * 2, none⟩ = some (.int .i64 x.1) ∧ w.cell? ⟨b, k * 2 + 1, none⟩ = some (.int .i64 x.2)
theorem Pls.below {w w' : World} {b : Nat} {l : List (Int × Int)} (h : Pls w b l) (hb : Below w.heap.size w w') : Pls w' b l := by
  intro k x hx
  obtain ⟨c, c2⟩ := h k x hx
  exact ⟨(hb.cell (World.block_lt_of_cell? _ _ c)).trans c, (hb.cell (World.block_lt_of_cell? _ _ c2)).trans c2⟩
def okP (x : Int × Int) : Bool := okB x.1 x.2
set_option maxRecDepth 100000 in
theorem lit1 (x : Int × Int) (w : World) : Calls Tryz.prog 56 #[.agg #[.int .i64 x.1, .int .i64 x.2]] w fun e w' => e = .returned (.bool !(okP x)) ∧ Below w.heap.size w w' := by
  have hI := fun w => A.plane_Check.calls x.1 x.2 (okP x) w (check_eq x.1 x.2)
  have hB1 : Below w.heap.size w (w.alloc (.cells #[.int .i64 x.1, .int .i64 x.2] 24)) := (Below.refl _ w).alloc (Nat.le_refl _) _
  generalize okP x = r at *
  go_enter Tryz.func56, Tryz.ntmps56
  go_wp2_with (go_at_call 37; refine (hI _).mono ?_; rintro e w1 ⟨rfl, hd⟩)
  go_ret
  exact ⟨rfl, hB1.trans (hd.mono hB1.size)⟩
set_option maxHeartbeats 1000000 in
set_option maxRecDepth 100000 in
theorem indexFunc (b c : Nat) (l : List (Int × Int)) (w : World) (h : Pls w b l) (hl : l.length ≤ 100000) (hok : ∀ x ∈ l, okP x = true) :
    Calls Tryz.prog 81 #[.slice (some ⟨b, 0, none⟩) l.length c, .func (.func 56) #[] #[]] w fun e w' => e = .returned (.int .i64 (-1)) ∧ Below w.heap.size w w' := by
  go_enter Tryz.func81, Tryz.ntmps81
  go_wp2
  go_loopw [8] (fun iv wr => ∃ k : Nat, k ≤ l.length ∧ iv = .int .i64 k ∧ Below w.heap.size w wr) (fun iv _ => l.length - (intOf iv).toNat)
  case atStart => exact ⟨0, by omega, rfl, Below.refl _ w⟩
  case round =>
    obtain ⟨k, hk, rfl, hB⟩ := hrel
    by_cases hlt : k < l.length
    · obtain ⟨x, hx⟩ : ∃ x, l[k]? = some x := ⟨l[k], List.getElem?_eq_getElem hlt⟩
      obtain ⟨c0, c1⟩ := (h.below hB) k x hx
      have hL := fun w => lit1 x w
      rw [hok x (List.mem_of_getElem? hx)] at hL
      obtain ⟨x0, x1⟩ := x
      simp only at c0 c1 hL
      go_wp2_with (go_at_call 56; refine (hL _).mono ?_; rintro e w1 ⟨rfl, hb1⟩)
      refine ⟨⟨k + 1, by omega, by rw [Int.natCast_add]; rfl, hB.trans (hb1.mono hB.size)⟩, ?_⟩
      show l.length - ((k : Int) + 1).toNat < l.length - (k : Int).toNat
      omega
    · go_wp2_with fail
      go_ret
      exact ⟨rfl, hB⟩
set_option maxRecDepth 100000 in
theorem containsFunc (b c : Nat) (l : List (Int × Int)) (w : World) (h : Pls w b l) (hl : l.length ≤ 100000) (hok : ∀ x ∈ l, okP x = true) :
    Calls Tryz.prog 55 #[.slice (some ⟨b, 0, none⟩) l.length c, .func (.func 56) #[] #[]] w fun e w' => e = .returned (.bool false) ∧ Below w.heap.size w w' := by
  have hI := indexFunc b c l w h hl hok
  go_enter Tryz.func55, Tryz.ntmps55
  go_wp2_with (go_at_call 81; refine hI.mono ?_; rintro e w1 ⟨rfl, hb1⟩)
  go_ret
  exact ⟨rfl, hb1⟩
/-- A later world in which all that lay before lies as it did. -/
structure BelowW (w : World) where
  world : World
  is : Below w.heap.size w world
instance (w : World) : Inhabited (BelowW w) := ⟨⟨w, Below.refl _ _⟩⟩
theorem BelowW.cell {w : World} {a : Addr} {v : Value} (h : w.cell? a = some v) (p : BelowW w) : p.world.cell? a = some v := (p.is.cell (World.block_lt_of_cell? _ _ h)).trans h
/-- A drawn region whose operations read and whose callees read, and lay blocks of their own, walked in the order of the text. -/
theorem wp_region_below {P : Program} {id : Nat} {Q : Exit → Act → World → Prop} {a : Act} {w : World} {l : List Oper} (hm : P.follows .mixedOrders = true) (hB : Region.lexB .any l.toArray = true)
    (h : wpQuiet P l.toArray (fun w' => ∃ p : BelowW w, w' = p.world) (fun a' => ∀ w', (∃ p : BelowW w, w' = p.world) → Q .normal a' w') l a) : (Code.region id l.toArray true).wp P Q a w :=
  wp_region_quiet (C := fun w' => ∃ p : BelowW w, w' = p.world) hm hB ⟨⟨{ w with drawn := w.drawn + 1 }, ⟨rfl, rfl, rfl, Nat.le_refl _, fun _ _ => rfl⟩⟩, rfl⟩ (by simpa using h)
theorem calls_below {P : Program} {f : FuncId} {args : Array Value} {w : World} {p : BelowW w} {v : Value}
    (h : Calls P f args p.world fun e w' => e = .returned v ∧ Below p.world.heap.size p.world w') : Calls P f args p.world fun e w'' => e = .returned v ∧ ∃ q : BelowW w, w'' = q.world :=
  h.mono fun _ w' ⟨he, hb⟩ => ⟨he, ⟨w', p.is.trans (hb.mono p.is.size)⟩, rfl⟩
/-- How far the places of a list are. -/
def dst (a : Int × Int) (l : List (Int × Int)) (i : Int) : Int := distP a.1 a.2 (l.getD i.toNat (0, 0)).1 (l.getD i.toNat (0, 0)).2
set_option maxHeartbeats 1000000 in
set_option maxRecDepth 100000 in
/-- The closure that compares. -/
theorem lit2 (b c ba bl : Nat) (a : Int × Int) (l : List (Int × Int)) (i k : Nat) (w : World) (h : Pls w b l) (ha0 : w.cell? ⟨ba, 0, none⟩ = some (.int .i64 a.1)) (ha1 : w.cell? ⟨ba, 1, none⟩ = some (.int .i64 a.2)) (hl : w.cell? ⟨bl, 0, none⟩ = some (.slice (some ⟨b, 0, none⟩) l.length c)) (hi : i < l.length) (hk : k < l.length) :
    Calls Tryz.prog 58 #[.int .i64 i, .int .i64 k, .pointer (some ⟨ba, 0, none⟩), .pointer (some ⟨bl, 0, none⟩)] w fun e w' => e = .returned (.int .i64 (cmpI (dst a l i) (dst a l k))) ∧ Below w.heap.size w w' := by
  obtain ⟨x, hx⟩ : ∃ x, l[i]? = some x := ⟨l[i], List.getElem?_eq_getElem hi⟩
  obtain ⟨y, hy⟩ : ∃ x, l[k]? = some x := ⟨l[k], List.getElem?_eq_getElem hk⟩
  obtain ⟨c0, c1⟩ := h i x hx
  obtain ⟨c2, c3⟩ := h k y hy
  have hd1 := fun w => A.plane_Dist.calls a.1 a.2 x.1 x.2 _ w (dist_eq a.1 a.2 x.1 x.2)
  have hd2 := fun w => A.plane_Dist.calls a.1 a.2 y.1 y.2 _ w (dist_eq a.1 a.2 y.1 y.2)
  have e1 : dst a l i = distP a.1 a.2 x.1 x.2 := by unfold dst; rw [Int.toNat_natCast, List.getD_eq_getElem?_getD, hx]; rfl
  have e2 : dst a l k = distP a.1 a.2 y.1 y.2 := by unfold dst; rw [Int.toNat_natCast, List.getD_eq_getElem?_getD, hy]; rfl
  rw [e1, e2]
  generalize distP a.1 a.2 x.1 x.2 = D1 at *
  generalize distP a.1 a.2 y.1 y.2 = D2 at *
  have hcp := fun w => A.cmp_Compare_int.calls D1 D2 _ w (compare_eq D1 D2)
  generalize cmpI D1 D2 = R at *
  obtain ⟨x0, x1⟩ := x
  obtain ⟨y0, y1⟩ := y
  obtain ⟨p0, p1⟩ := a
  simp only at c0 c1 c2 c3 ha0 ha1 hd1 hd2
  have hiz : (i : Int) < (l.length : Int) := by omega
  have hkz : (k : Int) < (l.length : Int) := by omega
  have f0 := BelowW.cell c0
  have f1 := BelowW.cell c1
  have f2 := BelowW.cell c2
  have f3 := BelowW.cell c3
  have f4 := BelowW.cell ha0
  have f5 := BelowW.cell ha1
  have f6 := BelowW.cell hl
  clear e1 e2 hx hy h c0 c1 c2 c3 ha0 ha1 hl
  go_enter Tryz.func58, Tryz.ntmps58
  go_wp2_with fail
  refine wp_region_below (by kernel_rfl) (by kernel_rfl) ?_
  iterate 5 (quiet_step (fail))
  quiet_step (exact calls_below (hd1 _))
  iterate 5 (quiet_step (fail))
  quiet_step (exact calls_below (hd2 _))
  quiet_step (exact calls_below ((hcp _).mono (fun _ _ h => ⟨h.1, h.2.below⟩)))
  quiet_step (fail)
  refine wpQuiet_nil ?_
  intro _ hw'
  obtain ⟨pq, hw''⟩ := hw'
  subst hw''
  go_wp2
  go_ret
  exact ⟨rfl, pq.is⟩
theorem from_get (m : Nat) : ∀ (i j : Nat), j < m → (from_ i m)[j]? = some ((i + j : Nat) : Int) := by
  induction m with
  | zero => intro i j h; omega
  | succ m ih =>
    intro i j h
    cases j with
    | zero => rfl
    | succ j =>
      rw [from_, List.getElem?_cons_succ, ih (i + 1) j (by omega)]
      congr 2; omega
theorem from_snoc (m : Nat) : from_ 0 (m + 1) = from_ 0 m ++ [(m : Int)] := by
  apply List.ext_getElem?
  intro j
  rcases Nat.lt_or_ge j m with h | h
  · rw [List.getElem?_append_left (by rw [from_len]; exact h), from_get _ _ _ h, from_get _ _ _ (by omega)]
  · rw [List.getElem?_append_right (by rw [from_len]; exact h), from_len]
    by_cases e : j = m
    · subst e; rw [Nat.sub_self, from_get _ _ _ (by omega)]; simp
    · rw [List.getElem?_eq_none (by rw [from_len]; omega), List.getElem?_eq_none (by simp; omega)]
set_option maxHeartbeats 4000000 in
set_option maxRecDepth 100000 in
/-- plane.Near at places that may be, fewer than twenty of them. -/
theorem near (b c : Nat) (a : Int × Int) (l : List (Int × Int)) (w : World) (h : Pls w b l) (hb : b < w.heap.size) (hlen : l.length < 20) (hne : l ≠ []) (ha : okP a = true) (hok : ∀ x ∈ l, okP x = true) :
    Calls Tryz.prog 38 #[.agg #[.int .i64 a.1, .int .i64 a.2], .slice (some ⟨b, 0, none⟩) l.length c] w fun e w' => ∃ g cap, l.length ≤ cap ∧ e = .returned (.tuple #[.slice (some ⟨g, 0, none⟩) l.length cap, .int .i64 0]) ∧ Below w.heap.size w w' ∧ ∀ (j : Nat) x, (nearL (dst a l) l.length)[j]? = some x → w'.cell? ⟨g, j, none⟩ = some (.int .i64 x) := by
  have hCk := fun w => A.plane_Check.calls a.1 a.2 true w (by rw [check_eq]; exact congrArg some ha)
  have hCF := fun w' (hb' : Below w.heap.size w w') => containsFunc b c l w' (h.below hb') (by omega) hok
  obtain ⟨p0, p1⟩ := a
  have hB1 : Below w.heap.size w (w.alloc (.cells #[.int .i64 p0, .int .i64 p1] 24)) := (Below.refl _ w).alloc (Nat.le_refl _) _
  have hB2 : Below w.heap.size w ((w.alloc (.cells #[.int .i64 p0, .int .i64 p1] 24)).alloc (.cells #[.slice (some ⟨b, 0, none⟩) l.length c] 68)) := hB1.alloc hB1.size _
  have hn1 : (w.alloc (.cells #[.int .i64 p0, .int .i64 p1] 24)).heap[w.heap.size]? = some (.cells #[.int .i64 p0, .int .i64 p1] 24 (0, 0)) := blk_new w _
  have hn2 := blk_alloc hn1 (.cells #[.slice (some ⟨b, 0, none⟩) l.length c] 68)
  have hm2 := blk_new (w.alloc (.cells #[.int .i64 p0, .int .i64 p1] 24)) (.cells #[.slice (some ⟨b, 0, none⟩) l.length c] 68)
  rw [show (w.alloc (.cells #[.int .i64 p0, .int .i64 p1] 24)).heap.size = w.heap.size + 1 by simp] at hm2
  go_enter Tryz.func38, Tryz.ntmps38
  have hlen160 : ¬ (l.length : Int) > 160 := by omega
  go_wp2_with (first
    | (go_at_call 37; refine (hCk _).mono ?_; rintro e w3 ⟨rfl, hb3⟩; have hn3 := blk_below hn2 hb3; have hm3 := blk_below hm2 hb3; have hB3 := hB2.trans (hb3.mono hB2.size); have hc3 := blk_cell hm3 0; have hsz3 := hb3.size)
    | (go_at_call 55; refine (hCF _ hB3).mono ?_; rintro e w4 ⟨rfl, hb4⟩; have hn4 := blk_below hn3 hb4; have hm4 := blk_below hm3 hb4; have hB4 := hB3.trans (hb4.mono hB3.size); have hc4 := blk_cell hm4 0; have hsz4 := hb4.size))
  have info3 : (Tryz.prog.info? 3).map (fun i => (i.zero, i.size, i.bytes)) = some (some (.int .i64 0), 1, 8) := by kernel_rfl
  have hP4 := h.below hB4
  have lb4 : b < w4.heap.size := Nat.lt_of_lt_of_le hb hB4.size
  have hs2 : w.heap.size + 2 ≤ w4.heap.size := by
    have : ((w.alloc (.cells #[.int .i64 p0, .int .i64 p1] 24)).alloc (.cells #[.slice (some ⟨b, 0, none⟩) l.length c] 68)).heap.size = w.heap.size + 2 := by simp
    omega
  clear hb3 hb4 hn1 hn2 hm2 hn3 hm3 hc3 hsz3 hsz4 hB1 hB2 hB3 hCk hCF h
  go_loopw [6, 22] (fun ov iv wr => ∃ k : Nat, k ≤ l.length ∧ iv = .int .i64 k ∧ Kd.R (Kd.int .i64) 3 wr w4.heap.size (fun _ => True) ov (from_ 0 k) ∧ Below w4.heap.size w4 wr) (fun _ iv _ => l.length - (intOf iv).toNat)
  case atStart => exact ⟨0, by omega, rfl, Kd.R_nil _ _ _ _ _, Below.refl _ _⟩
  case round =>
    obtain ⟨k, hk, rfl, hR, hB⟩ := hrel
    by_cases hlt : k < l.length
    · have hfl := from_len k 0
      go_wp2_with (first | ((with_reducible refine gate_builtin (b := .append) (xs := #[.tmp 25, .tmp 27]) rfl ?_); at_builtin; refine Kd.R_append (Kd.int .i64) (w0 := w4) w4.heap.size rfl (.tmp 25) (.tmp 27) 48 3 (.int .i64 0) 8 rfl Tryz.underlying48 info3 rfl (by decide) (by omega) _ (from_ 0 k) (k : Int) [.int .i64 (k : Int)] (fun _ => True) (fun _ => False) rfl rfl ?aP (fun _ hk => hk.elim) ?aF ?aO ?aB ?aS ?aL ?_; (case aP => exact rfl); (case aB => exact hB); (case aF => exact (fun _ _ => trivial)); (case aO => exact hR); (case aS => exact hB.size); (case aL => rw [hfl]; omega); intro v1 w6 hR1 hB6 _ _))
      refine ⟨⟨k + 1, by omega, by rw [Int.natCast_add]; rfl, by rw [from_snoc]; exact hR1, hB6⟩, ?_⟩
      show l.length - ((k : Int) + 1).toNat < l.length - (k : Int).toNat
      omega
    · have hke : k = l.length := by omega
      subst hke
      have hpos : 0 < l.length := List.length_pos_iff.mpr hne
      have hown := Kd.own_of_R hR
      rcases hown.2 with ⟨_, h0⟩ | ⟨g, cap, cur, hv, hg, hcur, hncap, _, hsz, htake⟩
      · rw [from_len] at h0; omega
      rw [from_len] at hv hncap htake
      subst hv
      have hc5 := (hB.cell (p := ⟨w.heap.size + 1, 0, none⟩) (by show w.heap.size + 1 < w4.heap.size; omega)).trans hc4
      have hgl : g < wr.heap.size := by
        rcases Nat.lt_or_ge g wr.heap.size with h | h
        · exact h
        · rw [Array.getElem?_eq_none h] at hcur; cases hcur
      have hn5 := blk_below hn4 hB
      have hP5 := hP4.below hB
      have hArr : Arr wr g (from_ 0 l.length) wr := by
        refine ⟨fun j x hj => ?_, fun j _ => blk_frozen hcur j, hgl, Nat.le_refl _, fun _ _ _ => rfl, rfl, rfl, rfl⟩
        have hjl : j < l.length := by
          rcases Nat.lt_or_ge j l.length with h | h
          · exact h
          · rw [List.getElem?_eq_none (by rw [from_len]; exact h)] at hj; cases hj
        rw [blk_cell hcur j]
        have h1 : (cur.toList.take (l.length * 1))[j]? = some (.int .i64 x) := by
          rw [htake]; unfold encs; rw [List.getElem?_map, hj]; rfl
        rw [List.getElem?_take_of_lt (by omega)] at h1
        simpa using h1
      have hCmp : CmpIs wr g 58 #[.pointer (some ⟨w.heap.size, 0, none⟩), .pointer (some ⟨w.heap.size + 1, 0, none⟩)] (dst (p0, p1) l) l.length := by
        intro W hsz hk x y hx hy
        obtain ⟨X, rfl⟩ := Int.eq_ofNat_of_zero_le hx.1
        obtain ⟨Y, rfl⟩ := Int.eq_ofNat_of_zero_le hy.1
        have hkc : ∀ (blk off : Nat) v, blk < w4.heap.size → wr.cell? ⟨blk, off, none⟩ = some v → W.cell? ⟨blk, off, none⟩ = some v := fun blk off v hlt hc => by
          have := hk blk (Nat.lt_of_lt_of_le hlt hB.size) (by omega)
          rw [← hc]; unfold World.cell?; rw [this]
        refine lit2 b c w.heap.size (w.heap.size + 1) (p0, p1) l X Y W (fun k x hx => ⟨hkc _ _ _ lb4 (hP5 k x hx).1, hkc _ _ _ lb4 (hP5 k x hx).2⟩) (hkc _ _ _ (by omega) (blk_cell hn5 0)) (hkc _ _ _ (by omega) (blk_cell hn5 1)) (hkc _ _ _ (by omega) hc5) (by omega) (by omega)
      have hS := sort wr g cap l.length 58 #[.pointer (some ⟨w.heap.size, 0, none⟩), .pointer (some ⟨w.heap.size + 1, 0, none⟩)] (dst (p0, p1) l) wr hlen (enters_of Tryz.func58 (by kernel_rfl) rfl) hCmp hArr
      clear hCmp hArr hown hcur htake hP5 hP4 hn5 hn4 hm4 hc4 hc5 hR
      go_wp2_with (go_at_call 57; refine hS.mono ?_; rintro e w7 ⟨rfl, hA7⟩)
      go_ret2
      refine ⟨g, cap, hncap, rfl, ⟨hA7.os.trans (hB.os.trans hB4.os), hA7.tape.trans (hB.tape.trans hB4.tape), hA7.output.trans (hB.output.trans hB4.output), Nat.le_trans hB4.size (Nat.le_trans hB.size hA7.size), fun k hk => ?_⟩, fun j x hj => hA7.cell j x hj⟩
      have hk4 : k < w4.heap.size := Nat.lt_of_lt_of_le hk hB4.size
      exact (hA7.keep k (Nat.lt_of_lt_of_le hk4 hB.size) (by omega)).trans ((hB.block k hk4).trans (hB4.block k hk))
end Go.Proofs.YtmimnlbkllgfpaaGreatDoor.So
