/- runs.runs: the iterator over a set's runs. -/
import Derived.RangeFuncBox
import Derived.RangeFuncLeaves
import Derived.Shelf.Abstract
import Derived.WalkKit
import Derived.OwnWalkIn
import Derived.TacticsInMore
import Derived.LoopNIn
import Derived.LoopIn
import Derived.Maps.AppendAt
import Derived.Deep.RegionHeld3
import Derived.BigQuiet
import Derived.Test.YtbbncdbihiipcaaDoorWWords
import Derived.Test.YtbbncdbihiipcaaDoorChecked
import Derived.RangeFuncNested
namespace Go.Proofs.YtbbncdbihiipcaaDoor.It
open Go.RowKit Go.Shelf
open Go.Proofs.YtbbncdbihiipcaaDoorW.PrintWords (Drawn0)
attribute [local go_sem] Oper.semAt_some

/-- Where the run that begins here ends. -/
def runEnd (p : Nat → Bool) (N : Nat) : Nat → Nat → Nat
  | 0, hi => hi
  | k + 1, hi => if hi < N ∧ p hi = true then runEnd p N k (hi + 1) else hi
/-- The runs from here on. -/
def runsFrom (p : Nat → Bool) (N : Nat) : Nat → Nat → List (Int × Int)
  | 0, _ => []
  | k + 1, lo => if lo < N then (if lo < runEnd p N (N - lo) lo then [((lo : Int), (runEnd p N (N - lo) lo : Int))] else []) ++ runsFrom p N k (max (runEnd p N (N - lo) lo) (lo + 1)) else []
theorem runEnd_is (p : Nat → Bool) (N : Nat) : ∀ (k lo hi : Nat), hi ≤ lo + k → lo ≤ hi → hi ≤ N → (∀ j, lo ≤ j → j < hi → p j = true) → (hi < N → p hi = false) → runEnd p N k lo = hi
  | 0, lo, hi, h1, h2, _, _, _ => by rw [runEnd]; omega
  | k + 1, lo, hi, h1, h2, h3, h4, h5 => by
    rw [runEnd]
    rcases Nat.lt_or_ge lo hi with h | h
    · rw [if_pos ⟨by omega, h4 lo (Nat.le_refl _) h⟩]
      exact runEnd_is p N k (lo + 1) hi (by omega) (by omega) h3 (fun j q1 q2 => h4 j (by omega) q2) h5
    · obtain rfl : lo = hi := by omega
      rw [if_neg (by rintro ⟨q1, q2⟩; rw [h5 q1] at q2; cases q2)]

theorem drawn_grown {w w' : World} (h : Drawn0 w w') : w.grownBy w' none := by
  have hb := h.below
  obtain ⟨k, rfl⟩ := h
  exact ⟨hb.os, hb.tape, hb.output, hb.size, fun j hj _ => hb.block j hj⟩

theorem drawn_of_drew {w w' : World} (h : Drawn0 w.drew w') : Drawn0 w w' := by
  obtain ⟨k, rfl⟩ := h
  exact ⟨⟨1 + k, World.drewN_drewN ..⟩⟩

/-- What the iterator reads lies as it lay; the heap has not shrunk. -/
structure Keep3 (Bn Bs Bi : Nat) (W W' : World) : Prop where
  size : W.heap.size ≤ W'.heap.size
  kn : W'.heap[Bn]? = W.heap[Bn]?
  ks : W'.heap[Bs]? = W.heap[Bs]?
  kb : W'.heap[Bi]? = W.heap[Bi]?
theorem Keep3.refl (Bn Bs Bi : Nat) (W : World) : Keep3 Bn Bs Bi W W := ⟨Nat.le_refl _, rfl, rfl, rfl⟩
theorem Keep3.trans {Bn Bs Bi : Nat} {A B C : World} (h : Keep3 Bn Bs Bi A B) (k : Keep3 Bn Bs Bi B C) : Keep3 Bn Bs Bi A C :=
  ⟨Nat.le_trans h.size k.size, k.kn.trans h.kn, k.ks.trans h.ks, k.kb.trans h.kb⟩
theorem Keep3.below {Bn Bs Bi B : Nat} {W W' : World} (h : Below B W W') (h1 : Bn < B) (h2 : Bs < B) (h3 : Bi < B) : Keep3 Bn Bs Bi W W' :=
  ⟨h.size, h.block _ h1, h.block _ h2, h.block _ h3⟩
theorem cell_same {W W' : World} {B : Nat} {v : Value} (h : W'.heap[B]? = W.heap[B]?) (hc : W.cell? ⟨B, 0, none⟩ = some v) : W'.cell? ⟨B, 0, none⟩ = some v := by
  rw [← hc]; unfold World.cell?; rw [h]

set_option maxRecDepth 100000 in
set_option maxHeartbeats 4000000 in
theorem all1 (l Bn Bs Bi n : Nat) (hn : 3 ≤ n) (N : Nat) (s : ByteArray) (b : Bool) (g : Nat → Bool) (full : List (Int × Int)) (hfull : full = runsFrom (fun i => g i == b) N N 0) (J Jx : List (Int × Int) → World → Prop)
    (W : World) (hJa : AbidesFrom W.heap.size J)
    (hY : ∀ pre x W, J pre W → pre.length < full.length → YieldAt Fence.wide (n - 1) Tryd.prog l #[.agg #[.int .i64 x.1, .int .i64 x.2]] W fun e W' =>
      (e = .returned (.bool true) ∧ J (pre ++ [x]) W' ∧ Keep3 Bn Bs Bi W W') ∨ (e = .returned (.bool false) ∧ Jx (pre ++ [x]) W'))
    (hN : N ≤ 200) (hHas : ∀ (i : Nat) (w : World), i < N → Calls Tryd.prog 42 #[.string s, .int .i64 i] w fun e w' => e = .returned (.bool (g i)) ∧ Drawn0 w w')
    (lt1 : Bn < W.heap.size) (lt2 : Bs < W.heap.size) (lt3 : Bi < W.heap.size)
    (hBn : W.cell? ⟨Bn, 0, none⟩ = some (.int .i64 N)) (hBs : W.cell? ⟨Bs, 0, none⟩ = some (.string s)) (hBi : W.cell? ⟨Bi, 0, none⟩ = some (.bool b)) (h0 : J [] W) :
    CallsIn Fence.wide n Tryd.prog 81 #[.func (.yield l) #[] #[], .pointer (some ⟨Bn, 0, none⟩), .pointer (some ⟨Bs, 0, none⟩), .pointer (some ⟨Bi, 0, none⟩)] W fun e W' => (∃ v, e = .returned v) ∧
      ((∃ ys, ys = full ∧ J ys W') ∨ (∃ pre, pre <+: full ∧ Jx pre W')) := by
  refine callsIn_of_wp Tryd.func81 rfl trivial ?_ rfl
  simp only [Tryd.ntmps81, List.size_toArray, List.length_cons, List.length_nil, Nat.reduceAdd, Nat.reduceSub, Array.replicate_succ, Array.replicate_zero, List.push_toArray, List.append_toArray, List.nil_append, List.cons_append]
  gi_wp2
  gi_loopw [5] (fun p wr => ∃ (lo k : Nat) (pre : List (Int × Int)), p = .int .i64 lo ∧ lo ≤ 300 ∧ full = pre ++ runsFrom (fun i => g i == b) N k lo ∧ N ≤ lo + k ∧ J pre wr ∧ Keep3 Bn Bs Bi W wr ∧ W.heap.size ≤ wr.heap.size)
    (fun p wr => N - (RowKit.intOf p).toNat)
  case atStart => exact ⟨0, N, [], rfl, by omega, hfull, by omega, h0, Keep3.refl _ _ _ _, Nat.le_refl _⟩
  case round =>
    obtain ⟨lo, k, pre, rfl, hlo, hful, hk, hJ, hB, hsz⟩ := hrel
    have c1 : wr.cell? ⟨Bn, 0, none⟩ = some (.int .i64 N) := cell_same hB.kn hBn
    by_cases hlt : lo < N
    · obtain ⟨k, rfl⟩ : ∃ k', k = k' + 1 := ⟨k - 1, by omega⟩
      gi_wp2
      gi_loopw [6] (fun q wi => ∃ hi : Nat, q = .int .i64 hi ∧ lo ≤ hi ∧ hi ≤ N ∧ (∀ j, lo ≤ j → j < hi → (g j == b) = true) ∧ J pre wi ∧ Keep3 Bn Bs Bi W wi ∧ W.heap.size ≤ wi.heap.size)
        (fun q wi => N - (RowKit.intOf q).toNat)
      case atStart => exact ⟨lo, rfl, Nat.le_refl _, by omega, fun j q1 q2 => by omega, hJ, hB, hsz⟩
      case round =>
        obtain ⟨hi, rfl, hl, hh, hall, hJ1, hB1, hsz1⟩ := hrel
        have d1 : wr.cell? ⟨Bn, 0, none⟩ = some (.int .i64 N) := cell_same hB1.kn hBn
        have d2 : wr.cell? ⟨Bs, 0, none⟩ = some (.string s) := cell_same hB1.ks hBs
        have d3 : wr.cell? ⟨Bi, 0, none⟩ = some (.bool b) := cell_same hB1.kb hBi
        have L1 : Bn < wr.heap.size := by omega
        have L2 : Bs < wr.heap.size := by omega
        have L3 : Bi < wr.heap.size := by omega
        have L1 : Bn < wr.heap.size := by omega
        have L2 : Bs < wr.heap.size := by omega
        have L3 : Bi < wr.heap.size := by omega
        by_cases hhi : hi < N
        · have hc := fun w => hHas hi w hhi
          have hdn : decide (hi < N) = true := decide_eq_true hhi
          have hdi : decide ((hi : Int) < (N : Int)) = true := decide_eq_true (Int.ofNat_lt.mpr hhi)
          gi_wp2_with fail
          refine wpIn_wide.2 ?_
          go_region_held3 (fun w' => w'.cell? ⟨Bn, 0, none⟩ = some (.int .i64 N) ∧ w'.cell? ⟨Bs, 0, none⟩ = some (.string s) ∧ w'.cell? ⟨Bi, 0, none⟩ = some (.bool b)) (first | exact ⟨e1, e2, e3⟩ | exact ⟨d1, d2, d3⟩) (first | (go_at_call 42; refine (hc _).mono ?_; rintro e w4 ⟨rfl, hd⟩; have e1 := (hd.below.cell (p := ⟨Bn, 0, none⟩) (by exact L1)).trans d1; have e2 := (hd.below.cell (p := ⟨Bs, 0, none⟩) (by exact L2)).trans d2; have e3 := (hd.below.cell (p := ⟨Bi, 0, none⟩) (by exact L3)).trans d3))
          have hd4 := drawn_of_drew hd
          have hs4 : W.heap.size ≤ w4.heap.size := Nat.le_trans hsz1 hd4.below.size
          have hJ4 : J pre w4 := hJa pre _ _ none hJ1 (drawn_grown hd4) (fun r h => by cases h)
          have hB4 : Keep3 Bn Bs Bi W w4 := hB1.trans (Keep3.below hd4.below L1 L2 L3)
          clear hdn hdi
          cases hg : (g hi == b) with
          | true =>
            gi_wp2
            exact ⟨⟨hi + 1, by rw [Int.natCast_add]; rfl, by omega, by omega, fun j q1 q2 => by
              rcases Nat.lt_or_ge j hi with h | h
              · exact hall j q1 h
              · obtain rfl : j = hi := by omega
                exact hg, hJ4, hB4, hs4⟩, by show N - ((hi : Int) + 1).toNat < N - (hi : Int).toNat; omega⟩
          | false =>
            have hend : runEnd (fun i => g i == b) N (N - lo) lo = hi := runEnd_is _ N (N - lo) lo hi (by omega) hl hh hall (fun _ => hg)
            have hst : full = pre ++ ((if lo < hi then [((lo : Int), (hi : Int))] else []) ++ runsFrom (fun i => g i == b) N k (max hi (lo + 1))) := by
              rw [hful, runsFrom, if_pos hlt, hend]
            by_cases hlh : lo < hi
            · have hm : max hi (lo + 1) = hi := by omega
              rw [if_pos hlh, hm] at hst
              obtain ⟨fn, tmps, assign, body, hy, hRd⟩ := hY pre ((lo : Int), (hi : Int)) w4 hJ4 (by rw [hst]; simp)
              have hli : (lo : Int) < (hi : Int) := Int.ofNat_lt.mpr hlh
              gi_wp2
              refine ⟨fun _ => by omega, hRd.mono ?_⟩
              rintro e W3 (⟨rfl, hJ3, hk3⟩ | ⟨rfl, hJx3⟩)
              · gi_wp2
                exact ⟨⟨hi, k, pre ++ [((lo : Int), (hi : Int))], rfl, by omega, by rw [hst]; simp, by omega, hJ3, hB4.trans hk3, Nat.le_trans hs4 hk3.size⟩, by show N - ((hi : Nat) : Int).toNat < N - ((lo : Nat) : Int).toNat; omega⟩
              · gi_wp2
                refine bodyPost_ret (results_none rfl _ _ _) rfl ?_
                exact ⟨⟨_, rfl⟩, .inr ⟨pre ++ [((lo : Int), (hi : Int))], ⟨runsFrom (fun i => g i == b) N k hi, by rw [hst]; simp⟩, hJx3⟩⟩
            · obtain rfl : lo = hi := by omega
              have hm : max lo (lo + 1) = lo + 1 := by omega
              rw [if_neg hlh, hm, List.nil_append] at hst
              gi_wp2
              refine ⟨fun _ h => (by cases h), ?_⟩
              gi_wp2
              exact ⟨⟨lo + 1, k, pre, by rw [Int.natCast_add]; rfl, by omega, hst, by omega, hJ4, hB4, hs4⟩, by show N - ((lo : Int) + 1).toNat < N - (lo : Int).toNat; omega⟩
        · have hdn : decide (hi < N) = false := decide_eq_false hhi
          have hdi : decide ((hi : Int) < (N : Int)) = false := decide_eq_false (fun h => hhi (Int.ofNat_lt.mp h))
          gi_wp2_with fail
          refine wpIn_wide.2 ?_
          go_quiet (fail)
          have hd4 : Drawn0 wr (wr.drewN nq) := ⟨⟨nq, rfl⟩⟩
          have hs4 : W.heap.size ≤ (wr.drewN nq).heap.size := Nat.le_trans hsz1 hd4.below.size
          have hJ4 : J pre (wr.drewN nq) := hJa pre _ _ none hJ1 (drawn_grown hd4) (fun r h => by cases h)
          have hB4 : Keep3 Bn Bs Bi W (wr.drewN nq) := hB1.trans (Keep3.below hd4.below L1 L2 L3)
          have hend : runEnd (fun i => g i == b) N (N - lo) lo = hi := runEnd_is _ N (N - lo) lo hi (by omega) hl hh hall (fun h => absurd h hhi)
          generalize wr.drewN nq = w4 at *
          have hst : full = pre ++ ((if lo < hi then [((lo : Int), (hi : Int))] else []) ++ runsFrom (fun i => g i == b) N k (max hi (lo + 1))) := by
            rw [hful, runsFrom, if_pos hlt, hend]
          by_cases hlh : lo < hi
          · have hm : max hi (lo + 1) = hi := by omega
            rw [if_pos hlh, hm] at hst
            obtain ⟨fn, tmps, assign, body, hy, hRd⟩ := hY pre ((lo : Int), (hi : Int)) w4 hJ4 (by rw [hst]; simp)
            have hli : (lo : Int) < (hi : Int) := Int.ofNat_lt.mpr hlh
            gi_wp2
            refine ⟨fun _ => by omega, hRd.mono ?_⟩
            rintro e W3 (⟨rfl, hJ3, hk3⟩ | ⟨rfl, hJx3⟩)
            · gi_wp2
              exact ⟨⟨hi, k, pre ++ [((lo : Int), (hi : Int))], rfl, by omega, by rw [hst]; simp, by omega, hJ3, hB4.trans hk3, Nat.le_trans hs4 hk3.size⟩, by show N - ((hi : Nat) : Int).toNat < N - ((lo : Nat) : Int).toNat; omega⟩
            · gi_wp2
              refine bodyPost_ret (results_none rfl _ _ _) rfl ?_
              exact ⟨⟨_, rfl⟩, .inr ⟨pre ++ [((lo : Int), (hi : Int))], ⟨runsFrom (fun i => g i == b) N k hi, by rw [hst]; simp⟩, hJx3⟩⟩
          · exact absurd hlt (by omega)
    · gi_wp2
      go_end0
      refine ⟨⟨_, rfl⟩, .inl ⟨pre, ?_, hJ⟩⟩
      rw [hful]
      cases k with
      | zero => rw [runsFrom, List.append_nil]
      | succ k => rw [runsFrom, if_neg hlt, List.append_nil]

/-- runs.runs' value hands over the runs, in their order; or a prefix of them, where a round has said 'no more'. -/
theorem stops (Bn Bs Bi n : Nat) (hn : 3 ≤ n) (N : Nat) (s : ByteArray) (b : Bool) (g : Nat → Bool) (hN : N ≤ 200) (hHas : ∀ (i : Nat) (w : World), i < N → Calls Tryd.prog 42 #[.string s, .int .i64 i] w fun e w' => e = .returned (.bool (g i)) ∧ Drawn0 w w')
    (w : World) (lt1 : Bn < w.heap.size) (lt2 : Bs < w.heap.size) (lt3 : Bi < w.heap.size)
    (hBn : w.cell? ⟨Bn, 0, none⟩ = some (.int .i64 N)) (hBs : w.cell? ⟨Bs, 0, none⟩ = some (.string s)) (hBi : w.cell? ⟨Bi, 0, none⟩ = some (.bool b)) :
    SeqStopsK Fence.wide n Tryd.prog 81 #[.pointer (some ⟨Bn, 0, none⟩), .pointer (some ⟨Bs, 0, none⟩), .pointer (some ⟨Bi, 0, none⟩)] (fun x : Int × Int => #[Value.agg #[.int .i64 x.1, .int .i64 x.2]]) (Keep3 Bn Bs Bi)
      (fun ys => ys = runsFrom (fun i => g i == b) N N 0) (fun pre => pre <+: runsFrom (fun i => g i == b) N N 0) (runsFrom (fun i => g i == b) N N 0).length w := fun l J Jx W hW hJa _ hY h0 =>
  all1 l Bn Bs Bi n hn N s b g _ rfl J Jx W hJa hY hN hHas (Nat.lt_of_lt_of_le lt1 hW.size) (Nat.lt_of_lt_of_le lt2 hW.size) (Nat.lt_of_lt_of_le lt3 hW.size) ((hW.cell (p := ⟨Bn, 0, none⟩) lt1).trans hBn) ((hW.cell (p := ⟨Bs, 0, none⟩) lt2).trans hBs) ((hW.cell (p := ⟨Bi, 0, none⟩) lt3).trans hBi) h0

set_option maxHeartbeats 1000000 in
/-- runs.runs: its three arguments are boxed; the function value captures the boxes. -/
theorem runs (N : Int) (s : ByteArray) (b : Bool) (n : Nat) (w : World) :
    CallsIn Fence.wide n Tryd.prog 63 #[.int .i64 N, .string s, .bool b] w fun e w' => e = .returned (.func (.func 81) #[] #[.pointer (some ⟨w.heap.size, 0, none⟩), .pointer (some ⟨w.heap.size + 1, 0, none⟩), .pointer (some ⟨w.heap.size + 2, 0, none⟩)]) ∧ w' = ((w.alloc (.cells #[.int .i64 N] 3)).alloc (.cells #[.string s] 9)).alloc (.cells #[.bool b] 4) := by
  refine callsIn_of_wp Tryd.func63 rfl trivial ?_ rfl
  simp only [Tryd.ntmps63, List.size_toArray, List.length_cons, List.length_nil, Nat.reduceAdd, Nat.reduceSub, Array.replicate_succ, Array.replicate_zero, List.push_toArray, List.append_toArray, List.nil_append, List.cons_append]
  gi_wp2
  go_ret
  exact ⟨rfl, rfl⟩

end Go.Proofs.YtbbncdbihiipcaaDoor.It
/- runs.of: the runs of a set, or of what it has not, collected. -/
namespace Go.Proofs.YtbbncdbihiipcaaDoor.It
open Go.RowKit Go.Shelf
open Go.Proofs.YtbbncdbihiipcaaDoorW.PrintWords (Drawn0 blk_cell)
attribute [local go_sem] Oper.semAt_some

theorem info39 : (Tryd.prog.info? 39).map (fun i => (i.zero, i.size, i.bytes)) = some (some (.agg #[.int .i64 0, .int .i64 0]), 2, 16) := by kernel_rfl
/-- The cells of runs, one run behind the other. -/
def cells2 (l : List (Int × Int)) : List Value := l.flatMap fun x => [.int .i64 x.1, .int .i64 x.2]
theorem cells2_snoc (l : List (Int × Int)) (x : Int × Int) : cells2 (l ++ [x]) = cells2 l ++ [.int .i64 x.1, .int .i64 x.2] := by simp [cells2]
/-- A block that holds a run. -/
def Box2 (W : World) (B : Nat) (x : Int × Int) : Prop := W.heap[B]? = some (.cells #[.int .i64 x.1, .int .i64 x.2] 39 (0, 0))
theorem box2_own (B : Nat) (x : Int × Int) : Own (fun (_ : Unit) W => Box2 W B x) := fun s X Y row hs hg hrow =>
  (hg.block B (Array.getElem?_eq_some_iff.1 hs).1 (fun e' => by obtain ⟨o, ho, hc⟩ := hrow B e'.symm; rw [show X.heap[B]? = _ from hs] at ho; cases ho; cases hc)).trans hs
theorem runs_len (p : Nat → Bool) (N : Nat) : ∀ k lo, (runsFrom p N k lo).length ≤ k
  | 0, _ => by simp [runsFrom]
  | k + 1, lo => by
    rw [runsFrom]
    have := runs_len p N k (max (runEnd p N (N - lo) lo) (lo + 1))
    split
    · rw [List.length_append]; split <;> simp <;> omega
    · simp

theorem two_new (W : World) (a b : Value) (t : TypeId) : ∀ j u, [a, b][j]? = some u → (W.alloc (.cells #[a, b] t)).cell? ((⟨W.heap.size, 0, none⟩ : Addr).add j) = some u := by
  intro j u hj
  have hb : (W.alloc (.cells #[a, b] t)).heap[W.heap.size]? = some (.cells #[a, b] t (0, 0)) := World.alloc_heap_new W _
  match j, hj with
  | 0, hj => have := blk_cell hb 0; rw [show ((⟨W.heap.size, 0, none⟩ : Addr).add 0) = ⟨W.heap.size, 0, none⟩ from rfl, this]; exact hj
  | 1, hj => have := blk_cell hb 1; rw [show ((⟨W.heap.size, 0, none⟩ : Addr).add 1) = ⟨W.heap.size, 1, none⟩ from rfl, this]; exact hj
/-- A box of another type stands where a row has grown and the list's own box was written. -/
theorem box_kept {W w1 : World} {B q t n0 k : Nat} {u v x : Value} {tmp : Obj} {xs : List Value} (h : Boxed W B t u) (ht : t ≠ 39) (hne : B ≠ q) (hrow : W.ownsRow n0 39 2 v k xs) (hg : (W.alloc tmp).grownBy w1 v.ownBlock) :
    Boxed (w1.setCell ⟨q, 0, none⟩ x) B t u := ((h.alloc tmp).kept hg (h.not_row ht hrow)).other hne x

set_option maxRecDepth 100000 in
set_option maxHeartbeats 4000000 in
theorem of_yes (N : Nat) (s : ByteArray) (b : Bool) (g : Nat → Bool) (hN : N ≤ 200) (hHas : ∀ (i : Nat) (w : World), i < N → Calls Tryd.prog 42 #[.string s, .int .i64 i] w fun e w' => e = .returned (.bool (g i)) ∧ Drawn0 w w')
    (w : World) (hCheck : Calls Tryd.prog 18 #[.int .i64 N, .string s] w fun e w' => e = .returned (.bool true) ∧ Drawn0 w w') :
    Calls Tryd.prog 34 #[.int .i64 N, .string s, .bool b] w fun e W' => ∃ v, e = .returned (.tuple #[v, .int .i64 0]) ∧ W'.ownsRow w.heap.size 39 2 v (runsFrom (fun i => g i == b) N N 0).length (cells2 (runsFrom (fun i => g i == b) N N 0)) ∧ Below w.heap.size w W' := by
  refine (callsIn_wide (n := 9)).1 ?_
  obtain ⟨full, hfull⟩ : ∃ full, full = runsFrom (fun i => g i == b) N N 0 := ⟨_, rfl⟩
  rw [← hfull]
  have hflen : full.length ≤ 200 := by rw [hfull]; exact Nat.le_trans (runs_len _ N N 0) hN
  obtain ⟨i0, hi, hz0, hz1, hz2⟩ := info_parts info39
  refine callsIn_of_wp_marks Tryd.func34 rfl trivial ?_ rfl
  simp only [Tryd.ntmps34, List.size_toArray, List.length_cons, List.length_nil, Nat.reduceAdd, Nat.reduceSub, Array.replicate_succ, Array.replicate_zero, List.push_toArray, List.append_toArray, List.nil_append, List.cons_append]
  gi_wp2_with (first | (refine ⟨trivial, ?_⟩; gi_at_call 18; refine (callsIn_wide.2 hCheck).mono ?_; rintro e w1 ⟨rfl, hd⟩) | (refine ⟨trivial, ?_⟩; gi_at_call 63; refine (runs N s b _ _).mono ?_; rintro e w' ⟨rfl, rfl⟩))
  have hB1 : Below w.heap.size w w1 := hd.below
  have hqw : w.heap.size ≤ w1.heap.size := hB1.size
  have bO := Boxed.new w1 22 (.slice none 0 0)
  have bN := Boxed.new (w1.alloc (.cells #[.slice none 0 0] 22)) 3 (.int .i64 N)
  have bS := Boxed.new ((w1.alloc (.cells #[.slice none 0 0] 22)).alloc (.cells #[.int .i64 N] 3)) 9 (.string s)
  have bB := Boxed.new (((w1.alloc (.cells #[.slice none 0 0] 22)).alloc (.cells #[.int .i64 N] 3)).alloc (.cells #[.string s] 9)) 4 (.bool b)
  simp only [World.size_alloc] at bN bS bB
  have bN2 := (bN.alloc (.cells #[.string s] 9)).alloc (.cells #[.bool b] 4)
  have bS2 := bS.alloc (.cells #[.bool b] 4)
  have bO2 := ((bO.alloc (.cells #[.int .i64 N] 3)).alloc (.cells #[.string s] 9)).alloc (.cells #[.bool b] 4)
  have hB0 : Below w.heap.size w ((((w1.alloc (.cells #[.slice none 0 0] 22)).alloc (.cells #[.int .i64 N] 3)).alloc (.cells #[.string s] 9)).alloc (.cells #[.bool b] 4)) :=
    (((hB1.alloc hqw _).alloc (by simp; omega) _).alloc (by simp; omega) _).alloc (by simp; omega) _
  have hsz5 : ((((w1.alloc (.cells #[.slice none 0 0] 22)).alloc (.cells #[.int .i64 N] 3)).alloc (.cells #[.string s] 9)).alloc (.cells #[.bool b] 4)).heap.size = w1.heap.size + 4 := by simp
  have hseq := stops (w1.heap.size + 1) (w1.heap.size + 1 + 1) (w1.heap.size + 1 + 2) 8 (by omega) N s b g hN hHas _ (by rw [hsz5]; omega) (by rw [hsz5]; omega) (by rw [hsz5]; omega) bN2.cell bS2.cell bB.cell
  rw [← hfull] at hseq
  generalize ((((w1.alloc (.cells #[.slice none 0 0] 22)).alloc (.cells #[.int .i64 N] 3)).alloc (.cells #[.string s] 9)).alloc (.cells #[.bool b] 4)) = w5 at *
  refine wpIn_rangeFunc_ownH rfl (by omega) (gf := 81) rfl trivial (enters_of Tryd.func81 (by kernel_rfl) rfl) hseq (fun h k => h.trans k)
    (fun W l o o' hl _ _ _ => ⟨by simp, World.putObj_heap_other (by omega), World.putObj_heap_other (by omega), World.putObj_heap_other (by omega)⟩) (Below.refl _ _) (fun _ => rfl)
    (fun pre W => (∃ v, Boxed W w1.heap.size 22 v ∧ W.ownsRow w.heap.size 39 2 v pre.length (cells2 pre) ∧ True) ∧ Below w.heap.size w W ∧ w1.heap.size + 4 ≤ W.heap.size ∧ Boxed W (w1.heap.size + 1) 3 (.int .i64 N) ∧ Boxed W (w1.heap.size + 1 + 1) 9 (.string s) ∧ Boxed W (w1.heap.size + 1 + 2) 4 (.bool b))
    (fun _ _ _ => False)
    (OwnFrom.and (Own.from (holdsRow_own w.heap.size w1.heap.size 22 39 2 (fun pre => pre.length) (fun pre => cells2 pre) (fun pre v => True)) _) (OwnFrom.and (ownFrom_below (Nat.le_refl _) (by omega)) (OwnFrom.and (fun _ _ _ _ hs hg _ => Nat.le_trans hs hg.size) (OwnFrom.and (Own.from (boxed_own _ 3 fun _ => .int .i64 N) _) (OwnFrom.and (Own.from (boxed_own _ 9 fun _ => .string s) _) (Own.from (boxed_own _ 4 fun _ => .bool b) _))))))
    (fun _ _ _ _ _ hs _ _ => hs)
    ⟨⟨_, bO2, World.ownsRow_nil _ _ _ _, trivial⟩, hB0, by omega, bN2, bS2, bB⟩
    (fun x a' W => ∃ Bx, w1.heap.size + 4 ≤ Bx ∧ Box2 W Bx x ∧ a' = { tmps := #[.int .i64 N, .string s, .bool b, undef, undef, undef, .slice none 0 0, .int .i64 0, .pointer (some ⟨w1.heap.size, 0, none⟩), .pointer (some ⟨Bx, 0, none⟩), .int .i64 N, .string s, .bool true, .bool false, .int .i64 N, .string s, .bool b, .func (.func 81) #[] #[.pointer (some ⟨w1.heap.size + 1, 0, none⟩), .pointer (some ⟨w1.heap.size + 1 + 1, 0, none⟩), .pointer (some ⟨w1.heap.size + 1 + 2, 0, none⟩)], .agg #[.int .i64 x.1, .int .i64 x.2], undef, undef, undef, undef, undef], defers := [] })
    (fun x a' => by
      rintro u X Y row ⟨Bx, hx, hb, he⟩ hg hr
      exact ⟨Bx, hx, box2_own Bx x u X Y row hb hg (fun r e => (hr r e).2), he⟩) ?assign ?body ?done ?stop
  case assign =>
    rintro l pre x W K ⟨⟨v, hv, hrow, _⟩, hB, hs5, b1, b2, b3⟩ hK
    gi_wp2
    exact hK _ _ ((KeepsOthers.alloc _ _).from _) (Keep3.below ((Below.refl W.heap.size W).alloc (Nat.le_refl _) _) (by omega) (by omega) (by omega)) ⟨⟨v, hv.alloc _, hrow.alloc _, trivial⟩, hB.alloc hB.size _, by rw [World.size_alloc]; omega, b1.alloc _, b2.alloc _, b3.alloc _⟩ ⟨W.heap.size, hs5, World.alloc_heap_new W _, rfl⟩
  case body =>
    rintro l pre x a' W hl ⟨r, hr⟩ ⟨⟨v, hv, hrow, _⟩, hB, hs5, b1, b2, b3⟩ ⟨Bx, hBx, bX, rfl⟩ hlt
    have hc := hv.cell
    have x0 : W.cell? ⟨Bx, 0, none⟩ = some (.int .i64 x.1) := by simp [World.cell?, show W.heap[Bx]? = _ from bX]
    have x1 : W.cell? ⟨Bx, 1, none⟩ = some (.int .i64 x.2) := by simp [World.cell?, show W.heap[Bx]? = _ from bX]
    have hml : pre.length + 1 ≤ maxLen := by unfold maxLen; omega
    gi_wp2_with (gi_at_builtin; refine wpListIn_append_own _ rfl _ _ 22 rfl w.heap.size 39 i0 (.agg #[.int .i64 0, .int .i64 0]) 2 16 Tryd.underlying22 hi hz0 hz1 hz2 rfl (by decide) _ _ _ rfl (hrow.alloc _) ⟨W.heap.size, 0, none⟩ 1 1 [.int .i64 x.1, .int .i64 x.2] rfl rfl (two_new W _ _ _) (by simp [Value.oneCell']) hml (by omega) (by have := hB.size; simp; omega) ?_; intro v' w6 hown' hgrow _; obtain ⟨g', cap', rfl⟩ := ownsRow_succ hown'; obtain ⟨hv1, hv2, hr2, hk2, hb2⟩ := hv.appended (by decide) hrow hB.size hqw hown' hgrow; have hc1 := hv1.cell; have hf1 := hv1.frozen)
    have k1 := box_kept (x := Value.slice (some ⟨g', 0, none⟩) (pre.length + 1) cap') b1 (by decide) (show w1.heap.size + 1 ≠ w1.heap.size by omega) hrow hgrow
    have k2 := box_kept (x := Value.slice (some ⟨g', 0, none⟩) (pre.length + 1) cap') b2 (by decide) (show w1.heap.size + 1 + 1 ≠ w1.heap.size by omega) hrow hgrow
    have k3 := box_kept (x := Value.slice (some ⟨g', 0, none⟩) (pre.length + 1) cap') b3 (by decide) (show w1.heap.size + 1 + 2 ≠ w1.heap.size by omega) hrow hgrow
    exact ⟨hk2.from _, ⟨hb2.size, k1.trans b1.symm, k2.trans b2.symm, k3.trans b3.symm⟩, ⟨_, hv2, by rw [cells2_snoc]; simpa using hr2, trivial⟩, hB.trans hb2, Nat.le_trans hs5 hb2.size, k1, k2, k3⟩
  case done =>
    rintro D ys W hD rfl ⟨⟨v, hv, hrow, _⟩, hB, hs5, _, _, _⟩ hK
    have hc := hv.cell
    gi_wp2
    refine ⟨by simp, .inl ⟨_, _, rfl, run_takeDeferred hK, ?_⟩⟩
    exact ⟨_, results_tmp2 (show Tryd.f34.results = #[.tmp 6, .tmp 7] from rfl) _ _ _, v, rfl, ownsRow_putObj hrow _ hK rfl, hB.trans (belowK_b (w := w) (Nat.le_refl _) W D _ _ (by omega) hK rfl rfl)⟩
  case stop =>
    rintro D c pre W _ _ h _
    exact h.elim

end Go.Proofs.YtbbncdbihiipcaaDoor.It
