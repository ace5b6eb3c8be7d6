/- runs.Pack: the bytes of a set's runs. -/
import Derived.Test.YtbbncdbihiipcaaDoorHd
import Derived.Test.YtbbncdbihiipcaaDoorWp
import Derived.LoopTactic
namespace Go.Proofs.YtbbncdbihiipcaaDoor.Pa
open Go.RowKit Go.Proofs.YtbbncdbihiipcaaDoor.P Go.Proofs.YtbbncdbihiipcaaDoor.Wr Go.Proofs.YtbbncdbihiipcaaDoorW.PrintWords

def be1 (n : Nat) : List UInt8 := [UInt8.ofNat n]
set_option maxRecDepth 100000 in
theorem newW (w : World) : Calls Tryd.prog 44 #[] w fun e w' => ∃ b, e = .returned (.pointer (some ⟨b, 0, none⟩)) ∧ IsW w.heap.size b [] 0 w' ∧ Below w.heap.size w w' := by
  go_enter Tryd.func44, Tryd.ntmps44
  go_wp2
  go_ret
  exact ⟨_, rfl, fresh w, (Below.refl _ w).alloc (Nat.le_refl _) _⟩
theorem shrN (X k : Nat) (hk : k ≤ 64) : shr .i64 (X : Int) (k : Int) = ((X / 2 ^ k : Nat) : Int) := by
  unfold shr
  rw [Int.toNat_natCast, Nat.min_eq_left (show k ≤ IntKind.i64.bits from hk), Int.natCast_ediv, Int.natCast_pow]; rfl
theorem ofNat_int (n : Nat) : UInt8.ofNat (((n : Int) % 256)).toNat = UInt8.ofNat n := by
  rw [show ((n : Int) % 256) = ((n % 256 : Nat) : Int) by omega, Int.toNat_natCast]
  apply UInt8.toNat_inj.mp
  simp
theorem put1 (k n : Nat) (hn : n < 256) : A.oct_Put.f (k + 4) (n : Int) 1 = some (⟨(be1 n).toArray⟩, 0) := by
  have s8 := shrN n 8 (by omega)
  have s0 := shrN n 0 (by omega)
  rw [show ((8 : Nat) : Int) = 8 from rfl, show n / 2 ^ 8 = 0 from Nat.div_eq_of_lt (by omega)] at s8
  rw [show ((0 : Nat) : Int) = 0 from rfl, Nat.pow_zero, Nat.div_one] at s0
  have w1 : wrap64 (8 * 1) = 8 := by unfold wrap64; decide
  have w2 : wrap64 (1 - 1) = 0 := by unfold wrap64; decide
  have w3 : wrap64 (8 * 0) = 0 := by unfold wrap64; decide
  have w4 : wrap64 (0 - 1) = -1 := by unfold wrap64; decide
  unfold A.oct_Put.f
  rw [if_neg (by omega), show decide ((1 : Int) > 7) = false from rfl]
  simp only [A.oct_Put.j0, A.oct_Put.l0, w1, w2, w3, w4]
  rw [if_neg (by simp), if_neg (by omega), if_pos (by omega), s8, if_pos (show ((0 : Nat) : Int) = 0 from rfl), if_pos (by omega), if_pos (by omega), if_pos (by decide), if_neg (by omega), s0]
  have := ofNat_int n
  simp only [strOfNums, List.nil_append, List.map_cons, List.map_nil, this]
  rfl
theorem sz1 (n : Nat) : (⟨(be1 n).toArray⟩ : ByteArray).size ≤ 1000000000 := (by decide : 1 ≤ 1000000000)
theorem putL_ok (l s : List UInt8) (h : l.length + s.length ≤ 65536) : putL l 0 s 0 = (l ++ s, 0) := by
  unfold putL; rw [if_neg (by omega), if_neg (by omega), if_neg (by omega)]

/-- The bytes of runs, and where the last one ends. -/
def pkS (last : Int) : List S39 → List UInt8
  | [] => []
  | x :: r => UInt8.ofNat (x.f0 - last).toNat :: UInt8.ofNat (x.f1 - x.f0).toNat :: pkS x.f1 r
def lastS (last : Int) : List S39 → Int
  | [] => last
  | x :: r => lastS x.f1 r
def GoodS (last : Int) : List S39 → Prop
  | [] => True
  | x :: r => last ≤ x.f0 ∧ x.f0 ≤ x.f1 ∧ x.f1 ≤ 200 ∧ GoodS x.f1 r
theorem pkS_snoc (x : S39) : ∀ (l : List S39) (last : Int), pkS last (l ++ [x]) = pkS last l ++ be1 (x.f0 - lastS last l).toNat ++ be1 (x.f1 - x.f0).toNat
  | [], last => by simp [pkS, lastS, be1]
  | y :: l, last => by simp [pkS, lastS, pkS_snoc x l]
theorem lastS_snoc (x : S39) : ∀ (l : List S39) (last : Int), lastS last (l ++ [x]) = x.f1
  | [], _ => rfl
  | y :: l, _ => by simp [lastS, lastS_snoc x l]
theorem pkS_len : ∀ (l : List S39) (last : Int), (pkS last l).length = 2 * l.length
  | [], _ => rfl
  | y :: l, _ => by simp [pkS, pkS_len l]; omega
theorem good_at : ∀ (l : List S39) (last : Int) (k : Nat) (x : S39), 0 ≤ last → GoodS last l → l[k]? = some x → 0 ≤ lastS last (l.take k) ∧ lastS last (l.take k) ≤ x.f0 ∧ x.f0 ≤ x.f1 ∧ x.f1 ≤ 200
  | [], _, _, _, _, _, h => by cases h
  | y :: l, last, 0, x, h0, hG, h => by
    obtain rfl : y = x := by simpa using h
    exact ⟨h0, hG.1, hG.2.1, hG.2.2.1⟩
  | y :: l, last, k + 1, x, h0, hG, h => by
    have := good_at l y.f1 k x (by have := hG.1; have := hG.2.1; omega) hG.2.2.2 (by simpa using h)
    simpa [lastS] using this
structure Aside (p : Prop) : Prop where mk :: (out : p)
def intOf : Value → Int | .int _ q => q | _ => 0

set_option maxRecDepth 100000 in
theorem ofC (n : Int) (s : ByteArray) (L : List S39) (e : Int) (w : World) (h : Hand.runs_of.f n s true = some (L, e)) :
    Calls Tryd.prog 11 #[.int .i64 n, .string s] w fun x w' => ∃ A c, x = .returned (.tuple #[.slice A L.length c, .int .i64 e]) ∧ Kd.C k39 w' A L.length L ∧ Below w.heap.size w w' := by
  have hC := fun w => Hand.runs_of.calls n s true L e w h
  go_enter Tryd.func11, Tryd.ntmps11
  go_wp2_with (go_at_call 34; refine (hC _).mono ?_; rintro x w1 ⟨v, rfl, hR, hb⟩; obtain ⟨A, c, rfl, hle, hK⟩ := Kd.R_reads hR)
  go_ret2
  exact ⟨A, c, rfl, hK, hb⟩

set_option maxHeartbeats 4000000 in
set_option maxRecDepth 100000 in
theorem pack (n : Int) (s : ByteArray) (l : List S39) (w : World) (h : Hand.runs_of.f n s true = some (l, 0)) (hG : GoodS 0 l) (hl : l.length ≤ 200) (hne : l ≠ []) :
    Calls Tryd.prog 21 #[.int .i64 n, .string s] w fun e w' => e = .returned (.tuple #[.string ⟨(pkS 0 l).toArray⟩, .int .i64 0]) ∧ Below w.heap.size w w' := by
  have hC := fun w => ofC n s l 0 w h
  go_enter Tryd.func21, Tryd.ntmps21
  go_wp2_with (first | (go_at_call 11; refine (hC _).mono ?_; rintro e w1 ⟨A, c, rfl, hK, hb1⟩) | (go_at_call 44; refine (newW _).mono ?_; rintro e w2 ⟨b, rfl, h2, hb2⟩))
  have hb3 := hb2.size
  go_loopw [9, 24] (fun lv iv wr => ∃ k : Nat, k ≤ l.length ∧ iv = .int .i64 k ∧ lv = .int .i64 (lastS 0 (l.take k)) ∧ IsW w1.heap.size b (Lib.byteCells (pkS 0 (l.take k))) 0 wr ∧ Below w1.heap.size w1 wr) (fun _ iv _ => l.length - (Pa.intOf iv).toNat)
  case atStart => exact ⟨0, by omega, rfl, rfl, h2, hb2⟩
  case round =>
    obtain ⟨k, hk, rfl, rfl, hW, hB⟩ := hrel
    by_cases hlt : k < l.length
    · obtain ⟨x, hx⟩ : ∃ x, l[k]? = some x := ⟨l[k], List.getElem?_eq_getElem hlt⟩
      have hr : rd_T39 l (k : Int) = x := by unfold rd_T39; rw [Int.toNat_natCast, List.getD_eq_getElem?_getD, hx]; rfl
      obtain ⟨ad, rfl, c0, c1⟩ := at_T39 (Kd.C_below hK hB) (k : Int) (by omega) (by omega)
      rw [Int.toNat_natCast, hr] at c0 c1
      obtain ⟨g0, g1, g2, g3⟩ := good_at l 0 k x (by omega) hG hx
      have hT : l.take (k + 1) = l.take k ++ [x] := by rw [List.take_add_one, hx]; rfl
      have hp1 := pkS_snoc x (l.take k) 0
      have hl1 := lastS_snoc x (l.take k) 0
      have hpl := pkS_len (l.take k) 0
      rw [← hT] at hp1 hl1
      have hpl2 : (pkS 0 (l.take k)).length ≤ 400 := by rw [hpl, List.length_take]; omega
      generalize lastS 0 (l.take k) = last at *
      generalize pkS 0 (l.take k) = pre at *
      obtain ⟨f0, f1⟩ := x
      simp only at c0 c1 g0 g1 g2 g3 hp1 hl1
      have q1 : A.oct_Put.f 4 (f0 - last) 1 = some (⟨(be1 (f0 - last).toNat).toArray⟩, 0) := by have := put1 0 (f0 - last).toNat (by omega); rwa [show (((f0 - last).toNat : Nat) : Int) = f0 - last by omega] at this
      have q2 : A.oct_Put.f 4 (f1 - f0) 1 = some (⟨(be1 (f1 - f0).toNat).toArray⟩, 0) := by have := put1 0 (f1 - f0).toNat (by omega); rwa [show (((f1 - f0).toNat : Nat) : Int) = f1 - f0 by omega] at this
      have u1 : IntKind.i64.wrap (f0 - last) = f0 - last := by rw [IntKind.wrap_i64]; omega
      have u2 : IntKind.i64.wrap (f1 - f0) = f1 - f0 := by rw [IntKind.wrap_i64]; omega
      have hb8 : Below wr.heap.size wr (wr.alloc (Obj.cells #[Value.int IntKind.i64 f0, Value.int IntKind.i64 f1] 39)) := (Below.refl _ wr).alloc (Nat.le_refl _) _
      have hW8 := hW.below hb8
      have hB8 := hB.trans (hb8.mono hB.size)
      have hblk := heap_alloc_new wr (Obj.cells #[Value.int IntKind.i64 f0, Value.int IntKind.i64 f1] 39)
      have Hs := Aside.mk (And.intro hp1 (And.intro hl1 (And.intro hT hpl)))
      clear hp1 hl1 hT hpl hr
      go_wp2_with fail
      refine (num w1.heap.size b pre 0 (f0 - last) 1 ⟨(be1 (f0 - last).toNat).toArray⟩ 0 4 _ hW8 (by omega) (sz1 _) hB8.size q1).mono ?_
      rintro e w5 ⟨rfl, h5, hb9, k9⟩
      replace h5 : IsW w1.heap.size b (Lib.byteCells (pre ++ be1 (f0 - last).toNat)) 0 w5 := by rw [putL_ok pre (be1 (f0 - last).toNat) (show pre.length + 1 ≤ 65536 by omega)] at h5; exact h5
      have hblk5 := k9 _ _ _ hblk
      have d0 := blk_cell hblk5 0
      have d1 := blk_cell hblk5 1
      have hB9 := hB8.trans hb9
      have hpl3 : (pre ++ be1 (f0 - last).toNat).length = pre.length + 1 := by simp [be1]
      go_wp2_with fail
      refine (num w1.heap.size b (pre ++ be1 (f0 - last).toNat) 0 (f1 - f0) 1 ⟨(be1 (f1 - f0).toNat).toArray⟩ 0 4 _ h5 (by omega) (sz1 _) hB9.size q2).mono ?_
      rintro e w6 ⟨rfl, h6, hb10, k10⟩
      replace h6 : IsW w1.heap.size b (Lib.byteCells (pre ++ be1 (f0 - last).toNat ++ be1 (f1 - f0).toNat)) 0 w6 := by rw [putL_ok (pre ++ be1 (f0 - last).toNat) (be1 (f1 - f0).toNat) (show (pre ++ be1 (f0 - last).toNat).length + 1 ≤ 65536 by omega)] at h6; exact h6
      have hblk6 := k10 _ _ _ hblk5
      have e1 := blk_cell hblk6 1
      have hB10 := hB9.trans hb10
      go_wp2_with fail
      refine ⟨⟨k + 1, by omega, by rw [Int.natCast_add]; rfl, by rw [Hs.out.2.1], by rw [Hs.out.1]; exact h6, hB10⟩, ?_⟩
      show l.length - ((k : Int) + 1).toNat < l.length - (k : Int).toNat
      omega
    · have hke : k = l.length := by omega
      have hWl : IsW w1.heap.size b (Lib.byteCells (pkS 0 l)) 0 wr := by rw [hke, List.take_of_length_le (Nat.le_refl _)] at hW; exact hW
      have hnn : pkS 0 l ≠ [] := by intro h'; have := pkS_len l 0; rw [h'] at this; have h2 : l.length = 0 := by simp at this; omega
                                    exact hne (List.length_eq_zero_iff.mp h2)
      clear hW
      go_wp2_with fail
      refine (Wr.bytes w1.heap.size b (pkS 0 l) _ hWl hnn).mono ?_
      rintro e w7 ⟨rfl, hb11⟩
      go_wp2_with fail
      go_ret2
      exact ⟨rfl, hb1.trans ((hB.trans hb11).mono hb1.size)⟩

end Go.Proofs.YtbbncdbihiipcaaDoor.Pa
/- runs.Pack: a set of no numbers, and no set. -/
namespace Go.Proofs.YtbbncdbihiipcaaDoor.Wr
open Go.RowKit Go.Proofs.YtbbncdbihiipcaaDoorW.PrintWords
set_option maxHeartbeats 2000000 in
set_option maxRecDepth 100000 in
/-- The bytes of a builder that holds none. -/
theorem string0 (B b : Nat) (e : Int) (w : World) (h : IsW B b [] e w) :
    Calls Tryd.prog 68 #[.pointer (some ⟨b, 0, none⟩)] w fun x w' => x = .returned (.string ⟨#[]⟩) ∧ Below B w w' := by
  obtain ⟨p, hB, v, hbk, hown, hne⟩ := h.at_
  obtain ⟨q, n, cap, rfl, hq⟩ : ∃ q n cap, v = .slice q n cap ∧ n = 0 ∧ ∃ q2 W2, (Builtin.unsafeSliceData_ #[59] 105 #[.slice q n cap]).run Tryd.prog w.drew = .ok (.pointer q2) W2 ∧ Below w.heap.size w W2 := by
    have hBe : Below w.heap.size w w.drew := below_drew1 (Below.refl _ w)
    rcases hown.2 with ⟨hv, _⟩ | ⟨g, cap, cur, hv, r⟩
    · exact ⟨none, 0, 0, hv, rfl, _, _, Lib.run_unsafeSliceData_nil _ _ _ _ _, hBe⟩
    · refine ⟨_, _, cap, hv, rfl, ?_⟩
      by_cases hc : cap = 0
      · subst hc
        have hg' : w.drew.heap[g]? = some (.cells cur 5 (0, 0)) := r.2.1
        exact ⟨_, _, Lib.run_unsafeSliceData_zero _ _ _ 5 Tryd.underlying105 ⟨g, 0, none⟩ _ (5, cur.size) (by simp [World.shape?, hg']), hBe.alloc (Nat.le_refl _) _⟩
      · exact ⟨_, _, Lib.run_unsafeSliceData_row _ _ _ _ _ _ hc, hBe⟩
  obtain ⟨rfl, q2, W2, hSD, hBe0⟩ := hq
  have hlt : b < w.heap.size := h.at_.choose_spec.lt
  have hBe : Below B w W2 := hBe0.mono (by omega)
  have c1 : w.drew.cell? ⟨b, 1, none⟩ = some (.slice q 0 cap) := by
    have : w.drew.heap[b]? = some (.cells #[p, .slice q 0 cap, .int .i64 e] 87 (0, 0)) := hbk
    rw [Lib.cell_of_heap this]; rfl
  have c2 : W2.cell? ⟨b, 1, none⟩ = some (.slice q 0 cap) := (hBe0.cell (p := ⟨b, 1, none⟩) hlt).trans c1
  have hUS : (Builtin.unsafeString_ #[105, 3] 9 #[.pointer q2, .int .i64 0]).run Tryd.prog W2 = .ok (.string .empty) W2 := Lib.run_unsafeString_none _ _ _ _ _
  go_enter Tryd.func68, Tryd.ntmps68
  go_wp2
  go_region
  all_goals (go_wp2; go_ret; exact ⟨rfl, hBe⟩)
set_option maxRecDepth 100000 in
theorem bytes0 (B b : Nat) (w : World) (h : IsW B b [] 0 w) :
    Calls Tryd.prog 46 #[.pointer (some ⟨b, 0, none⟩)] w fun x w' => x = .returned (.tuple #[.string ⟨#[]⟩, .int .i64 0]) ∧ Below B w w' := by
  obtain ⟨p, h1⟩ := h.at_
  obtain ⟨c0, c2⟩ := h1.cell
  go_enter Tryd.func46, Tryd.ntmps46
  go_wp2_with (go_at_call 68; refine (string0 B b 0 _ h).mono ?_; rintro x w2 ⟨rfl, hb1⟩)
  go_ret2
  exact ⟨rfl, hb1⟩
end Go.Proofs.YtbbncdbihiipcaaDoor.Wr
namespace Go.Proofs.YtbbncdbihiipcaaDoor.Pa
open Go.RowKit Go.Proofs.YtbbncdbihiipcaaDoor.P Go.Proofs.YtbbncdbihiipcaaDoor.Wr Go.Proofs.YtbbncdbihiipcaaDoorW.PrintWords
set_option maxRecDepth 100000 in
theorem packNo (n : Int) (s : ByteArray) (l : List S39) (e : Int) (w : World) (h : Hand.runs_of.f n s true = some (l, e)) (he : e ≠ 0) :
    Calls Tryd.prog 21 #[.int .i64 n, .string s] w fun x w' => x = .returned (.tuple #[.string ⟨#[]⟩, .int .i64 e]) ∧ Below w.heap.size w w' := by
  have hC := fun w => ofC n s l e w h
  go_enter Tryd.func21, Tryd.ntmps21
  go_wp2_with (first | (go_at_call 11; refine (hC _).mono ?_; rintro x w1 ⟨A, c, rfl, hK, hb1⟩))
  go_ret2
  exact ⟨rfl, hb1⟩
set_option maxHeartbeats 2000000 in
set_option maxRecDepth 100000 in
theorem pack0 (n : Int) (s : ByteArray) (w : World) (h : Hand.runs_of.f n s true = some ([], 0)) :
    Calls Tryd.prog 21 #[.int .i64 n, .string s] w fun x w' => x = .returned (.tuple #[.string ⟨#[]⟩, .int .i64 0]) ∧ Below w.heap.size w w' := by
  have hC := fun w => ofC n s [] 0 w h
  go_enter Tryd.func21, Tryd.ntmps21
  go_wp2_with (first | (go_at_call 11; refine (hC _).mono ?_; rintro x w1 ⟨A, c, rfl, hK, hb1⟩) | (go_at_call 44; refine (newW _).mono ?_; rintro e w2 ⟨b, rfl, h2, hb2⟩))
  have hb3 := hb2.size
  go_loopw [9, 24] (fun lv iv wr => lv = .int .i64 0 ∧ iv = .int .i64 0 ∧ wr = w2) (fun _ iv _ => 0)
  case atStart => exact ⟨rfl, rfl, rfl⟩
  case round =>
    obtain ⟨rfl, rfl, rfl⟩ := hrel
    go_wp2_with fail
    refine (Wr.bytes0 w1.heap.size b _ h2).mono ?_
    rintro e w7 ⟨rfl, hb11⟩
    go_wp2_with fail
    go_ret2
    exact ⟨rfl, hb1.trans ((hb2.trans hb11).mono hb1.size)⟩
end Go.Proofs.YtbbncdbihiipcaaDoor.Pa
