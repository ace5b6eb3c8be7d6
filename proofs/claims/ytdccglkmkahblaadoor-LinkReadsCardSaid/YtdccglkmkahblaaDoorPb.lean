/- Decimal numerals, read by the document. -/
import Derived.Test.YtdccglkmkahblaaDoorNa
import Derived.Test.YtdccglkmkahblaaDoorPx12
import Derived.Test.YtdccglkmkahblaaDoorPa
import Derived.Test.YtdccglkmkahblaaDoorTt
import Derived.Test.YtdccglkmkahblaaDoorPx13
namespace Go.Proofs.YtdccglkmkahblaaDoor.Rl
open Go.RowKit Go.Proofs.YtdccglkmkahblaaDoor.P Go.Proofs.YtdccglkmkahblaaDoor.Hand Go.Proofs.YtdccglkmkahblaaDoor.Bq Go.Proofs.YtdccglkmkahblaaDoorW.PrintWords Go.Proofs.YtdccglkmkahblaaDoorW.PrintLast Go.Proofs.YtdccglkmkahblaaDoorW.PrintMore

theorem whole_l0 (s : ByteArray) (hs : s.size ≤ 100) (x3 : Int) (R : Int) : ∀ (rest : List UInt8) (acc i k : Nat), s.data.toList.drop i = rest → (∀ b ∈ rest, Dg b) → val acc rest ≤ 100000000 → rest.length + 1 ≤ k → i + rest.length = s.size → (R = if x3 = 1 then -((val acc rest : Nat) : Int) else ((val acc rest : Nat) : Int)) →
    mosaicref29_whole.l0 k s x3 (acc : Int) (i : Int) = some R
  | [], acc, i, k, hr, _, hv, hk, hi, hR => by
    obtain ⟨k, rfl, _⟩ := succ_of (m := 0) (by simpa using hk)
    simp only [List.length_nil] at hi
    rw [val_nil] at hR hv
    rw [mosaicref29_whole.l0, if_neg (by omega), hR]
    split
    · rw [w64 (by omega)]
    · rfl
  | b :: r, acc, i, k, hr, hd, hv, hk, hi, hR => by
    obtain ⟨k, rfl, hk1⟩ := succ_of (m := r.length + 1) (by simpa using hk)
    simp only [List.length_cons] at hi
    have hlt : i < s.size := by omega
    have hbi : bt s (i : Int) = (b.toNat : Int) := by
      have h1 := get_nat s i hlt
      have h2 : s.data.toList[i]? = some b := by
        have := congrArg (fun l => l[0]?) hr
        simp only [List.getElem?_drop, List.getElem?_cons_zero, Nat.add_zero] at this
        exact this
      rw [bt_nat s i hlt, Option.some.inj (h1.symm.trans h2)]
    have hb := hd b (by simp)
    unfold Dg at hb
    have hge := val_ge r (10 * acc + (b.toNat - 48))
    rw [val_cons] at hv hR
    have hacc : acc ≤ 10000000 := by omega
    rw [mosaicref29_whole.l0, if_pos (by omega), if_pos (by omega), hbi, if_neg (by omega), if_neg (by omega), if_neg (by omega), w64 (n := (b.toNat : Int)) (by omega), w64 (n := 10 * (acc : Int)) (by omega), w64 (n := 10 * (acc : Int) + (b.toNat : Int)) (by omega), w64 (n := (i : Int) + 1) (by omega), w64 (by omega)]
    have e1 : 10 * (acc : Int) + (b.toNat : Int) - 48 = ((10 * acc + (b.toNat - 48) : Nat) : Int) := by omega
    have e2 : (i : Int) + 1 = ((i + 1 : Nat) : Int) := by omega
    rw [e1, e2]
    refine whole_l0 s hs x3 R r _ (i + 1) k ?_ (fun x hx => hd x (by simp [hx])) hv hk1 (by omega) hR
    rw [← List.drop_drop, hr]; rfl
/-- The document reads it, too. -/
theorem whole_itoa (v : Int) (h : Ok v) (k : Nat) (hk : 20 ≤ k) : mosaicref29_whole.f k ⟨(Lib.itoa v).toArray⟩ = some v := by
  have hlen := itoa_len v h
  have hz : (⟨(Lib.itoa v).toArray⟩ : ByteArray).size = (Lib.itoa v).length := szA _
  obtain ⟨l, hd, hne, hl, hc⟩ := itoa_cases v h
  have hl1 : 1 ≤ l.length := List.length_pos_iff.mpr hne
  unfold Ok at h
  obtain ⟨k, rfl⟩ : ∃ k', k = k' + 2 := ⟨k - 2, by omega⟩
  unfold mosaicref29_whole.f
  rcases hc with ⟨hv, e, hval⟩ | ⟨hv, e, hval⟩
  · rw [e] at hz ⊢
    simp only [List.length_cons] at hz
    have b0 : bt (⟨(45 :: l).toArray⟩ : ByteArray) 0 = 45 := by
      have h1 := at_arr (45 :: l) 0 (by omega)
      have h2 := bt_nat (⟨(45 :: l).toArray⟩ : ByteArray) 0 (by omega)
      have h3 : (45 : UInt8) = (⟨(45 :: l).toArray⟩ : ByteArray)[0] := Option.some.inj h1
      have h4 : bt (⟨(45 :: l).toArray⟩ : ByteArray) 0 = ((((⟨(45 :: l).toArray⟩ : ByteArray)[0]).toNat : Nat) : Int) := h2
      rw [h4, ← h3]; rfl
    rw [if_pos (by omega), if_pos (by omega), b0, mosaicref29_whole.j0, if_pos (by rfl), mosaicref29_whole.j1]
    refine whole_l0 _ (by omega) 1 v l 0 1 k rfl hd (by omega) (by omega) (by omega) ?_
    rw [if_pos rfl, hval]; omega
  · rw [e] at hz ⊢
    have b0 : ¬ (bt (⟨l.toArray⟩ : ByteArray) 0 == 45) = true := by
      cases l with
      | nil => exact absurd rfl hne
      | cons b r =>
        have h1 := at_arr (b :: r) 0 (by omega)
        have h2 := bt_nat (⟨(b :: r).toArray⟩ : ByteArray) 0 (by omega)
        have h3 : b = (⟨(b :: r).toArray⟩ : ByteArray)[0] := Option.some.inj h1
        have h4 : bt (⟨(b :: r).toArray⟩ : ByteArray) 0 = ((((⟨(b :: r).toArray⟩ : ByteArray)[0]).toNat : Nat) : Int) := h2
        rw [h4, ← h3, beq_iff_eq]
        have hb := hd b (by simp)
        unfold Dg at hb
        omega
    rw [if_pos (by omega), if_pos (by omega), mosaicref29_whole.j0, if_neg b0, mosaicref29_whole.j1]
    refine whole_l0 _ (by omega) 0 v l 0 0 k rfl hd (by omega) (by omega) (by omega) ?_
    rw [if_neg (by decide), hval]; omega
end Go.Proofs.YtdccglkmkahblaaDoor.Rl
/- The document's Read: it always answers; what it answers with no error is the text's link; and its answer for a link's text. -/
namespace Go.Proofs.YtdccglkmkahblaaDoor.Rl
open Go.RowKit Go.Proofs.YtdccglkmkahblaaDoor.P Go.Proofs.YtdccglkmkahblaaDoor.Hand Go.Proofs.YtdccglkmkahblaaDoor.Tx Go.Proofs.YtdccglkmkahblaaDoorW.PrintWords Go.Proofs.YtdccglkmkahblaaDoorW.PrintLast Go.Proofs.YtdccglkmkahblaaDoorW.PrintMore

def Ev {α : Type} (F : Nat → Option α) (r : α) : Prop := ∃ n, ∀ k, n ≤ k → F k = some r
theorem Ev.const {α : Type} (r : α) : Ev (fun _ => some r) r := ⟨0, fun _ _ => rfl⟩
theorem Ev.from {α : Type} {F : Nat → Option α} {r : α} (n : Nat) (h : ∀ k, n ≤ k → F k = some r) : Ev F r := ⟨n, h⟩
theorem Ev.step {α : Type} {F G : Nat → Option α} {r : α} (h : ∀ k, F (k + 1) = G k) (hG : Ev G r) : Ev F r := by
  obtain ⟨n, hn⟩ := hG
  refine ⟨n + 1, fun k hk => ?_⟩
  obtain ⟨k, rfl⟩ : ∃ k', k = k' + 1 := ⟨k - 1, by omega⟩
  rw [h]; exact hn k (by omega)
theorem Ev.congr {α : Type} {F G : Nat → Option α} {r : α} (h : ∀ k, F k = G k) (hG : Ev G r) : Ev F r := by
  obtain ⟨n, hn⟩ := hG
  exact ⟨n, fun k hk => by rw [h]; exact hn k hk⟩
theorem Ev.bind {α β : Type} {F : Nat → Option α} {G : α → Nat → Option β} {a : α} {r : β} (hF : Ev F a) (hG : Ev (G a) r) : Ev (fun k => (F k).bind fun x => G x k) r := by
  obtain ⟨n, hn⟩ := hF
  obtain ⟨m, hm⟩ := hG
  exact ⟨n + m, fun k hk => by simp only [hn k (by omega), Option.bind_some]; exact hm k (by omega)⟩
theorem Ev.unique {α : Type} {F : Nat → Option α} {r q : α} (h : Ev F r) (g : Ev F q) : r = q := by
  obtain ⟨n, hn⟩ := h
  obtain ⟨m, hm⟩ := g
  have := (hn (n + m) (by omega)).symm.trans (hm (n + m) (by omega))
  exact Option.some.inj this

theorem ext_list (s : ByteArray) (i j : Nat) : (s.extract i j).data.toList = (s.data.toList.drop i).take (j - i) := by
  rw [ByteArray.data_extract, Array.toList_extract, List.extract_eq_take_drop]
theorem len_size (s : ByteArray) : s.data.toList.length = s.size := Array.length_toList

/-- How far it is to a byte. -/
def upN (c : UInt8) : List UInt8 → Nat
  | [] => 0
  | b :: r => if b = c then 0 else upN c r + 1
theorem upN_le (c : UInt8) : ∀ l, upN c l ≤ l.length
  | [] => Nat.le_refl _
  | b :: r => by rw [upN]; split; exact Nat.zero_le _; have := upN_le c r; rw [List.length_cons]; omega
theorem upN_at {c : UInt8} (t : List UInt8) : ∀ {l : List UInt8}, c ∉ l → upN c (l ++ c :: t) = l.length
  | [], _ => by rw [List.nil_append, upN, if_pos rfl]; rfl
  | b :: l, h => by
    have h1 : b ≠ c := fun e => h (by rw [e]; simp)
    rw [List.cons_append, upN, if_neg h1, upN_at t (fun e => h (List.mem_cons_of_mem _ e)), List.length_cons]
theorem upN_none {c : UInt8} : ∀ {l : List UInt8}, c ∉ l → upN c l = l.length
  | [], _ => rfl
  | b :: l, h => by
    have h1 : b ≠ c := fun e => h (by rw [e]; simp)
    rw [upN, if_neg h1, upN_none (fun e => h (List.mem_cons_of_mem _ e)), List.length_cons]
theorem bt_drop (s : ByteArray) (i : Nat) (b : UInt8) (r : List UInt8) (h : s.data.toList.drop i = b :: r) : i < s.size ∧ bt s (i : Int) = (b.toNat : Int) ∧ s.data.toList.drop (i + 1) = r := by
  have hl := congrArg List.length h
  rw [List.length_drop, len_size, List.length_cons] at hl
  have hlt : i < s.size := by omega
  refine ⟨hlt, ?_, by rw [← List.drop_drop, h]; rfl⟩
  have h2 : s.data.toList[i]? = some b := by
    have := congrArg (fun l => l[0]?) h
    simp only [List.getElem?_drop, List.getElem?_cons_zero, Nat.add_zero] at this
    exact this
  rw [Bq.bt_nat s i hlt, Option.some.inj ((Bq.get_nat s i hlt).symm.trans h2)]
theorem upTo_l0 (s : ByteArray) (hs : s.size ≤ 1000) (c : UInt8) : ∀ (rest : List UInt8) (i : Nat), s.data.toList.drop i = rest → i ≤ 1001 → Ev (fun k => mosaicref29_upTo.l0 k s (c.toNat : Int) (c.toNat : Int) (i : Int)) ((i + upN c rest : Nat) : Int)
  | [], i, h, hi => by
    have hl := congrArg List.length h
    rw [List.length_drop, len_size, List.length_nil] at hl
    refine Ev.step (G := fun _ => some (i : Int)) (fun k => ?_) (Ev.const _)
    rw [mosaicref29_upTo.l0, if_neg (by omega)]
  | b :: r, i, h, hi => by
    obtain ⟨h1, h2, h3⟩ := bt_drop s i b r h
    rw [upN]
    by_cases hb : b = c
    · rw [if_pos hb]
      refine Ev.step (G := fun _ => some (i : Int)) (fun k => ?_) (Ev.const _)
      rw [mosaicref29_upTo.l0, if_pos (by omega), if_pos (by omega), h2, if_pos (by rw [hb])]
    · rw [if_neg hb]
      have hne : ¬ (b.toNat : Int) = (c.toNat : Int) := fun e => hb (UInt8.toNat_inj.mp (by omega))
      have e : ((i + (upN c r + 1) : Nat) : Int) = ((i + 1 + upN c r : Nat) : Int) := by omega
      rw [e]
      refine Ev.step (fun k => ?_) (upTo_l0 s hs c r (i + 1) h3 (by omega))
      rw [mosaicref29_upTo.l0, if_pos (by omega), if_pos (by omega), h2, if_neg hne, if_neg hne, w64 (by omega)]
      rfl
theorem upTo (s : ByteArray) (hs : s.size ≤ 1000) (c : UInt8) (i : Nat) (hi : i ≤ 1001) : Ev (fun k => mosaicref29_upTo.f k s (i : Int) (c.toNat : Int) (c.toNat : Int)) ((i + upN c (s.data.toList.drop i) : Nat) : Int) := upTo_l0 s hs c _ i rfl hi

theorem whole_any_l0 (s : ByteArray) (hs : s.size ≤ 1000) (x3 : Int) : ∀ (d i : Nat) (x : Int), i + d = s.size → 0 ≤ x → x ≤ 2000000000 → ∃ r, Ev (fun k => mosaicref29_whole.l0 k s x3 x (i : Int)) r
  | 0, i, x, h, h0, h1 => by
    refine ⟨if x3 = 1 then wrap64 (-x) else x, Ev.step (G := fun _ => some (if x3 = 1 then wrap64 (-x) else x)) (fun k => ?_) (Ev.const _)⟩
    rw [mosaicref29_whole.l0, if_neg (by omega)]
    split <;> rfl
  | d + 1, i, x, h, h0, h1 => by
    have hlt : i < s.size := by omega
    have hb := Bq.bt_nat s i hlt
    have hc := (s[i]).toNat_lt
    have no : ∀ (hh : bt s (i : Int) < 48 ∨ bt s (i : Int) > 57 ∨ x > 100000000), ∃ r, Ev (fun k => mosaicref29_whole.l0 k s x3 x (i : Int)) r := fun hh => by
      refine ⟨1000000000, Ev.step (G := fun _ => some 1000000000) (fun k => ?_) (Ev.const _)⟩
      rw [mosaicref29_whole.l0, if_pos (by omega), if_pos (by omega)]
      by_cases g1 : bt s (i : Int) < 48
      · rw [if_pos g1]
      · rw [if_neg g1]
        by_cases g2 : bt s (i : Int) > 57
        · rw [if_pos g2]
        · rw [if_neg g2, if_pos (by omega)]
    by_cases g1 : bt s (i : Int) < 48
    · exact no (Or.inl g1)
    · by_cases g2 : bt s (i : Int) > 57
      · exact no (Or.inr (Or.inl g2))
      · by_cases g3 : x > 100000000
        · exact no (Or.inr (Or.inr g3))
        · obtain ⟨r, hr⟩ := whole_any_l0 s hs x3 d (i + 1) (10 * x + bt s (i : Int) - 48) (by omega) (by omega) (by omega)
          refine ⟨r, Ev.step (fun k => ?_) hr⟩
          rw [mosaicref29_whole.l0, if_pos (by omega), if_pos (by omega), if_neg g1, if_neg g2, if_neg g3, w64 (n := bt s (i : Int)) (by omega), w64 (n := 10 * x) (by omega), w64 (n := 10 * x + bt s (i : Int)) (by omega), w64 (n := 10 * x + bt s (i : Int) - 48) (by omega), w64 (n := (i : Int) + 1) (by omega)]
          rfl
theorem whole_any (s : ByteArray) (hs : s.size ≤ 1000) : ∃ r, Ev (fun k => mosaicref29_whole.f k s) r := by
  have go : ∀ (x3 : Int) (i : Nat), i ≤ s.size → ∃ r, Ev (fun k => mosaicref29_whole.j1 k s (i : Int)) r := fun x3 i hi => by
    obtain ⟨r, hr⟩ := whole_any_l0 s hs (i : Int) (s.size - i) i 0 (by omega) (by omega) (by omega)
    exact ⟨r, Ev.step (fun k => by rw [mosaicref29_whole.j1]) hr⟩
  unfold mosaicref29_whole.f
  by_cases h : (s.size : Int) > 0
  · by_cases hb : (bt s 0 == 45) = true
    · obtain ⟨r, hr⟩ := go 0 1 (by omega)
      refine ⟨r, Ev.step (fun k => ?_) hr⟩
      rw [if_pos h, if_pos (by omega), hb, mosaicref29_whole.j0, if_pos rfl]; rfl
    · obtain ⟨r, hr⟩ := go 0 0 (by omega)
      refine ⟨r, Ev.step (fun k => ?_) hr⟩
      rw [if_pos h, if_pos (by omega), mosaicref29_whole.j0, if_neg hb]; rfl
  · obtain ⟨r, hr⟩ := go 0 0 (by omega)
    refine ⟨r, Ev.step (fun k => ?_) hr⟩
    rw [if_neg h, mosaicref29_whole.j0, if_neg (by simp)]; rfl
/-! the loop -/
theorem Ev.mono {α : Type} {F : Nat → Option α} {r : α} (hm : ∀ k, LeO (F k) (F (k + 1))) {n : Nat} (h : F n = some r) : Ev F r := by
  refine ⟨n, fun k hk => ?_⟩
  induction k with
  | zero => obtain rfl : n = 0 := by omega
            exact h
  | succ k ih =>
    rcases Nat.lt_or_ge k n with hlt | hge
    · obtain rfl : n = k + 1 := by omega
      exact h
    · exact hm k r (ih hge)
theorem une_any (a : ByteArray) (ha : a.size ≤ 1000) : ∃ r, Ev (fun k => mosaicref29_Unescape.f k a) r := by
  obtain ⟨r, _, h⟩ := Bq.unescape_both a ha 5000 (Nat.le_refl _)
  exact ⟨r, Ev.mono (fun k => mosaicref29_Unescape.mono a k) h⟩
theorem unb_any (a : ByteArray) (ha : a.size ≤ 1000) : ∃ r, Ev (fun k => mosaicref29_Unbase32.f k a) r := by
  obtain ⟨r, _, h⟩ := Bq.unbase32_both a ha 2000 27000 (by omega) (by omega)
  exact ⟨r, Ev.mono (fun k => mosaicref29_Unbase32.mono a k) h⟩

section
variable (t p name ti : ByteArray) (ns : List Int) (ps : List S45) (n e : Int) (R : ByteArray × ByteArray × List Int × List S45 × Int)
def Bd (t p name ti : ByteArray) (ns : List Int) (ps : List S45) (n e : Int) (k : Nat) : Option (ByteArray × ByteArray × List Int × List S45 × Int) := if (p.size : Int) ≥ 6 then (if 0 ≤ 6 then (if 6 ≤ (p.size : Int) then (mosaicref29_Read.j3 k t n e p ((p.extract 0 6).toList == ([116, 105, 116, 108, 101, 61] : List UInt8)) name ti ns ps) else (none)) else (none)) else (mosaicref29_Read.j3 k t n e p false name ti ns ps)
def isT (p : ByteArray) : Bool := decide (6 ≤ p.size) && (p.extract 0 6).toList == ([116, 105, 116, 108, 101, 61] : List UInt8)
def isN (p : ByteArray) : Bool := decide (5 ≤ p.size) && (p.extract 0 5).toList == ([110, 111, 100, 101, 61] : List UInt8)
theorem bd_go (h : Ev (fun k => mosaicref29_Read.j3 k t n e p (isT p) name ti ns ps) R) : Ev (Bd t p name ti ns ps n e) R := by
  refine Ev.congr (fun k => ?_) h
  unfold Bd isT
  by_cases h6 : 6 ≤ p.size
  · rw [if_pos (by omega), if_pos (by omega), if_pos (by omega), decide_eq_true h6, Bool.true_and]
  · rw [if_neg (by omega), decide_eq_false h6, Bool.false_and]
theorem j3_no (h : Ev (fun k => mosaicref29_Read.j4 k t n e p name ti ns ps) R) : Ev (fun k => mosaicref29_Read.j3 k t n e p false name ti ns ps) R :=
  Ev.step (fun k => by rw [mosaicref29_Read.j3, if_neg (by simp)]) h
theorem j3_yes (h6 : 6 ≤ p.size) (x : ByteArray) (f : Int) (hU : Ev (fun k => mosaicref29_Unescape.f k (p.extract 6 p.size)) (x, f)) (h : Ev (fun k => mosaicref29_Read.j4 k t n e p name x ns ps) R) : Ev (fun k => mosaicref29_Read.j3 k t n e p true name ti ns ps) R :=
  Ev.step (G := fun k => (mosaicref29_Unescape.f k (p.extract 6 p.size)).bind fun bt213 => mosaicref29_Read.j4 k t n e p name bt213.1 ns ps) (fun k => by rw [mosaicref29_Read.j3, if_pos rfl, if_pos (by omega)]) (Ev.bind hU h)
theorem j4_go (h : Ev (fun k => mosaicref29_Read.j5 k t n e p (isN p) name ti ns ps) R) : Ev (fun k => mosaicref29_Read.j4 k t n e p name ti ns ps) R := by
  refine Ev.step (fun k => ?_) h
  rw [mosaicref29_Read.j4]
  unfold isN
  by_cases h5 : 5 ≤ p.size
  · rw [if_pos (by omega), if_pos (by omega), if_pos (by omega), decide_eq_true h5, Bool.true_and]
  · rw [if_neg (by omega), decide_eq_false h5, Bool.false_and]
theorem j5_no (h : Ev (fun k => mosaicref29_Read.l0 k t e (wrap64 (n + 1)) name ti ns ps) R) : Ev (fun k => mosaicref29_Read.j5 k t n e p false name ti ns ps) R :=
  Ev.step (fun k => by rw [mosaicref29_Read.j5, if_neg (by simp)]) h
theorem j5_out (i j : Nat) (hi : i ≤ 2000) (hj : p.size ≤ j) (hu : Ev (fun k => mosaicref29_upTo.f k p 5 44 44) (i : Int)) (hv : Ev (fun k => mosaicref29_upTo.f k p ((i + 1 : Nat) : Int) 44 44) (j : Int))
    (h : Ev (fun k => mosaicref29_Read.l0 k t e (wrap64 (n + 1)) name ti ns ps) R) : Ev (fun k => mosaicref29_Read.j5 k t n e p true name ti ns ps) R := by
  refine Ev.step (fun k => by rw [mosaicref29_Read.j5, if_pos rfl]) (Ev.bind hu ?_)
  have ew : wrap64 ((i : Int) + 1) = ((i + 1 : Nat) : Int) := by rw [w64 (by omega)]; omega
  rw [ew]
  refine Ev.bind hv ?_
  exact Ev.congr (fun k => by rw [if_neg (by omega)]) h
theorem j5_in (i j : Nat) (hi : 5 ≤ i) (hij : i + 1 ≤ j) (hj : j < p.size) (hp : p.size ≤ 1000) (hu : Ev (fun k => mosaicref29_upTo.f k p 5 44 44) (i : Int)) (hv : Ev (fun k => mosaicref29_upTo.f k p ((i + 1 : Nat) : Int) 44 44) (j : Int)) (va vb vc : Int) (hns : ns.length ≤ 100) (hps : ps.length ≤ 100)
    (ha : Ev (fun k => mosaicref29_whole.f k (p.extract 5 i)) va) (hb : Ev (fun k => mosaicref29_whole.f k (p.extract (i + 1) j)) vb) (hc : Ev (fun k => mosaicref29_whole.f k (p.extract (j + 1) p.size)) vc)
    (h : Ev (fun k => mosaicref29_Read.l0 k t e (wrap64 (n + 1)) name ti (ns ++ [va]) (ps ++ [(⟨vb, vc⟩ : S45)])) R) : Ev (fun k => mosaicref29_Read.j5 k t n e p true name ti ns ps) R := by
  refine Ev.step (fun k => by rw [mosaicref29_Read.j5, if_pos rfl]) (Ev.bind hu ?_)
  have ew : wrap64 ((i : Int) + 1) = ((i + 1 : Nat) : Int) := by rw [w64 (by omega)]; omega
  have ew2 : wrap64 ((j : Int) + 1) = ((j + 1 : Nat) : Int) := by rw [w64 (by omega)]; omega
  rw [ew]
  refine Ev.bind hv ?_
  refine Ev.congr (G := fun k => (mosaicref29_whole.f k (p.extract 5 i)).bind fun t217 => (mosaicref29_whole.f k (p.extract (i + 1) j)).bind fun t221 => (mosaicref29_whole.f k (p.extract (j + 1) p.size)).bind fun t222 => mosaicref29_Read.l0 k t e (wrap64 (n + 1)) name ti (ns ++ [t217]) (ps ++ [(⟨t221, t222⟩ : S45)])) (fun k => ?_) (Ev.bind ha (Ev.bind hb (Ev.bind hc h)))
  rw [if_pos (by omega), if_pos (by omega), if_pos (by omega), ew2]
  simp only [Int.toNat_natCast]
  congr 1
  funext x
  rw [if_pos (show ns.length < 17592186044416 by omega), if_pos (show (0 : Int) ≤ ((i + 1 : Nat) : Int) by omega), if_pos (show ((i + 1 : Nat) : Int) ≤ (j : Int) by omega), if_pos (show (j : Int) ≤ (p.size : Int) by omega)]
  congr 1
  funext y
  rw [if_pos (show (0 : Int) ≤ ((j + 1 : Nat) : Int) by omega), if_pos (show ((j + 1 : Nat) : Int) ≤ (p.size : Int) by omega)]
  congr 1
  funext z
  rw [if_pos (show ps.length < 8796093022208 by omega)]
/-- Whatever a part is, it is gone through. -/
theorem bd_any (hp : p.size ≤ 700) (hns : ns.length ≤ 50) (hps : ps.length ≤ 50) : ∃ (ti2 : ByteArray) (ns2 : List Int) (ps2 : List S45), ns2.length ≤ ns.length + 1 ∧ ps2.length ≤ ps.length + 1 ∧ ∀ R, Ev (fun k => mosaicref29_Read.l0 k t e (wrap64 (n + 1)) name ti2 ns2 ps2) R → Ev (Bd t p name ti ns ps n e) R := by
  have node : ∀ ti : ByteArray, ∃ (ns2 : List Int) (ps2 : List S45), ns2.length ≤ ns.length + 1 ∧ ps2.length ≤ ps.length + 1 ∧ ∀ R, Ev (fun k => mosaicref29_Read.l0 k t e (wrap64 (n + 1)) name ti ns2 ps2) R → Ev (fun k => mosaicref29_Read.j4 k t n e p name ti ns ps) R := by
    intro ti
    cases hN : isN p with
    | false => exact ⟨ns, ps, by omega, by omega, fun R h => j4_go t p name ti ns ps n e R (by rw [hN]; exact j5_no t p name ti ns ps n e R h)⟩
    | true =>
      have h5 : 5 ≤ p.size := by
        unfold isN at hN
        rw [Bool.and_eq_true, decide_eq_true_iff] at hN
        exact hN.1
      have hu := upTo p (by omega) 44 5 (by omega)
      have hle := upN_le 44 (p.data.toList.drop 5)
      rw [List.length_drop, len_size] at hle
      generalize upN 44 (p.data.toList.drop 5) = d at hu hle
      have hv := upTo p (by omega) 44 (5 + d + 1) (by omega)
      have hle2 := upN_le 44 (p.data.toList.drop (5 + d + 1))
      rw [List.length_drop, len_size] at hle2
      generalize upN 44 (p.data.toList.drop (5 + d + 1)) = d2 at hv hle2
      by_cases hj : 5 + d + 1 + d2 < p.size
      · obtain ⟨va, ha⟩ := whole_any (p.extract 5 (5 + d)) (by rw [ByteArray.size_extract]; omega)
        obtain ⟨vb, hb⟩ := whole_any (p.extract (5 + d + 1) (5 + d + 1 + d2)) (by rw [ByteArray.size_extract]; omega)
        obtain ⟨vc, hc⟩ := whole_any (p.extract (5 + d + 1 + d2 + 1) p.size) (by rw [ByteArray.size_extract]; omega)
        refine ⟨ns ++ [va], ps ++ [(⟨vb, vc⟩ : S45)], by simp, by simp, fun R h => j4_go t p name ti ns ps n e R ?_⟩
        rw [hN]
        exact j5_in t p name ti ns ps n e R (5 + d) (5 + d + 1 + d2) (by omega) (by omega) hj (by omega) hu hv va vb vc (by omega) (by omega) ha hb hc h
      · refine ⟨ns, ps, by omega, by omega, fun R h => j4_go t p name ti ns ps n e R ?_⟩
        rw [hN]
        exact j5_out t p name ti ns ps n e R (5 + d) (5 + d + 1 + d2) (by omega) (by omega) hu hv h
  cases hT : isT p with
  | false =>
    obtain ⟨ns2, ps2, h1, h2, h3⟩ := node ti
    refine ⟨ti, ns2, ps2, h1, h2, fun R h => bd_go t p name ti ns ps n e R ?_⟩
    rw [hT]
    exact j3_no t p name ti ns ps n e R (h3 R h)
  | true =>
    have h6 : 6 ≤ p.size := by
      unfold isT at hT
      rw [Bool.and_eq_true, decide_eq_true_iff] at hT
      exact hT.1
    obtain ⟨⟨x, f⟩, hU⟩ := une_any (p.extract 6 p.size) (by rw [ByteArray.size_extract]; omega)
    obtain ⟨ns2, ps2, h1, h2, h3⟩ := node x
    refine ⟨x, ns2, ps2, h1, h2, fun R h => bd_go t p name ti ns ps n e R ?_⟩
    rw [hT]
    exact j3_yes t p name ti ns ps n e R h6 x f hU (h3 R h)
end
/-- One round. -/
theorem l0_go (t : ByteArray) (ht : t.size ≤ 700) (name ti : ByteArray) (ns : List Int) (ps : List S45) (n at_ : Nat) (hn : n < 8) (hat : at_ < t.size) (R : ByteArray × ByteArray × List Int × List S45 × Int)
    (h : Ev (Bd t (t.extract (at_ + 1) (at_ + 1 + upN 38 (t.data.toList.drop (at_ + 1)))) name ti ns ps (n : Int) ((at_ + 1 + upN 38 (t.data.toList.drop (at_ + 1)) : Nat) : Int)) R) : Ev (fun k => mosaicref29_Read.l0 k t (at_ : Int) (n : Int) name ti ns ps) R := by
  have hu : Ev (fun k => mosaicref29_upTo.f k t ((at_ + 1 : Nat) : Int) 38 38) ((at_ + 1 + upN 38 (t.data.toList.drop (at_ + 1)) : Nat) : Int) := upTo t (by omega) 38 (at_ + 1) (by omega)
  have hle := upN_le 38 (t.data.toList.drop (at_ + 1))
  rw [List.length_drop, len_size] at hle
  generalize upN 38 (t.data.toList.drop (at_ + 1)) = d at hu hle h
  have ew : wrap64 ((at_ : Int) + 1) = ((at_ + 1 : Nat) : Int) := by rw [w64 (by omega)]; omega
  refine Ev.step (G := fun k => mosaicref29_Read.j2 k t (at_ : Int) (n : Int) true name ti ns ps) (fun k => by rw [mosaicref29_Read.l0, if_pos (by omega), decide_eq_true (by omega)]) ?_
  refine Ev.step (fun k => by rw [mosaicref29_Read.j2, if_pos rfl, ew]) (Ev.bind hu ?_)
  refine Ev.congr (fun k => ?_) h
  rw [if_pos (by omega), if_pos (by omega), if_pos (by omega), Int.toNat_natCast, Int.toNat_natCast]
  rfl
/-- The end. -/
theorem l0_end (t : ByteArray) (name ti : ByteArray) (ns : List Int) (ps : List S45) (n at_ : Int) (hh : ¬ (n < 8 ∧ at_ < t.size)) (u : ByteArray) (f : Int) (hT : Ev (fun k => mosaicref29_Text.f k name ti ns ps) (u, f)) :
    Ev (fun k => mosaicref29_Read.l0 k t at_ n name ti ns ps) (if u.toList = t.toList then (name, ti, ns, ps, 0) else (⟨#[]⟩, ⟨#[]⟩, [], [], 3)) := by
  refine Ev.step (G := fun k => mosaicref29_Read.j2 k t at_ n false name ti ns ps) (fun k => ?_) ?_
  · rw [mosaicref29_Read.l0]
    by_cases h8 : n < 8
    · rw [if_pos h8, decide_eq_false (by intro h; exact hh ⟨h8, h⟩)]
    · rw [if_neg h8]
  · refine Ev.step (fun k => by rw [mosaicref29_Read.j2, if_neg (by simp)]) (Ev.bind hT ?_)
    refine ⟨0, fun k _ => ?_⟩
    show (if u.toList = t.toList then _ else _) = _
    split <;> rfl
/-! any text -/
def cp (q : S45) : S34 := ⟨q.f0, q.f1⟩
theorem pc_cp (ps : List S45) : (ps.map cp).map pc = ps := by
  rw [List.map_map, show (pc ∘ cp) = id from rfl, List.map_id]
theorem text_any (name ti : ByteArray) (ns : List Int) (ps : List S45) : ∃ u f, Ev (fun k => mosaicref29_Text.f k name ti ns ps) (u, f) ∧ link_Text.f 1200 name ti ns (ps.map cp) = some (u, f) := by
  obtain ⟨u, f, h, _⟩ := text_eq name ti ns (ps.map cp) 1200 (Nat.le_refl _)
  refine ⟨u, f, Ev.from 1300 (fun k hk => ?_), h⟩
  have := text_ref name ti ns (ps.map cp) 1200 k (Nat.le_refl _) hk
  rw [pc_cp] at this
  rw [this]; exact h
def refNone : ByteArray × ByteArray × List Int × List S45 × Int := (⟨#[]⟩, ⟨#[]⟩, [], [], 3)
/-- What the document's answer is: none, or a link whose text it is. -/
def Good (t : ByteArray) (r : ByteArray × ByteArray × List Int × List S45 × Int) : Prop := r = refNone ∨ ∃ name ti ns ps f, r = (name, ti, ns, ps, 0) ∧ link_Text.f 1200 name ti ns (ps.map cp) = some (t, f)
theorem good_end (t name ti : ByteArray) (ns : List Int) (ps : List S45) (n at_ : Int) (hh : ¬ (n < 8 ∧ at_ < t.size)) : ∃ r, Ev (fun k => mosaicref29_Read.l0 k t at_ n name ti ns ps) r ∧ Good t r := by
  obtain ⟨u, f, hT, hL⟩ := text_any name ti ns ps
  refine ⟨_, l0_end t name ti ns ps n at_ hh u f hT, ?_⟩
  split
  · rename_i hu
    rw [toList_inj hu] at hL
    exact Or.inr ⟨name, ti, ns, ps, f, rfl, hL⟩
  · exact Or.inl rfl
theorem good_loop (t : ByteArray) (ht : t.size ≤ 700) (name : ByteArray) : ∀ (d n at_ : Nat) (ti : ByteArray) (ns : List Int) (ps : List S45), n + d = 8 → ns.length ≤ n → ps.length ≤ n → ∃ r, Ev (fun k => mosaicref29_Read.l0 k t (at_ : Int) (n : Int) name ti ns ps) r ∧ Good t r
  | 0, n, at_, ti, ns, ps, hd, _, _ => good_end t name ti ns ps n at_ (by omega)
  | d + 1, n, at_, ti, ns, ps, hd, h1, h2 => by
    by_cases hat : at_ < t.size
    · have hle := upN_le 38 (t.data.toList.drop (at_ + 1))
      rw [List.length_drop, len_size] at hle
      obtain ⟨ti2, ns2, ps2, g1, g2, g3⟩ := bd_any t (t.extract (at_ + 1) (at_ + 1 + upN 38 (t.data.toList.drop (at_ + 1)))) name ti ns ps (n : Int) ((at_ + 1 + upN 38 (t.data.toList.drop (at_ + 1)) : Nat) : Int) (by rw [ByteArray.size_extract]; omega) (by omega) (by omega)
      obtain ⟨r, hr, hG⟩ := good_loop t ht name d (n + 1) (at_ + 1 + upN 38 (t.data.toList.drop (at_ + 1))) ti2 ns2 ps2 (by omega) (by omega) (by omega)
      refine ⟨r, l0_go t ht name ti ns ps n at_ (by omega) hat r (g3 r ?_), hG⟩
      have ew : wrap64 ((n : Int) + 1) = ((n + 1 : Nat) : Int) := by rw [w64 (by omega)]; omega
      rw [ew]
      exact hr
    · exact good_end t name ti ns ps n at_ (by omega)
theorem ref_total (t : ByteArray) (ht : t.size ≤ 700) : ∃ r, Ev (fun k => mosaicref29_Read.f k t) r ∧ Good t r := by
  have no : Ev (fun k => mosaicref29_Read.j0 k t true ⟨#[]⟩ ⟨#[]⟩) refNone := Ev.step (G := fun _ => some refNone) (fun k => by rw [mosaicref29_Read.j0, if_pos rfl]; rfl) (Ev.const _)
  unfold mosaicref29_Read.f
  by_cases h : (t.size : Int) < 59
  · exact ⟨refNone, Ev.congr (fun k => by rw [if_pos h]) no, Or.inl rfl⟩
  · cases hc : ((t.extract 0 7).toList != ([109, 111, 115, 97, 105, 99, 58] : List UInt8)) with
    | true => exact ⟨refNone, Ev.congr (fun k => by rw [if_neg h, if_pos (by omega), if_pos (by omega)]) no, Or.inl rfl⟩
    | false =>
      obtain ⟨⟨nm, f⟩, hU⟩ := unb_any (t.extract 7 59) (by rw [ByteArray.size_extract]; omega)
      obtain ⟨r, hr, hG⟩ := good_loop t ht nm 8 0 59 ⟨#[]⟩ [] [] (by omega) (by simp) (by simp)
      refine ⟨r, Ev.congr (fun k => by rw [if_neg h, if_pos (by omega), if_pos (by omega)]) (Ev.step (G := fun k => (mosaicref29_Unbase32.f k (t.extract 7 59)).bind fun bt208 => mosaicref29_Read.l0 k t 59 0 bt208.1 ⟨#[]⟩ [] []) (fun k => by rw [mosaicref29_Read.j0, if_neg (by simp), if_pos (by omega), if_pos (by omega)]) (Ev.bind hU hr)), hG⟩

/-! a link's text -/
/-- Parts behind a sign. -/
def tailOf (c : UInt8) (x : List ByteArray) : List UInt8 := match x with | [] => [] | y :: r => c :: Lib.join ((y :: r).map (·.data.toList)) [38]
theorem join_tail (x : ByteArray) (r : List ByteArray) : Lib.join ((x :: r).map (·.data.toList)) [38] = x.data.toList ++ tailOf 38 r := by
  cases r with
  | nil => rw [List.map_cons, List.map_nil, Lib.join_one]; simp [tailOf]
  | cons y r => rw [List.map_cons, List.map_cons, join_two]; rfl
theorem part_round (t : ByteArray) (ht : t.size ≤ 700) (name ti : ByteArray) (ns : List Int) (ps : List S45) (n at_ : Nat) (hn : n < 8) (c : UInt8) (x : ByteArray) (r : List ByteArray) (hd : t.data.toList.drop at_ = tailOf c (x :: r)) (hx : (38 : UInt8) ∉ x.data.toList) :
    t.data.toList.drop (at_ + 1 + x.size) = tailOf 38 r ∧ at_ + 1 + x.size ≤ t.size ∧ ∀ R, Ev (Bd t x name ti ns ps (n : Int) ((at_ + 1 + x.size : Nat) : Int)) R → Ev (fun k => mosaicref29_Read.l0 k t (at_ : Int) (n : Int) name ti ns ps) R := by
  have hd' : t.data.toList.drop at_ = c :: (x.data.toList ++ tailOf 38 r) := by rw [hd, ← join_tail]; rfl
  obtain ⟨h1, _, h3⟩ := bt_drop t at_ c _ hd'
  have hxl : x.data.toList.length = x.size := len_size x
  have hup : upN 38 (t.data.toList.drop (at_ + 1)) = x.size := by
    rw [h3]
    cases r with
    | nil => simp only [tailOf, List.append_nil]; rw [upN_none hx, hxl]
    | cons y r => rw [show tailOf 38 (y :: r) = 38 :: Lib.join ((y :: r).map (·.data.toList)) [38] from rfl, upN_at _ hx, hxl]
  have hlen := congrArg List.length h3
  rw [List.length_drop, len_size, List.length_append, hxl] at hlen
  have hext : t.extract (at_ + 1) (at_ + 1 + x.size) = x := by
    apply by_inj
    rw [ext_list, h3, show at_ + 1 + x.size - (at_ + 1) = x.size by omega, ← hxl, List.take_left' rfl]
  refine ⟨by rw [← List.drop_drop, h3, ← hxl, List.drop_left' rfl], by omega, fun R h => ?_⟩
  refine l0_go t ht name ti ns ps n at_ hn h1 R ?_
  rw [hup, hext]
  exact h
theorem node_pre (v : Int) (q : S34) : (nodeB v q).data.toList = [110, 111, 100, 101, 61] ++ (Lib.itoa v ++ 44 :: (Lib.itoa q.f0 ++ 44 :: Lib.itoa q.f1)) := by_node v q
theorem bd_node (t : ByteArray) (v : Int) (q : S34) (h : NodeOk v q) (name ti : ByteArray) (ns : List Int) (ps : List S45) (n e : Int) (hns : ns.length ≤ 50) (hps : ps.length ≤ 50) (R : ByteArray × ByteArray × List Int × List S45 × Int)
    (hR : Ev (fun k => mosaicref29_Read.l0 k t e (wrap64 (n + 1)) name ti (ns ++ [v]) (ps ++ [pc q])) R) : Ev (Bd t (nodeB v q) name ti ns ps n e) R := by
  have hd : ¬ Dg 44 := by unfold Dg; decide
  have hb := node_pre v q
  have l1 := itoa_len v h.1
  have l2 := itoa_len _ h.2.1
  have l3 := itoa_len _ h.2.2
  have hsz : (nodeB v q).size = 5 + (Lib.itoa v).length + 1 + (Lib.itoa q.f0).length + 1 + (Lib.itoa q.f1).length := by
    rw [← len_size, hb]
    simp only [List.length_append, List.length_cons, List.length_nil]
    omega
  have hT : isT (nodeB v q) = false := by
    unfold isT
    rw [ByteArray.toList_eq, ext_list, hb, Bool.and_eq_false_iff]
    right
    rfl
  have hN : isN (nodeB v q) = true := by
    unfold isN
    rw [ByteArray.toList_eq, ext_list, hb, decide_eq_true (by omega)]
    rfl
  have hu : Ev (fun k => mosaicref29_upTo.f k (nodeB v q) 5 44 44) ((5 + (Lib.itoa v).length : Nat) : Int) := by
    have := upTo (nodeB v q) (by omega) 44 5 (by omega)
    rw [hb, List.drop_left' (by rfl), upN_at _ (not_in h.1 (by decide) hd)] at this
    exact this
  have hdr2 : (nodeB v q).data.toList.drop (5 + (Lib.itoa v).length + 1) = Lib.itoa q.f0 ++ 44 :: Lib.itoa q.f1 := by
    rw [hb, Nat.add_assoc, ← List.drop_drop, List.drop_left' (by rfl), ← List.drop_drop, List.drop_left' rfl]; rfl
  have hv : Ev (fun k => mosaicref29_upTo.f k (nodeB v q) ((5 + (Lib.itoa v).length + 1 : Nat) : Int) 44 44) ((5 + (Lib.itoa v).length + 1 + (Lib.itoa q.f0).length : Nat) : Int) := by
    have := upTo (nodeB v q) (by omega) 44 (5 + (Lib.itoa v).length + 1) (by omega)
    rw [hdr2, upN_at _ (not_in h.2.1 (by decide) hd)] at this
    exact this
  have ea : (nodeB v q).extract 5 (5 + (Lib.itoa v).length) = ⟨(Lib.itoa v).toArray⟩ := by
    apply by_inj
    rw [ext_list, hb, List.drop_left' (by rfl), show 5 + (Lib.itoa v).length - 5 = (Lib.itoa v).length by omega, List.take_left' rfl]
  have eb : (nodeB v q).extract (5 + (Lib.itoa v).length + 1) (5 + (Lib.itoa v).length + 1 + (Lib.itoa q.f0).length) = ⟨(Lib.itoa q.f0).toArray⟩ := by
    apply by_inj
    rw [ext_list, hdr2, show 5 + (Lib.itoa v).length + 1 + (Lib.itoa q.f0).length - (5 + (Lib.itoa v).length + 1) = (Lib.itoa q.f0).length by omega, List.take_left' rfl]
  have ec : (nodeB v q).extract (5 + (Lib.itoa v).length + 1 + (Lib.itoa q.f0).length + 1) (nodeB v q).size = ⟨(Lib.itoa q.f1).toArray⟩ := by
    apply by_inj
    rw [ext_list, Nat.add_assoc (5 + (Lib.itoa v).length + 1), ← List.drop_drop, hdr2, ← List.drop_drop, List.drop_left' rfl, hsz]
    rw [show 5 + (Lib.itoa v).length + 1 + (Lib.itoa q.f0).length + 1 + (Lib.itoa q.f1).length - (5 + (Lib.itoa v).length + 1 + ((Lib.itoa q.f0).length + 1)) = (Lib.itoa q.f1).length by omega]
    exact List.take_length
  refine bd_go t _ name ti ns ps n e R ?_
  rw [hT]
  refine j3_no t _ name ti ns ps n e R (j4_go t _ name ti ns ps n e R ?_)
  rw [hN]
  exact j5_in t _ name ti ns ps n e R _ _ (by omega) (by omega) (by omega) (by omega) hu hv v q.f0 q.f1 (by omega) (by omega) (by rw [ea]; exact Ev.from 20 (fun k hk => whole_itoa v h.1 k hk)) (by rw [eb]; exact Ev.from 20 (fun k hk => whole_itoa _ h.2.1 k hk)) (by rw [ec]; exact Ev.from 20 (fun k hk => whole_itoa _ h.2.2 k hk)) hR
theorem bd_title (t b : ByteArray) (hb : b.size ≤ 60) (name ti : ByteArray) (ns : List Int) (ps : List S45) (n e : Int) (R : ByteArray × ByteArray × List Int × List S45 × Int)
    (hR : Ev (fun k => mosaicref29_Read.l0 k t e (wrap64 (n + 1)) name b ns ps) R) : Ev (Bd t ((⟨#[116, 105, 116, 108, 101, 61]⟩ : ByteArray) ++ Ex.escB b) name ti ns ps n e) R := by
  have hd : ((⟨#[116, 105, 116, 108, 101, 61]⟩ : ByteArray) ++ Ex.escB b).data.toList = [116, 105, 116, 108, 101, 61] ++ (Ex.escB b).data.toList := by_app _ _
  have hsz : ((⟨#[116, 105, 116, 108, 101, 61]⟩ : ByteArray) ++ Ex.escB b).size = 6 + (Ex.escB b).size := ByteArray.size_append
  generalize (⟨#[116, 105, 116, 108, 101, 61]⟩ : ByteArray) ++ Ex.escB b = p at *
  have hT : isT p = true := by
    unfold isT
    rw [ByteArray.toList_eq, ext_list, hd, decide_eq_true (by omega)]
    rfl
  have hN : isN p = false := by
    unfold isN
    rw [ByteArray.toList_eq, ext_list, hd, Bool.and_eq_false_iff]
    right
    rfl
  have ex : p.extract 6 p.size = Ex.escB b := by
    apply by_inj
    rw [ext_list, hd, List.drop_left' (by rfl), hsz, show 6 + (Ex.escB b).size - 6 = (Ex.escB b).size by omega, ← len_size]
    exact List.take_length
  refine bd_go t p name ti ns ps n e R ?_
  rw [hT]
  refine j3_yes t p name ti ns ps n e R (by omega) b 0 (by rw [ex]; exact Ev.from 5000 (fun k hk => Bq.une_ref b (by omega) k hk)) (j4_go t p name b ns ps n e R ?_)
  rw [hN]
  exact j5_no t p name b ns ps n e R hR
theorem nodes_loop (t : ByteArray) (ht : t.size ≤ 700) (name ti : ByteArray) (R : ByteArray × ByteArray × List Int × List S45 × Int) : ∀ (nn : List Int) (pp : List S34) (c : UInt8) (at_ n : Nat) (ns : List Int) (ps : List S45), nn.length = pp.length → (∀ j (h1 : j < nn.length) (h2 : j < pp.length), NodeOk nn[j] pp[j]) → n + nn.length ≤ 8 → ns.length ≤ n → ps.length ≤ n → at_ ≤ t.size → t.data.toList.drop at_ = tailOf c (List.zipWith nodeB nn pp) →
    Ev (fun k => mosaicref29_Read.l0 k t (t.size : Int) ((n + nn.length : Nat) : Int) name ti (ns ++ nn) (ps ++ pp.map pc)) R → Ev (fun k => mosaicref29_Read.l0 k t (at_ : Int) (n : Int) name ti ns ps) R
  | [], [], c, at_, n, ns, ps, _, _, _, _, _, hat, hd, h => by
    have hl := congrArg List.length hd
    rw [List.length_drop, len_size] at hl
    simp only [List.zipWith_nil_left, tailOf, List.length_nil] at hl
    obtain rfl : at_ = t.size := by omega
    rw [List.append_nil, List.map_nil, List.append_nil, List.length_nil, Nat.add_zero] at h
    exact h
  | [], _ :: _, _, _, _, _, _, hl, _, _, _, _, _, _, _ => by simp at hl
  | _ :: _, [], _, _, _, _, _, hl, _, _, _, _, _, _, _ => by simp at hl
  | v :: nn, q :: pp, c, at_, n, ns, ps, hl, hk, hn, h1, h2, hat, hd, h => by
    simp only [List.length_cons] at hl hn
    have h0 := hk 0 (by simp) (by simp)
    rw [List.zipWith_cons_cons] at hd
    obtain ⟨g1, g2, g3⟩ := part_round t ht name ti ns ps n at_ (by omega) c _ _ hd (node_not v q h0)
    refine g3 R (bd_node t v q h0 name ti ns ps _ _ (by omega) (by omega) R ?_)
    have ew : wrap64 ((n : Int) + 1) = ((n + 1 : Nat) : Int) := by rw [w64 (by omega)]; omega
    rw [ew]
    refine nodes_loop t ht name ti R nn pp 38 _ (n + 1) (ns ++ [v]) (ps ++ [pc q]) (by omega) (fun j j1 j2 => hk (j + 1) (by simp; omega) (by simp; omega)) (by omega) (by simp; omega) (by simp; omega) g2 g1 ?_
    rw [List.append_assoc, List.append_assoc, show n + 1 + nn.length = n + (nn.length + 1) by omega]
    exact h
theorem ref_text (a b : ByteArray) (n : List Int) (p : List S34) (hC : link_Check.f 1200 a b n p = some true) : Ev (fun k => mosaicref29_Read.f k (cur (Bp.b32 a) (partsB b n p))) (a, b, n, p.map pc, 0) := by
  obtain ⟨r, hr, hM⟩ := check_eq a b n p 1200 (by omega)
  rw [hC] at hr
  have hM := hM (Option.some.inj hr).symm
  have hT := text_val a b n p hM 1200 (Nat.le_refl _) hC
  obtain ⟨t0, e0, h0, h402, _⟩ := text_eq a b n p 1200 (Nat.le_refl _)
  rw [hT] at h0
  have hsz : (cur (Bp.b32 a) (partsB b n p)).size ≤ 402 := by
    have := Option.some.inj h0
    rw [Prod.mk.injEq] at this
    rw [this.1]; exact h402
  have hD : (Bp.b32 a).size = 52 := by unfold Bp.b32; rw [szL, Bp.encN_length, hM.name]
  have hDl : (by_ (Bp.b32 a)).length = 52 := by rw [by_len, hD]
  generalize ht : cur (Bp.b32 a) (partsB b n p) = t at *
  have hby : t.data.toList = [109, 111, 115, 97, 105, 99, 58] ++ (by_ (Bp.b32 a) ++ behind (partsB b n p)) := by
    have := by_cur (Bp.b32 a) (partsB b n p)
    rw [ht] at this
    rw [show t.data.toList = by_ t from rfl, this, List.append_assoc]
  have hlen := congrArg List.length hby
  rw [len_size, List.length_append, List.length_append, hDl] at hlen
  simp only [List.length_cons, List.length_nil] at hlen
  have hbe : behind (partsB b n p) = tailOf 63 (partsB b n p) := by
    unfold behind tailOf
    cases hP : partsB b n p with
    | nil => rw [if_pos rfl]
    | cons y r => rw [if_neg (by simp)]
  have h59 : t.data.toList.drop 59 = tailOf 63 (partsB b n p) := by
    rw [hby, ← hbe, show 59 = 7 + 52 from rfl, ← List.drop_drop, List.drop_left' (by rfl), List.drop_left' hDl]
  have e7 : (t.extract 0 7).toList = ([109, 111, 115, 97, 105, 99, 58] : List UInt8) := by
    rw [ByteArray.toList_eq, ext_list, hby]; rfl
  have e52 : t.extract 7 59 = Bp.b32 a := by
    apply by_inj
    rw [ext_list, hby, List.drop_left' (by rfl), show 59 - 7 = 52 from rfl, List.take_left' hDl]; rfl
  have hend : ∀ at_ m : Nat, at_ = t.size → Ev (fun k => mosaicref29_Read.l0 k t (at_ : Int) (m : Int) a b n (p.map pc)) (a, b, n, p.map pc, 0) := by
    intro at_ m hat
    have hTx : Ev (fun k => mosaicref29_Text.f k a b n (p.map pc)) (t, 0) := Ev.from 1300 (fun k hk => by
      rw [text_ref a b n p 1200 k (Nat.le_refl _) hk]; exact hT)
    have := l0_end t a b n (p.map pc) m at_ (by omega) t 0 hTx
    rw [if_pos rfl] at this
    exact this
  have hlp := hM.len
  have hfew := hM.few
  have loop : Ev (fun k => mosaicref29_Read.l0 k t 59 0 a ⟨#[]⟩ [] []) (a, b, n, p.map pc, 0) := by
    unfold partsB titleB at h59
    by_cases htl : b.toList = []
    · have eb : b = ⟨#[]⟩ := by
        apply by_inj
        rw [ByteArray.toList_eq] at htl
        exact htl
      rw [if_pos htl, List.nil_append] at h59
      refine nodes_loop t (by omega) a ⟨#[]⟩ _ n p 63 59 0 [] [] hlp (may_nodes hM) (by omega) (by simp) (by simp) (by omega) h59 ?_
      rw [List.nil_append, List.nil_append]
      have := hend t.size (0 + n.length) rfl
      rw [eb] at this ⊢
      exact this
    · rw [if_neg htl, List.cons_append, List.nil_append] at h59
      have hnot : (38 : UInt8) ∉ ((⟨#[116, 105, 116, 108, 101, 61]⟩ : ByteArray) ++ Ex.escB b).data.toList := parts_not hM _ (by unfold partsB titleB; rw [if_neg htl]; simp)
      obtain ⟨g1, g2, g3⟩ := part_round t (by omega) a ⟨#[]⟩ [] [] 0 59 (by omega) 63 _ _ h59 hnot
      refine g3 _ (bd_title t b hM.title a ⟨#[]⟩ [] [] _ _ _ ?_)
      have ew : wrap64 (((0 : Nat) : Int) + 1) = ((1 : Nat) : Int) := by rw [w64 (by omega)]; omega
      rw [ew]
      refine nodes_loop t (by omega) a b _ n p 38 _ 1 [] [] hlp (may_nodes hM) (by omega) (by simp) (by simp) g2 g1 ?_
      rw [List.nil_append, List.nil_append]
      exact hend t.size (1 + n.length) rfl
  unfold mosaicref29_Read.f
  refine Ev.congr (fun k => by rw [if_neg (by omega), if_pos (by omega), if_pos (by omega), e7]) (Ev.step (G := fun k => (mosaicref29_Unbase32.f k (t.extract 7 59)).bind fun bt208 => mosaicref29_Read.l0 k t 59 0 bt208.1 ⟨#[]⟩ [] []) (fun k => by rw [mosaicref29_Read.j0, if_neg (by simp), if_pos (by omega), if_pos (by omega)]) (Ev.bind (a := (a, 0)) ?_ loop))
  rw [e52]
  exact Ev.from 27000 (fun k hk => Bq.unb_ref a (by have := hM.name; omega) k hk)
end Go.Proofs.YtdccglkmkahblaaDoor.Rl
/- The program's Read and the document's: one answer for every text. -/
namespace Go.Proofs.YtdccglkmkahblaaDoor.Rl
open Go.RowKit Go.Proofs.YtdccglkmkahblaaDoor.P Go.Proofs.YtdccglkmkahblaaDoor.Hand Go.Proofs.YtdccglkmkahblaaDoor.Tx Go.Proofs.YtdccglkmkahblaaDoorW.PrintWords Go.Proofs.YtdccglkmkahblaaDoorW.PrintLast Go.Proofs.YtdccglkmkahblaaDoorW.PrintMore

theorem ref_short (t : ByteArray) (h : t.size < 59) : Ev (fun k => mosaicref29_Read.f k t) refNone := by
  unfold mosaicref29_Read.f
  exact Ev.congr (fun k => by rw [if_pos (by omega)]) (Ev.step (G := fun _ => some refNone) (fun k => by rw [mosaicref29_Read.j0, if_pos rfl]; rfl) (Ev.const _))
/-- One answer: a link that may be, or none. -/
theorem both (t : ByteArray) (ht : t.size ≤ 700) : (link_Read.f t = some noLink ∧ Ev (fun k => mosaicref29_Read.f k t) refNone) ∨ (∃ a b n p, link_Read.f t = some (a, b, n, p, 0) ∧ Ev (fun k => mosaicref29_Read.f k t) (a, b, n, p.map pc, 0) ∧ link_Text.f 6000 a b n p = some (t, 0)) := by
  obtain ⟨r, hr, hG⟩ := link_total t ht
  obtain ⟨r', hr', hG'⟩ := ref_total t ht
  rcases hG with rfl | ⟨a, b, n, p, rfl, hT⟩
  · refine Or.inl ⟨hr, ?_⟩
    rcases hG' with rfl | ⟨a, b, n, q, f, rfl, hT⟩
    · exact hr'
    · by_cases h59 : t.size < 59
      · exact ref_short t h59
      · exfalso
        have hf : f = 0 := by
          obtain ⟨u, e, h1, _, h2 | h2⟩ := text_eq a b n (q.map cp) 1200 (Nat.le_refl _)
          · rw [hT] at h1
            have := Option.some.inj h1
            rw [Prod.mk.injEq] at this
            rw [this.2]; exact h2.1
          · rw [hT] at h1
            have := Option.some.inj h1
            rw [Prod.mk.injEq] at this
            have h3 := h2.2
            rw [← this.1] at h3
            omega
        subst hf
        obtain ⟨hC, hcur⟩ := text_ok a b n (q.map cp) 1200 (Nat.le_refl _) t hT
        have := read_text a b n (q.map cp) 6000 (by omega) (check_up a b n (q.map cp) 1200 6000 (by omega) (by omega) hC)
        rw [← hcur] at this
        have e2 : link_Read.f t = some (a, b, n, q.map cp, 0) := this
        rw [hr] at e2
        have := Option.some.inj e2
        unfold noLink at this
        simp at this
  · obtain ⟨hC, hcur⟩ := text_ok a b n p 6000 (by omega) t hT
    have := ref_text a b n p (check_up a b n p 6000 1200 (by omega) (by omega) hC)
    rw [← hcur] at this
    exact Or.inr ⟨a, b, n, p, hr, this, hT⟩
end Go.Proofs.YtdccglkmkahblaaDoor.Rl
