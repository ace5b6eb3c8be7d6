/- Packed runs: the program's and the document's, read and written. -/
import Derived.Test.YtbbncdbihiipcaaDoorPx8
import Derived.Test.YtbbncdbihiipcaaDoorPx9
import Derived.Test.YtbbncdbihiipcaaDoorPx10
import Derived.Test.YtbbncdbihiipcaaDoorRt
namespace Go.Proofs.YtbbncdbihiipcaaDoor.Th
open Go.RowKit Go.Proofs.YtbbncdbihiipcaaDoor.P Go.Proofs.YtbbncdbihiipcaaDoorW.PrintWords Go.Proofs.YtbbncdbihiipcaaDoor.Ru

/-- The bytes of runs. -/
def pk (last : Int) : List (Int × Int) → List UInt8
  | [] => []
  | x :: r => UInt8.ofNat (x.1 - last).toNat :: UInt8.ofNat (x.2 - x.1).toNat :: pk x.2 r
/-- Spans of which each begins and ends within a byte of what is ahead. -/
def Inc (last : Int) : List (Int × Int) → Prop
  | [] => True
  | x :: r => last ≤ x.1 ∧ x.1 ≤ last + 255 ∧ x.1 ≤ x.2 ∧ x.2 ≤ x.1 + 255 ∧ Inc x.2 r
theorem pk_map : ∀ (l : List (Int × Int)) (last : Int), Pa.pkS last (l.map Hand.toSp) = pk last l
  | [], _ => rfl
  | x :: r, last => by rw [List.map_cons, Pa.pkS, pk, pk_map r]; rfl
theorem pk_append : ∀ (a b : List (Int × Int)) (last : Int), pk last (a ++ b) = pk last a ++ pk (endOf last a) b
  | [], _, _ => rfl
  | x :: a, b, last => by rw [List.cons_append, pk, pk, pk_append a b]; rfl
theorem inc_append : ∀ (a b : List (Int × Int)) (last : Int), Inc last (a ++ b) ↔ Inc last a ∧ Inc (endOf last a) b
  | [], _, _ => by simp [Inc, endOf]
  | x :: a, b, last => by
    simp only [List.cons_append, Inc, endOf]
    rw [inc_append a b]
    constructor
    · rintro ⟨h1, h2, h3, h4, h5, h6⟩; exact ⟨⟨h1, h2, h3, h4, h5⟩, h6⟩
    · rintro ⟨⟨h1, h2, h3, h4, h5⟩, h6⟩; exact ⟨h1, h2, h3, h4, h5, h6⟩
theorem pk_len : ∀ (l : List (Int × Int)) (last : Int), (pk last l).length = 2 * l.length
  | [], _ => rfl
  | x :: r, _ => by rw [pk, List.length_cons, List.length_cons, List.length_cons, pk_len r]; omega
theorem good_inc (N : Int) (hN : N ≤ 160) : ∀ (l : List (Int × Int)) (last : Int), 0 ≤ last → Ru.Good (last - 1) N l → last ≤ N → Inc last l
  | [], _, _, _, _ => trivial
  | x :: r, last, h0, g, hl => by
    have h1 := g.1
    have h2 := g.2.1
    have h3 := g.2.2.1
    exact ⟨by omega, by omega, by omega, by omega, good_inc N hN r x.2 (by omega) (good_mono (by omega) g.2.2.2) h3⟩
theorem byte_inj {a b : Int} (ha : 0 ≤ a ∧ a ≤ 255) (hb : 0 ≤ b ∧ b ≤ 255) (h : UInt8.ofNat a.toNat = UInt8.ofNat b.toNat) : a = b := by
  have := congrArg UInt8.toNat h
  simp at this
  omega
/-- What is ahead of more bytes is ahead of more spans. -/
theorem pk_pre : ∀ (a b : List (Int × Int)) (last : Int) (rest : List UInt8), Inc last a → Inc last b → pk last b = pk last a ++ rest → ∃ c, b = a ++ c ∧ pk (endOf last a) c = rest
  | [], b, last, rest, _, _, h => ⟨b, rfl, h⟩
  | x :: a, [], last, rest, _, _, h => by rw [pk, pk] at h; cases h
  | x :: a, y :: b, last, rest, ha, hb, h => by
    rw [pk, pk, List.cons_append, List.cons_append] at h
    have h1 := (List.cons.inj h).1
    have h2 := (List.cons.inj (List.cons.inj h).2).1
    have h3 := (List.cons.inj (List.cons.inj h).2).2
    obtain ⟨a1, a2, a3, a4, a5⟩ := ha
    obtain ⟨b1, b2, b3, b4, b5⟩ := hb
    have e1 := byte_inj (a := y.1 - last) (b := x.1 - last) (by omega) (by omega) h1
    have e2 := byte_inj (a := y.2 - y.1) (b := x.2 - x.1) (by omega) (by omega) h2
    have e : x = y := Prod.ext (by omega) (by omega)
    subst e
    obtain ⟨c, hc, hk⟩ := pk_pre a b x.2 rest a5 b5 h3
    exact ⟨c, by rw [hc]; rfl, hk⟩
theorem pk_inj {a b : List (Int × Int)} {last : Int} (ha : Inc last a) (hb : Inc last b) (h : pk last b = pk last a) : b = a := by
  obtain ⟨c, hc, hk⟩ := pk_pre a b last [] ha hb (by rw [List.append_nil]; exact h)
  cases c with
  | nil => rw [hc, List.append_nil]
  | cons x r => rw [pk] at hk; cases hk
/-- The program's packed bytes. -/
theorem goodS (N : Int) (hN : N ≤ 160) : ∀ (l : List (Int × Int)) (last : Int), Ru.Good (last - 1) N l → Pa.GoodS last (l.map Hand.toSp)
  | [], _, _ => trivial
  | x :: r, last, g => by
    have h1 := g.1
    have h2 := g.2.1
    have h3 := g.2.2.1
    refine ⟨by show last ≤ x.1; omega, by show x.1 ≤ x.2; omega, by show x.2 ≤ 200; omega, goodS N hN r x.2 (good_mono (by omega) g.2.2.2)⟩
def packB (n : Int) (s : ByteArray) : ByteArray := ⟨(pk 0 (runsOf (inP s true) n.toNat)).toArray⟩
theorem prog_pack (n : Int) (s : ByteArray) : Hand.runs_Pack.f n s = some (if chk n s = true then (packB n s, 0) else (⟨#[]⟩, 3)) := by
  unfold Hand.runs_Pack.f
  rw [prog_of, Option.bind_some]
  cases hc : chk n s with
  | true =>
    have h := chk_true hc
    have g := (runsOf_good (inP s true) n.toNat).1
    have gl := good_len (n.toNat : Int) _ (-1) g (by omega)
    rw [if_pos rfl, if_pos rfl, if_pos ⟨goodS n.toNat (by omega) _ 0 g, by simp only [List.length_map]; omega⟩, if_pos rfl, pk_map]; rfl
  | false => rfl
theorem num1 (v : Int) (hv : 0 ≤ v ∧ v ≤ 255) : Ev (fun k => mosaicref02_Num.f k v 1) ⟨[UInt8.ofNat v.toNat].toArray⟩ := by
  have p1 : Ev (fun k => mosaicref02_power.f k 1) 256 := by
    refine Ev.step (G := fun k => mosaicref02_power.l0 k 1 256 1) (fun k => by unfold mosaicref02_power.f; rw [mosaicref02_power.l0, if_pos (by omega), w64 (by omega), w64 (by omega)]; rfl) ?_
    exact Ev.step (G := fun _ => some _) (fun k => by rw [mosaicref02_power.l0, if_neg (by omega)]) (Ev.const _)
  have p0 : Ev (fun k => mosaicref02_power.f k 0) 1 := Ev.step (G := fun _ => some _) (fun k => by unfold mosaicref02_power.f; rw [mosaicref02_power.l0, if_neg (by omega)]) (Ev.const _)
  have e0 : (Int.tmod (wrap64 (Int.tdiv v 1)) 256) % 256 = v := by
    obtain ⟨V, rfl⟩ := Int.eq_ofNat_of_zero_le hv.1
    rw [Int.tdiv_one, w64 (by omega), show (256 : Int) = ((256 : Nat) : Int) from rfl, ← Int.ofNat_tmod]
    omega
  have l1 : Ev (fun k => mosaicref02_Put.l0 k v [v] (-1)) (strOfNums [v], 0) := Ev.step (G := fun _ => some _) (fun k => by rw [mosaicref02_Put.l0, if_neg (by omega)]) (Ev.const _)
  have l0 : Ev (fun k => mosaicref02_Put.l0 k v [] 0) (strOfNums [v], 0) := by
    refine Ev.step (fun k => by rw [mosaicref02_Put.l0, if_pos (by omega)]) ?_
    refine Ev.bind (G := fun t251 k => (if t251 = 0 then (none) else (if ([] : List Int).length < 140737488355328 then (mosaicref02_Put.l0 k v ([] ++ [(Int.tmod (wrap64 (Int.tdiv v t251)) 256) % 256]) (wrap64 (0 - 1))) else (none)))) p0 ?_
    refine Ev.congr (fun k => ?_) l1
    rw [if_neg (by omega), if_pos (by simp), e0, w64 (by omega)]; rfl
  have j1 : Ev (fun k => mosaicref02_Put.j1 k v 1 false) (strOfNums [v], 0) := Ev.step (fun k => by rw [mosaicref02_Put.j1, if_neg (by simp), w64 (by omega)]; rfl) l0
  have j0 : Ev (fun k => mosaicref02_Put.j0 k v 1 false) (strOfNums [v], 0) := by
    refine Ev.step (fun k => by rw [mosaicref02_Put.j0, if_neg (by simp), if_neg (by omega)]) ?_
    refine Ev.bind (G := fun t250 k => (mosaicref02_Put.j1 k v 1 (decide (v ≥ t250)))) p1 ?_
    exact Ev.congr (fun k => by rw [decide_eq_false (by omega)]) j1
  have hs : strOfNums [v] = ⟨[UInt8.ofNat v.toNat].toArray⟩ := by
    unfold strOfNums
    simp only [List.map_cons, List.map_nil]
  refine Ev.bind (F := fun k => mosaicref02_Put.f k v 1) (G := fun bt255 _ => (some bt255.1)) (a := (strOfNums [v], 0)) (Ev.congr (fun k => by unfold mosaicref02_Put.f; rw [if_neg (by omega), decide_eq_false (by omega)]) j0) ?_
  rw [← hs]; exact Ev.const _
theorem cat (a b : List UInt8) : (⟨a.toArray⟩ : ByteArray) ++ ⟨b.toArray⟩ = ⟨(a ++ b).toArray⟩ := by
  apply ByteArray.ext
  rw [ByteArray.data_append]
  simp
theorem refpack_l0 (N : Int) (hN : N ≤ 160) (L : List (Int × Int)) (hL : L.length ≤ 1000) (hg : Ru.Good (-1) N L) (e : Int) : ∀ (d i : Nat), i + d = L.length →
    Ev (fun k => mosaicref25_Pack.l0 k (L.map toSp4) e ⟨(pk 0 (L.take i)).toArray⟩ (endOf 0 (L.take i)) i) (⟨(pk 0 L).toArray⟩, e)
  | 0, i, h => by
    rw [List.take_of_length_le (by omega)]
    exact Ev.step (G := fun _ => some _) (fun k => by rw [mosaicref25_Pack.l0, if_neg (by rw [List.length_map]; omega)]) (Ev.const _)
  | d + 1, i, h => by
    have hlt : i < L.length := by omega
    have hsp : rd_T54 (L.map toSp4) (i : Int) = (⟨L[i].1, L[i].2⟩ : S54) := rd54 L i L[i] (List.getElem?_eq_getElem hlt)
    have hT : L.take (i + 1) = L.take i ++ [L[i]] := by rw [List.take_add_one, List.getElem?_eq_getElem hlt]; rfl
    have hs : L = L.take i ++ L[i] :: L.drop (i + 1) := by
      have := List.take_append_drop i L
      rw [List.drop_eq_getElem_cons hlt] at this
      exact this.symm
    have ih := refpack_l0 N hN L hL hg e d (i + 1) (by omega)
    have hg2 : Ru.Good ((0 : Int) - 1) N (L.take i) := by rw [hs, Ru.good_append] at hg; exact hg.1
    have hg3 := hg
    rw [hs, Ru.good_append] at hg3
    have hend : 0 ≤ endOf 0 (L.take i) ∧ endOf 0 (L.take i) ≤ L[i].1 ∧ L[i].1 < L[i].2 ∧ L[i].2 ≤ N := by
      have h1 := hg3.2.1
      refine ⟨?_, ?_, hg3.2.2.1, hg3.2.2.2.1⟩
      · cases hL2 : L.take i with
        | nil => exact Int.le_refl _
        | cons x r =>
          rw [hL2] at hg2
          have := (mem_past_aux N r x.2 hg2.2.2.2)
          have a1 := hg2.1
          have a2 := hg2.2.1
          show 0 ≤ endOf x.2 r
          omega
      · cases hL2 : L.take i with
        | nil => rw [hL2] at h1; have h1' : (-1 : Int) < L[i].1 := h1; show 0 ≤ L[i].1; omega
        | cons x r => rw [hL2] at h1; exact Int.le_of_lt h1
    have hpl : (pk 0 (L.take i)).length ≤ 2000 := by rw [pk_len, List.length_take]; omega
    rw [hT, pk_append, endOf_append, ← cat] at ih
    generalize L[i] = x at *
    generalize endOf 0 (L.take i) = E at *
    have hk : pk E [x] = [UInt8.ofNat (x.1 - E).toNat] ++ [UInt8.ofNat (x.2 - x.1).toNat] := rfl
    rw [hk, ← cat, ← ByteArray.append_assoc] at ih
    have hz : (⟨(pk 0 (L.take i)).toArray⟩ : ByteArray).size ≤ 2000 := hpl
    generalize (⟨(pk 0 (L.take i)).toArray⟩ : ByteArray) = T at *
    refine Ev.step (fun k => by rw [mosaicref25_Pack.l0, if_pos (by rw [List.length_map]; omega), if_pos (by omega), hsp]) ?_
    dsimp only
    rw [w64 (n := x.1 - E) (by omega), w64 (n := x.2 - x.1) (by omega), w64 (n := (i : Int) + 1) (by omega)]
    refine Ev.bind (G := fun t262 k => (if T.size + t262.size ≤ 9223372036854775807 then ((mosaicref02_Num.f k (x.2 - x.1) 1).bind fun t265 => (if (T ++ t262).size + t265.size ≤ 9223372036854775807 then (mosaicref25_Pack.l0 k (L.map toSp4) e ((T ++ t262) ++ t265) x.2 ((i : Int) + 1)) else (none))) else (none))) (num1 (x.1 - E) (by omega)) ?_
    have z1 : (⟨[UInt8.ofNat (x.1 - E).toNat].toArray⟩ : ByteArray).size = 1 := rfl
    have z2 : (⟨[UInt8.ofNat (x.2 - x.1).toNat].toArray⟩ : ByteArray).size = 1 := rfl
    refine Ev.congr (fun k => by rw [if_pos (by omega)]) ?_
    refine Ev.bind (G := fun t265 k => (if (T ++ (⟨[UInt8.ofNat (x.1 - E).toNat].toArray⟩ : ByteArray)).size + t265.size ≤ 9223372036854775807 then (mosaicref25_Pack.l0 k (L.map toSp4) e ((T ++ ⟨[UInt8.ofNat (x.1 - E).toNat].toArray⟩) ++ t265) x.2 ((i : Int) + 1)) else (none))) (num1 (x.2 - x.1) (by omega)) ?_
    refine Ev.congr (fun k => by rw [if_pos (by rw [ByteArray.size_append]; omega)]) ?_
    exact ih
/-- The document's packed bytes. -/
theorem ref_pack (n : Int) (s : ByteArray) (hs : s.size ≤ 140737488351232) : Ev (fun k => mosaicref25_Pack.f k n s) (if chk n s = true then (packB n s, 0) else (⟨#[]⟩, 3)) := by
  refine Ev.bind (G := fun bt257 k => (mosaicref25_Pack.l0 k bt257.1 bt257.2 (⟨#[]⟩ : ByteArray) 0 0)) (ref_of n s true hs) ?_
  cases hc : chk n s with
  | true =>
    have h := chk_true hc
    have g := (runsOf_good (inP s true) n.toNat).1
    have gl := good_len (n.toNat : Int) _ (-1) g (by omega)
    exact refpack_l0 n.toNat (by omega) (runsOf (inP s true) n.toNat) (by omega) g 0 (runsOf (inP s true) n.toNat).length 0 (by omega)
  | false => exact refpack_l0 0 (by omega) [] (by decide) trivial 3 0 0 rfl
end Go.Proofs.YtbbncdbihiipcaaDoor.Th
/- Packed runs read again: the program's and the document's. -/
namespace Go.Proofs.YtbbncdbihiipcaaDoor.Th
open Go.RowKit Go.Proofs.YtbbncdbihiipcaaDoor.P Go.Proofs.YtbbncdbihiipcaaDoorW.PrintWords Go.Proofs.YtbbncdbihiipcaaDoor.Ru

/-- The set of packed bytes, or the error. -/
def UnR (n : Int) (t : List UInt8) (r : ByteArray × Int) : Prop :=
  (∃ L, Ru.Good (-1) n L ∧ pk 0 L = t ∧ chk n r.1 = true ∧ r.2 = 0 ∧ ∀ i : Nat, (i : Int) < n → hb r.1 i = mem L i) ∨ ((¬ ∃ L, Ru.Good (-1) n L ∧ pk 0 L = t) ∧ r = (⟨#[]⟩, 3))
theorem good_inc0 {N : Int} (hN : 0 ≤ N ∧ N ≤ 160) {L : List (Int × Int)} (g : Ru.Good (-1) N L) : Inc 0 L := good_inc N hN.2 L 0 (Int.le_refl _) (by simpa using g) hN.1
theorem UnR.unique {n : Int} (hn : 0 ≤ n ∧ n ≤ 160) {t : List UInt8} {r q : ByteArray × Int} (h : UnR n t r) (k : UnR n t q) : r = q := by
  rcases h with ⟨L, g, hp, h1, h2, h3⟩ | ⟨g, rfl⟩
  · rcases k with ⟨M, g', hp', k1, k2, k3⟩ | ⟨g', _⟩
    · have e : M = L := pk_inj (good_inc0 hn g) (good_inc0 hn g') (by rw [hp, hp'])
      subst e
      exact Prod.ext (chk_ext h1 k1 (fun i hi => by rw [h3 i hi, k3 i hi])) (by rw [h2, k2])
    · exact absurd ⟨L, g, hp⟩ g'
  · rcases k with ⟨M, g', hp', _⟩ | ⟨_, rfl⟩
    · exact absurd ⟨M, g', hp'⟩ g
    · rfl
theorem cut_first (b : UInt8) (l : List UInt8) : (⟨(b :: l).toArray⟩ : ByteArray).extract 0 1 = ⟨[b].toArray⟩ := by
  apply ByteArray.ext
  rw [ByteArray.data_extract]
  apply Array.ext'
  simp
theorem cut_rest (b : UInt8) (l : List UInt8) : (⟨(b :: l).toArray⟩ : ByteArray).extract 1 (⟨(b :: l).toArray⟩ : ByteArray).size = ⟨l.toArray⟩ := by
  apply ByteArray.ext
  rw [ByteArray.data_extract]
  apply Array.ext'
  have : (⟨(b :: l).toArray⟩ : ByteArray).size = l.length + 1 := rfl
  rw [this]
  simp
theorem sz_list (l : List UInt8) : (⟨l.toArray⟩ : ByteArray).size = l.length := rfl
theorem get_one (b : UInt8) : Hand.oct_Get.f ⟨[b].toArray⟩ = some (b.toNat : Int) := by
  unfold Hand.oct_Get.f
  rw [if_pos (show (⟨[b].toArray⟩ : ByteArray).size ≤ 7 from (by decide : 1 ≤ 7))]
  show some ((Ge.getN 0 [b] : Nat) : Int) = _
  simp [Ge.getN]
theorem num_some (b : UInt8) (l : List UInt8) : Ev (fun k => oct_Reader_Num.f k ⟨(b :: l).toArray⟩ 0 1) ((b.toNat : Int), ⟨l.toArray⟩, 0) := by
  have hc : oct_Reader_cut.f ⟨(b :: l).toArray⟩ 0 1 = some (⟨[b].toArray⟩, ⟨l.toArray⟩, 0) := by
    have hz : (⟨(b :: l).toArray⟩ : ByteArray).size = l.length + 1 := rfl
    unfold oct_Reader_cut.f
    rw [if_pos rfl, if_neg (by omega), if_neg (by omega), if_pos (by omega), if_pos (by omega), show Int.toNat 1 = 1 from rfl, cut_first, cut_rest]
  refine Ev.congr (G := fun k => oct_Reader_Num.j0 k 1 false ⟨(b :: l).toArray⟩ 0) (fun k => by unfold oct_Reader_Num.f; rw [if_neg (by omega), decide_eq_false (by omega)]) ?_
  refine Ev.step (G := fun _ => some _) (fun k => ?_) (Ev.const _)
  rw [oct_Reader_Num.j0, if_neg (by simp), hc, Option.bind_some, get_one, Option.bind_some]
theorem num_none : Ev (fun k => oct_Reader_Num.f k ⟨([] : List UInt8).toArray⟩ 0 1) (0, ⟨([] : List UInt8).toArray⟩, 7) := by
  have hc : oct_Reader_cut.f ⟨([] : List UInt8).toArray⟩ 0 1 = some (⟨#[]⟩, ⟨([] : List UInt8).toArray⟩, 7) := by
    have hz : (⟨([] : List UInt8).toArray⟩ : ByteArray).size = 0 := rfl
    unfold oct_Reader_cut.f
    rw [if_pos rfl, if_neg (by omega), if_pos (by omega)]
  refine Ev.congr (G := fun k => oct_Reader_Num.j0 k 1 false ⟨([] : List UInt8).toArray⟩ 0) (fun k => by unfold oct_Reader_Num.f; rw [if_neg (by omega), decide_eq_false (by omega)]) ?_
  refine Ev.step (G := fun _ => some _) (fun k => ?_) (Ev.const _)
  rw [oct_Reader_Num.j0, if_neg (by simp), hc, Option.bind_some]
  rfl
/-- What is at the end where the reading stopped. -/
theorem end_is (l : List UInt8) (e : Int) : oct_Reader_End.f ⟨l.toArray⟩ e = some (if e = 0 then (if l = [] then 0 else 3) else e, ⟨l.toArray⟩, e) := by
  unfold oct_Reader_End.f oct_Reader_Err.f
  simp only [Option.bind_some]
  have hl : (⟨l.toArray⟩ : ByteArray).toList = l := by rw [ByteArray.toList_eq] <;> rfl
  by_cases he : e = 0
  · subst he
    rw [if_pos rfl, hl]
    by_cases h : l = []
    · subst h; rfl
    · rw [if_neg h, if_pos rfl, if_neg h]
  · rw [if_neg he, if_neg he]
theorem set_any (n : Int) (hn : 0 ≤ n ∧ n ≤ 160) (L : List (Int × Int)) (hL : L.length ≤ 1000000) : ∃ r, Ev (fun k => runs_Set.f k n (L.map Hand.toSp)) r ∧ SetR n L r := prog_set n hn L hL
theorem inc_end : ∀ (L : List (Int × Int)) (last : Int), Inc last L → last ≤ endOf last L
  | [], _, _ => Int.le_refl _
  | x :: r, last, h => by
    have h1 := h.1
    have h3 := h.2.2.1
    have := inc_end r x.2 h.2.2.2.2
    show last ≤ endOf x.2 r
    omega
/-- Where what was read is no end of what is packed. -/
theorem no_pack {n : Int} (hn : 0 ≤ n ∧ n ≤ 160) {L : List (Int × Int)} (hi : Inc 0 L) {rest : List UInt8} (h : rest.length % 2 = 1 ∨ n < endOf 0 L) : ¬ ∃ M, Ru.Good (-1) n M ∧ pk 0 M = pk 0 L ++ rest := by
  rintro ⟨M, g, hp⟩
  obtain ⟨c, rfl, hc⟩ := pk_pre L M 0 rest hi (good_inc0 hn g) hp
  rcases h with h | h
  · rw [← hc, pk_len] at h; omega
  · have := (Ru.good_append n L c (-1)).mp g
    cases hL : L with
    | nil => rw [hL] at h; have : n < 0 := h; omega
    | cons x r =>
      rw [hL] at h this
      have hge := end_le n r x.2 this.1.2.2.2 this.1.2.2.1
      have : n < endOf x.2 r := h
      omega
theorem un_l0 (n : Int) (hn : 0 ≤ n ∧ n ≤ 160) (t : List UInt8) (ht : t.length ≤ 1000000) : ∀ (m : Nat) (rest : List UInt8) (L : List (Int × Int)), rest.length ≤ m → Inc 0 L → pk 0 L ++ rest = t →
    ∃ r, Ev (fun k => runs_Unpack.l0 k n (L.map Hand.toSp) (endOf 0 L) ⟨rest.toArray⟩ 0) r ∧ UnR n t r := by
  intro m
  induction m with
  | zero =>
    intro rest L hm hi hp
    have hr : rest = [] := List.length_eq_zero_iff.mp (by omega)
    subst hr
    rw [List.append_nil] at hp
    have hlen : L.length ≤ 1000000 := by have := pk_len L 0; rw [hp] at this; omega
    obtain ⟨q, hq, hS⟩ := set_any n hn L hlen
    have hj : ∀ r, (if q.2 = 0 then (some (q.1, (0 : Int))) else (some ((⟨#[]⟩ : ByteArray), 3))) = some r → Ev (fun k => runs_Unpack.l0 k n (L.map Hand.toSp) (endOf 0 L) ⟨([] : List UInt8).toArray⟩ 0) r := by
      intro r hr
      refine Ev.step (G := fun k => runs_Unpack.j1 k n (L.map Hand.toSp) (endOf 0 L) false ⟨([] : List UInt8).toArray⟩ 0) (fun k => by rw [runs_Unpack.l0]; rfl) ?_
      refine Ev.step (G := fun k => (runs_Set.f k n (L.map Hand.toSp)).bind fun bt312 => ((oct_Reader_End.f ⟨([] : List UInt8).toArray⟩ 0).bind fun bt314 => (if bt314.1 = 0 then (if bt312.2 = 0 then (some (bt312.1, 0)) else (some ((⟨#[]⟩ : ByteArray), 3))) else (some ((⟨#[]⟩ : ByteArray), 3))))) (fun k => by rw [runs_Unpack.j1, if_neg (by simp)]) ?_
      refine Ev.bind (G := fun bt312 _ => ((oct_Reader_End.f ⟨([] : List UInt8).toArray⟩ 0).bind fun bt314 => (if bt314.1 = 0 then (if bt312.2 = 0 then (some (bt312.1, (0 : Int))) else (some ((⟨#[]⟩ : ByteArray), 3))) else (some ((⟨#[]⟩ : ByteArray), 3))))) hq (Ev.of fun k => ?_)
      rw [end_is, Option.bind_some, if_pos rfl, if_pos rfl, if_pos rfl]
      exact hr
    rcases hS with ⟨g, c1, c2, c3⟩ | ⟨g, rfl⟩
    · refine ⟨(q.1, 0), hj _ (by rw [if_pos c2]), Or.inl ⟨L, g, hp, c1, rfl, c3⟩⟩
    · refine ⟨(⟨#[]⟩, 3), hj _ (by rw [if_neg (by decide)]), Or.inr ⟨?_, rfl⟩⟩
      rintro ⟨M, gM, hM⟩
      have e : M = L := pk_inj hi (good_inc0 hn gM) (by rw [hp, hM])
      exact g (e ▸ gM)
  | succ m ih =>
    intro rest L hm hi hp
    by_cases hr0 : rest = []
    · exact ih rest L (by rw [hr0]; simp) hi hp
    have hpos : 0 < rest.length := List.length_pos_iff.mpr hr0
    have hlen : 2 * L.length + rest.length ≤ 1000000 := by have := pk_len L 0; have h2 := congrArg List.length hp; rw [List.length_append] at h2; omega
    have hz : (⟨rest.toArray⟩ : ByteArray).size = rest.length := rfl
    have hend := inc_end L 0 hi
    -- stopped, with a fault
    have hstop : ∀ (M : List (Int × Int)) (e : Int) (s : List UInt8) (last : Int), M.length ≤ 1000000 → (if e = 0 then (if s = [] then 0 else 3) else e) ≠ 0 → Ev (fun k => runs_Unpack.j1 k n (M.map Hand.toSp) last false ⟨s.toArray⟩ e) (⟨#[]⟩, 3) := by
      intro M e s last hM hne
      obtain ⟨q, hq, _⟩ := set_any n hn M hM
      refine Ev.step (G := fun k => (runs_Set.f k n (M.map Hand.toSp)).bind fun bt312 => ((oct_Reader_End.f ⟨s.toArray⟩ e).bind fun bt314 => (if bt314.1 = 0 then (if bt312.2 = 0 then (some (bt312.1, 0)) else (some ((⟨#[]⟩ : ByteArray), 3))) else (some ((⟨#[]⟩ : ByteArray), 3))))) (fun k => by rw [runs_Unpack.j1, if_neg (by simp)]) ?_
      refine Ev.bind (G := fun bt312 _ => ((oct_Reader_End.f ⟨s.toArray⟩ e).bind fun bt314 => (if bt314.1 = 0 then (if bt312.2 = 0 then (some (bt312.1, (0 : Int))) else (some ((⟨#[]⟩ : ByteArray), 3))) else (some ((⟨#[]⟩ : ByteArray), 3))))) hq (Ev.of fun k => ?_)
      rw [end_is, Option.bind_some, if_neg hne]
    by_cases hle : endOf 0 L ≤ n
    · -- one more
      have h0 : ∀ k, runs_Unpack.l0 (k + 1) n (L.map Hand.toSp) (endOf 0 L) ⟨rest.toArray⟩ 0 = runs_Unpack.j1 k n (L.map Hand.toSp) (endOf 0 L) true ⟨rest.toArray⟩ 0 := by
        intro k
        rw [runs_Unpack.l0]
        unfold oct_Reader_Left.f
        rw [if_pos rfl, Option.bind_some, if_pos (by dsimp only; omega), decide_eq_true hle]
      obtain ⟨b, s, rfl⟩ : ∃ b s, rest = b :: s := by
        cases rest with
        | nil => exact absurd rfl hr0
        | cons b s => exact ⟨b, s, rfl⟩
      have hb := b.toNat_lt
      have e1 : wrap64 (endOf 0 L + (b.toNat : Int)) = endOf 0 L + (b.toNat : Int) := w64 (by omega)
      have hmap : ∀ (x y : Int), L.map Hand.toSp ++ [(⟨x, y⟩ : S39)] = (L ++ [(x, y)]).map Hand.toSp := fun x y => by rw [List.map_append]; rfl
      cases s with
      | nil =>
        refine ⟨(⟨#[]⟩, 3), Ev.step h0 ?_, Or.inr ⟨by rw [← hp]; exact no_pack hn hi (Or.inl rfl), rfl⟩⟩
        refine Ev.step (fun k => by rw [runs_Unpack.j1, if_pos rfl]) ?_
        refine Ev.bind (G := fun bt303 k => ((oct_Reader_Num.f k bt303.2.1 bt303.2.2 1).bind fun bt306 => (if (L.map Hand.toSp).length < 8796093022208 then (runs_Unpack.l0 k n ((L.map Hand.toSp) ++ [(⟨wrap64 (endOf 0 L + bt303.1), wrap64 ((wrap64 (endOf 0 L + bt303.1)) + bt306.1)⟩ : S39)]) (wrap64 ((wrap64 (endOf 0 L + bt303.1)) + bt306.1)) bt306.2.1 bt306.2.2) else (none)))) (num_some b []) ?_
        refine Ev.bind (G := fun bt306 k => (if (L.map Hand.toSp).length < 8796093022208 then (runs_Unpack.l0 k n ((L.map Hand.toSp) ++ [(⟨wrap64 (endOf 0 L + (b.toNat : Int)), wrap64 ((wrap64 (endOf 0 L + (b.toNat : Int))) + bt306.1)⟩ : S39)]) (wrap64 ((wrap64 (endOf 0 L + (b.toNat : Int))) + bt306.1)) bt306.2.1 bt306.2.2) else (none))) num_none ?_
        refine Ev.congr (fun k => by rw [if_pos (by rw [List.length_map]; omega), hmap]) ?_
        refine Ev.step (fun k => ?_) (hstop (L ++ [(wrap64 (endOf 0 L + (b.toNat : Int)), wrap64 ((wrap64 (endOf 0 L + (b.toNat : Int))) + 0))]) 7 [] (wrap64 ((wrap64 (endOf 0 L + (b.toNat : Int))) + 0)) (by simp; omega) (by decide))
        rw [runs_Unpack.l0]
        unfold oct_Reader_Left.f
        rw [if_neg (by decide), Option.bind_some, if_neg (by decide)]
      | cons c s =>
        have hc := c.toNat_lt
        have e2 : wrap64 (endOf 0 L + (b.toNat : Int) + (c.toNat : Int)) = endOf 0 L + (b.toNat : Int) + (c.toNat : Int) := w64 (by omega)
        have hi2 : Inc 0 (L ++ [(endOf 0 L + (b.toNat : Int), endOf 0 L + (b.toNat : Int) + (c.toNat : Int))]) := (inc_append _ _ _).mpr ⟨hi, by show endOf 0 L ≤ endOf 0 L + (b.toNat : Int); omega, by show endOf 0 L + (b.toNat : Int) ≤ _; omega, by show endOf 0 L + (b.toNat : Int) ≤ endOf 0 L + (b.toNat : Int) + (c.toNat : Int); omega, by show endOf 0 L + (b.toNat : Int) + (c.toNat : Int) ≤ endOf 0 L + (b.toNat : Int) + 255; omega, trivial⟩
        have hpk : pk (endOf 0 L) [(endOf 0 L + (b.toNat : Int), endOf 0 L + (b.toNat : Int) + (c.toNat : Int))] = [b, c] := by
          have q1 : (endOf 0 L + (b.toNat : Int) - endOf 0 L).toNat = b.toNat := by omega
          have q2 : (endOf 0 L + (b.toNat : Int) + (c.toNat : Int) - (endOf 0 L + (b.toNat : Int))).toNat = c.toNat := by omega
          simp only [pk]
          rw [q1, q2]
          simp
        obtain ⟨r, hr, hU⟩ := ih s (L ++ [(endOf 0 L + (b.toNat : Int), endOf 0 L + (b.toNat : Int) + (c.toNat : Int))]) (by simp at hm; omega) hi2 (by rw [pk_append, hpk, ← hp]; simp)
        refine ⟨r, Ev.step h0 ?_, hU⟩
        rw [endOf_append] at hr
        refine Ev.step (fun k => by rw [runs_Unpack.j1, if_pos rfl]) ?_
        refine Ev.bind (G := fun bt303 k => ((oct_Reader_Num.f k bt303.2.1 bt303.2.2 1).bind fun bt306 => (if (L.map Hand.toSp).length < 8796093022208 then (runs_Unpack.l0 k n ((L.map Hand.toSp) ++ [(⟨wrap64 (endOf 0 L + bt303.1), wrap64 ((wrap64 (endOf 0 L + bt303.1)) + bt306.1)⟩ : S39)]) (wrap64 ((wrap64 (endOf 0 L + bt303.1)) + bt306.1)) bt306.2.1 bt306.2.2) else (none)))) (num_some b (c :: s)) ?_
        refine Ev.bind (G := fun bt306 k => (if (L.map Hand.toSp).length < 8796093022208 then (runs_Unpack.l0 k n ((L.map Hand.toSp) ++ [(⟨wrap64 (endOf 0 L + (b.toNat : Int)), wrap64 ((wrap64 (endOf 0 L + (b.toNat : Int))) + bt306.1)⟩ : S39)]) (wrap64 ((wrap64 (endOf 0 L + (b.toNat : Int))) + bt306.1)) bt306.2.1 bt306.2.2) else (none))) (num_some c s) ?_
        refine Ev.congr (fun k => by rw [if_pos (by rw [List.length_map]; omega), hmap, e1, e2]) hr
    · -- past the end
      refine ⟨(⟨#[]⟩, 3), Ev.step (fun k => ?_) (hstop L 0 rest (endOf 0 L) (by omega) (by rw [if_pos rfl, if_neg hr0]; decide)), Or.inr ⟨by rw [← hp]; exact no_pack hn hi (Or.inr (by omega)), rfl⟩⟩
      rw [runs_Unpack.l0]
      unfold oct_Reader_Left.f
      rw [if_pos rfl, Option.bind_some, if_pos (by dsimp only; omega), decide_eq_false hle]
/-- The program's set of packed bytes. -/
theorem prog_unpack (n : Int) (hn : 0 ≤ n ∧ n ≤ 160) (t : ByteArray) (ht : t.size ≤ 1000000) : ∃ r, Ev (fun k => runs_Unpack.f k n t) r ∧ UnR n t.data.toList r := by
  obtain ⟨r, hr, hU⟩ := un_l0 n hn t.data.toList (by rw [data_length]; omega) t.size t.data.toList [] (by rw [data_length]; omega) trivial rfl
  refine ⟨r, Ev.congr (fun k => ?_) hr, hU⟩
  unfold runs_Unpack.f oct_From.f
  rw [show runs_may.f n = some (Bo.mayB n) from Bo.may_f n, show Bo.mayB n = true by unfold Bo.mayB; simp; omega, Option.bind_some, if_pos rfl, Option.bind_some]
  have : (⟨t.data.toList.toArray⟩ : ByteArray) = t := by apply ByteArray.ext; simp
  rw [this]; rfl
theorem prog_unpack_no (n : Int) (hn : ¬ (0 ≤ n ∧ n ≤ 160)) (t : ByteArray) : Ev (fun k => runs_Unpack.f k n t) (⟨#[]⟩, 1) := by
  refine Ev.of fun k => ?_
  unfold runs_Unpack.f
  rw [show runs_may.f n = some (Bo.mayB n) from Bo.may_f n, show Bo.mayB n = false by unfold Bo.mayB; simp; omega, Option.bind_some, if_neg (by simp)]
end Go.Proofs.YtbbncdbihiipcaaDoor.Th
/- Packed bytes read by the document, and what just one of two sets has. -/
namespace Go.Proofs.YtbbncdbihiipcaaDoor.Th
open Go.RowKit Go.Proofs.YtbbncdbihiipcaaDoor.P Go.Proofs.YtbbncdbihiipcaaDoorW.PrintWords Go.Proofs.YtbbncdbihiipcaaDoor.Ru

/-- The document's inner loop: so many more numbers. -/
theorem refun_l1 (n : Int) (hn : 0 ≤ n ∧ n ≤ 160) (t : ByteArray) (i : Nat) (hi : i + 1 < t.size) (ht : t.size ≤ 1000000) (R : ByteArray × Int) (c : Nat) (hc : bt t ((i + 1 : Nat) : Int) = (c : Int)) (hc2 : c ≤ 255) : ∀ (d q A : Nat) (x6 : List Int), q + d = c → A + d ≤ 1000 → x6.length ≤ A →
    (∀ x6' : List Int, x6'.length ≤ A + d → (∀ a : Int, a ∈ x6' ↔ a ∈ x6 ∨ ((A : Int) ≤ a ∧ a < A + d ∧ a < n)) → Ev (fun k => mosaicref25_Unpack.l0 k n t x6' ((A + d : Nat) : Int) ((i + 2 : Nat) : Int)) R) →
    Ev (fun k => mosaicref25_Unpack.l1 k n t x6 A i q) R := by
  have e1 : wrap64 ((i : Int) + 1) = ((i + 1 : Nat) : Int) := by rw [w64 (by omega)]; rfl
  have e2 : Pa.Aside (wrap64 (bt t ((i + 1 : Nat) : Int)) = (c : Int)) := ⟨by rw [hc, w64 (by omega)]⟩
  have e1 : Pa.Aside (wrap64 ((i : Int) + 1) = ((i + 1 : Nat) : Int)) := ⟨e1⟩
  clear hc
  intro d
  induction d with
  | zero =>
    intro q A x6 h hA h6 hR
    have := hR x6 (by omega) (fun a => ⟨Or.inl, fun h => h.resolve_right (by omega)⟩)
    refine Ev.step (fun k => ?_) this
    rw [mosaicref25_Unpack.l1, e1.out, if_pos (by omega), if_pos (by omega), e2.out, if_neg (by omega), w64 (by omega)]; rfl
  | succ d ih =>
    intro q A x6 h hA h6 hR
    have hw : wrap64 ((A : Int) + 1) = ((A + 1 : Nat) : Int) := by rw [w64 (by omega)]; rfl
    have hq : wrap64 ((q : Int) + 1) = ((q + 1 : Nat) : Int) := by rw [w64 (by omega)]; rfl
    by_cases hlt : (A : Int) < n
    · refine Ev.step (G := fun k => mosaicref25_Unpack.l1 k n t (x6 ++ [(A : Int)]) ((A + 1 : Nat) : Int) i ((q + 1 : Nat) : Int)) (fun k => by rw [mosaicref25_Unpack.l1, e1.out, if_pos (by omega), if_pos (by omega), e2.out, if_pos (by omega), if_pos hlt, if_pos (by omega), hw, hq]) ?_
      refine ih (q + 1) (A + 1) _ (by omega) (by omega) (by simp; omega) (fun x6' h1 h2 => ?_)
      rw [show A + 1 + d = A + (d + 1) by omega]
      refine hR x6' (by omega) (fun a => ?_)
      rw [h2, List.mem_append, List.mem_singleton]
      constructor
      · rintro ((h | h) | h)
        · exact Or.inl h
        · exact Or.inr ⟨by omega, by omega, by omega⟩
        · exact Or.inr ⟨by omega, by omega, by omega⟩
      · rintro (h | h)
        · exact Or.inl (Or.inl h)
        · by_cases e : a = A
          · exact Or.inl (Or.inr e)
          · exact Or.inr ⟨by omega, by omega, by omega⟩
    · refine Ev.step (G := fun k => mosaicref25_Unpack.l1 k n t x6 ((A + 1 : Nat) : Int) i ((q + 1 : Nat) : Int)) (fun k => by rw [mosaicref25_Unpack.l1, e1.out, if_pos (by omega), if_pos (by omega), e2.out, if_pos (by omega), if_neg hlt, hw, hq]) ?_
      refine ih (q + 1) (A + 1) _ (by omega) (by omega) (by omega) (fun x6' h1 h2 => ?_)
      rw [show A + 1 + d = A + (d + 1) by omega]
      refine hR x6' (by omega) (fun a => ?_)
      rw [h2]
      constructor
      · rintro (h | h)
        · exact Or.inl h
        · exact Or.inr ⟨by omega, by omega, by omega⟩
      · rintro (h | h)
        · exact Or.inl h
        · exact Or.inr ⟨by omega, by omega, by omega⟩
/-- What the document makes of the numbers that were read. -/
theorem refun_end (n : Int) (hn : 0 ≤ n ∧ n ≤ 160) (t : ByteArray) (i at_ : Int) (x6 : List Int) (h6 : x6.length ≤ 1000000) (L : List (Int × Int))
    (hx : ∀ a : Int, 0 ≤ a → a < n → (a ∈ x6 ↔ mem L a = true)) (hno : ∀ M, Ru.Good (-1) n M → pk 0 M = t.data.toList → M = L) :
    ∃ r, Ev (fun k => mosaicref25_Unpack.j2 k n t x6 at_ i false) r ∧ UnR n t.data.toList r := by
  obtain ⟨r, hr, hcr, hbr⟩ := make n hn x6 h6
  have hz := (chk_true hcr).2.2.1
  have hm : ∀ j : Nat, (j : Int) < n → hb r j = mem L j := by
    intro j hj
    rw [hbr j hj]
    cases hmm : mem L j with
    | true => exact decide_eq_true ((hx j (by omega) hj).mpr hmm)
    | false => exact decide_eq_false (fun h => by have := (hx j (by omega) hj).mp h; rw [hmm] at this; cases this)
  have hP := ref_pack n r (by omega)
  rw [if_pos hcr] at hP
  have hg := runsOf_good (inP r true) n.toNat
  rw [Int.toNat_of_nonneg hn.1] at hg
  have hpl : (packB n r).toList = pk 0 (runsOf (inP r true) n.toNat) := by unfold packB; rw [ByteArray.toList_eq] <;> rfl
  have htl : t.toList = t.data.toList := by rw [ByteArray.toList_eq]
  have hj : ∀ q, (if (packB n r).toList = t.toList then (some (r, (0 : Int))) else (some ((⟨#[]⟩ : ByteArray), 3))) = some q → Ev (fun k => mosaicref25_Unpack.j2 k n t x6 at_ i false) q := by
    intro q hq
    refine Ev.step (fun k => by rw [mosaicref25_Unpack.j2, if_neg (by simp)]) ?_
    refine Ev.bind (G := fun t324 k => _) hr ?_
    refine Ev.bind (G := fun bt325 k => _) hP ?_
    exact Ev.of fun k => hq
  by_cases he : pk 0 (runsOf (inP r true) n.toNat) = t.data.toList
  · refine ⟨(r, 0), hj _ (by rw [hpl, htl, if_pos he]), Or.inl ⟨runsOf (inP r true) n.toNat, hg.1, he, hcr, rfl, fun j hj => ?_⟩⟩
    rw [hg.2 j (by omega)]; unfold inP; simp
  · refine ⟨(⟨#[]⟩, 3), hj _ (by rw [hpl, htl, if_neg he]), Or.inr ⟨?_, rfl⟩⟩
    rintro ⟨M, gM, hM⟩
    have e := hno M gM hM
    subst e
    have : runsOf (inP r true) n.toNat = M := by
      refine runsOf_is _ _ M (by rw [Int.toNat_of_nonneg hn.1]; exact gM) (fun j hj => ?_)
      unfold inP; rw [hm j (by omega)]; simp
    rw [this] at he
    exact he hM
theorem bt_at (t : ByteArray) (pre : List UInt8) (b : UInt8) (s : List UInt8) (h : pre ++ b :: s = t.data.toList) : bt t (pre.length : Int) = (b.toNat : Int) := by
  rw [bt_val, ← h, List.getD_eq_getElem?_getD, List.getElem?_append_right (Nat.le_refl _), Nat.sub_self]; rfl
theorem refun_l0 (n : Int) (hn : 0 ≤ n ∧ n ≤ 160) (t : ByteArray) (ht : t.size ≤ 1000000) : ∀ (m : Nat) (rest : List UInt8) (L : List (Int × Int)) (x6 : List Int) (A : Nat), rest.length ≤ m → Inc 0 L → pk 0 L ++ rest = t.data.toList → (A : Int) = endOf 0 L → x6.length ≤ A → A ≤ 1000 →
    (∀ a : Int, 0 ≤ a → a < n → (a ∈ x6 ↔ mem L a = true)) →
    ∃ r, Ev (fun k => mosaicref25_Unpack.l0 k n t x6 A ((pk 0 L).length : Int)) r ∧ UnR n t.data.toList r := by
  intro m
  induction m with
  | zero =>
    intro rest L x6 A hm hi hp hA h6 hA2 hx
    have hr : rest = [] := List.length_eq_zero_iff.mp (by omega)
    subst hr
    have hl := congrArg List.length hp
    rw [List.append_nil, data_length] at hl
    rw [List.append_nil] at hp
    obtain ⟨r, hr, hU⟩ := refun_end n hn t ((pk 0 L).length : Int) A x6 (by omega) L hx (fun M gM hM => pk_inj hi (good_inc0 hn gM) (by rw [hp, hM]))
    refine ⟨r, Ev.step (fun k => ?_) hr, hU⟩
    rw [mosaicref25_Unpack.l0, w64 (by omega), if_neg (by omega)]
  | succ m ih =>
    intro rest L x6 A hm hi hp hA h6 hA2 hx
    have hl := congrArg List.length hp
    rw [List.length_append, data_length] at hl
    by_cases h2 : 2 ≤ rest.length ∧ (A : Int) ≤ n
    · obtain ⟨b, c, s, rfl⟩ : ∃ b c s, rest = b :: c :: s := by
        match rest, h2.1 with
        | b :: c :: s, _ => exact ⟨b, c, s, rfl⟩
      simp only [List.length_cons] at hl hm
      have hb := b.toNat_lt
      have hc := c.toNat_lt
      have eb := bt_at t (pk 0 L) b (c :: s) hp
      have ec := bt_at t (pk 0 L ++ [b]) c s (by rw [← hp]; simp)
      rw [List.length_append, List.length_singleton] at ec
      have hi2 : Inc 0 (L ++ [((A : Int) + b.toNat, (A : Int) + b.toNat + c.toNat)]) := (inc_append _ _ _).mpr ⟨hi, by rw [← hA]; exact ⟨by show (A : Int) ≤ A + b.toNat; omega, by show (A : Int) + b.toNat ≤ _; omega, by show (A : Int) + b.toNat ≤ A + b.toNat + c.toNat; omega, by show (A : Int) + b.toNat + c.toNat ≤ A + b.toNat + 255; omega, trivial⟩⟩
      have hpk : pk (endOf 0 L) [((A : Int) + b.toNat, (A : Int) + b.toNat + c.toNat)] = [b, c] := by
        rw [← hA]
        have q1 : ((A : Int) + b.toNat - A).toNat = b.toNat := by omega
        have q2 : ((A : Int) + b.toNat + c.toNat - ((A : Int) + b.toNat)).toNat = c.toNat := by omega
        simp only [pk]
        rw [q1, q2]
        simp
      have hlen2 : (pk 0 (L ++ [((A : Int) + b.toNat, (A : Int) + b.toNat + c.toNat)])).length = (pk 0 L).length + 2 := by rw [pk_append, hpk, List.length_append]; rfl
      -- what the loop comes to
      obtain ⟨y6, hy, hmy⟩ : ∃ y6 : List Int, y6.length ≤ A + b.toNat + c.toNat ∧ ∀ a : Int, a ∈ y6 ↔ a ∈ x6 ∨ (((A + b.toNat : Nat) : Int) ≤ a ∧ a < ((A + b.toNat : Nat) : Int) + c.toNat ∧ a < n) := by
        refine ⟨x6 ++ (span ((A + b.toNat : Nat) : Int) c.toNat).filter (fun a => decide (a < n)), ?_, fun a => ?_⟩
        · have := List.length_filter_le (fun a => decide (a < n)) (span ((A + b.toNat : Nat) : Int) c.toNat)
          rw [span_len] at this
          rw [List.length_append]; omega
        · rw [List.mem_append, List.mem_filter, mem_span, decide_eq_true_iff]
          constructor
          · rintro (h | h)
            · exact Or.inl h
            · exact Or.inr ⟨h.1.1, h.1.2, h.2⟩
          · rintro (h | h)
            · exact Or.inl h
            · exact Or.inr ⟨⟨h.1, h.2.1⟩, h.2.2⟩
      have hx2 : ∀ z6 : List Int, (∀ a : Int, a ∈ z6 ↔ a ∈ x6 ∨ (((A + b.toNat : Nat) : Int) ≤ a ∧ a < ((A + b.toNat : Nat) : Int) + c.toNat ∧ a < n)) → ∀ a : Int, 0 ≤ a → a < n → (a ∈ z6 ↔ mem (L ++ [((A : Int) + b.toNat, (A : Int) + b.toNat + c.toNat)]) a = true) := by
        intro z6 hz a h0 h1
        rw [hz, mem_append, mem_cons, mem_nil, Bool.or_false, Bool.or_eq_true, Bool.and_eq_true, decide_eq_true_iff, decide_eq_true_iff, hx a h0 h1]
        constructor
        · rintro (h | h)
          · exact Or.inl h
          · exact Or.inr ⟨by omega, by omega⟩
        · rintro (h | h)
          · exact Or.inl h
          · exact Or.inr ⟨by omega, by omega, by omega⟩
      have hA' : ((A + b.toNat + c.toNat : Nat) : Int) = endOf 0 (L ++ [((A : Int) + b.toNat, (A : Int) + b.toNat + c.toNat)]) := by rw [endOf_append]; show _ = (A : Int) + b.toNat + c.toNat; omega
      obtain ⟨r, hr, hU⟩ := ih s _ y6 (A + b.toNat + c.toNat) (by omega) hi2 (by rw [pk_append, hpk, ← hp]; simp) hA' hy (by omega) (hx2 y6 hmy)
      refine ⟨r, ?_, hU⟩
      refine Ev.step (G := fun k => mosaicref25_Unpack.j2 k n t x6 A ((pk 0 L).length : Int) true) (fun k => by rw [mosaicref25_Unpack.l0, w64 (by omega), if_pos (by omega), decide_eq_true h2.2]) ?_
      have eA : wrap64 ((A : Int) + wrap64 (bt t ((pk 0 L).length : Int))) = ((A + b.toNat : Nat) : Int) := by rw [eb, w64 (n := (b.toNat : Int)) (by omega), w64 (by omega)]; rfl
      refine Ev.step (G := fun k => mosaicref25_Unpack.l1 k n t x6 ((A + b.toNat : Nat) : Int) ((pk 0 L).length : Int) ((0 : Nat) : Int)) (fun k => by rw [mosaicref25_Unpack.j2, if_pos rfl, if_pos (by omega), if_pos (by omega), eA]; rfl) ?_
      refine refun_l1 n hn t (pk 0 L).length (by omega) ht r c.toNat ec (by omega) c.toNat 0 (A + b.toNat) x6 (by omega) (by omega) (by omega) (fun z6 hz hmz => ?_)
      -- whatever numbers came: they make the same
      obtain ⟨r2, hr2, hU2⟩ := ih s _ z6 (A + b.toNat + c.toNat) (by omega) hi2 (by rw [pk_append, hpk, ← hp]; simp) hA' hz (by omega) (hx2 z6 hmz)
      rw [UnR.unique hn hU2 hU, hlen2] at hr2
      exact hr2
    · have hnp : ∀ M, Ru.Good (-1) n M → pk 0 M = t.data.toList → M = L := by
        intro M gM hM
        by_cases h0 : rest = []
        · rw [h0, List.append_nil] at hp
          exact pk_inj hi (good_inc0 hn gM) (by rw [hp, hM])
        · exfalso
          have hpos : 0 < rest.length := List.length_pos_iff.mpr h0
          have hodd : rest.length % 2 = 1 ∨ n < endOf 0 L := by
            by_cases h1 : 2 ≤ rest.length
            · right; rw [← hA]; have : ¬ (A : Int) ≤ n := fun h => h2 ⟨h1, h⟩; omega
            · left; omega
          exact no_pack hn hi hodd ⟨M, gM, by rw [hp, hM]⟩
      obtain ⟨r, hr, hU⟩ := refun_end n hn t ((pk 0 L).length : Int) A x6 (by omega) L hx hnp
      refine ⟨r, Ev.step (fun k => ?_) hr, hU⟩
      rw [mosaicref25_Unpack.l0, w64 (by omega)]
      by_cases h1 : ((pk 0 L).length : Int) + 1 < (t.size : Int)
      · rw [if_pos h1, decide_eq_false (fun h => h2 ⟨by omega, h⟩)]
      · rw [if_neg h1]
/-- The document's set of packed bytes. -/
theorem ref_unpack (n : Int) (hn : 0 ≤ n ∧ n ≤ 160) (t : ByteArray) (ht : t.size ≤ 1000000) : ∃ r, Ev (fun k => mosaicref25_Unpack.f k n t) r ∧ UnR n t.data.toList r := by
  obtain ⟨r, hr, hU⟩ := refun_l0 n hn t ht t.size t.data.toList [] [] 0 (by rw [data_length]; omega) trivial rfl rfl (by simp) (by omega) (fun a _ _ => by rw [mem_nil]; simp)
  refine ⟨r, Ev.congr (fun k => ?_) (Ev.step (F := fun k => mosaicref25_Unpack.j0 k n t false) (fun k => by rw [mosaicref25_Unpack.j0, if_neg (by simp)]; rfl) hr), hU⟩
  unfold mosaicref25_Unpack.f
  rw [if_neg (by omega), decide_eq_false (by omega)]
theorem ref_unpack_no (n : Int) (hn : ¬ (0 ≤ n ∧ n ≤ 160)) (t : ByteArray) : Ev (fun k => mosaicref25_Unpack.f k n t) (⟨#[]⟩, 1) := by
  have hj : Ev (fun k => mosaicref25_Unpack.j0 k n t true) (⟨#[]⟩, 1) := Ev.step (G := fun _ => some _) (fun k => by rw [mosaicref25_Unpack.j0, if_pos rfl]) (Ev.const _)
  refine Ev.congr (fun k => ?_) hj
  unfold mosaicref25_Unpack.f
  by_cases h : n < 0
  · rw [if_pos h]
  · rw [if_neg h, decide_eq_true (by omega)]
theorem both_unpack (n : Int) (t : ByteArray) (ht : t.size ≤ 1000000) : ∃ r, Ev (fun k => runs_Unpack.f k n t) r ∧ Ev (fun k => mosaicref25_Unpack.f k n t) r := by
  by_cases hn : 0 ≤ n ∧ n ≤ 160
  · obtain ⟨r, h1, s1⟩ := prog_unpack n hn t ht
    obtain ⟨q, h2, s2⟩ := ref_unpack n hn t ht
    rw [UnR.unique hn s1 s2] at h1
    exact ⟨q, h1, h2⟩
  · exact ⟨_, prog_unpack_no n hn t, ref_unpack_no n hn t⟩
/-- What just one of two sets has: the program's. -/
def eitherB (a b : ByteArray) : ByteArray := Mi.opB .or (Mi.opB .andNot a b) (Mi.opB .andNot b a)
theorem prog_either (a b : ByteArray) (ha : a.size ≤ 1000) (hz : b.size = a.size) : runs_either.f a b = some (eitherB a b) := by
  unfold runs_either.f
  have e1 : Hand.bits_Minus.f a b = some (Mi.opB .andNot a b, 0) := by unfold Hand.bits_Minus.f; rw [if_pos ⟨ha, hz⟩]
  have e2 : Hand.bits_Minus.f b a = some (Mi.opB .andNot b a, 0) := by unfold Hand.bits_Minus.f; rw [if_pos ⟨by omega, hz.symm⟩]
  have e3 : Hand.bits_Or.f (Mi.opB .andNot a b) (Mi.opB .andNot b a) = some (eitherB a b, 0) := by unfold Hand.bits_Or.f; rw [if_pos ⟨by rw [op_size]; exact ha, by rw [op_size, op_size]; exact hz⟩]; rfl
  rw [e1, e2, Option.bind_some, Option.bind_some, e3]; rfl
theorem hb_either (a b : ByteArray) (hz : b.size = a.size) (i : Nat) : hb (eitherB a b) i = (hb a i != hb b i) := by
  unfold eitherB
  rw [hb_or _ _ (by rw [op_size, op_size]; exact hz), hb_minus _ _ hz, hb_minus _ _ hz.symm]
  cases hb a i <;> cases hb b i <;> rfl
theorem either_size (a b : ByteArray) : (eitherB a b).size = a.size := by unfold eitherB; rw [op_size, op_size]
theorem chk_either {n : Int} {a b : ByteArray} (ha : chk n a = true) (hb' : chk n b = true) : chk n (eitherB a b) = true := by
  have h1 := chk_true ha
  have h2 := chk_true hb'
  refine chk_mk h1.1 h1.2.1 (by rw [either_size]; exact h1.2.2.1) (fun i hi => ?_)
  rw [hb_either _ _ (by omega), h1.2.2.2 i hi, h2.2.2.2 i hi]; rfl
theorem refeither_l0 (n : Nat) (hn : n ≤ 160) (a b : ByteArray) (R : ByteArray) (hc : chk n R = true) (hR : ∀ i : Nat, (i : Int) < (n : Int) → hb R i = (hb a i != hb b i)) : ∀ (d i : Nat) (x7 : List Int), i + d = n → x7.length ≤ i → (∀ j : Int, j ∈ x7 ↔ ∃ m : Nat, j = m ∧ m < i ∧ (hb a m != hb b m) = true) →
    Ev (fun k => mosaicref25_Either.l0 k n a b x7 i) R
  | 0, i, x7, h, h7, hx => by
    obtain ⟨r, hr, hcr, hbr⟩ := make n ⟨by omega, by omega⟩ x7 (by omega)
    have e : r = R := chk_ext hcr hc (fun j hj => by
      rw [hbr j hj, hR j hj]
      cases hmm : (hb a j != hb b j) with
      | true => exact decide_eq_true ((hx j).mpr ⟨j, rfl, by omega, hmm⟩)
      | false => exact decide_eq_false (fun h => by
          obtain ⟨m, hm, _, h2⟩ := (hx j).mp h
          have : m = j := by omega
          subst this
          rw [hmm] at h2; cases h2))
    subst e
    refine Ev.step (fun k => by rw [mosaicref25_Either.l0, if_neg (by omega)]) ?_
    exact Ev.bind (G := fun t267 _ => (some t267)) hr (Ev.const _)
  | d + 1, i, x7, h, h7, hx => by
    have hw : wrap64 ((i : Int) + 1) = ((i + 1 : Nat) : Int) := by rw [w64 (by omega)]; rfl
    refine Ev.step (fun k => by rw [mosaicref25_Either.l0, if_pos (by omega), hw]) ?_
    refine Ev.bind (G := fun t268 k => _) (has_ref a i (by omega)) ?_
    refine Ev.bind (G := fun t269 k => _) (has_ref b i (by omega)) ?_
    cases hmm : (hb a i != hb b i) with
    | true =>
      refine Ev.congr (fun k => by rw [if_pos rfl, if_pos (by omega)]) (refeither_l0 n hn a b R hc hR d (i + 1) (x7 ++ [(i : Int)]) (by omega) (by simp; omega) (fun j => ?_))
      rw [List.mem_append, List.mem_singleton, hx]
      constructor
      · rintro (⟨m, h1, h2, h3⟩ | h)
        · exact ⟨m, h1, by omega, h3⟩
        · exact ⟨i, h, by omega, hmm⟩
      · rintro ⟨m, h1, h2, h3⟩
        by_cases e : m = i
        · subst e; exact Or.inr h1
        · exact Or.inl ⟨m, h1, by omega, h3⟩
    | false =>
      refine Ev.congr (fun k => by rw [if_neg (by simp)]) (refeither_l0 n hn a b R hc hR d (i + 1) x7 (by omega) (by omega) (fun j => ?_))
      rw [hx]
      constructor
      · rintro ⟨m, h1, h2, h3⟩
        exact ⟨m, h1, by omega, h3⟩
      · rintro ⟨m, h1, h2, h3⟩
        by_cases e : m = i
        · subst e; rw [hmm] at h3; cases h3
        · exact ⟨m, h1, by omega, h3⟩
theorem ref_either (n : Int) (a b : ByteArray) (ha : chk n a = true) (hb' : chk n b = true) : Ev (fun k => mosaicref25_Either.f k n a b) (eitherB a b) := by
  have h1 := chk_true ha
  have h2 := chk_true hb'
  obtain ⟨N, rfl⟩ := Int.eq_ofNat_of_zero_le h1.1
  exact refeither_l0 N (by omega) a b _ (chk_either ha hb') (fun i _ => hb_either a b (by omega) i) N 0 [] (by omega) (by simp) (fun j => Iff.intro (fun h => by cases h) (fun h => by obtain ⟨m, _, h, _⟩ := h; omega))
/-- The patch, or the error. -/
def patchR (n : Int) (a b : ByteArray) : ByteArray × Int := if chk n a = true ∧ chk n b = true then (packB n (eitherB a b), 0) else (⟨#[]⟩, 3)
theorem prog_patch (n : Int) (a b : ByteArray) : Ev (fun k => runs_Patch.f k n a b) (patchR n a b) := by
  have hno : ∀ c : Bool, c = true → Ev (fun k => runs_Patch.j0 k n a b c) (⟨#[]⟩, 3) := fun c hc => Ev.step (G := fun _ => some _) (fun k => by rw [runs_Patch.j0, if_pos hc]) (Ev.const _)
  unfold patchR
  refine Ev.bind (G := fun t245 k => (if t245 = true then ((bits_Check.f k n b).bind fun t246 => (runs_Patch.j0 k n a b (!t246))) else (runs_Patch.j0 k n a b true))) (check n a) ?_
  cases ha : chk n a with
  | false => rw [if_neg (by simp)]; exact hno true rfl
  | true =>
    refine Ev.bind (G := fun t246 k => (runs_Patch.j0 k n a b (!t246))) (check n b) ?_
    cases hb' : chk n b with
    | false => rw [if_neg (by simp)]; exact hno _ rfl
    | true =>
      have h1 := chk_true ha
      have h2 := chk_true hb'
      rw [if_pos ⟨rfl, rfl⟩]
      refine Ev.step (G := fun _ => some _) (fun k => ?_) (Ev.const _)
      rw [runs_Patch.j0, if_neg (by simp), prog_either a b (by omega) (by omega), Option.bind_some, prog_pack, if_pos (chk_either ha hb'), Option.bind_some]
theorem ref_patch (n : Int) (a b : ByteArray) (sa : a.size ≤ 140737488351232) (sb : b.size ≤ 140737488351232) : Ev (fun k => mosaicref25_Patch.f k n a b) (patchR n a b) := by
  have hno : ∀ c : Bool, c = true → Ev (fun k => mosaicref25_Patch.j0 k n a b c) (⟨#[]⟩, 3) := fun c hc => Ev.step (G := fun _ => some _) (fun k => by rw [mosaicref25_Patch.j0, if_pos hc]) (Ev.const _)
  unfold patchR
  refine Ev.bind (G := fun t245 k => (if t245 = true then ((mosaicref08_Check.f k n b).bind fun t246 => (mosaicref25_Patch.j0 k n a b (!t246))) else (mosaicref25_Patch.j0 k n a b true))) (check08 n a sa) ?_
  cases ha : chk n a with
  | false => rw [if_neg (by simp)]; exact hno true rfl
  | true =>
    refine Ev.bind (G := fun t246 k => (mosaicref25_Patch.j0 k n a b (!t246))) (check08 n b sb) ?_
    cases hb' : chk n b with
    | false => rw [if_neg (by simp)]; exact hno _ rfl
    | true =>
      have h1 := chk_true ha
      rw [if_pos ⟨rfl, rfl⟩]
      have hP := ref_pack n (eitherB a b) (by rw [either_size]; omega)
      rw [if_pos (chk_either ha hb')] at hP
      refine Ev.step (fun k => by rw [mosaicref25_Patch.j0, if_neg (by simp)]) ?_
      refine Ev.bind (G := fun t275 k => _) (ref_either n a b ha hb') ?_
      exact Ev.bind (G := fun bt276 k => (some (bt276.1, bt276.2))) hP (Ev.const _)
theorem both_apply (n : Int) (s p : ByteArray) (ss : s.size ≤ 140737488351232) (hp : p.size ≤ 1000000) : ∃ r, Ev (fun k => runs_Apply.f k n s p) r ∧ Ev (fun k => mosaicref25_Apply.f k n s p) r := by
  cases hs : chk n s with
  | false =>
    have c1 := check n s
    have c2 := check08 n s ss
    rw [hs] at c1 c2
    exact ⟨(⟨#[]⟩, 3), Ev.bind (G := fun t317 k => _) c1 (Ev.const _), Ev.bind (G := fun t317 k => _) c2 (Ev.const _)⟩
  | true =>
    have c1 := check n s
    have c2 := check08 n s ss
    rw [hs] at c1 c2
    have h1 := chk_true hs
    obtain ⟨r, u1, s1⟩ := prog_unpack n ⟨h1.1, h1.2.1⟩ p hp
    obtain ⟨q, u2, s2⟩ := ref_unpack n ⟨h1.1, h1.2.1⟩ p hp
    have e := UnR.unique ⟨h1.1, h1.2.1⟩ s1 s2
    subst e
    rcases s1 with ⟨L, g, hL, k1, k2, k3⟩ | ⟨_, rfl⟩
    · have h2 := chk_true k1
      refine ⟨(eitherB s r.1, 0), Ev.bind (G := fun t317 k => _) c1 (Ev.bind (G := fun bt318 k => _) u1 (Ev.congr (G := fun _ => some (eitherB s r.1, 0)) (fun k => ?_) (Ev.const _))), Ev.bind (G := fun t317 k => _) c2 (Ev.bind (G := fun bt318 k => _) u2 (Ev.congr (G := fun k => (mosaicref25_Either.f k n s r.1).bind fun t330 => (some (t330, 0))) (fun k => ?_) ?_))⟩
      · rw [if_pos k2, prog_either s r.1 (by omega) (by omega), Option.bind_some]
      · rw [if_pos k2]
      · exact Ev.bind (G := fun t330 k => (some (t330, (0 : Int)))) (ref_either n s r.1 hs k1) (Ev.const _)
    · refine ⟨(⟨#[]⟩, 3), Ev.bind (G := fun t317 k => _) c1 (Ev.bind (G := fun bt318 k => _) u1 (Ev.const _)), Ev.bind (G := fun t317 k => _) c2 (Ev.bind (G := fun bt318 k => _) u2 (Ev.const _))⟩
end Go.Proofs.YtbbncdbihiipcaaDoor.Th
