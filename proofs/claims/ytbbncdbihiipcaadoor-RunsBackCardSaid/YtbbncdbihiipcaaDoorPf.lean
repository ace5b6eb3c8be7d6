/- Packed runs: the program's and the document's, read and written. -/
import Derived.Test.YtbbncdbihiipcaaDoorPx0
import Derived.Test.YtbbncdbihiipcaaDoorPx3
import Derived.Test.YtbbncdbihiipcaaDoorPx6
import Derived.Test.YtbbncdbihiipcaaDoorPx7
import Derived.Test.YtbbncdbihiipcaaDoorRt
namespace Go.Proofs.YtbbncdbihiipcaaDoor.Th
open Go.RowKit Go.Proofs.YtbbncdbihiipcaaDoor.P Go.Proofs.YtbbncdbihiipcaaDoorW.PrintWords Go.Proofs.YtbbncdbihiipcaaDoor.Ru

/-- The bytes of runs. -/
def pk (last : Int) : List (Int × Int) → List UInt8
  | [] => []
  | x :: r => UInt8.ofNat (x.1 - last).toNat :: UInt8.ofNat (x.2 - x.1).toNat :: pk x.2 r
/-- Spans of which each begins and ends within a byte of what is ahead. -/
def Inc (last : Int) : List (Int × Int) → Prop
  | [] => True
  | x :: r => last ≤ x.1 ∧ x.1 ≤ last + 255 ∧ x.1 ≤ x.2 ∧ x.2 ≤ x.1 + 255 ∧ Inc x.2 r
theorem pk_map : ∀ (l : List (Int × Int)) (last : Int), Pa.pkS last (l.map Hand.toSp) = pk last l
  | [], _ => rfl
  | x :: r, last => by rw [List.map_cons, Pa.pkS, pk, pk_map r]; rfl
theorem pk_append : ∀ (a b : List (Int × Int)) (last : Int), pk last (a ++ b) = pk last a ++ pk (endOf last a) b
  | [], _, _ => rfl
  | x :: a, b, last => by rw [List.cons_append, pk, pk, pk_append a b]; rfl
theorem inc_append : ∀ (a b : List (Int × Int)) (last : Int), Inc last (a ++ b) ↔ Inc last a ∧ Inc (endOf last a) b
  | [], _, _ => by simp [Inc, endOf]
  | x :: a, b, last => by
    simp only [List.cons_append, Inc, endOf]
    rw [inc_append a b]
    constructor
    · rintro ⟨h1, h2, h3, h4, h5, h6⟩; exact ⟨⟨h1, h2, h3, h4, h5⟩, h6⟩
    · rintro ⟨⟨h1, h2, h3, h4, h5⟩, h6⟩; exact ⟨h1, h2, h3, h4, h5, h6⟩
theorem pk_len : ∀ (l : List (Int × Int)) (last : Int), (pk last l).length = 2 * l.length
  | [], _ => rfl
  | x :: r, _ => by rw [pk, List.length_cons, List.length_cons, List.length_cons, pk_len r]; omega
theorem good_inc (N : Int) (hN : N ≤ 160) : ∀ (l : List (Int × Int)) (last : Int), 0 ≤ last → Ru.Good (last - 1) N l → last ≤ N → Inc last l
  | [], _, _, _, _ => trivial
  | x :: r, last, h0, g, hl => by
    have h1 := g.1
    have h2 := g.2.1
    have h3 := g.2.2.1
    exact ⟨by omega, by omega, by omega, by omega, good_inc N hN r x.2 (by omega) (good_mono (by omega) g.2.2.2) h3⟩
theorem byte_inj {a b : Int} (ha : 0 ≤ a ∧ a ≤ 255) (hb : 0 ≤ b ∧ b ≤ 255) (h : UInt8.ofNat a.toNat = UInt8.ofNat b.toNat) : a = b := by
  have := congrArg UInt8.toNat h
  simp at this
  omega
/-- What is ahead of more bytes is ahead of more spans. -/
theorem pk_pre : ∀ (a b : List (Int × Int)) (last : Int) (rest : List UInt8), Inc last a → Inc last b → pk last b = pk last a ++ rest → ∃ c, b = a ++ c ∧ pk (endOf last a) c = rest
  | [], b, last, rest, _, _, h => ⟨b, rfl, h⟩
  | x :: a, [], last, rest, _, _, h => by rw [pk, pk] at h; cases h
  | x :: a, y :: b, last, rest, ha, hb, h => by
    rw [pk, pk, List.cons_append, List.cons_append] at h
    have h1 := (List.cons.inj h).1
    have h2 := (List.cons.inj (List.cons.inj h).2).1
    have h3 := (List.cons.inj (List.cons.inj h).2).2
    obtain ⟨a1, a2, a3, a4, a5⟩ := ha
    obtain ⟨b1, b2, b3, b4, b5⟩ := hb
    have e1 := byte_inj (a := y.1 - last) (b := x.1 - last) (by omega) (by omega) h1
    have e2 := byte_inj (a := y.2 - y.1) (b := x.2 - x.1) (by omega) (by omega) h2
    have e : x = y := Prod.ext (by omega) (by omega)
    subst e
    obtain ⟨c, hc, hk⟩ := pk_pre a b x.2 rest a5 b5 h3
    exact ⟨c, by rw [hc]; rfl, hk⟩
theorem pk_inj {a b : List (Int × Int)} {last : Int} (ha : Inc last a) (hb : Inc last b) (h : pk last b = pk last a) : b = a := by
  obtain ⟨c, hc, hk⟩ := pk_pre a b last [] ha hb (by rw [List.append_nil]; exact h)
  cases c with
  | nil => rw [hc, List.append_nil]
  | cons x r => rw [pk] at hk; cases hk
/-- The program's packed bytes. -/
theorem goodS (N : Int) (hN : N ≤ 160) : ∀ (l : List (Int × Int)) (last : Int), Ru.Good (last - 1) N l → Pa.GoodS last (l.map Hand.toSp)
  | [], _, _ => trivial
  | x :: r, last, g => by
    have h1 := g.1
    have h2 := g.2.1
    have h3 := g.2.2.1
    refine ⟨by show last ≤ x.1; omega, by show x.1 ≤ x.2; omega, by show x.2 ≤ 200; omega, goodS N hN r x.2 (good_mono (by omega) g.2.2.2)⟩
def packB (n : Int) (s : ByteArray) : ByteArray := ⟨(pk 0 (runsOf (inP s true) n.toNat)).toArray⟩
theorem prog_pack (n : Int) (s : ByteArray) : Hand.runs_Pack.f n s = some (if chk n s = true then (packB n s, 0) else (⟨#[]⟩, 3)) := by
  unfold Hand.runs_Pack.f
  rw [prog_of, Option.bind_some]
  cases hc : chk n s with
  | true =>
    have h := chk_true hc
    have g := (runsOf_good (inP s true) n.toNat).1
    have gl := good_len (n.toNat : Int) _ (-1) g (by omega)
    rw [if_pos rfl, if_pos rfl, if_pos ⟨goodS n.toNat (by omega) _ 0 g, by simp only [List.length_map]; omega⟩, if_pos rfl, pk_map]; rfl
  | false => rfl
theorem cat (a b : List UInt8) : (⟨a.toArray⟩ : ByteArray) ++ ⟨b.toArray⟩ = ⟨(a ++ b).toArray⟩ := by
  apply ByteArray.ext
  rw [ByteArray.data_append]
  simp
end Go.Proofs.YtbbncdbihiipcaaDoor.Th
/- Packed runs read again: the program's and the document's. -/
namespace Go.Proofs.YtbbncdbihiipcaaDoor.Th
open Go.RowKit Go.Proofs.YtbbncdbihiipcaaDoor.P Go.Proofs.YtbbncdbihiipcaaDoorW.PrintWords Go.Proofs.YtbbncdbihiipcaaDoor.Ru

/-- The set of packed bytes, or the error. -/
def UnR (n : Int) (t : List UInt8) (r : ByteArray × Int) : Prop :=
  (∃ L, Ru.Good (-1) n L ∧ pk 0 L = t ∧ chk n r.1 = true ∧ r.2 = 0 ∧ ∀ i : Nat, (i : Int) < n → hb r.1 i = mem L i) ∨ ((¬ ∃ L, Ru.Good (-1) n L ∧ pk 0 L = t) ∧ r = (⟨#[]⟩, 3))
theorem good_inc0 {N : Int} (hN : 0 ≤ N ∧ N ≤ 160) {L : List (Int × Int)} (g : Ru.Good (-1) N L) : Inc 0 L := good_inc N hN.2 L 0 (Int.le_refl _) (by simpa using g) hN.1
theorem UnR.unique {n : Int} (hn : 0 ≤ n ∧ n ≤ 160) {t : List UInt8} {r q : ByteArray × Int} (h : UnR n t r) (k : UnR n t q) : r = q := by
  rcases h with ⟨L, g, hp, h1, h2, h3⟩ | ⟨g, rfl⟩
  · rcases k with ⟨M, g', hp', k1, k2, k3⟩ | ⟨g', _⟩
    · have e : M = L := pk_inj (good_inc0 hn g) (good_inc0 hn g') (by rw [hp, hp'])
      subst e
      exact Prod.ext (chk_ext h1 k1 (fun i hi => by rw [h3 i hi, k3 i hi])) (by rw [h2, k2])
    · exact absurd ⟨L, g, hp⟩ g'
  · rcases k with ⟨M, g', hp', _⟩ | ⟨_, rfl⟩
    · exact absurd ⟨M, g', hp'⟩ g
    · rfl
theorem cut_first (b : UInt8) (l : List UInt8) : (⟨(b :: l).toArray⟩ : ByteArray).extract 0 1 = ⟨[b].toArray⟩ := by
  apply ByteArray.ext
  rw [ByteArray.data_extract]
  apply Array.ext'
  simp
theorem cut_rest (b : UInt8) (l : List UInt8) : (⟨(b :: l).toArray⟩ : ByteArray).extract 1 (⟨(b :: l).toArray⟩ : ByteArray).size = ⟨l.toArray⟩ := by
  apply ByteArray.ext
  rw [ByteArray.data_extract]
  apply Array.ext'
  have : (⟨(b :: l).toArray⟩ : ByteArray).size = l.length + 1 := rfl
  rw [this]
  simp
theorem sz_list (l : List UInt8) : (⟨l.toArray⟩ : ByteArray).size = l.length := rfl
theorem get_one (b : UInt8) : Hand.oct_Get.f ⟨[b].toArray⟩ = some (b.toNat : Int) := by
  unfold Hand.oct_Get.f
  rw [if_pos (show (⟨[b].toArray⟩ : ByteArray).size ≤ 7 from (by decide : 1 ≤ 7))]
  show some ((Ge.getN 0 [b] : Nat) : Int) = _
  simp [Ge.getN]
theorem num_some (b : UInt8) (l : List UInt8) : Ev (fun k => oct_Reader_Num.f k ⟨(b :: l).toArray⟩ 0 1) ((b.toNat : Int), ⟨l.toArray⟩, 0) := by
  have hc : oct_Reader_cut.f ⟨(b :: l).toArray⟩ 0 1 = some (⟨[b].toArray⟩, ⟨l.toArray⟩, 0) := by
    have hz : (⟨(b :: l).toArray⟩ : ByteArray).size = l.length + 1 := rfl
    unfold oct_Reader_cut.f
    rw [if_pos rfl, if_neg (by omega), if_neg (by omega), if_pos (by omega), if_pos (by omega), show Int.toNat 1 = 1 from rfl, cut_first, cut_rest]
  refine Ev.congr (G := fun k => oct_Reader_Num.j0 k 1 false ⟨(b :: l).toArray⟩ 0) (fun k => by unfold oct_Reader_Num.f; rw [if_neg (by omega), decide_eq_false (by omega)]) ?_
  refine Ev.step (G := fun _ => some _) (fun k => ?_) (Ev.const _)
  rw [oct_Reader_Num.j0, if_neg (by simp), hc, Option.bind_some, get_one, Option.bind_some]
theorem num_none : Ev (fun k => oct_Reader_Num.f k ⟨([] : List UInt8).toArray⟩ 0 1) (0, ⟨([] : List UInt8).toArray⟩, 7) := by
  have hc : oct_Reader_cut.f ⟨([] : List UInt8).toArray⟩ 0 1 = some (⟨#[]⟩, ⟨([] : List UInt8).toArray⟩, 7) := by
    have hz : (⟨([] : List UInt8).toArray⟩ : ByteArray).size = 0 := rfl
    unfold oct_Reader_cut.f
    rw [if_pos rfl, if_neg (by omega), if_pos (by omega)]
  refine Ev.congr (G := fun k => oct_Reader_Num.j0 k 1 false ⟨([] : List UInt8).toArray⟩ 0) (fun k => by unfold oct_Reader_Num.f; rw [if_neg (by omega), decide_eq_false (by omega)]) ?_
  refine Ev.step (G := fun _ => some _) (fun k => ?_) (Ev.const _)
  rw [oct_Reader_Num.j0, if_neg (by simp), hc, Option.bind_some]
  rfl
/-- What is at the end where the reading stopped. -/
theorem end_is (l : List UInt8) (e : Int) : oct_Reader_End.f ⟨l.toArray⟩ e = some (if e = 0 then (if l = [] then 0 else 3) else e, ⟨l.toArray⟩, e) := by
  unfold oct_Reader_End.f oct_Reader_Err.f
  simp only [Option.bind_some]
  have hl : (⟨l.toArray⟩ : ByteArray).toList = l := by rw [ByteArray.toList_eq] <;> rfl
  by_cases he : e = 0
  · subst he
    rw [if_pos rfl, hl]
    by_cases h : l = []
    · subst h; rfl
    · rw [if_neg h, if_pos rfl, if_neg h]
  · rw [if_neg he, if_neg he]
theorem set_any (n : Int) (hn : 0 ≤ n ∧ n ≤ 160) (L : List (Int × Int)) (hL : L.length ≤ 1000000) : ∃ r, Ev (fun k => runs_Set.f k n (L.map Hand.toSp)) r ∧ SetR n L r := prog_set n hn L hL
theorem inc_end : ∀ (L : List (Int × Int)) (last : Int), Inc last L → last ≤ endOf last L
  | [], _, _ => Int.le_refl _
  | x :: r, last, h => by
    have h1 := h.1
    have h3 := h.2.2.1
    have := inc_end r x.2 h.2.2.2.2
    show last ≤ endOf x.2 r
    omega
/-- Where what was read is no end of what is packed. -/
theorem no_pack {n : Int} (hn : 0 ≤ n ∧ n ≤ 160) {L : List (Int × Int)} (hi : Inc 0 L) {rest : List UInt8} (h : rest.length % 2 = 1 ∨ n < endOf 0 L) : ¬ ∃ M, Ru.Good (-1) n M ∧ pk 0 M = pk 0 L ++ rest := by
  rintro ⟨M, g, hp⟩
  obtain ⟨c, rfl, hc⟩ := pk_pre L M 0 rest hi (good_inc0 hn g) hp
  rcases h with h | h
  · rw [← hc, pk_len] at h; omega
  · have := (Ru.good_append n L c (-1)).mp g
    cases hL : L with
    | nil => rw [hL] at h; have : n < 0 := h; omega
    | cons x r =>
      rw [hL] at h this
      have hge := end_le n r x.2 this.1.2.2.2 this.1.2.2.1
      have : n < endOf x.2 r := h
      omega
theorem un_l0 (n : Int) (hn : 0 ≤ n ∧ n ≤ 160) (t : List UInt8) (ht : t.length ≤ 1000000) : ∀ (m : Nat) (rest : List UInt8) (L : List (Int × Int)), rest.length ≤ m → Inc 0 L → pk 0 L ++ rest = t →
    ∃ r, Ev (fun k => runs_Unpack.l0 k n (L.map Hand.toSp) (endOf 0 L) ⟨rest.toArray⟩ 0) r ∧ UnR n t r := by
  intro m
  induction m with
  | zero =>
    intro rest L hm hi hp
    have hr : rest = [] := List.length_eq_zero_iff.mp (by omega)
    subst hr
    rw [List.append_nil] at hp
    have hlen : L.length ≤ 1000000 := by have := pk_len L 0; rw [hp] at this; omega
    obtain ⟨q, hq, hS⟩ := set_any n hn L hlen
    have hj : ∀ r, (if q.2 = 0 then (some (q.1, (0 : Int))) else (some ((⟨#[]⟩ : ByteArray), 3))) = some r → Ev (fun k => runs_Unpack.l0 k n (L.map Hand.toSp) (endOf 0 L) ⟨([] : List UInt8).toArray⟩ 0) r := by
      intro r hr
      refine Ev.step (G := fun k => runs_Unpack.j1 k n (L.map Hand.toSp) (endOf 0 L) false ⟨([] : List UInt8).toArray⟩ 0) (fun k => by rw [runs_Unpack.l0]; rfl) ?_
      refine Ev.step (G := fun k => (runs_Set.f k n (L.map Hand.toSp)).bind fun bt312 => ((oct_Reader_End.f ⟨([] : List UInt8).toArray⟩ 0).bind fun bt314 => (if bt314.1 = 0 then (if bt312.2 = 0 then (some (bt312.1, 0)) else (some ((⟨#[]⟩ : ByteArray), 3))) else (some ((⟨#[]⟩ : ByteArray), 3))))) (fun k => by rw [runs_Unpack.j1, if_neg (by simp)]) ?_
      refine Ev.bind (G := fun bt312 _ => ((oct_Reader_End.f ⟨([] : List UInt8).toArray⟩ 0).bind fun bt314 => (if bt314.1 = 0 then (if bt312.2 = 0 then (some (bt312.1, (0 : Int))) else (some ((⟨#[]⟩ : ByteArray), 3))) else (some ((⟨#[]⟩ : ByteArray), 3))))) hq (Ev.of fun k => ?_)
      rw [end_is, Option.bind_some, if_pos rfl, if_pos rfl, if_pos rfl]
      exact hr
    rcases hS with ⟨g, c1, c2, c3⟩ | ⟨g, rfl⟩
    · refine ⟨(q.1, 0), hj _ (by rw [if_pos c2]), Or.inl ⟨L, g, hp, c1, rfl, c3⟩⟩
    · refine ⟨(⟨#[]⟩, 3), hj _ (by rw [if_neg (by decide)]), Or.inr ⟨?_, rfl⟩⟩
      rintro ⟨M, gM, hM⟩
      have e : M = L := pk_inj hi (good_inc0 hn gM) (by rw [hp, hM])
      exact g (e ▸ gM)
  | succ m ih =>
    intro rest L hm hi hp
    by_cases hr0 : rest = []
    · exact ih rest L (by rw [hr0]; simp) hi hp
    have hpos : 0 < rest.length := List.length_pos_iff.mpr hr0
    have hlen : 2 * L.length + rest.length ≤ 1000000 := by have := pk_len L 0; have h2 := congrArg List.length hp; rw [List.length_append] at h2; omega
    have hz : (⟨rest.toArray⟩ : ByteArray).size = rest.length := rfl
    have hend := inc_end L 0 hi
    -- stopped, with a fault
    have hstop : ∀ (M : List (Int × Int)) (e : Int) (s : List UInt8) (last : Int), M.length ≤ 1000000 → (if e = 0 then (if s = [] then 0 else 3) else e) ≠ 0 → Ev (fun k => runs_Unpack.j1 k n (M.map Hand.toSp) last false ⟨s.toArray⟩ e) (⟨#[]⟩, 3) := by
      intro M e s last hM hne
      obtain ⟨q, hq, _⟩ := set_any n hn M hM
      refine Ev.step (G := fun k => (runs_Set.f k n (M.map Hand.toSp)).bind fun bt312 => ((oct_Reader_End.f ⟨s.toArray⟩ e).bind fun bt314 => (if bt314.1 = 0 then (if bt312.2 = 0 then (some (bt312.1, 0)) else (some ((⟨#[]⟩ : ByteArray), 3))) else (some ((⟨#[]⟩ : ByteArray), 3))))) (fun k => by rw [runs_Unpack.j1, if_neg (by simp)]) ?_
      refine Ev.bind (G := fun bt312 _ => ((oct_Reader_End.f ⟨s.toArray⟩ e).bind fun bt314 => (if bt314.1 = 0 then (if bt312.2 = 0 then (some (bt312.1, (0 : Int))) else (some ((⟨#[]⟩ : ByteArray), 3))) else (some ((⟨#[]⟩ : ByteArray), 3))))) hq (Ev.of fun k => ?_)
      rw [end_is, Option.bind_some, if_neg hne]
    by_cases hle : endOf 0 L ≤ n
    · -- one more
      have h0 : ∀ k, runs_Unpack.l0 (k + 1) n (L.map Hand.toSp) (endOf 0 L) ⟨rest.toArray⟩ 0 = runs_Unpack.j1 k n (L.map Hand.toSp) (endOf 0 L) true ⟨rest.toArray⟩ 0 := by
        intro k
        rw [runs_Unpack.l0]
        unfold oct_Reader_Left.f
        rw [if_pos rfl, Option.bind_some, if_pos (by dsimp only; omega), decide_eq_true hle]
      obtain ⟨b, s, rfl⟩ : ∃ b s, rest = b :: s := by
        cases rest with
        | nil => exact absurd rfl hr0
        | cons b s => exact ⟨b, s, rfl⟩
      have hb := b.toNat_lt
      have e1 : wrap64 (endOf 0 L + (b.toNat : Int)) = endOf 0 L + (b.toNat : Int) := w64 (by omega)
      have hmap : ∀ (x y : Int), L.map Hand.toSp ++ [(⟨x, y⟩ : S39)] = (L ++ [(x, y)]).map Hand.toSp := fun x y => by rw [List.map_append]; rfl
      cases s with
      | nil =>
        refine ⟨(⟨#[]⟩, 3), Ev.step h0 ?_, Or.inr ⟨by rw [← hp]; exact no_pack hn hi (Or.inl rfl), rfl⟩⟩
        refine Ev.step (fun k => by rw [runs_Unpack.j1, if_pos rfl]) ?_
        refine Ev.bind (G := fun bt303 k => ((oct_Reader_Num.f k bt303.2.1 bt303.2.2 1).bind fun bt306 => (if (L.map Hand.toSp).length < 8796093022208 then (runs_Unpack.l0 k n ((L.map Hand.toSp) ++ [(⟨wrap64 (endOf 0 L + bt303.1), wrap64 ((wrap64 (endOf 0 L + bt303.1)) + bt306.1)⟩ : S39)]) (wrap64 ((wrap64 (endOf 0 L + bt303.1)) + bt306.1)) bt306.2.1 bt306.2.2) else (none)))) (num_some b []) ?_
        refine Ev.bind (G := fun bt306 k => (if (L.map Hand.toSp).length < 8796093022208 then (runs_Unpack.l0 k n ((L.map Hand.toSp) ++ [(⟨wrap64 (endOf 0 L + (b.toNat : Int)), wrap64 ((wrap64 (endOf 0 L + (b.toNat : Int))) + bt306.1)⟩ : S39)]) (wrap64 ((wrap64 (endOf 0 L + (b.toNat : Int))) + bt306.1)) bt306.2.1 bt306.2.2) else (none))) num_none ?_
        refine Ev.congr (fun k => by rw [if_pos (by rw [List.length_map]; omega), hmap]) ?_
        refine Ev.step (fun k => ?_) (hstop (L ++ [(wrap64 (endOf 0 L + (b.toNat : Int)), wrap64 ((wrap64 (endOf 0 L + (b.toNat : Int))) + 0))]) 7 [] (wrap64 ((wrap64 (endOf 0 L + (b.toNat : Int))) + 0)) (by simp; omega) (by decide))
        rw [runs_Unpack.l0]
        unfold oct_Reader_Left.f
        rw [if_neg (by decide), Option.bind_some, if_neg (by decide)]
      | cons c s =>
        have hc := c.toNat_lt
        have e2 : wrap64 (endOf 0 L + (b.toNat : Int) + (c.toNat : Int)) = endOf 0 L + (b.toNat : Int) + (c.toNat : Int) := w64 (by omega)
        have hi2 : Inc 0 (L ++ [(endOf 0 L + (b.toNat : Int), endOf 0 L + (b.toNat : Int) + (c.toNat : Int))]) := (inc_append _ _ _).mpr ⟨hi, by show endOf 0 L ≤ endOf 0 L + (b.toNat : Int); omega, by show endOf 0 L + (b.toNat : Int) ≤ _; omega, by show endOf 0 L + (b.toNat : Int) ≤ endOf 0 L + (b.toNat : Int) + (c.toNat : Int); omega, by show endOf 0 L + (b.toNat : Int) + (c.toNat : Int) ≤ endOf 0 L + (b.toNat : Int) + 255; omega, trivial⟩
        have hpk : pk (endOf 0 L) [(endOf 0 L + (b.toNat : Int), endOf 0 L + (b.toNat : Int) + (c.toNat : Int))] = [b, c] := by
          have q1 : (endOf 0 L + (b.toNat : Int) - endOf 0 L).toNat = b.toNat := by omega
          have q2 : (endOf 0 L + (b.toNat : Int) + (c.toNat : Int) - (endOf 0 L + (b.toNat : Int))).toNat = c.toNat := by omega
          simp only [pk]
          rw [q1, q2]
          simp
        obtain ⟨r, hr, hU⟩ := ih s (L ++ [(endOf 0 L + (b.toNat : Int), endOf 0 L + (b.toNat : Int) + (c.toNat : Int))]) (by simp at hm; omega) hi2 (by rw [pk_append, hpk, ← hp]; simp)
        refine ⟨r, Ev.step h0 ?_, hU⟩
        rw [endOf_append] at hr
        refine Ev.step (fun k => by rw [runs_Unpack.j1, if_pos rfl]) ?_
        refine Ev.bind (G := fun bt303 k => ((oct_Reader_Num.f k bt303.2.1 bt303.2.2 1).bind fun bt306 => (if (L.map Hand.toSp).length < 8796093022208 then (runs_Unpack.l0 k n ((L.map Hand.toSp) ++ [(⟨wrap64 (endOf 0 L + bt303.1), wrap64 ((wrap64 (endOf 0 L + bt303.1)) + bt306.1)⟩ : S39)]) (wrap64 ((wrap64 (endOf 0 L + bt303.1)) + bt306.1)) bt306.2.1 bt306.2.2) else (none)))) (num_some b (c :: s)) ?_
        refine Ev.bind (G := fun bt306 k => (if (L.map Hand.toSp).length < 8796093022208 then (runs_Unpack.l0 k n ((L.map Hand.toSp) ++ [(⟨wrap64 (endOf 0 L + (b.toNat : Int)), wrap64 ((wrap64 (endOf 0 L + (b.toNat : Int))) + bt306.1)⟩ : S39)]) (wrap64 ((wrap64 (endOf 0 L + (b.toNat : Int))) + bt306.1)) bt306.2.1 bt306.2.2) else (none))) (num_some c s) ?_
        refine Ev.congr (fun k => by rw [if_pos (by rw [List.length_map]; omega), hmap, e1, e2]) hr
    · -- past the end
      refine ⟨(⟨#[]⟩, 3), Ev.step (fun k => ?_) (hstop L 0 rest (endOf 0 L) (by omega) (by rw [if_pos rfl, if_neg hr0]; decide)), Or.inr ⟨by rw [← hp]; exact no_pack hn hi (Or.inr (by omega)), rfl⟩⟩
      rw [runs_Unpack.l0]
      unfold oct_Reader_Left.f
      rw [if_pos rfl, Option.bind_some, if_pos (by dsimp only; omega), decide_eq_false hle]
/-- The program's set of packed bytes. -/
theorem prog_unpack (n : Int) (hn : 0 ≤ n ∧ n ≤ 160) (t : ByteArray) (ht : t.size ≤ 1000000) : ∃ r, Ev (fun k => runs_Unpack.f k n t) r ∧ UnR n t.data.toList r := by
  obtain ⟨r, hr, hU⟩ := un_l0 n hn t.data.toList (by rw [data_length]; omega) t.size t.data.toList [] (by rw [data_length]; omega) trivial rfl
  refine ⟨r, Ev.congr (fun k => ?_) hr, hU⟩
  unfold runs_Unpack.f oct_From.f
  rw [show runs_may.f n = some (Bo.mayB n) from Bo.may_f n, show Bo.mayB n = true by unfold Bo.mayB; simp; omega, Option.bind_some, if_pos rfl, Option.bind_some]
  have : (⟨t.data.toList.toArray⟩ : ByteArray) = t := by apply ByteArray.ext; simp
  rw [this]; rfl
theorem prog_unpack_no (n : Int) (hn : ¬ (0 ≤ n ∧ n ≤ 160)) (t : ByteArray) : Ev (fun k => runs_Unpack.f k n t) (⟨#[]⟩, 1) := by
  refine Ev.of fun k => ?_
  unfold runs_Unpack.f
  rw [show runs_may.f n = some (Bo.mayB n) from Bo.may_f n, show Bo.mayB n = false by unfold Bo.mayB; simp; omega, Option.bind_some, if_neg (by simp)]
end Go.Proofs.YtbbncdbihiipcaaDoor.Th
/- Packed bytes read by the document, and what just one of two sets has. -/
namespace Go.Proofs.YtbbncdbihiipcaaDoor.Th
open Go.RowKit Go.Proofs.YtbbncdbihiipcaaDoor.P Go.Proofs.YtbbncdbihiipcaaDoorW.PrintWords Go.Proofs.YtbbncdbihiipcaaDoor.Ru

end Go.Proofs.YtbbncdbihiipcaaDoor.Th
