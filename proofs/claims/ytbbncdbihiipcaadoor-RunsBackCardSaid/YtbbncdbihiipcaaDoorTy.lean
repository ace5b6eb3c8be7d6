/- The text of a set, written and read by the program. -/
import Derived.Test.YtbbncdbihiipcaaDoorTx
import Derived.Test.YtbbncdbihiipcaaDoorPx1
import Derived.Test.YtbbncdbihiipcaaDoorPx3
import Derived.Test.YtbbncdbihiipcaaDoorPx4
namespace Go.Proofs.YtbbncdbihiipcaaDoor.Th
open Go.RowKit Go.Proofs.YtbbncdbihiipcaaDoor.P Go.Proofs.YtbbncdbihiipcaaDoorW.PrintWords Go.Proofs.YtbbncdbihiipcaaDoor.Ru

def pieceB (x : Int × Int) : ByteArray := ⟨(piece x).toArray⟩
theorem size_itoaB {v : Int} (h : 0 ≤ v ∧ v ≤ 200) : (Hand.itoaB v).size ≤ 3 := by
  show (Lib.itoa v).length ≤ 3
  rw [itoa_dg h.1]; exact (dg_len h).1
theorem text_piece {x : Int × Int} (h : In200 x) : Hand.runs_text.f x.1 x.2 = some (pieceB x) := by
  have r1 : 0 ≤ x.1 ∧ x.1 ≤ 200 := ⟨h.1, by have := h.2.1; have := h.2.2; omega⟩
  have r2 : 0 ≤ x.2 - 1 ∧ x.2 - 1 ≤ 200 := ⟨by have := h.2.1; have := h.1; omega, by have := h.2.2; omega⟩
  have h1 := h.2.1
  have h2 := h.2.2
  unfold Hand.runs_text.f pieceB piece
  rw [if_pos ⟨r1.1, by omega⟩]
  by_cases he : x.2 = x.1 + 1
  · rw [if_pos he, if_pos he]
    unfold Hand.itoaB
    rw [itoa_dg r1.1]
  · have s1 := size_itoaB r1
    have s2 := size_itoaB r2
    rw [if_neg he, if_neg he, if_pos ⟨by omega, by omega, by omega⟩]
    unfold Hand.itoaB
    rw [itoa_dg r1.1, itoa_dg r2.1]
    congr 1
    apply ByteArray.ext
    rw [ByteArray.data_append, ByteArray.data_append]
    simp
theorem bytes_eq {a b : ByteArray} (h : a.data.toList = b.data.toList) : a = b := ByteArray.ext (Array.ext' h)
theorem text_l0 (L : List (Int × Int)) (hL : L.length ≤ 1000) (hne : L ≠ []) (hi : ∀ x ∈ L, In200 x) : ∀ (d i : Nat), i + d = L.length →
    Ev (fun k => runs_Text.l0 k ((L.take i).map pieceB) (L.map Hand.toSp) (L.length : Int) i) (⟨(txt L).toArray⟩, 0)
  | 0, i, h => by
    have hl := txt_len hi
    rw [List.take_of_length_le (by omega)]
    refine Ev.step (G := fun _ => some _) (fun k => ?_) (Ev.const _)
    have e : (L.map pieceB).map (·.data.toList) = L.map piece := by rw [List.map_map]; rfl
    have et : txt L = Lib.join (L.map piece) [44] := by unfold txt; rw [if_neg hne]
    have hpos : 0 < L.length := List.length_pos_iff.mpr hne
    rw [runs_Text.l0, if_neg (by omega)]
    unfold Hand.strings_Join.f
    rw [e, show (⟨#[44]⟩ : ByteArray).data.toList = [44] from rfl, ← et, List.length_map, if_pos ⟨hpos, by omega, by omega⟩, Option.bind_some]
  | d + 1, i, h => by
    have hlt : i < L.length := by omega
    have hsp : rd_T39 (L.map Hand.toSp) (i : Int) = (⟨L[i].1, L[i].2⟩ : S39) := rd39 L i L[i] (List.getElem?_eq_getElem hlt)
    have hT : L.take (i + 1) = L.take i ++ [L[i]] := by rw [List.take_add_one, List.getElem?_eq_getElem hlt]; rfl
    have hx := hi L[i] (List.getElem_mem hlt)
    refine Ev.step (fun k => ?_) (text_l0 L hL hne hi d (i + 1) (by omega))
    rw [runs_Text.l0, if_pos (by omega), if_pos (by omega), if_pos (by rw [List.length_map]; omega), hsp]
    dsimp only
    rw [text_piece hx, Option.bind_some, if_pos (by rw [List.length_map, List.length_take]; omega), w64 (by omega), hT, List.map_append]; rfl
theorem prog_text (n : Int) (s : ByteArray) : Ev (fun k => runs_Text.f k n s) (if chk n s = true then (textB n s, 0) else (⟨#[]⟩, 3)) := by
  have ho : runs_Of.f n s = some (if chk n s = true then ((runsOf (inP s true) n.toNat).map Hand.toSp, 0) else ([], 3)) := by
    unfold runs_Of.f; rw [prog_of]; rfl
  cases hc : chk n s with
  | false =>
    rw [hc] at ho
    refine Ev.of fun k => ?_
    unfold runs_Text.f
    rw [ho]; rfl
  | true =>
    rw [hc] at ho
    obtain ⟨hi, hl, _⟩ := runs_in hc
    unfold textB
    generalize runsOf (inP s true) n.toNat = L at *
    have hf : ∀ k, runs_Text.f k n s = if (L.length : Int) = 0 then (some ((⟨#[45]⟩ : ByteArray), (0 : Int))) else (runs_Text.l0 k ([] : List ByteArray) (L.map Hand.toSp) (L.length : Int) 0) := by
      intro k
      unfold runs_Text.f
      rw [ho, if_pos rfl, Option.bind_some, if_pos rfl]
      simp only [List.length_map]
    refine Ev.congr hf ?_
    by_cases hne : L = []
    · subst hne; exact Ev.const _
    · refine Ev.congr (fun k => by rw [if_neg (by have := List.length_pos_iff.mpr hne; omega)]; rfl) (text_l0 L (by omega) hne hi L.length 0 (by omega))
/-- What the program makes of the runs that it read. -/
theorem read_j1 (n : Int) (hn : 0 ≤ n ∧ n ≤ 160) (t : ByteArray) (L : List (Int × Int)) (hL : L.length ≤ 1000000) (hit : ∀ s, chk n s = true → textB n s = t → runsOf (inP s true) n.toNat = L) :
    ∃ r, Ev (fun k => runs_Read.j1 k n t (L.map Hand.toSp)) r ∧ TxR n t r := by
  obtain ⟨q, hq, hS⟩ := prog_set n hn L hL
  have hj : ∀ r, Ev (fun k => if q.2 = 0 then ((runs_Text.f k n q.1).bind fun bt183 => (if bt183.1.toList = t.toList then (some (q.1, (0 : Int))) else (some ((⟨#[]⟩ : ByteArray), 3)))) else (some ((⟨#[]⟩ : ByteArray), 3))) r → Ev (fun k => runs_Read.j1 k n t (L.map Hand.toSp)) r := by
    intro r hr
    refine Ev.step (fun k => by rw [runs_Read.j1]) ?_
    exact Ev.bind (G := fun bt181 k => if bt181.2 = 0 then ((runs_Text.f k n bt181.1).bind fun bt183 => (if bt183.1.toList = t.toList then (some (bt181.1, (0 : Int))) else (some ((⟨#[]⟩ : ByteArray), 3)))) else (some ((⟨#[]⟩ : ByteArray), 3))) hq hr
  rcases hS with ⟨g, c1, c2, c3⟩ | ⟨g, rfl⟩
  · have hT := prog_text n q.1
    rw [if_pos c1] at hT
    have hb : ∀ r, (if (textB n q.1).toList = t.toList then (some (q.1, (0 : Int))) else (some ((⟨#[]⟩ : ByteArray), 3))) = some r → Ev (fun k => runs_Read.j1 k n t (L.map Hand.toSp)) r := by
      intro r hr
      refine hj r (Ev.congr (fun k => by rw [if_pos c2]) ?_)
      exact Ev.bind (G := fun bt183 _ => (if bt183.1.toList = t.toList then (some (q.1, (0 : Int))) else (some ((⟨#[]⟩ : ByteArray), 3)))) hT (Ev.of fun _ => hr)
    by_cases he : textB n q.1 = t
    · refine ⟨(q.1, 0), hb _ (by rw [he, if_pos rfl]), fun s hs ht => ?_, fun h => absurd ⟨q.1, c1, he⟩ h⟩
      have e1 := hit s hs ht
      have e2 := set_runs c1 g c3
      rw [set_of_runs c1 hs (by rw [e1, e2])]
    · refine ⟨(⟨#[]⟩, 3), hb _ (by rw [if_neg (fun h => he (bytes_eq (by rw [← ByteArray.toList_eq, ← ByteArray.toList_eq]; exact h)))]), fun s hs ht => ?_, fun _ => rfl⟩
      exfalso
      have e1 := hit s hs ht
      have e2 := set_runs c1 g c3
      rw [set_of_runs c1 hs (by rw [e1, e2])] at he
      exact he ht
  · refine ⟨(⟨#[]⟩, 3), hj _ (Ev.const _), fun s hs ht => ?_, fun _ => rfl⟩
    exfalso
    have e1 := hit s hs ht
    exact g (e1 ▸ (runs_in hs).2.2)
theorem rdOf_at (ps : List ByteArray) (i : Nat) (h : i < ps.length) : rdOf ByteArray.empty ps (i : Int) = ps[i] := by
  unfold rdOf; rw [Int.toNat_natCast, List.getD_eq_getElem?_getD, List.getElem?_eq_getElem h]; rfl
/-- The runs that pieces say. -/
def spanO (p : ByteArray) : Int × Int := (Hand.runs_span.f p).getD (0, 0)
theorem span_some (p : ByteArray) (h : p.size ≤ 1000000) : Hand.runs_span.f p = some (spanO p) := by
  unfold spanO
  cases hh : Hand.runs_span.f p with
  | some x => rfl
  | none =>
    exfalso
    unfold Hand.runs_span.f at hh
    rw [if_pos h] at hh
    split at hh
    · cases hh
    · split at hh
      · split at hh
        · cases hh
        · split at hh <;> cases hh
      · cases hh
theorem read_l0 (n : Int) (t : ByteArray) (R : ByteArray × Int) (ps : List ByteArray) (hp : ∀ p ∈ ps, p.size ≤ 1000000) (hl : ps.length ≤ 1000001) (hR : Ev (fun k => runs_Read.j1 k n t ((ps.map spanO).map Hand.toSp)) R) : ∀ (d i : Nat), i + d = ps.length →
    Ev (fun k => runs_Read.l0 k n t (((ps.take i).map spanO).map Hand.toSp) ps (ps.length : Int) i) R
  | 0, i, h => by
    rw [List.take_of_length_le (by omega)]
    exact Ev.step (fun k => by rw [runs_Read.l0, if_neg (by omega)]) hR
  | d + 1, i, h => by
    have hlt : i < ps.length := by omega
    have hT : ps.take (i + 1) = ps.take i ++ [ps[i]] := by rw [List.take_add_one, List.getElem?_eq_getElem hlt]; rfl
    refine Ev.step (fun k => ?_) (read_l0 n t R ps hp hl hR d (i + 1) (by omega))
    rw [runs_Read.l0, if_pos (by omega), if_pos (by omega), if_pos (by omega), rdOf_at ps i hlt, span_some _ (hp _ (List.getElem_mem hlt)), Option.bind_some, if_pos (by simp only [List.length_map, List.length_take]; omega), w64 (by omega), hT, List.map_append, List.map_append]; rfl
theorem split_sizes (sep : ByteArray) : ∀ (k : Nat) (s : ByteArray), ∀ p ∈ Lib.splitB sep 0 k s, p.size ≤ s.size
  | 0, s, p, h => by
    rw [Lib.splitB_zero, List.mem_singleton] at h; rw [h]; exact Nat.le_refl _
  | k + 1, s, p, h => by
    unfold Lib.splitB at h
    split at h
    · rw [List.mem_singleton] at h; rw [h]; exact Nat.le_refl _
    · rcases List.mem_cons.mp h with rfl | h
      · rw [ByteArray.size_extract]; omega
      · have := split_sizes sep k _ p h
        rw [ByteArray.size_extract] at this; omega
/-- The program's set of a text. -/
theorem prog_read (n : Int) (hn : 0 ≤ n ∧ n ≤ 160) (t : ByteArray) (ht : t.size ≤ 900000) : ∃ r, Ev (fun k => runs_Read.f k n t) r ∧ TxR n t r := by
  have hm : runs_may.f n = some true := by rw [show runs_may.f n = some (Bo.mayB n) from Bo.may_f n, show Bo.mayB n = true by unfold Bo.mayB; simp; omega]
  by_cases hd : t.toList = [45]
  · obtain ⟨r, hr, hT⟩ := read_j1 n hn t [] (by simp) (fun s hs htx => txt_dash (runs_in hs).1 (by
      have : (textB n s).toList = [45] := by rw [htx]; exact hd
      rw [ByteArray.toList_eq] at this
      exact this))
    refine ⟨r, Ev.congr (fun k => ?_) hr, hT⟩
    unfold runs_Read.f
    rw [hm, Option.bind_some, if_pos rfl, if_pos hd]; rfl
  · have hlen := Lib.splitB_all ⟨#[44]⟩ (by decide) 0 _ t rfl
    have hcl := Lib.countB_le ⟨#[44]⟩ (by decide) t.size t (Nat.le_refl _)
    have hps := split_sizes ⟨#[44]⟩ (Lib.countB t ⟨#[44]⟩) t
    have hdata := Lib.splitB_data ⟨#[44]⟩ 0 (Lib.countB t ⟨#[44]⟩) t
    have hsp : Hand.strings_Split.f t ⟨#[44]⟩ = some (Lib.splitB ⟨#[44]⟩ 0 (Lib.countB t ⟨#[44]⟩) t) := by unfold Hand.strings_Split.f; rw [if_pos ⟨by omega, rfl⟩]
    have hcb : Lib.countB t ⟨#[44]⟩ = Lib.count t.data.toList [44] := rfl
    rw [hcb] at hlen hcl hps hdata hsp
    generalize hP : Lib.splitB ⟨#[44]⟩ 0 (Lib.count t.data.toList [44]) t = ps at *
    obtain ⟨r, hr, hT⟩ := read_j1 n hn t (ps.map spanO) (by rw [List.length_map]; omega) (fun s hs htx => by
      obtain ⟨hi, hl, _⟩ := runs_in hs
      have hx : txt (runsOf (inP s true) n.toNat) = t.data.toList := by rw [← htx]; rfl
      generalize runsOf (inP s true) n.toNat = L at *
      have hne : L ≠ [] := by
        intro e; subst e
        apply hd
        rw [ByteArray.toList_eq, ← hx]; rfl
      have hj : t.data.toList = Lib.join (L.map piece) [44] := by rw [← hx]; unfold txt; rw [if_neg hne]
      rw [hj] at hdata
      have hq : ps.map (·.data.toList) = L.map piece := by
        rw [hdata, show (⟨#[44]⟩ : ByteArray).data.toList = [44] from rfl]
        cases hm2 : L.map piece with
        | nil => exact absurd (List.map_eq_nil_iff.mp hm2) hne
        | cons x r =>
          refine split_join x r (fun y hy => ?_)
          rw [← hm2] at hy
          obtain ⟨z, hz, rfl⟩ := List.mem_map.mp hy
          exact piece_no44 (hi z hz)
      have hq2 : ps = L.map pieceB := by
        apply List.ext_getElem?
        intro j
        have := congrArg (fun l => l[j]?) hq
        simp only [List.getElem?_map] at this ⊢
        cases h1 : ps[j]? <;> cases h2 : L[j]? <;> rw [h1, h2] at this <;> simp at this ⊢
        exact bytes_eq this
      rw [hq2, List.map_map]
      symm
      have : ∀ x ∈ L, (spanO ∘ pieceB) x = x := fun x hx => by
        show spanO (pieceB x) = x
        unfold spanO pieceB
        rw [span_piece (hi x hx)]; rfl
      rw [List.map_congr_left this, List.map_id'' (fun _ => rfl)])
    refine ⟨r, Ev.congr (fun k => ?_) (read_l0 n t r ps (fun p hp => Nat.le_trans (hps p hp) (by omega)) (by omega) hr ps.length 0 (by omega)), hT⟩
    unfold runs_Read.f
    rw [hm, Option.bind_some, if_pos rfl, if_neg hd, hsp, Option.bind_some]; rfl
theorem prog_read_no (n : Int) (hn : ¬ (0 ≤ n ∧ n ≤ 160)) (t : ByteArray) : Ev (fun k => runs_Read.f k n t) (⟨#[]⟩, 1) := by
  refine Ev.of fun k => ?_
  unfold runs_Read.f
  rw [show runs_may.f n = some (Bo.mayB n) from Bo.may_f n, show Bo.mayB n = false by unfold Bo.mayB; simp; omega, Option.bind_some, if_neg (by simp)]
end Go.Proofs.YtbbncdbihiipcaaDoor.Th
