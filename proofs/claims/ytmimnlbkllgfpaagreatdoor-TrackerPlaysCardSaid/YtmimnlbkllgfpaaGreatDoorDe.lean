/- The document's table beside the program's: in plain lists. -/
import Derived.Test.YtmimnlbkllgfpaaGreatDoorNp
import Derived.Test.YtmimnlbkllgfpaaGreatDoorAx8
import Derived.Sort.Walk0
import Derived.Test.YtmimnlbkllgfpaaGreatDoorAx9
import Derived.Test.YtmimnlbkllgfpaaGreatDoorAx17
namespace Go.Proofs.YtmimnlbkllgfpaaGreatDoor.Tb
set_option linter.unusedVariables false
set_option linter.unusedSimpArgs false
open Go.RowKit Go.Maps Go.Proofs.YtmimnlbkllgfpaaGreatDoor.A Go.Proofs.YtmimnlbkllgfpaaGreatDoorW.PrintWords Go.Proofs.YtmimnlbkllgfpaaGreatDoor.Di Go.Proofs.YtmimnlbkllgfpaaGreatDoor.So

/-- A note as the document has it, and back. -/
def dN (x : Nt) : S42 := ⟨x.f0, x.f1, ⟨x.f2.f0, x.f2.f1⟩, x.f3⟩
def pN (y : S42) : Nt := ⟨y.f0, y.f1, ⟨y.f2.f0, y.f2.f1⟩, y.f3⟩
theorem dN_pN (y : S42) : dN (pN y) = y := rfl
theorem pN_dN (x : Nt) : pN (dN x) = x := rfl
def nmD (y : S42) : List UInt8 := y.f0.data.toList
theorem nm_eq {y : S42} {s : ByteArray} : y.f0.toList = s.toList ↔ nmD y = s.data.toList := by rw [ByteArray.toList_eq, ByteArray.toList_eq]; rfl
/-- In the order of names and nodes. -/
def Bf (a b : S42) : Prop := nmD a < nmD b ∨ (nmD a = nmD b ∧ a.f1 < b.f1)
theorem Bf.irr (a : S42) : ¬ Bf a a := by
  rintro (h | h)
  · exact List.lt_irrefl _ h
  · omega
theorem Bf.trans {a b c : S42} (h : Bf a b) (k : Bf b c) : Bf a c := by
  rcases h with h | ⟨h1, h2⟩ <;> rcases k with k | ⟨k1, k2⟩
  · exact Or.inl (List.lt_trans h k)
  · exact Or.inl (by rw [← k1]; exact h)
  · exact Or.inl (by rw [h1]; exact k)
  · exact Or.inr ⟨h1.trans k1, by omega⟩
theorem Bf.asym {a b : S42} (h : Bf a b) : ¬ Bf b a := fun k => Bf.irr a (h.trans k)
theorem lt_tri (a b : List UInt8) : a < b ∨ a = b ∨ b < a := by
  rcases Classical.em (a < b) with h | h
  · exact Or.inl h
  · rcases Classical.em (b < a) with k | k
    · exact Or.inr (Or.inr k)
    · exact Or.inr (Or.inl (List.le_antisymm (List.not_lt.1 k) (List.not_lt.1 h)))
theorem Bf.tri (a b : S42) : Bf a b ∨ (nmD a = nmD b ∧ a.f1 = b.f1) ∨ Bf b a := by
  rcases lt_tri (nmD a) (nmD b) with h | h | h
  · exact Or.inl (Or.inl h)
  · rcases Int.lt_trichotomy a.f1 b.f1 with k | k | k
    · exact Or.inl (Or.inr ⟨h, k⟩)
    · exact Or.inr (Or.inl ⟨h, k⟩)
    · exact Or.inr (Or.inr (Or.inr ⟨h.symm, k⟩))
  · exact Or.inr (Or.inr (Or.inl h))
theorem sorted_eq {α : Type} {lt : α → α → Prop} (irr : ∀ a, ¬ lt a a) (asym : ∀ a b, lt a b → ¬ lt b a) : ∀ {l m : List α}, l.Pairwise lt → m.Pairwise lt → (∀ x, x ∈ l ↔ x ∈ m) → l = m
  | [], [], _, _, _ => rfl
  | [], b :: m, _, _, h => absurd ((h b).2 (List.mem_cons_self ..)) (List.not_mem_nil)
  | a :: l, [], _, _, h => absurd ((h a).1 (List.mem_cons_self ..)) (List.not_mem_nil)
  | a :: l, b :: m, hl, hm, h => by
    rw [List.pairwise_cons] at hl hm
    have e : a = b := by
      rcases List.mem_cons.1 ((h a).1 (List.mem_cons_self ..)) with e | e
      · exact e
      · rcases List.mem_cons.1 ((h b).2 (List.mem_cons_self ..)) with e2 | e2
        · exact e2.symm
        · exact absurd (hl.1 b e2) (asym _ _ (hm.1 a e))
    subst e
    congr 1
    refine sorted_eq irr asym hl.2 hm.2 (fun x => ⟨fun hx => ?_, fun hx => ?_⟩)
    · rcases List.mem_cons.1 ((h x).1 (List.mem_cons_of_mem _ hx)) with e | e
      · subst e; exact absurd (hl.1 x hx) (irr x)
      · exact e
    · rcases List.mem_cons.1 ((h x).2 (List.mem_cons_of_mem _ hx)) with e | e
      · subst e; exact absurd (hm.1 x hx) (irr x)
      · exact e
/-- What each note of a table is. -/
def NoteOk (T : TT) : Prop := ∀ s j x, T s j = some x → x.f0.data.toList = s ∧ x.f1 = (j : Int) ∧ 1 ≤ j ∧ j < 16
/-- The document's list of a table. -/
structure Dc (T : TT) (L : List S42) : Prop where
  mem : ∀ y, y ∈ L ↔ T (nmD y) y.f1.toNat = some (pN y)
  srt : L.Pairwise Bf
theorem Dc.at {T : TT} {L : List S42} (h : Dc T L) (hn : NoteOk T) {s : List UInt8} {j : Nat} {x : Nt} (hx : T s j = some x) : dN x ∈ L := by
  obtain ⟨h1, h2, _⟩ := hn s j x hx
  rw [h.mem]
  show T (x.f0.data.toList) x.f1.toNat = some (pN (dN x))
  rw [h1, h2, Int.toNat_natCast, pN_dN]; exact hx
theorem cntL_in {f : Nat → Option Nt} {now : Int} {x : Nt} {j : Nat} (hx : f j = some x) (hw : now ≤ x.f3) : ∀ m, j < m → x ∈ cntL f now m
  | 0, h => by omega
  | m + 1, h => by
    rw [cntL, List.mem_append]
    rcases Nat.lt_or_ge j m with q | q
    · exact Or.inl (cntL_in hx hw m q)
    · obtain rfl : j = m := by omega
      rw [hx]
      exact Or.inr (by simp [hw])
theorem nodesL_iff {T : TT} (hn : NoteOk T) {s : List UInt8} {now : Int} (htk : tickB now = true) (x : Nt) : x ∈ nodesL T s now ↔ ∃ j, T s j = some x ∧ now ≤ x.f3 := by
  constructor
  · intro h
    obtain ⟨j, _, h1, h2⟩ := nodesL_mem h
    exact ⟨j, h1, h2⟩
  · rintro ⟨j, h1, h2⟩
    unfold nodesL
    rw [if_pos htk]
    exact cntL_in h1 h2 16 (hn _ _ _ h1).2.2.2
/-- Which notes of the list count, of a name. -/
def cN (s : List UInt8) (now : Int) (y : S42) : Bool := decide (nmD y = s) && decide (now ≤ y.f3)
theorem nodes_doc {T : TT} {L : List S42} (hn : NoteOk T) (hD : Dc T L) (s : List UInt8) {now : Int} (htk : tickB now = true) : (nodesL T s now).map dN = L.filter (cN s now) := by
  refine sorted_eq (lt := Bf) Bf.irr (fun _ _ h => h.asym) ?_ (hD.srt.sublist List.filter_sublist) (fun y => ?_)
  · rw [List.pairwise_map]
    refine (nodesL_pw (fun s j x h => (hn s j x h).2.1) s now).imp_of_mem (fun {a b} ha hb hab => Or.inr ⟨?_, hab⟩)
    obtain ⟨j, h1, _⟩ := (nodesL_iff hn htk a).1 ha
    obtain ⟨i, h2, _⟩ := (nodesL_iff hn htk b).1 hb
    exact (hn _ _ _ h1).1.trans (hn _ _ _ h2).1.symm
  · rw [List.mem_map, List.mem_filter]
    constructor
    · rintro ⟨x, hx, rfl⟩
      obtain ⟨j, h1, h2⟩ := (nodesL_iff hn htk x).1 hx
      refine ⟨hD.at hn h1, ?_⟩
      unfold cN
      rw [Bool.and_eq_true, decide_eq_true_eq, decide_eq_true_eq]
      exact ⟨(hn _ _ _ h1).1, h2⟩
    · rintro ⟨h1, h2⟩
      unfold cN at h2
      rw [Bool.and_eq_true, decide_eq_true_eq, decide_eq_true_eq] at h2
      refine ⟨pN y, (nodesL_iff hn htk _).2 ⟨y.f1.toNat, ?_, h2.2⟩, dN_pN y⟩
      rw [← h2.1]
      exact (hD.mem y).1 h1
theorem dtick (n : Int) : mosaicref18_Tick.f n = some (tickB n) := by
  unfold mosaicref18_Tick.f tickB
  by_cases h : n ≥ 0
  · rw [if_pos h]; congr 1; simp; omega
  · rw [if_neg h]; congr 1; simp; omega
theorem rd42 {L : List S42} {j : Nat} (h : j < L.length) : rd_T42 L (j : Int) = L[j] := by
  unfold rd_T42; rw [Int.toNat_natCast, List.getD_eq_getElem?_getD, List.getElem?_eq_getElem h]; rfl
theorem wS {j : Nat} (h : j ≤ 1000000) : wrap64 ((j : Int) + 1) = ((j + 1 : Nat) : Int) := by unfold wrap64; omega
theorem nodes_l0 (L : List S42) (hl : L.length ≤ 1000) (room : Int) (s : ByteArray) (now : Int) : ∀ (m j k : Nat) (out : List S42), j + m = L.length → m < k → out.length ≤ j →
    mosaicref31_Table_Nodes.l0 k s now out (j : Int) room L = some (out ++ if tickB now = true then (L.drop j).filter (cN s.data.toList now) else [])
  | m, j, 0, out, _, hk, _ => by omega
  | 0, j, k + 1, out, hj, hk, ho => by
    rw [mosaicref31_Table_Nodes.l0, if_neg (by omega), List.drop_eq_nil_of_le (by omega)]; simp
  | m + 1, j, k + 1, out, hj, hk, ho => by
    have hlt : j < L.length := by omega
    have g1 : (j : Int) < (L.length : Int) := by omega
    have g2 : (0 : Int) ≤ (j : Int) := by omega
    rw [mosaicref31_Table_Nodes.l0, if_pos g1, dtick, Option.bind_some, rd42 hlt, wS (by omega)]
    have ih := fun o ho => nodes_l0 L hl room s now m (j + 1) k o (by omega) (by omega) ho
    cases htk : tickB now with
    | false =>
      rw [htk] at ih
      rw [if_neg (by simp), ih _ (by omega)]; simp
    | true =>
      rw [htk] at ih
      rw [if_pos rfl, if_pos rfl, if_pos g2, List.drop_eq_getElem_cons hlt, List.filter_cons]
      by_cases h1 : nmD L[j] = s.data.toList
      · rw [if_pos (nm_eq.2 h1)]
        by_cases h2 : now ≤ L[j].f3
        · rw [if_pos h2, if_pos (by omega), ih _ (by rw [List.length_append, List.length_singleton]; omega), if_pos rfl, if_pos (by unfold cN; simp [h1, h2])]
          simp
        · rw [if_neg h2, ih _ (by omega), if_pos rfl, if_neg (by unfold cN; simp [h2])]
      · rw [if_neg (fun h => h1 (nm_eq.1 h)), ih _ (by omega), if_pos rfl, if_neg (by unfold cN; simp [h1])]
theorem dnodes (L : List S42) (hl : L.length ≤ 1000) (room : Int) (s : ByteArray) (now : Int) (k : Nat) (hk : L.length < k) :
    mosaicref31_Table_Nodes.f k room L s now = some (if tickB now = true then L.filter (cN s.data.toList now) else []) := by
  have := nodes_l0 L hl room s now L.length 0 k [] (by omega) hk (by simp)
  unfold mosaicref31_Table_Nodes.f
  simpa using this
/-- The document's nodes are the program's. -/
theorem dnodes_eq {T : TT} {L : List S42} (hn : NoteOk T) (hD : Dc T L) (hl : L.length ≤ 1000) (room : Int) (s : ByteArray) (now : Int) (k : Nat) (hk : L.length < k) :
    mosaicref31_Table_Nodes.f k room L s now = some ((nodesL T s.data.toList now).map dN) := by
  rw [dnodes L hl room s now k hk]
  cases htk : tickB now with
  | false => rw [if_neg (by simp)]; unfold nodesL; rw [htk, if_neg (by simp)]; rfl
  | true => rw [if_pos rfl, nodes_doc hn hD s.data.toList htk]
end Go.Proofs.YtmimnlbkllgfpaaGreatDoor.Tb
/- The document's names, and what it makes of an announcement or a leave: in plain lists. -/
namespace Go.Proofs.YtmimnlbkllgfpaaGreatDoor.Tb
set_option linter.unusedVariables false
set_option linter.unusedSimpArgs false
open Go.RowKit Go.Maps Go.Proofs.YtmimnlbkllgfpaaGreatDoor.A Go.Proofs.YtmimnlbkllgfpaaGreatDoorW.PrintWords Go.Proofs.YtmimnlbkllgfpaaGreatDoor.Di Go.Proofs.YtmimnlbkllgfpaaGreatDoor.So

/-- What the names of a list's beginning are. -/
structure NmIs (L : List S42) (now : Int) (out : List ByteArray) : Prop where
  srt : out.Pairwise (fun a b => a.data.toList < b.data.toList)
  has : ∀ z ∈ out, ∃ y ∈ L, y.f0 = z ∧ now ≤ y.f3
  all : ∀ y ∈ L, now ≤ y.f3 → y.f0 ∈ out
theorem ba_inj {a b : ByteArray} (h : a.data.toList = b.data.toList) : a = b := by
  cases a; cases b; congr 1; exact Array.ext' h
theorem names_l0 (L : List S42) (hs : L.Pairwise Bf) (hl : L.length ≤ 1000) (room : Int) (now : Int) (htk : tickB now = true) : ∀ (m j k : Nat) (out : List ByteArray), j + m = L.length → m < k → out.length ≤ j → NmIs (L.take j) now out →
    ∃ r, mosaicref31_Table_Names.l0 k now out (j : Int) room L = some r ∧ NmIs L now r ∧ r.length ≤ L.length
  | m, j, 0, out, _, hk, _, _ => by omega
  | 0, j, k + 1, out, hj, hk, ho, hI => by
    rw [mosaicref31_Table_Names.l0, if_neg (by omega)]
    rw [List.take_of_length_le (by omega)] at hI
    exact ⟨out, rfl, hI, by omega⟩
  | m + 1, j, k + 1, out, hj, hk, ho, hI => by
    have hlt : j < L.length := by omega
    have g1 : (j : Int) < (L.length : Int) := by omega
    have g2 : (0 : Int) ≤ (j : Int) := by omega
    have ih := fun o ho => names_l0 L hs hl room now htk m (j + 1) k o (by omega) (by omega) ho
    rw [mosaicref31_Table_Names.l0, if_pos g1, dtick, Option.bind_some, htk, if_pos rfl, if_pos g2, rd42 hlt, wS (by omega)]
    have htj : L.take (j + 1) = L.take j ++ [L[j]] := by rw [List.take_add_one, List.getElem?_eq_getElem hlt]; rfl
    have hb : ∀ y ∈ L.take j, Bf y L[j] := fun y hy => by
      have h1 : L = L.take j ++ L.drop j := (List.take_append_drop j L).symm
      rw [h1] at hs
      refine (List.pairwise_append.1 hs).2.2 y hy _ ?_
      rw [List.drop_eq_getElem_cons hlt]; exact List.mem_cons_self ..
    have hle : ∀ z ∈ out, z.data.toList < nmD L[j] ∨ z.data.toList = nmD L[j] := fun z hz => by
      obtain ⟨y, hy, rfl, _⟩ := hI.has z hz
      rcases hb y hy with h | ⟨h, _⟩
      · exact Or.inl h
      · exact Or.inr h
    have push : now ≤ L[j].f3 → (∀ z ∈ out, z.data.toList < nmD L[j]) → NmIs (L.take (j + 1)) now (out ++ [L[j].f0]) := fun hw hz => by
      refine ⟨List.pairwise_append.2 ⟨hI.srt, List.pairwise_singleton _ _, fun a ha b hb => ?_⟩, fun z hz' => ?_, fun y hy hyw => ?_⟩
      · obtain rfl := List.mem_singleton.1 hb
        exact hz a ha
      · rw [htj]
        rcases List.mem_append.1 hz' with h | h
        · obtain ⟨y, h1, h2⟩ := hI.has z h
          exact ⟨y, List.mem_append_left _ h1, h2⟩
        · obtain rfl := List.mem_singleton.1 h
          exact ⟨_, List.mem_append_right _ (List.mem_singleton.2 rfl), rfl, hw⟩
      · rw [htj] at hy
        rcases List.mem_append.1 hy with h | h
        · exact List.mem_append_left _ (hI.all y h hyw)
        · obtain rfl := List.mem_singleton.1 h
          exact List.mem_append_right _ (List.mem_singleton.2 rfl)
    have keep : (now ≤ L[j].f3 → L[j].f0 ∈ out) → NmIs (L.take (j + 1)) now out := fun hw => by
      refine ⟨hI.srt, fun z hz' => ?_, fun y hy hyw => ?_⟩
      · obtain ⟨y, h1, h2⟩ := hI.has z hz'
        rw [htj]
        exact ⟨y, List.mem_append_left _ h1, h2⟩
      · rw [htj] at hy
        rcases List.mem_append.1 hy with h | h
        · exact hI.all y h hyw
        · obtain rfl := List.mem_singleton.1 h
          exact hw hyw
    by_cases hw : now ≤ L[j].f3
    · rw [if_pos hw]
      rcases List.eq_nil_or_concat out with rfl | ⟨init, z, hz⟩
      · rw [if_pos (by rfl), if_pos (by decide)]
        exact ih _ (by simp) (push hw (fun z hz => by cases hz))
      · have hz' : out = init ++ [z] := by simpa using hz
        have hll : out.length = init.length + 1 := by rw [hz', List.length_append, List.length_singleton]
        have hw2 : wrap64 ((out.length : Int) - 1) = (init.length : Int) := by unfold wrap64; omega
        have hrd : rdOf ByteArray.empty out (init.length : Int) = z := by unfold rdOf; rw [Int.toNat_natCast, hz', List.getD_eq_getElem?_getD, List.getElem?_append_right (by omega)]; simp
        rw [if_neg (by omega), hw2, if_pos (by omega), if_pos (by omega), hrd]
        have hzin : z ∈ out := by rw [hz']; simp
        by_cases hq : z.toList = L[j].f0.toList
        · rw [if_pos hq]
          have e : z = L[j].f0 := ba_inj (by rw [ByteArray.toList_eq, ByteArray.toList_eq] at hq; exact hq)
          exact ih _ (by omega) (keep (fun _ => by rw [← e]; exact hzin))
        · rw [if_neg hq, if_pos (by omega)]
          refine ih _ (by rw [List.length_append, List.length_singleton]; omega) (push hw (fun a ha => ?_))
          have hzl : z.data.toList < nmD L[j] := by
            rcases hle z hzin with h | h
            · exact h
            · exact absurd (by rw [ByteArray.toList_eq, ByteArray.toList_eq]; exact h) hq
          rw [hz'] at ha
          rcases List.mem_append.1 ha with h | h
          · have hsr := hI.srt
            rw [hz'] at hsr
            exact List.lt_trans ((List.pairwise_append.1 hsr).2.2 a h z (List.mem_singleton.2 rfl)) hzl
          · obtain rfl := List.mem_singleton.1 h; exact hzl
    · rw [if_neg hw]
      exact ih _ (by omega) (keep (fun h => absurd h hw))
theorem names_off (L : List S42) (hl : L.length ≤ 1000) (room : Int) (now : Int) (htk : tickB now = false) : ∀ (m j k : Nat), j + m = L.length → m < k →
    mosaicref31_Table_Names.l0 k now [] (j : Int) room L = some []
  | m, j, 0, _, hk => by omega
  | 0, j, k + 1, hj, hk => by rw [mosaicref31_Table_Names.l0, if_neg (by omega)]
  | m + 1, j, k + 1, hj, hk => by
    rw [mosaicref31_Table_Names.l0, if_pos (by omega), dtick, Option.bind_some, htk, if_neg (by simp), wS (by omega)]
    exact names_off L hl room now htk m (j + 1) k (by omega) (by omega)
/-- The document's names are the program's. -/
theorem dnames {W : World} {lo t bm n : Nat} {rm : Int} {D : DataW Unit} {T : TT} (hT : Tab W lo t bm n rm D T) {L : List S42} (hD : Dc T L) (hl : L.length ≤ 1000) (room : Int) (now : Int) (k : Nat) (hk : L.length < k) :
    mosaicref31_Table_Names.f k room L now = some ((namesL T now D).map ba) := by
  have hn : NoteOk T := fun s j x h => hT.note s j x h
  have hA := namesAre hT now
  unfold mosaicref31_Table_Names.f
  cases htk : tickB now with
  | false =>
    have h0 : mosaicref31_Table_Names.l0 k now [] 0 room L = some [] := names_off L hl room now htk L.length 0 k (by omega) hk
    rw [h0]
    have : namesL T now D = [] := by
      rcases List.eq_nil_or_concat (namesL T now D) with h | ⟨i, z, h⟩
      · exact h
      · exfalso
        have h1 := (hA.2 z).1 (by rw [h]; simp)
        unfold nodesL at h1
        rw [htk] at h1
        exact h1 rfl
    rw [this]; rfl
  | true =>
    obtain ⟨r, hr, hI, _⟩ := names_l0 L hD.srt hl room now htk L.length 0 k [] (by omega) hk (by simp) ⟨List.Pairwise.nil, fun z h => (by cases h), fun y h => (by simp at h)⟩
    have hr' : mosaicref31_Table_Names.l0 k now [] 0 room L = some r := hr
    rw [hr']
    congr 1
    refine sorted_eq (lt := fun a b : ByteArray => a.data.toList < b.data.toList) (fun a => List.lt_irrefl _) (fun a b h k => List.lt_irrefl _ (List.lt_trans h k)) hI.srt ?_ (fun z => ?_)
    · rw [List.pairwise_map]
      have tr : ∀ a b c : List UInt8, leB a b = true → leB b c = true → leB a c = true := fun a b c h1 h2 => by simp only [leB, decide_eq_true_eq] at *; exact List.le_trans h1 h2
      have tot : ∀ a b : List UInt8, (leB a b || leB b a) = true := fun a b => by simp only [leB, Bool.or_eq_true, decide_eq_true_eq]; exact List.le_total a b
      have h1 := (List.pairwise_mergeSort tr tot (strKeys D)).sublist (List.filter_sublist (p := there T now))
      have h2 : (namesL T now D).Nodup := hA.1
      refine (List.Pairwise.and h1 h2).imp (fun {a b} h => ?_)
      rcases lt_tri a b with q | q | q
      · exact q
      · exact absurd q h.2
      · have := h.1; simp only [leB, decide_eq_true_eq] at this
        exact absurd q (List.not_lt.2 this)
    · rw [List.mem_map]
      constructor
      · intro hz
        obtain ⟨y, hy, rfl, hw⟩ := hI.has z hz
        refine ⟨nmD y, (hA.2 _).2 (fun h => ?_), ba_inj rfl⟩
        have h1 := (nodesL_iff hn htk (pN y)).2 ⟨_, (hD.mem y).1 hy, hw⟩
        rw [h] at h1; cases h1
      · rintro ⟨s, hs, rfl⟩
        have h1 := (hA.2 s).1 hs
        obtain ⟨x, hx⟩ := List.exists_mem_of_ne_nil _ h1
        obtain ⟨j, h2, h3⟩ := (nodesL_iff hn htk x).1 hx
        have := hI.all (dN x) (hD.at hn h2) h3
        have e : (dN x).f0 = ba s := ba_inj (by rw [ba_data]; exact (hn _ _ _ h2).1)
        rw [← e]; exact this
end Go.Proofs.YtmimnlbkllgfpaaGreatDoor.Tb
/- What the document makes of an announcement: in plain lists. -/
namespace Go.Proofs.YtmimnlbkllgfpaaGreatDoor.Tb
set_option linter.unusedVariables false
set_option linter.unusedSimpArgs false
open Go.RowKit Go.Maps Go.Proofs.YtmimnlbkllgfpaaGreatDoor.A Go.Proofs.YtmimnlbkllgfpaaGreatDoorW.PrintWords Go.Proofs.YtmimnlbkllgfpaaGreatDoor.Di Go.Proofs.YtmimnlbkllgfpaaGreatDoor.So

def bfB (x y : S42) : Bool := decide (nmD x < nmD y) || (decide (nmD x = nmD y) && decide (x.f1 < y.f1))
theorem bfB_iff (x y : S42) : bfB x y = true ↔ Bf x y := by unfold bfB Bf; simp
theorem before_eq (x y : S42) : mosaicref31_before.f x.f0 x.f1 x.f2.f0 x.f2.f1 x.f3 y.f0 y.f1 y.f2.f0 y.f2.f1 y.f3 = some (bfB x y) := by
  unfold mosaicref31_before.f bfB
  rw [bytesLess_eq, ByteArray.toList_eq, ByteArray.toList_eq]
  show (if decide (nmD x < nmD y) = true then some true else if nmD x = nmD y then _ else _) = _
  by_cases h : nmD x < nmD y
  · rw [if_pos (decide_eq_true h), decide_eq_true h]; rfl
  · rw [if_neg (by simpa using h), decide_eq_false h]
    by_cases k : nmD x = nmD y
    · rw [if_pos k, decide_eq_true k]; rfl
    · rw [if_neg k, decide_eq_false k]; rfl
/-- Which notes stay when one is announced. -/
def keepB (x : S42) (now : Int) (y : S42) : Bool := !(decide (y.f3 < now) || (decide (nmD y = nmD x) && decide (y.f1 = x.f1)))
/-- A note put in its place. -/
def insN (x : S42) (now : Int) : List S42 → List S42
  | [] => [x]
  | y :: r => if keepB x now y = true then (if bfB x y = true then x :: y :: r.filter (keepB x now) else y :: insN x now r) else insN x now r
theorem insN_len (x : S42) (now : Int) : ∀ l, (insN x now l).length ≤ l.length + 1
  | [] => by simp [insN]
  | y :: r => by
    have ih := insN_len x now r
    have h := List.length_filter_le (keepB x now) r
    unfold insN
    split
    · split
      · simp only [List.length_cons]; omega
      · simp only [List.length_cons]; omega
    · simp only [List.length_cons]; omega
theorem insN_mem (x : S42) (now : Int) (z : S42) : ∀ l, z ∈ insN x now l ↔ z = x ∨ (z ∈ l ∧ keepB x now z = true)
  | [] => by simp [insN]
  | y :: r => by
    have ih := insN_mem x now z r
    unfold insN
    split
    · next hk =>
      split
      · rw [List.mem_cons, List.mem_cons, List.mem_filter, List.mem_cons]
        constructor
        · rintro (h | rfl | h)
          · exact Or.inl h
          · exact Or.inr ⟨Or.inl rfl, hk⟩
          · exact Or.inr ⟨Or.inr h.1, h.2⟩
        · rintro (h | ⟨rfl | h, k⟩)
          · exact Or.inl h
          · exact Or.inr (Or.inl rfl)
          · exact Or.inr (Or.inr ⟨h, k⟩)
      · rw [List.mem_cons, List.mem_cons, ih]
        constructor
        · rintro (rfl | h | h)
          · exact Or.inr ⟨Or.inl rfl, hk⟩
          · exact Or.inl h
          · exact Or.inr ⟨Or.inr h.1, h.2⟩
        · rintro (h | ⟨rfl | h, k⟩)
          · exact Or.inr (Or.inl h)
          · exact Or.inl rfl
          · exact Or.inr (Or.inr ⟨h, k⟩)
    · next hk =>
      rw [ih, List.mem_cons]
      constructor
      · rintro (h | h)
        · exact Or.inl h
        · exact Or.inr ⟨Or.inr h.1, h.2⟩
      · rintro (h | ⟨rfl | h, k⟩)
        · exact Or.inl h
        · exact absurd k hk
        · exact Or.inr ⟨h, k⟩
theorem insN_srt (x : S42) (now : Int) : ∀ l, l.Pairwise Bf → (insN x now l).Pairwise Bf
  | [], _ => List.pairwise_singleton _ _
  | y :: r, h => by
    rw [List.pairwise_cons] at h
    have ih := insN_srt x now r h.2
    unfold insN
    split
    · next hk =>
      split
      · next hb =>
        have hxy := (bfB_iff x y).1 hb
        rw [List.pairwise_cons, List.pairwise_cons]
        refine ⟨fun z hz => ?_, fun z hz => h.1 z (List.mem_filter.1 hz).1, h.2.sublist List.filter_sublist⟩
        rcases List.mem_cons.1 hz with rfl | hz
        · exact hxy
        · exact hxy.trans (h.1 z (List.mem_filter.1 hz).1)
      · next hb =>
        rw [List.pairwise_cons]
        refine ⟨fun z hz => ?_, ih⟩
        rcases (insN_mem x now z r).1 hz with rfl | hz
        · rcases Bf.tri y z with q | q | q
          · exact q
          · unfold keepB at hk
            simp [q.1, q.2] at hk
          · exact absurd ((bfB_iff z y).2 q) hb
        · exact h.1 z hz.1
    · exact ih
theorem ann_step (L : List S42) (room : Int) (x : S42) (now : Int) (k j : Nat) (out : List S42) (put : Bool) (hl : L.length ≤ 1000) (hlt : j < L.length) (ho : out.length ≤ 3000) :
    mosaicref31_Table_Announce.l0 (k + 2) now out put (j : Int) room L x.f0 x.f1 x.f2.f0 x.f2.f1 x.f3 =
    if keepB x now L[j] = true then (if put = true then mosaicref31_Table_Announce.l0 k now (out ++ [L[j]]) true ((j + 1 : Nat) : Int) room L x.f0 x.f1 x.f2.f0 x.f2.f1 x.f3
      else if bfB x L[j] = true then mosaicref31_Table_Announce.l0 k now (out ++ [x] ++ [L[j]]) true ((j + 1 : Nat) : Int) room L x.f0 x.f1 x.f2.f0 x.f2.f1 x.f3
      else mosaicref31_Table_Announce.l0 k now (out ++ [L[j]]) false ((j + 1 : Nat) : Int) room L x.f0 x.f1 x.f2.f0 x.f2.f1 x.f3)
    else mosaicref31_Table_Announce.l0 k now out put ((j + 1 : Nat) : Int) room L x.f0 x.f1 x.f2.f0 x.f2.f1 x.f3 := by
  have g1 : (j : Int) < (L.length : Int) := by omega
  have g2 : (0 : Int) ≤ (j : Int) := by omega
  have hj3 : ∀ b : Bool, mosaicref31_Table_Announce.j3 (k + 1) now out put (j : Int) b room L x.f0 x.f1 x.f2.f0 x.f2.f1 x.f3 L[j].f0 L[j].f1 L[j].f2.f0 L[j].f2.f1 L[j].f3 =
      if b = true then mosaicref31_Table_Announce.l0 k now out put ((j + 1 : Nat) : Int) room L x.f0 x.f1 x.f2.f0 x.f2.f1 x.f3
      else (if put = true then mosaicref31_Table_Announce.l0 k now (out ++ [L[j]]) true ((j + 1 : Nat) : Int) room L x.f0 x.f1 x.f2.f0 x.f2.f1 x.f3
        else if bfB x L[j] = true then mosaicref31_Table_Announce.l0 k now (out ++ [x] ++ [L[j]]) true ((j + 1 : Nat) : Int) room L x.f0 x.f1 x.f2.f0 x.f2.f1 x.f3
        else mosaicref31_Table_Announce.l0 k now (out ++ [L[j]]) false ((j + 1 : Nat) : Int) room L x.f0 x.f1 x.f2.f0 x.f2.f1 x.f3) := by
    intro b
    rw [mosaicref31_Table_Announce.j3, wS (by omega), before_eq x L[j]]
    have c1 : out.length < 2932031007402 := by omega
    have c2 : out.length + 1 < 2932031007402 := by omega
    cases b <;> cases put <;> cases hb : bfB x L[j] <;> simp [c1, c2] <;> rfl
  have hke : keepB x now L[j] = !(decide (L[j].f3 < now) || (decide (nmD L[j] = nmD x) && decide (L[j].f1 = x.f1))) := rfl
  rw [mosaicref31_Table_Announce.l0, if_pos g1, if_pos g2, rd42 hlt, hke]
  by_cases h1 : L[j].f3 < now
  · rw [if_pos h1, hj3 true, if_pos rfl, decide_eq_true h1]; rfl
  · rw [if_neg h1, decide_eq_false h1]
    by_cases h2 : nmD L[j] = nmD x
    · rw [if_pos (show L[j].f0.toList = x.f0.toList from nm_eq.2 h2), hj3, decide_eq_true h2]
      by_cases h3 : L[j].f1 = x.f1
      · rw [if_pos (by simpa using h3), decide_eq_true h3]; rfl
      · rw [if_neg (by simpa using h3), decide_eq_false h3]; rfl
    · rw [if_neg (fun h => h2 (nm_eq.1 h)), hj3, if_neg (by simp), decide_eq_false h2]; rfl
theorem ann_end (L : List S42) (room : Int) (x : S42) (now : Int) (k : Nat) (out : List S42) (put : Bool) (ho : out.length ≤ 3000) (j : Nat) (hj : L.length ≤ j) :
    mosaicref31_Table_Announce.l0 (k + 1) now out put (j : Int) room L x.f0 x.f1 x.f2.f0 x.f2.f1 x.f3 = some (room, (if put = true then out else out ++ [x]), 0) := by
  rw [mosaicref31_Table_Announce.l0, if_neg (by omega)]
  have c1 : out.length < 2932031007402 := by omega
  cases put <;> simp [c1] <;> rfl
theorem ann_put (L : List S42) (hl : L.length ≤ 1000) (room : Int) (x : S42) (now : Int) : ∀ (m j k : Nat) (out : List S42), j + m = L.length → 2 * m < k → out.length ≤ j + 1 →
    mosaicref31_Table_Announce.l0 k now out true (j : Int) room L x.f0 x.f1 x.f2.f0 x.f2.f1 x.f3 = some (room, out ++ (L.drop j).filter (keepB x now), 0)
  | 0, j, k, out, hj, hk, ho => by
    obtain ⟨k, rfl⟩ : ∃ k', k = k' + 1 := ⟨k - 1, by omega⟩
    rw [ann_end L room x now k out true (by omega) j (by omega), if_pos rfl, List.drop_eq_nil_of_le (by omega)]; simp
  | m + 1, j, k, out, hj, hk, ho => by
    obtain ⟨k, rfl⟩ : ∃ k', k = k' + 2 := ⟨k - 2, by omega⟩
    have hlt : j < L.length := by omega
    rw [ann_step L room x now k j out true hl hlt (by omega), List.drop_eq_getElem_cons hlt, List.filter_cons]
    split
    · rw [if_pos rfl, ann_put L hl room x now m (j + 1) k _ (by omega) (by omega) (by rw [List.length_append, List.length_singleton]; omega)]
      simp
    · rw [ann_put L hl room x now m (j + 1) k _ (by omega) (by omega) (by omega)]
theorem ann_ins (L : List S42) (hl : L.length ≤ 1000) (room : Int) (x : S42) (now : Int) : ∀ (m j k : Nat) (out : List S42), j + m = L.length → 2 * m < k → out.length ≤ j →
    mosaicref31_Table_Announce.l0 k now out false (j : Int) room L x.f0 x.f1 x.f2.f0 x.f2.f1 x.f3 = some (room, out ++ insN x now (L.drop j), 0)
  | 0, j, k, out, hj, hk, ho => by
    obtain ⟨k, rfl⟩ : ∃ k', k = k' + 1 := ⟨k - 1, by omega⟩
    rw [ann_end L room x now k out false (by omega) j (by omega), if_neg (by simp), List.drop_eq_nil_of_le (by omega)]; rfl
  | m + 1, j, k, out, hj, hk, ho => by
    obtain ⟨k, rfl⟩ : ∃ k', k = k' + 2 := ⟨k - 2, by omega⟩
    have hlt : j < L.length := by omega
    rw [ann_step L room x now k j out false hl hlt (by omega), List.drop_eq_getElem_cons hlt, insN]
    split
    · rw [if_neg (by simp)]
      split
      · rw [ann_put L hl room x now m (j + 1) k _ (by omega) (by omega) (by simp only [List.length_append, List.length_singleton]; omega)]
        simp
      · rw [ann_ins L hl room x now m (j + 1) k _ (by omega) (by omega) (by rw [List.length_append, List.length_singleton]; omega)]
        simp
    · rw [ann_ins L hl room x now m (j + 1) k _ (by omega) (by omega) (by omega)]
theorem dpeer (n : Int) : mosaicref18_IsPeer.f n = some (decide (1 ≤ n ∧ n ≤ 15)) := by
  unfold mosaicref18_IsPeer.f
  by_cases h : n ≥ 1
  · rw [if_pos h]; congr 1; simp; omega
  · rw [if_neg h]; congr 1; simp; omega
theorem dcheck (x y : Int) : mosaicref17_Check.f x y = some (okB x y) := by
  unfold mosaicref17_Check.f okB inB
  by_cases h1 : x ≥ -1048576 <;> by_cases h2 : x ≤ 1048576 <;> by_cases h3 : y ≥ -1048576 <;> by_cases h4 : y ≤ 1048576 <;> simp [h1, h2, h3, h4] <;> omega
theorem ann_bad (k : Nat) (room now : Int) (L : List S42) (x : S42) : mosaicref31_Table_Announce.j0 (k + 1) now true room L x.f0 x.f1 x.f2.f0 x.f2.f1 x.f3 = some (room, L, 1) := by
  rw [mosaicref31_Table_Announce.j0, if_pos rfl]
/-- An announcement: the document's answer and its list. -/
theorem dann {W : World} {lo t bm n : Nat} {rm : Int} {D : DataW Unit} {T T' : TT} {x : Nt} {now c : Int} (hT : Tab W lo t bm n rm D T) {L : List S42} (hD : Dc T L) (hl : L.length ≤ 900) (h : Ann rm x now T c T') (k : Nat) (hk : 3000 ≤ k) :
    ∃ L', mosaicref31_Table_Announce.f k rm L x.f0 x.f1 x.f2.f0 x.f2.f1 x.f3 now = some (rm, L', c) ∧ Dc T' L' ∧ L'.length ≤ L.length + 1 := by
  have hn : NoteOk T := fun s j x h => hT.note s j x h
  obtain ⟨k, rfl⟩ : ∃ k', k = k' + 2 := ⟨k - 2, by omega⟩
  have hmay := may_iff x now
  have hbad := ann_bad (k + 1) rm now L (dN x)
  have hF : mosaicref31_Table_Announce.f (k + 2) rm L x.f0 x.f1 x.f2.f0 x.f2.f1 x.f3 now = mosaicref31_Table_Announce.j0 (k + 2) now (!(mayB x now)) rm L x.f0 x.f1 x.f2.f0 x.f2.f1 x.f3 := by
    have hbad' : mosaicref31_Table_Announce.j0 (k + 2) now true rm L x.f0 x.f1 x.f2.f0 x.f2.f1 x.f3 = some (rm, L, 1) := hbad
    unfold mosaicref31_Table_Announce.f
    rw [dtick, Option.bind_some, dpeer, dcheck]
    cases hm : mayB x now with
    | true =>
      obtain ⟨h1, h2, h3, h4, h5, h6⟩ := hmay.1 hm
      rw [h1, if_pos rfl, if_pos (by omega), Option.bind_some, if_pos (by simpa using h3), Option.bind_some, if_pos ((okB_iff _ _).2 h4), if_neg (by omega)]
      congr 1
      simp; omega
    | false =>
      have hno : ¬ mayB x now = true := by rw [hm]; simp
      rw [hmay] at hno
      show _ = mosaicref31_Table_Announce.j0 (k + 2) now true rm L x.f0 x.f1 x.f2.f0 x.f2.f1 x.f3
      rw [hbad']
      by_cases h1 : tickB now = true
      · rw [if_pos h1]
        by_cases h2 : (x.f0.size : Int) = 32
        · rw [if_pos h2, Option.bind_some]
          by_cases h3 : 1 ≤ x.f1 ∧ x.f1 ≤ 15
          · rw [if_pos (by simpa using h3), Option.bind_some]
            by_cases h4 : okB x.f2.f0 x.f2.f1 = true
            · rw [if_pos h4]
              by_cases h5 : x.f3 < now
              · rw [if_pos h5]
              · rw [if_neg h5]
                by_cases h6 : x.f3 > 1099511627776
                · rw [decide_eq_true h6, hbad']
                · exact absurd ⟨h1, by omega, h3, (okB_iff _ _).1 h4, by omega, by omega⟩ hno
            · rw [if_neg h4]
          · rw [if_neg (by simpa using h3)]
        · rw [if_neg h2]
      · rw [if_neg h1]
  have hNd := dnodes_eq hn hD (by omega : L.length ≤ 1000) rm x.f0 now (k + 1) (by omega)
  have hNm := dnames hT hD (by omega) rm now (k + 1) (by omega)
  have hlen := namesAre hT now
  cases h with
  | arg hm => rw [hF, hm]; exact ⟨L, hbad, hD, by omega⟩
  | full ss hm hnd ha hr =>
    have hnd' : nodesL T x.f0.data.toList now = [] := hnd
    refine ⟨L, ?_, hD, by omega⟩
    rw [hF, hm, mosaicref31_Table_Announce.j0]
    have := (hlen.length ha)
    rw [if_neg (by simp), hNd, Option.bind_some, hnd', if_pos (by rfl), hNm, Option.bind_some, mosaicref31_Table_Announce.j1, if_pos (decide_eq_true (by rw [List.length_map]; omega))]
  | ok hm hr =>
    have hl0 := ann_ins L (by omega) rm (dN x) now L.length 0 k [] (by omega) (by omega) (by simp)
    have hl0' : mosaicref31_Table_Announce.l0 k now [] false 0 rm L x.f0 x.f1 x.f2.f0 x.f2.f1 x.f3 = some (rm, insN (dN x) now L, 0) := by rw [List.drop_zero, List.nil_append] at hl0; exact hl0
    have hj1 : mosaicref31_Table_Announce.j1 (k + 1) now false rm L x.f0 x.f1 x.f2.f0 x.f2.f1 x.f3 = some (rm, insN (dN x) now L, 0) := by
      rw [mosaicref31_Table_Announce.j1, if_neg (by simp), hl0']
    refine ⟨insN (dN x) now L, ?_, ⟨fun y => ?_, insN_srt _ _ _ hD.srt⟩, insN_len _ _ _⟩
    · rw [hF, hm, mosaicref31_Table_Announce.j0, if_neg (by simp), hNd, Option.bind_some]
      by_cases hz : nodesL T x.f0.data.toList now = []
      · rw [hz, if_pos (by rfl), hNm, Option.bind_some]
        rcases hr with hr | ⟨ss, ha, hlt⟩
        · exact absurd hz hr
        · have := hlen.length ha
          rw [decide_eq_false (by rw [List.length_map]; omega), hj1]
      · rw [if_neg (by rw [List.length_map]; intro h; exact hz (List.length_eq_zero_iff.1 (by omega))), hj1]
    · have hx := (hmay.1 hm).2.2.1
      rw [insN_mem]
      show _ ↔ (if nmD y = nameS x ∧ (y.f1.toNat : Int) = x.f1 then some x else swp now (T (nmD y) y.f1.toNat)) = some (pN y)
      by_cases hk : nmD y = nameS x ∧ (y.f1.toNat : Int) = x.f1
      · rw [if_pos hk]
        have hy1 : y.f1 = x.f1 := by omega
        constructor
        · rintro (rfl | ⟨h1, h2⟩)
          · rfl
          · exfalso
            unfold keepB at h2
            have e1 : nmD y = nmD (dN x) := hk.1
            have e2 : y.f1 = (dN x).f1 := hy1
            simp [e1, e2] at h2
        · intro h
          exact Or.inl (by rw [Option.some.inj h]; rfl)
      · rw [if_neg hk]
        have hne : y ≠ dN x := by
          rintro rfl
          exact hk ⟨rfl, by show (x.f1.toNat : Int) = x.f1; omega⟩
        have hsw : swp now (T (nmD y) y.f1.toNat) = some (pN y) ↔ T (nmD y) y.f1.toNat = some (pN y) ∧ ¬ y.f3 < now := by
          cases hq : T (nmD y) y.f1.toNat with
          | none => exact ⟨fun h => (by cases h), fun h => (by cases h.1)⟩
          | some z =>
            show (if z.f3 < now then none else some z) = some (pN y) ↔ _
            constructor
            · intro h
              split at h
              · cases h
              · next hz => obtain rfl := Option.some.inj h; exact ⟨rfl, hz⟩
            · rintro ⟨h1, h2⟩
              obtain rfl := Option.some.inj h1
              rw [if_neg (show ¬ (pN y).f3 < now from h2)]
        rw [hsw, ← hD.mem]
        constructor
        · rintro (h | ⟨h1, h2⟩)
          · exact absurd h hne
          · refine ⟨h1, fun h3 => ?_⟩
            unfold keepB at h2
            simp [h3] at h2
        · rintro ⟨h1, h2⟩
          refine Or.inr ⟨h1, ?_⟩
          have hT1 := (hn _ _ _ ((hD.mem y).1 h1)).2.1
          have hT2 : y.f1 = (y.f1.toNat : Int) := hT1
          unfold keepB
          rw [Bool.not_eq_true', Bool.or_eq_false_iff]
          refine ⟨decide_eq_false h2, ?_⟩
          rw [Bool.and_eq_false_iff, decide_eq_false_iff_not, decide_eq_false_iff_not]
          by_cases h3 : nmD y = nmD (dN x)
          · exact Or.inr (fun h4 => hk ⟨h3, by rw [← hT2]; exact h4⟩)
          · exact Or.inl h3
end Go.Proofs.YtmimnlbkllgfpaaGreatDoor.Tb
