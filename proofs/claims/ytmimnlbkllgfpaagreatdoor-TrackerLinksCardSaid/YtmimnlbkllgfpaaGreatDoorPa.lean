/- A link's text, and link.Read of it. -/
import Derived.Test.YtmimnlbkllgfpaaGreatDoorNa
import Derived.Test.YtmimnlbkllgfpaaGreatDoorCu
import Derived.Test.YtmimnlbkllgfpaaGreatDoorLe
import Derived.Lib.SplitLaws
import Derived.Test.YtmimnlbkllgfpaaGreatDoorAx0
import Derived.Test.YtmimnlbkllgfpaaGreatDoorAx1
import Derived.Test.YtmimnlbkllgfpaaGreatDoorAx2
import Derived.Test.YtmimnlbkllgfpaaGreatDoorAx3
import Derived.Test.YtmimnlbkllgfpaaGreatDoorAx4
import Derived.Test.YtmimnlbkllgfpaaGreatDoorAx5
namespace Go.Proofs.YtmimnlbkllgfpaaGreatDoor.Rl
open Go.RowKit Go.Proofs.YtmimnlbkllgfpaaGreatDoor.A Go.Proofs.YtmimnlbkllgfpaaGreatDoor.Hand Go.Proofs.YtmimnlbkllgfpaaGreatDoor.Tx Go.Proofs.YtmimnlbkllgfpaaGreatDoorW.PrintWords Go.Proofs.YtmimnlbkllgfpaaGreatDoorW.PrintLast Go.Proofs.YtmimnlbkllgfpaaGreatDoorW.PrintMore

/-- A number's numeral; a node's part; a link's parts. -/
def it (v : Int) : ByteArray := ⟨(Lib.itoa v).toArray⟩
def nodeB (v : Int) (q : S24) : ByteArray := (((((⟨#[110, 111, 100, 101, 61]⟩ : ByteArray) ++ it v) ++ (⟨#[44]⟩ : ByteArray)) ++ it q.f0) ++ (⟨#[44]⟩ : ByteArray)) ++ it q.f1
def titleB (b : ByteArray) : List ByteArray := if b.toList = [] then [] else [(⟨#[116, 105, 116, 108, 101, 61]⟩ : ByteArray) ++ Ex.escB b]
def partsB (b : ByteArray) (n : List Int) (p : List S24) : List ByteArray := titleB b ++ List.zipWith nodeB n p
theorem textv_l0 (a b : ByteArray) (n : List Int) (p : List S24) (hM : May a b n p) (D : ByteArray) (hb32 : D.size = 52) (h32 : link_Base32.f a = some D) (m : Nat) : ∀ (i k : Nat) (x : List ByteArray), n.length = i + m → m + 1 ≤ k → x.length ≤ 1 + i → sumL x ≤ 186 + 25 * i →
    link_Text.l0 k x n (n.length : Int) (i : Int) a b n p = some (cur D (x ++ List.zipWith nodeB (n.drop i) (p.drop i)), 0) := by
  have z7 : (⟨#[109, 111, 115, 97, 105, 99, 58]⟩ : ByteArray).size = 7 := rfl
  have z1 : (⟨#[63]⟩ : ByteArray).size = 1 := rfl
  have z5 : (⟨#[110, 111, 100, 101, 61]⟩ : ByteArray).size = 5 := rfl
  have zc : (⟨#[44]⟩ : ByteArray).size = 1 := rfl
  have hfew := hM.few
  induction m with
  | zero =>
    intro i k x hi hk hx hs
    obtain ⟨k, rfl⟩ : ∃ k', k = k' + 1 := ⟨k - 1, by omega⟩
    have e0 : x ++ List.zipWith nodeB (n.drop i) (p.drop i) = x := by rw [List.drop_of_length_le (by omega)]; simp
    rw [e0, link_Text.l0, if_neg (by omega), h32, Option.bind_some, if_pos (by omega)]
    by_cases h0 : (x.length : Int) > 0
    · obtain ⟨t, ht, hz⟩ := join_f x (by omega) (by omega) (by omega)
      rw [if_pos h0, ht, Option.bind_some, if_pos (by omega), if_pos (by rw [ByteArray.size_append, ByteArray.size_append]; omega)]
      unfold strings_Join.f at ht
      split at ht
      · obtain rfl := Option.some.inj ht
        have := cur_end D x (List.length_pos_iff.mp (by omega))
        rw [show (⟨#[38]⟩ : ByteArray).data.toList = [38] from rfl, this]
      · cases ht
    · rw [if_neg h0]
      have : x = [] := List.length_eq_zero_iff.mp (by omega)
      rw [this, cur_nil]
  | succ m ih =>
    intro i k x hi hk hx hs
    obtain ⟨k, rfl⟩ : ∃ k', k = k' + 1 := ⟨k - 1, by omega⟩
    have h1 : i < n.length := by omega
    have h2 : i < p.length := by rw [← hM.len]; omega
    have e1 : Hide (wrap64 ((i : Int) + 1) = ((i + 1 : Nat) : Int)) := ⟨by clear z7 z1 z5 zc hb32 hs; rw [w64 (by omega)]; omega⟩
    have g1 : (i : Int) < (n.length : Int) := Int.ofNat_lt.mpr h1
    have g2 : (0 : Int) ≤ (i : Int) := Int.natCast_nonneg i
    have g3 : (i : Int) < (p.length : Int) := Int.ofNat_lt.mpr h2
    have f1 : n.length = (i + 1) + m := by clear z7 z1 z5 zc hb32 hs; omega
    have f2 : m + 1 ≤ k := by clear z7 z1 z5 zc hb32 hs; omega
    have f3 : x.length + 1 ≤ 1 + (i + 1) := by clear z7 z1 z5 zc hb32 hs; omega
    have f4 : sumL x + 25 ≤ 186 + 25 * (i + 1) := by clear z7 z1 z5 zc hb32; omega
    have q6 : x.length < 8796093022208 := Nat.lt_of_le_of_lt (show x.length ≤ 10 by clear z7 z1 z5 zc hb32 hs; omega) (by decide)
    obtain ⟨hn, hp1, hp2⟩ := hM.each i h1 h2
    obtain ⟨A, hA, s1, eA⟩ : ∃ A, strconv_Itoa_64.f n[i] = some A ∧ A.size ≤ 2 ∧ A = it n[i] := ⟨_, itoa_f n[i] (by omega), by rw [szL]; exact itoa_node n[i] hn, rfl⟩
    obtain ⟨B, hB, s2, eB⟩ : ∃ A, strconv_Itoa_64.f p[i].f0 = some A ∧ A.size ≤ 8 ∧ A = it p[i].f0 := ⟨_, itoa_f _ hp1, by rw [szL]; exact itoa_part _ hp1, rfl⟩
    obtain ⟨C, hC, s3, eC⟩ : ∃ A, strconv_Itoa_64.f p[i].f1 = some A ∧ A.size ≤ 8 ∧ A = it p[i].f1 := ⟨_, itoa_f _ hp2, by rw [szL]; exact itoa_part _ hp2, rfl⟩
    have q1 : 5 + A.size ≤ 9223372036854775807 := by omega
    have q2 : Hide (((⟨#[110, 111, 100, 101, 61]⟩ : ByteArray) ++ A).size + 1 ≤ 9223372036854775807) := ⟨by rw [ByteArray.size_append, z5]; omega⟩
    have q3 : Hide ((((⟨#[110, 111, 100, 101, 61]⟩ : ByteArray) ++ A) ++ (⟨#[44]⟩ : ByteArray)).size + B.size ≤ 9223372036854775807) := ⟨by rw [ByteArray.size_append, ByteArray.size_append, z5, zc]; omega⟩
    have q4 : Hide (((((⟨#[110, 111, 100, 101, 61]⟩ : ByteArray) ++ A) ++ (⟨#[44]⟩ : ByteArray)) ++ B).size + 1 ≤ 9223372036854775807) := ⟨by rw [ByteArray.size_append, ByteArray.size_append, ByteArray.size_append, z5, zc]; omega⟩
    have z : Hide ((((((⟨#[110, 111, 100, 101, 61]⟩ : ByteArray) ++ A) ++ (⟨#[44]⟩ : ByteArray)) ++ B) ++ (⟨#[44]⟩ : ByteArray)).size = 7 + A.size + B.size) := ⟨by rw [ByteArray.size_append, ByteArray.size_append, ByteArray.size_append, ByteArray.size_append, z5, zc]; omega⟩
    have q5 : Hide ((((((⟨#[110, 111, 100, 101, 61]⟩ : ByteArray) ++ A) ++ (⟨#[44]⟩ : ByteArray)) ++ B) ++ (⟨#[44]⟩ : ByteArray)).size + C.size ≤ 9223372036854775807) := ⟨by rw [z.out]; omega⟩
    rw [link_Text.l0, if_pos g1, if_pos g2, if_pos g1, rdI n i h1, rdP p i h2, hA, Option.bind_some, if_pos q1, if_pos q2.out, if_pos g3, hB, Option.bind_some, if_pos q3.out, if_pos q4.out, hC, Option.bind_some, if_pos q5.out, if_pos q6, e1.out]
    have hN : ((((((⟨#[110, 111, 100, 101, 61]⟩ : ByteArray) ++ A) ++ (⟨#[44]⟩ : ByteArray)) ++ B) ++ (⟨#[44]⟩ : ByteArray)) ++ C) = nodeB n[i] p[i] := by rw [eA, eB, eC]; rfl
    have hdr : x ++ List.zipWith nodeB (n.drop i) (p.drop i) = (x ++ [nodeB n[i] p[i]]) ++ List.zipWith nodeB (n.drop (i + 1)) (p.drop (i + 1)) := by
      rw [List.drop_eq_getElem_cons h1, List.drop_eq_getElem_cons h2, List.zipWith_cons_cons, List.append_assoc]; rfl
    rw [hdr, ← hN]
    clear hdr hN eA eB eC
    refine ih (i + 1) k _ f1 f2 (by rw [List.length_append]; exact f3) ?_
    have hz := z.out
    generalize ((((⟨#[110, 111, 100, 101, 61]⟩ : ByteArray) ++ A) ++ (⟨#[44]⟩ : ByteArray)) ++ B) ++ (⟨#[44]⟩ : ByteArray) = Z at hz ⊢
    have hs2 : sumL (x ++ [Z ++ C]) = sumL x + (Z.size + C.size) := by
      unfold sumL
      rw [List.map_append, List.sum_append, List.map_cons, List.map_nil, List.sum_cons, List.sum_nil, ByteArray.size_append]; rfl
    rw [hs2]
    generalize sumL x = q at f4 ⊢
    clear hs2 hA hB hC e1 q1 q2 q3 q4 q5 z z7 z1 z5 zc hb32 h32 hs hM ih
    omega
theorem text_val (a b : ByteArray) (n : List Int) (p : List S24) (hM : May a b n p) (k : Nat) (hk : 1200 ≤ k) (hC : link_Check.f k a b n p = some true) : link_Text.f k a b n p = some (cur (Bp.b32 a) (partsB b n p), 0) := by
  unfold link_Text.f
  have hD : (Bp.b32 a).size = 52 := by unfold Bp.b32; rw [szL, Bp.encN_length, hM.name]
  have h32 : link_Base32.f a = some (Bp.b32 a) := by unfold link_Base32.f; rw [if_pos (by rw [hM.name]; omega)]
  rw [hC, Option.bind_some, if_pos rfl]
  obtain ⟨k, rfl⟩ : ∃ k', k = k' + 1 := ⟨k - 1, by omega⟩
  have hf := hM.few
  have hb := hM.title
  have z6 : (⟨#[116, 105, 116, 108, 101, 61]⟩ : ByteArray).size = 6 := rfl
  have go : ∀ x : List ByteArray, x.length ≤ 1 → sumL x ≤ 186 → link_Text.j0 (k + 1) x a b n p = some (cur (Bp.b32 a) (x ++ List.zipWith nodeB n p), 0) := by
    intro x hx hs
    rw [link_Text.j0]
    exact textv_l0 a b n p hM _ hD h32 n.length 0 k x (by omega) (by omega) (by omega) (by omega)
  unfold partsB titleB
  by_cases ht : b.toList = []
  · rw [if_pos ht, if_pos ht]; exact go [] (by simp) (by simp [sumL])
  · obtain ⟨h1, h2⟩ := esc_f b (by omega)
    rw [if_neg ht, if_neg ht, h1, Option.bind_some, if_pos (by omega), if_pos (by simp)]
    exact go _ (by simp) (by simp only [sumL, List.nil_append, List.map_cons, List.map_nil, List.sum_cons, List.sum_nil, ByteArray.size_append, z6]; omega)
/-! what is joined is split -/
theorem join_two (c : UInt8) (x y : List UInt8) (r : List (List UInt8)) : Lib.join (x :: y :: r) [c] = x ++ c :: Lib.join (y :: r) [c] := by
  rw [Lib.join_cons, Lib.join_cons]
  unfold Lib.joinTail
  simp
theorem index_none {c : UInt8} : ∀ {l : List UInt8}, c ∉ l → Lib.index l [c] = -1
  | [], _ => rfl
  | b :: l, h => by
    have h1 : c ≠ b := fun e => h (by rw [e]; simp)
    have h2 := index_none (c := c) (l := l) (fun e => h (List.mem_cons_of_mem _ e))
    rw [Lib.index, h2]
    simp [List.isPrefixOf, h1]
theorem index_at {c : UInt8} (t : List UInt8) : ∀ {l : List UInt8}, c ∉ l → Lib.index (l ++ c :: t) [c] = l.length
  | [], _ => by rw [List.nil_append, Lib.index]; simp [List.isPrefixOf]
  | b :: l, h => by
    have h1 : c ≠ b := fun e => h (by rw [e]; simp)
    have h2 := index_at (c := c) t (l := l) (fun e => h (List.mem_cons_of_mem _ e))
    rw [List.cons_append, Lib.index, h2]
    have : ¬ ((l.length : Int) = -1) := by omega
    simp [List.isPrefixOf, h1]
theorem split_join (c : UInt8) : ∀ (x : List UInt8) (r : List (List UInt8)), (∀ y ∈ x :: r, c ∉ y) → Lib.splitK [c] 0 (Lib.count (Lib.join (x :: r) [c]) [c]) (Lib.join (x :: r) [c]) = x :: r
  | x, [], h => by
    rw [Lib.join_one, Lib.count_one, List.count_eq_zero.mpr (h x (by simp))]; rfl
  | x, y :: r, h => by
    have ih := split_join c y r (fun z hz => h z (by simp [List.mem_cons.mp hz]))
    have hx := h x (by simp)
    rw [Lib.count_one] at ih ⊢
    rw [join_two]
    have hc : (x ++ c :: Lib.join (y :: r) [c]).count c = (Lib.join (y :: r) [c]).count c + 1 := by
      rw [List.count_append, List.count_eq_zero.mpr hx, List.count_cons_self]; omega
    rw [hc, Lib.splitK, index_at _ hx, if_neg (by simp), Int.toNat_natCast, Nat.add_zero]
    have e1 : (x ++ c :: Lib.join (y :: r) [c]).take x.length = x := List.take_left' rfl
    have e2 : (x ++ c :: Lib.join (y :: r) [c]).drop (x.length + [c].length) = Lib.join (y :: r) [c] := by
      rw [show x.length + [c].length = x.length + 1 from rfl, ← List.drop_drop, List.drop_left' rfl]; rfl
    rw [e1, e2, ih]
theorem by_inj {a b : ByteArray} (h : a.data.toList = b.data.toList) : a = b := ByteArray.ext (Array.ext' h)
theorem toList_inj {u t : ByteArray} (h : u.toList = t.toList) : u = t := by
  rw [ByteArray.toList_eq, ByteArray.toList_eq] at h
  exact by_inj h
theorem map_inj : ∀ {l m : List ByteArray}, l.map (·.data.toList) = m.map (·.data.toList) → l = m
  | [], [], _ => rfl
  | [], _ :: _, h => by simp at h
  | _ :: _, [], h => by simp at h
  | x :: l, y :: m, h => by
    simp only [List.map_cons, List.cons.injEq] at h
    rw [by_inj h.1, map_inj h.2]
theorem splitF_join (c : UInt8) (ps : List ByteArray) (hne : ps ≠ []) (h : ∀ y ∈ ps, c ∉ y.data.toList) : splitF ⟨(Lib.join (ps.map (·.data.toList)) [c]).toArray⟩ ⟨#[c]⟩ = ps := by
  apply map_inj
  unfold splitF
  rw [Lib.splitB_data]
  cases ps with
  | nil => exact absurd rfl hne
  | cons x r =>
    exact split_join c x.data.toList (r.map (·.data.toList)) (fun y hy => by
      rcases List.mem_cons.mp hy with rfl | hy
      · exact h x (by simp)
      · obtain ⟨z, hz, rfl⟩ := List.mem_map.mp hy
        exact h z (by simp [hz]))

/-! the parts, read -/
theorem by_it (v : Int) : by_ (it v) = Lib.itoa v := by_mk _
theorem by_node (v : Int) (q : S24) : by_ (nodeB v q) = [110, 111, 100, 101, 61] ++ (Lib.itoa v ++ 44 :: (Lib.itoa q.f0 ++ 44 :: Lib.itoa q.f1)) := by
  unfold nodeB
  simp only [by_app, by_it]
  show [110, 111, 100, 101, 61] ++ Lib.itoa v ++ [44] ++ Lib.itoa q.f0 ++ [44] ++ Lib.itoa q.f1 = _
  simp
theorem pre_has (p l : List UInt8) : Lib.hasPrefix (p ++ l) p = true := by
  unfold Lib.hasPrefix
  rw [List.isPrefixOf_iff_prefix]
  exact List.prefix_append p l
theorem pre_tail (p l : List UInt8) : Lib.trimPrefix (p ++ l) p = l := by
  unfold Lib.trimPrefix
  rw [if_pos (pre_has p l), List.drop_left' rfl]
/-- What a link's node is. -/
def NodeOk (v : Int) (q : S24) : Prop := Ok v ∧ Ok q.f0 ∧ Ok q.f1
theorem node_split (v : Int) (q : S24) (h : NodeOk v q) : atO (splitF (tailB (nodeB v q) ⟨#[110, 111, 100, 101, 61]⟩) ⟨#[44]⟩) = some (v, q.f0, q.f1) := by
  have e : tailB (nodeB v q) ⟨#[110, 111, 100, 101, 61]⟩ = ⟨(Lib.join (([it v, it q.f0, it q.f1] : List ByteArray).map (·.data.toList)) [44]).toArray⟩ := by
    unfold tailB
    have : (nodeB v q).data.toList = [110, 111, 100, 101, 61] ++ (Lib.itoa v ++ 44 :: (Lib.itoa q.f0 ++ 44 :: Lib.itoa q.f1)) := by_node v q
    rw [this, show (⟨#[110, 111, 100, 101, 61]⟩ : ByteArray).data.toList = [110, 111, 100, 101, 61] from rfl, pre_tail]
    congr 2
    rw [List.map_cons, List.map_cons, List.map_cons, List.map_nil, join_two, join_two, Lib.join_one]
    rfl
  have hd : ¬ Dg 44 := by unfold Dg; decide
  rw [e, splitF_join 44 _ (by simp) (by
    intro y hy
    simp only [List.mem_cons, List.not_mem_nil, or_false] at hy
    rcases hy with rfl | rfl | rfl
    · exact not_in h.1 (by decide) hd
    · exact not_in h.2.1 (by decide) hd
    · exact not_in h.2.2 (by decide) hd)]
  have a1 : atoiO (it v).data.toList = some v := atoi_itoa v h.1
  have a2 : atoiO (it q.f0).data.toList = some q.f0 := atoi_itoa _ h.2.1
  have a3 : atoiO (it q.f1).data.toList = some q.f1 := atoi_itoa _ h.2.2
  simp only [atO, a1, a2, a3]
theorem part_node (k : Nat) (v : Int) (q : S24) (h : NodeOk v q) (ti : ByteArray) (ns : List Int) (ps : List S24) : partF k (nodeB v q) ti ns ps = some (true, ti, ns ++ [v], ps ++ [q]) := by
  have hb : (nodeB v q).data.toList = [110, 111, 100, 101, 61] ++ (Lib.itoa v ++ 44 :: (Lib.itoa q.f0 ++ 44 :: Lib.itoa q.f1)) := by_node v q
  have h1 : hasB (nodeB v q) ⟨#[116, 105, 116, 108, 101, 61]⟩ = false := by
    unfold hasB; rw [hb]; rfl
  have h2 : hasB (nodeB v q) ⟨#[110, 111, 100, 101, 61]⟩ = true := by
    unfold hasB; rw [hb]; exact pre_has _ _
  unfold partF
  rw [h1, if_neg (by simp), h2, if_pos rfl, node_split v q h]
theorem part_title (k : Nat) (hk : 1000 ≤ k) (b : ByteArray) (hb : b.size ≤ 60) (ti : ByteArray) (ns : List Int) (ps : List S24) : partF k ((⟨#[116, 105, 116, 108, 101, 61]⟩ : ByteArray) ++ Ex.escB b) ti ns ps = some (true, b, ns, ps) := by
  have hd : ((⟨#[116, 105, 116, 108, 101, 61]⟩ : ByteArray) ++ Ex.escB b).data.toList = [116, 105, 116, 108, 101, 61] ++ (Ex.escB b).data.toList := by_app _ _
  have h1 : hasB ((⟨#[116, 105, 116, 108, 101, 61]⟩ : ByteArray) ++ Ex.escB b) ⟨#[116, 105, 116, 108, 101, 61]⟩ = true := by
    unfold hasB; rw [hd]; exact pre_has _ _
  have h2 : tailB ((⟨#[116, 105, 116, 108, 101, 61]⟩ : ByteArray) ++ Ex.escB b) ⟨#[116, 105, 116, 108, 101, 61]⟩ = Ex.escB b := by
    unfold tailB
    rw [hd, show (⟨#[116, 105, 116, 108, 101, 61]⟩ : ByteArray).data.toList = [116, 105, 116, 108, 101, 61] from rfl, pre_tail]
  unfold partF
  rw [h1, if_pos rfl, h2, Bq.une b (by omega) k hk, Option.bind_some]
  rfl
theorem parts_nodes (k : Nat) : ∀ (n : List Int) (p : List S24) (ti : ByteArray) (ns : List Int) (ps : List S24), n.length = p.length → ns.length + n.length ≤ 6 → (∀ j (h1 : j < n.length) (h2 : j < p.length), NodeOk n[j] p[j]) →
    partsF k (List.zipWith nodeB n p) ti ns ps = some (some (ti, ns ++ n, ps ++ p))
  | [], [], ti, ns, ps, _, _, _ => by rw [List.zipWith_nil_left, partsF, List.append_nil, List.append_nil]
  | [], _ :: _, _, _, _, h, _, _ => by simp at h
  | _ :: _, [], _, _, _, h, _, _ => by simp at h
  | v :: n, q :: p, ti, ns, ps, hl, h6, hk => by
    simp only [List.length_cons] at hl h6
    have h0 := hk 0 (by simp) (by simp)
    rw [List.zipWith_cons_cons, partsF, if_neg (by omega), part_node k v q h0, Option.bind_some, if_pos rfl]
    show partsF k (List.zipWith nodeB n p) ti (ns ++ [v]) (ps ++ [q]) = _
    rw [parts_nodes k n p ti (ns ++ [v]) (ps ++ [q]) (by omega) (by rw [List.length_append, List.length_singleton]; omega) (fun j h1 h2 => hk (j + 1) (by simp; omega) (by simp; omega)), List.append_assoc, List.append_assoc]
    rfl
theorem may_nodes {a b : ByteArray} {n : List Int} {p : List S24} (hM : May a b n p) : ∀ j (h1 : j < n.length) (h2 : j < p.length), NodeOk n[j] p[j] := fun j h1 h2 => by
  obtain ⟨⟨x1, x2⟩, y1, y2⟩ := hM.each j h1 h2
  exact ⟨⟨by omega, by omega⟩, y1, y2⟩
theorem parts_all (k : Nat) (hk : 1000 ≤ k) (a b : ByteArray) (n : List Int) (p : List S24) (hM : May a b n p) : partsF k (partsB b n p) ⟨#[]⟩ [] [] = some (some (b, n, p)) := by
  have hf := hM.few
  unfold partsB titleB
  by_cases ht : b.toList = []
  · have eb : b = ⟨#[]⟩ := by
      apply by_inj
      rw [ByteArray.toList_eq] at ht
      exact ht
    rw [if_pos ht, List.nil_append, parts_nodes k n p _ _ _ hM.len (by simp; omega) (may_nodes hM), eb]; rfl
  · rw [if_neg ht, List.cons_append, List.nil_append, partsF, if_neg (by simp), part_title k hk b hM.title, Option.bind_some, if_pos rfl]
    show partsF k (List.zipWith nodeB n p) b [] [] = _
    rw [parts_nodes k n p _ _ _ hM.len (by simp; omega) (may_nodes hM)]; rfl

/-! the bytes of parts -/
theorem esc_byte (b : UInt8) : ∀ x ∈ Ex.esc1 b, x = 37 ∨ Ex.plainB x.toNat = true := by
  intro x hx
  unfold Ex.esc1 at hx
  split at hx
  · rename_i h; rw [List.mem_singleton.mp hx]; exact Or.inr h
  · have hb := b.toNat_lt
    have hex : ∀ m : Fin 16, Ex.plainB (Ex.hexB m.1).toNat = true := by decide +kernel
    simp only [List.mem_cons, List.not_mem_nil, or_false] at hx
    rcases hx with rfl | rfl | rfl
    · exact Or.inl rfl
    · exact Or.inr (hex ⟨b.toNat / 16, by omega⟩)
    · exact Or.inr (hex ⟨b.toNat % 16, by omega⟩)
theorem esc_not (s : ByteArray) (c : UInt8) (h1 : c ≠ 37) (h2 : Ex.plainB c.toNat = false) : c ∉ (Ex.escB s).data.toList := fun hc => by
  have : (Ex.escB s).data.toList = Ex.escL s.data.toList := by unfold Ex.escB; simp
  rw [this] at hc
  unfold Ex.escL at hc
  obtain ⟨b, _, hb⟩ := List.mem_flatMap.mp hc
  rcases esc_byte b c hb with h | h
  · exact h1 h
  · rw [h2] at h; cases h
theorem node_not (v : Int) (q : S24) (h : NodeOk v q) : (38 : UInt8) ∉ (nodeB v q).data.toList := fun hc => by
  have e : (nodeB v q).data.toList = [110, 111, 100, 101, 61] ++ (Lib.itoa v ++ 44 :: (Lib.itoa q.f0 ++ 44 :: Lib.itoa q.f1)) := by_node v q
  have hd : ¬ Dg 38 := by unfold Dg; decide
  rw [e] at hc
  rcases List.mem_append.mp hc with hc | hc
  · revert hc; decide
  · rcases List.mem_append.mp hc with hc | hc
    · exact not_in h.1 (by decide) hd hc
    · rcases List.mem_cons.mp hc with hc | hc
      · revert hc; decide
      · rcases List.mem_append.mp hc with hc | hc
        · exact not_in h.2.1 (by decide) hd hc
        · rcases List.mem_cons.mp hc with hc | hc
          · revert hc; decide
          · exact not_in h.2.2 (by decide) hd hc
theorem parts_not {a b : ByteArray} {n : List Int} {p : List S24} (hM : May a b n p) : ∀ y ∈ partsB b n p, (38 : UInt8) ∉ y.data.toList := by
  intro y hy
  unfold partsB titleB at hy
  rcases List.mem_append.mp hy with hy | hy
  · split at hy
    · cases hy
    · rw [List.mem_singleton.mp hy]
      have hd : ((⟨#[116, 105, 116, 108, 101, 61]⟩ : ByteArray) ++ Ex.escB b).data.toList = [116, 105, 116, 108, 101, 61] ++ (Ex.escB b).data.toList := by_app _ _
      rw [hd]
      intro hc
      rcases List.mem_append.mp hc with hc | hc
      · revert hc; decide
      · exact esc_not b 38 (by decide) (by decide +kernel) hc
  · obtain ⟨j, hj, rfl⟩ := List.mem_iff_getElem.mp hy
    rw [List.length_zipWith] at hj
    rw [List.getElem_zipWith]
    exact node_not _ _ (may_nodes hM j (by omega) (by omega))
theorem b32_not (a : ByteArray) : (63 : UInt8) ∉ (Bp.b32 a).data.toList := fun hc => by
  have : (Bp.b32 a).data.toList = Bp.encN a.data.toList ((8 * a.size + 4) / 5) := by unfold Bp.b32; simp
  rw [this] at hc
  unfold Bp.encN at hc
  obtain ⟨j, _, hj⟩ := List.mem_map.mp hc
  have hv := Bp.bv_lt a.data.toList (5 * j) 5
  have : ∀ m : Fin 32, Bp.letB m.1 ≠ 63 := by decide +kernel
  exact this ⟨_, hv⟩ hj

/-! link.Read of a link's text -/
theorem cut_none {c : UInt8} {l : List UInt8} (h : c ∉ l) : Lib.cut l [c] = (l, [], false) := by
  unfold Lib.cut
  rw [index_none h, if_neg (by decide)]
theorem cut_at {c : UInt8} {l : List UInt8} (t : List UInt8) (h : c ∉ l) : Lib.cut (l ++ c :: t) [c] = (l, t, true) := by
  unfold Lib.cut
  rw [index_at t h, if_pos (by omega), Int.toNat_natCast, List.take_left' rfl, show l.length + [c].length = l.length + 1 from rfl, ← List.drop_drop, List.drop_left' rfl]; rfl
theorem read_text (a b : ByteArray) (n : List Int) (p : List S24) (k : Nat) (hk : 1200 ≤ k) (hC : link_Check.f k a b n p = some true) : readF k (cur (Bp.b32 a) (partsB b n p)) = some (a, b, n, p, 0) := by
  obtain ⟨r, hr, hM⟩ := check_eq a b n p k (by omega)
  rw [hC] at hr
  have hM := hM (Option.some.inj hr).symm
  have hT := text_val a b n p hM k hk hC
  obtain ⟨t0, e0, h0, h402, _⟩ := text_eq a b n p k hk
  rw [hT] at h0
  have hsz : (cur (Bp.b32 a) (partsB b n p)).size ≤ 402 := by
    have := Option.some.inj h0
    rw [Prod.mk.injEq] at this
    rw [this.1]; exact h402
  generalize ht : cur (Bp.b32 a) (partsB b n p) = t at *
  have hby : t.data.toList = [109, 111, 115, 97, 105, 99, 58] ++ (by_ (Bp.b32 a) ++ behind (partsB b n p)) := by
    have := by_cur (Bp.b32 a) (partsB b n p)
    rw [ht] at this
    rw [show t.data.toList = by_ t from rfl, this, List.append_assoc]
  have hhas : hasB t ⟨#[109, 111, 115, 97, 105, 99, 58]⟩ = true := by unfold hasB; rw [hby]; exact pre_has _ _
  have hbody : (bodyB t).data.toList = by_ (Bp.b32 a) ++ behind (partsB b n p) := by
    unfold bodyB tailB
    rw [hby, show (⟨#[109, 111, 115, 97, 105, 99, 58]⟩ : ByteArray).data.toList = [109, 111, 115, 97, 105, 99, 58] from rfl, pre_tail]
  have h63 : (63 : UInt8) ∉ by_ (Bp.b32 a) := b32_not a
  unfold readF
  rw [if_pos (by omega)]
  by_cases hP : partsB b n p = []
  · have hcut : Lib.cut (bodyB t).data.toList [63] = (by_ (Bp.b32 a), [], false) := by
      rw [hbody]; unfold behind; rw [if_pos hP, List.append_nil]; exact cut_none h63
    have eA : cutA t = Bp.b32 a := by unfold cutA; rw [hcut]; exact Bq.arr_of _
    have eC : cutC t = false := by unfold cutC; rw [hcut]
    have hall := parts_all k (by omega) a b n p hM
    rw [hP, partsF] at hall
    have hall := Option.some.inj (Option.some.inj hall)
    simp only [Prod.mk.injEq] at hall
    obtain ⟨rfl, rfl, rfl⟩ := hall
    rw [eA, Bq.unb a (by have := hM.name; omega) k (by omega), Option.bind_some, if_pos ⟨hhas, rfl⟩, eC, if_neg (by simp), Option.bind_some]
    show (link_Text.f k a ⟨#[]⟩ [] []).bind _ = _
    rw [hT, Option.bind_some, if_pos ⟨rfl, rfl⟩]
  · have hcut : Lib.cut (bodyB t).data.toList [63] = (by_ (Bp.b32 a), Lib.join ((partsB b n p).map (·.data.toList)) [38], true) := by
      rw [hbody]; unfold behind; rw [if_neg hP]; exact cut_at _ h63
    have eA : cutA t = Bp.b32 a := by unfold cutA; rw [hcut]; exact Bq.arr_of _
    have eR : cutR t = ⟨(Lib.join ((partsB b n p).map (·.data.toList)) [38]).toArray⟩ := by unfold cutR; rw [hcut]
    have eC : cutC t = true := by unfold cutC; rw [hcut]
    rw [eA, Bq.unb a (by have := hM.name; omega) k (by omega), Option.bind_some, if_pos ⟨hhas, rfl⟩, eC, if_pos rfl, eR, splitF_join 38 _ hP (parts_not hM), parts_all k (by omega) a b n p hM, Option.bind_some]
    show (link_Text.f k a b n p).bind _ = _
    rw [hT, Option.bind_some, if_pos ⟨rfl, rfl⟩]
end Go.Proofs.YtmimnlbkllgfpaaGreatDoor.Rl
/- A text with no error is the text of a link that may be. -/
namespace Go.Proofs.YtmimnlbkllgfpaaGreatDoor.Rl
open Go.RowKit Go.Proofs.YtmimnlbkllgfpaaGreatDoor.A Go.Proofs.YtmimnlbkllgfpaaGreatDoor.Hand Go.Proofs.YtmimnlbkllgfpaaGreatDoor.Tx Go.Proofs.YtmimnlbkllgfpaaGreatDoorW.PrintWords Go.Proofs.YtmimnlbkllgfpaaGreatDoorW.PrintLast Go.Proofs.YtmimnlbkllgfpaaGreatDoorW.PrintMore

theorem up {α : Type} {F : Nat → Option α} {r : α} (hm : ∀ k, LeO (F k) (F (k + 1))) {n m : Nat} (h : F n = some r) (hnm : n ≤ m) : F m = some r := by
  induction m with
  | zero => obtain rfl : n = 0 := by omega
            exact h
  | succ k ih =>
    rcases Nat.lt_or_ge k n with hlt | hge
    · obtain rfl : n = k + 1 := by omega
      exact h
    · exact hm k r (ih hge)
theorem check_up (a b : ByteArray) (n : List Int) (p : List S24) (k m : Nat) (hk : 1100 ≤ k) (hm : 1100 ≤ m) (h : link_Check.f k a b n p = some true) : link_Check.f m a b n p = some true := by
  obtain ⟨r, hr, _⟩ := check_eq a b n p 1100 (Nat.le_refl _)
  have h1 := up (fun k => link_Check.mono a b n p k) hr hk
  rw [h] at h1
  have h2 := up (fun k => link_Check.mono a b n p k) hr hm
  rw [h2, ← h1]
/-- A text with no error is the text of a link that may be. -/
theorem text_ok (a b : ByteArray) (n : List Int) (p : List S24) (k : Nat) (hk : 1200 ≤ k) (t : ByteArray) (h : link_Text.f k a b n p = some (t, 0)) : link_Check.f k a b n p = some true ∧ t = cur (Bp.b32 a) (partsB b n p) := by
  obtain ⟨r, hr, hM⟩ := check_eq a b n p k (by omega)
  have hc : r = true := by
    cases r with
    | true => rfl
    | false =>
      unfold link_Text.f at h
      rw [hr, Option.bind_some, if_neg (by simp)] at h
      have := Option.some.inj h
      rw [Prod.mk.injEq] at this
      exact absurd this.2 (by decide)
  subst hc
  have := text_val a b n p (hM rfl) k hk hr
  rw [h] at this
  have := Option.some.inj this
  rw [Prod.mk.injEq] at this
  exact ⟨hr, this.1⟩
end Go.Proofs.YtmimnlbkllgfpaaGreatDoor.Rl
