/- plane.Near answers what the document says: in plain words, of the printed law. -/
import Derived.Test.YtlpidjenifbjeaaPx5
import Derived.Test.YtlpidjenifbjeaaPa
namespace Go.Proofs.Ytlpidjenifbjeaa.Pure
open Go.RowKit Go.Proofs.Ytlpidjenifbjeaa.P Go.Proofs.YtlpidjenifbjeaaW.PrintWords Go.Proofs.YtlpidjenifbjeaaW.PrintLast Go.Proofs.Ytlpidjenifbjeaa.Pl Go.Proofs.Ytlpidjenifbjeaa.Hand Go.Proofs.PlaceSort

def toR (x : S23) : S27 := ⟨x.f0, x.f1⟩
theorem rd_map (l : List S23) (i : Int) : rd_T27 (l.map toR) i = toR (rd_T23 l i) := by
  unfold rd_T27 rd_T23
  rw [List.getD_eq_getElem?_getD, List.getD_eq_getElem?_getD, List.getElem?_map]
  cases l[i.toNat]? <;> rfl
/-- Same lists are the same. -/
theorem same_l0 (l : List Int) (hl : l.length ≤ 1000) : ∀ (m i k : Nat), i + m = l.length → mosaicref04_Same.l0 (k + m + 1) l l (i : Int) = some true
  | 0, i, k, h => by
    unfold mosaicref04_Same.l0
    rw [if_neg (by omega)]
  | m + 1, i, k, h => by
    have ih := same_l0 l hl m (i + 1) k (by omega)
    rw [show k + (m + 1) + 1 = (k + m + 1) + 1 by omega]
    unfold mosaicref04_Same.l0
    rw [if_pos (by omega), if_pos (by omega), if_pos (by omega), if_pos rfl, wrap_eq (by omega)]
    rw [← ih]
    congr 1
theorem same_eq (l : List Int) (hl : l.length ≤ 1000) (k : Nat) (hk : l.length + 1 ≤ k) : mosaicref04_Same.f k l l = some true := by
  unfold mosaicref04_Same.f
  rw [if_pos rfl]
  have := same_l0 l hl l.length 0 (k - l.length - 1) (by omega)
  rw [show k - l.length - 1 + l.length + 1 = k by omega] at this
  exact this
/-- The document's check of all. -/
theorem ref_l0 (l : List S23) (a b : Int) (hl : l.length ≤ 1000) : ∀ (m i k : Nat), i + m = l.length →
    mosaicref17_Near.l0 (k + m + 1) (l.map toR) (i : Int) a b = if bad (l.drop i) = true then some ([], 1) else if 160 < l.length then some ([], 2) else mosaicref17_Near.l1 k (l.map toR) [] 0 a b
  | 0, i, k, h => by
    have hd : l.drop i = [] := List.drop_eq_nil_of_le (by omega)
    unfold mosaicref17_Near.l0
    rw [if_neg (by rw [List.length_map]; omega), hd]
    have hb : ¬ bad ([] : List S23) = true := by simp [bad]
    conv => rhs; rw [if_neg hb]
    by_cases h1 : 160 < l.length
    · rw [if_pos (by rw [List.length_map]; omega), if_pos h1]
    · rw [if_neg (by rw [List.length_map]; omega), if_neg h1]
  | m + 1, i, k, h => by
    have ih := ref_l0 l a b hl m (i + 1) k (by omega)
    have hi : i < l.length := by omega
    rw [show k + (m + 1) + 1 = (k + m + 1) + 1 by omega]
    unfold mosaicref17_Near.l0
    rw [if_pos (by rw [List.length_map]; omega), if_pos (by omega), rd_map, refCheck_eq, Option.bind_some, wrap_eq (by omega), rd_at l i hi]
    have hd : l.drop i = l[i] :: l.drop (i + 1) := List.drop_eq_getElem_cons hi
    have hb : bad (l.drop i) = (!okS l[i] || bad (l.drop (i + 1))) := by rw [hd]; rfl
    rw [hb]
    show (if okB (toR l[i]).f0 (toR l[i]).f1 = true then _ else _) = _
    cases ho : okB (toR l[i]).f0 (toR l[i]).f1 with
    | false =>
      have ho' : okS l[i] = false := ho
      rw [if_neg (by simp), ho', if_pos (by simp)]
    | true =>
      have ho' : okS l[i] = true := ho
      rw [if_pos rfl, ho', Bool.not_true, Bool.false_or, ← ih]
      congr 1
/-- One more, once it is put. -/
theorem ref_l2t (l : List S23) (out : List Int) (a b x8 : Int) (ho : out.length ≤ 1000) : ∀ (m j k : Nat) (nx : List Int), j + m = out.length → nx.length ≤ 2000 + j →
    mosaicref17_Near.l2 (k + m + 1) (l.map toR) out x8 nx true (j : Int) a b = mosaicref17_Near.l1 k (l.map toR) (nx ++ out.drop j) (wrap64 (x8 + 1)) a b
  | 0, j, k, nx, h, hn => by
    unfold mosaicref17_Near.l2
    rw [if_neg (by omega), if_pos rfl, List.drop_eq_nil_of_le (by omega), List.append_nil]
  | m + 1, j, k, nx, h, hn => by
    have ih := ref_l2t l out a b x8 ho m (j + 1) k (nx ++ [rd out (j : Int)]) (by omega) (by rw [List.length_append, List.length_singleton]; omega)
    rw [show k + (m + 1) + 1 = (k + m + 1) + 1 by omega]
    unfold mosaicref17_Near.l2
    have hj : j < out.length := by omega
    rw [if_pos (by omega), if_pos rfl, if_pos (by omega), if_pos (by omega), wrap_eq (by omega)]
    have hd : out.drop j = rd out (j : Int) :: out.drop (j + 1) := by
      rw [List.drop_eq_getElem_cons hj]
      congr 1
      unfold rd
      rw [Int.toNat_natCast, List.getD_eq_getElem?_getD, List.getElem?_eq_getElem hj]; rfl
    rw [hd, show nx ++ rd out (j : Int) :: out.drop (j + 1) = nx ++ [rd out (j : Int)] ++ out.drop (j + 1) by simp, ← ih]
    congr 1
/-- One more, not put yet. -/
theorem ref_l2f (l : List S23) (out : List Int) (a b : Int) (i : Nat) (hi : i < l.length) (hl : l.length ≤ 1000) (ho : out.length ≤ 1000) (hin : ∀ y ∈ out, 0 ≤ y ∧ y < l.length) : ∀ (m j k : Nat) (nx : List Int), j + m = out.length → nx.length = j →
    mosaicref17_Near.l2 (k + m + 1) (l.map toR) out (i : Int) nx false (j : Int) a b = mosaicref17_Near.l1 k (l.map toR) (nx ++ mrg (dst (a, b) l) (out.drop j) [(i : Int)]) ((i + 1 : Nat) : Int) a b
  | 0, j, k, nx, h, hn => by
    unfold mosaicref17_Near.l2
    rw [if_neg (by omega), if_neg (by simp), if_pos (by omega), List.drop_eq_nil_of_le (by omega), mrg_nil, wrap_eq (by omega)]
    congr 1
  | m + 1, j, k, nx, h, hn => by
    rw [show k + (m + 1) + 1 = (k + m + 1) + 1 by omega]
    unfold mosaicref17_Near.l2
    have hj : j < out.length := by omega
    have he : rd out (j : Int) = out[j] := by
      unfold rd
      rw [Int.toNat_natCast, List.getD_eq_getElem?_getD, List.getElem?_eq_getElem hj]; rfl
    have hr := hin out[j] (List.getElem_mem hj)
    have hd : out.drop j = out[j] :: out.drop (j + 1) := List.drop_eq_getElem_cons hj
    rw [if_pos (by omega), if_neg (by simp), if_pos (by omega), if_pos (by rw [List.length_map]; omega), rd_map, he, rd_map, refDist_eq, Option.bind_some, if_pos (by omega), if_pos (by omega), if_pos (by rw [List.length_map]; omega), refDist_eq, Option.bind_some]
    rw [hd]
    have e1 : distP a b (toR (rd_T23 l (i : Int))).f0 (toR (rd_T23 l (i : Int))).f1 = dst (a, b) l (i : Int) := rfl
    have e2 : distP a b (toR (rd_T23 l out[j])).f0 (toR (rd_T23 l out[j])).f1 = dst (a, b) l out[j] := rfl
    rw [e1, e2]
    by_cases hlt : dst (a, b) l (i : Int) < dst (a, b) l out[j]
    · rw [if_pos hlt, if_pos (by omega), Option.bind_some, if_pos (by rw [List.length_append, List.length_singleton]; omega), wrap_eq (by omega), mrg_lt _ _ hlt, mrg_nil']
      have := ref_l2t l out a b (i : Int) ho m (j + 1) k (nx ++ [(i : Int)] ++ [out[j]]) (by omega) (by simp only [List.length_append, List.length_singleton]; omega)
      rw [show nx ++ (i : Int) :: out[j] :: out.drop (j + 1) = nx ++ [(i : Int)] ++ [out[j]] ++ out.drop (j + 1) by simp]
      rw [wrap_eq (by omega)] at this
      exact this
    · rw [if_neg hlt, if_pos (by omega), wrap_eq (by omega), mrg_ge _ _ hlt]
      have ih := ref_l2f l out a b i hi hl ho hin m (j + 1) k (nx ++ [out[j]]) (by omega) (by rw [List.length_append, List.length_singleton]; omega)
      rw [show nx ++ out[j] :: mrg (dst (a, b) l) (out.drop (j + 1)) [(i : Int)] = nx ++ [out[j]] ++ mrg (dst (a, b) l) (out.drop (j + 1)) [(i : Int)] by simp]
      exact ih
/-- All of them. -/
theorem ref_l1 (l : List S23) (a b : Int) (hl : l.length ≤ 1000) : ∀ (m i : Nat), i + m = l.length → ∃ K, ∀ k, K ≤ k →
    mosaicref17_Near.l1 k (l.map toR) (srt (dst (a, b) l) (from_ 0 i)) (i : Int) a b = some (srt (dst (a, b) l) (from_ 0 l.length), 0)
  | 0, i, h => ⟨1, fun k hk => by
    obtain ⟨k, rfl⟩ : ∃ k', k = k' + 1 := ⟨k - 1, by omega⟩
    unfold mosaicref17_Near.l1
    rw [if_neg (by rw [List.length_map]; omega), show i = l.length by omega]⟩
  | m + 1, i, h => by
    obtain ⟨K, hK⟩ := ref_l1 l a b hl m (i + 1) (by omega)
    refine ⟨K + i + 2, fun k hk => ?_⟩
    obtain ⟨k, rfl⟩ : ∃ k', k = k' + i + 1 + 1 := ⟨k - i - 2, by omega⟩
    have hlen : (srt (dst (a, b) l) (from_ 0 i)).length = i := by rw [srt_len, from_len]
    unfold mosaicref17_Near.l1
    rw [if_pos (by rw [List.length_map]; omega)]
    have := ref_l2f l (srt (dst (a, b) l) (from_ 0 i)) a b i (by omega) hl (by omega) (fun y hy => by
      have := from_in i y ((srt_mem _ _ _).mp hy)
      omega) i 0 k [] (by omega) rfl
    rw [List.drop_zero, List.nil_append, ← srt_snoc, ← from_snoc] at this
    rw [← hK k (by omega), ← this]
    rfl
/-- The document's answer. -/
theorem ref_near (l : List S23) (a b : Int) (hl : l.length ≤ 1000) : ∃ K, ∀ k, K ≤ k → mosaicref17_Near.f k a b (l.map toR) = plane_Near.f a b l := by
  obtain ⟨K, hK⟩ := ref_l1 l a b hl l.length 0 (by omega)
  refine ⟨K + l.length + 1, fun k hk => ?_⟩
  obtain ⟨k, rfl⟩ : ∃ k', k = k' + l.length + 1 := ⟨k - l.length - 1, by omega⟩
  have h0 := ref_l0 l a b hl l.length 0 k (by omega)
  unfold mosaicref17_Near.f plane_Near.f
  rw [refCheck_eq, Option.bind_some, if_pos hl]
  cases okB a b with
  | false => rfl
  | true =>
    rw [if_pos rfl, if_pos rfl]
    rw [List.drop_zero] at h0
    have hk1 := hK k (by omega)
    have e : mosaicref17_Near.l1 k (l.map toR) [] 0 a b = some (srt (dst (a, b) l) (from_ 0 l.length), 0) := hk1
    rw [e] at h0
    exact h0
/-- The law's own row of places. -/
theorem law_l0 (l : List S23) (a b : Int) (hl : l.length ≤ 1000) : ∀ (m i k : Nat), i + m = l.length →
    mosaiclaw17_PlaneNear.l0 (k + m + 1) l ((l.map toR).take i) (i : Int) a b = mosaiclaw17_PlaneNear.l0 (k + 1) l (l.map toR) (l.length : Int) a b
  | 0, i, k, h => by
    rw [List.take_of_length_le (by rw [List.length_map]; omega), show i = l.length by omega]
  | m + 1, i, k, h => by
    have ih := law_l0 l a b hl m (i + 1) k (by omega)
    have hi : i < l.length := by omega
    rw [← ih, show k + (m + 1) + 1 = (k + m + 1) + 1 by omega]
    conv => lhs; unfold mosaiclaw17_PlaneNear.l0
    rw [if_pos (by omega), if_pos (by omega), wrap_eq (by omega), rd_at l i hi]
    have e : mosaiclaw17_Ref.f l[i].f0 l[i].f1 = some (l[i].f0, l[i].f1) := rfl
    rw [e, Option.bind_some, if_pos (by rw [List.length_take, List.length_map]; omega)]
    have ht : (l.map toR).take (i + 1) = (l.map toR).take i ++ [toR l[i]] := by
      rw [List.take_add_one, List.getElem?_map, List.getElem?_eq_getElem hi]; rfl
    rw [ht]
    congr 1

theorem PlaneNear : mosaiclaw17_PlaneNear.Pure := by
  intro a b l _ _ _
  by_cases h170 : (l.length : Int) > 170
  · refine ⟨24, ?_⟩
    unfold mosaiclaw17_PlaneNear.f
    rw [if_pos h170, awake_eq 24 (by omega)]; rfl
  · obtain ⟨K, hK⟩ := ref_near l a b (by omega)
    have hn : ∃ s e, plane_Near.f a b l = some (s, e) ∧ s.length ≤ 1000 := by
      unfold plane_Near.f
      rw [if_pos (by omega)]
      repeat' split
      · exact ⟨_, _, rfl, by simp⟩
      · exact ⟨_, _, rfl, by simp⟩
      · exact ⟨_, _, rfl, by rw [srt_len, from_len]; omega⟩
      · exact ⟨_, _, rfl, by simp⟩
    obtain ⟨s, e, hs, hsl⟩ := hn
    obtain ⟨k, hk⟩ : ∃ k, k = K + 24 + s.length + 1 := ⟨_, rfl⟩
    refine ⟨k + l.length + 1, ?_⟩
    unfold mosaiclaw17_PlaneNear.f
    rw [if_neg h170]
    have h0 := law_l0 l a b (by omega) l.length 0 k (by omega)
    rw [List.take_zero] at h0
    have h1 : mosaiclaw17_PlaneNear.l0 (k + l.length + 1) l [] 0 a b = _ := h0
    rw [h1]
    unfold mosaiclaw17_PlaneNear.l0
    rw [if_neg (by omega), hs, Option.bind_some]
    have e2 : mosaiclaw17_Ref.f a b = some (a, b) := rfl
    rw [e2, Option.bind_some]
    show ((mosaicref17_Near.f k a b (l.map toR)).bind _) = _
    rw [hK k (by omega), hs, Option.bind_some, awake_eq k (by omega), Option.bind_some, if_pos rfl]
    show ((mosaicref04_Same.f k s s).bind _) = _
    rw [same_eq s hsl k (by omega), Option.bind_some, if_pos rfl]
    simp

end Go.Proofs.Ytlpidjenifbjeaa.Pure
