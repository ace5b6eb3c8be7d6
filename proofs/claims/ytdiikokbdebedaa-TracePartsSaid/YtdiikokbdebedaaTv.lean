/- trace.Unpack as a whole; few, refs, Same. -/
import Derived.Test.YtdiikokbdebedaaPx0
import Derived.Test.YtdiikokbdebedaaPx3
import Derived.Test.YtdiikokbdebedaaPx4
import Derived.Test.YtdiikokbdebedaaTu
namespace Go.Proofs.Ytdiikokbdebedaa.Tr
open Go.RowKit Go.Proofs.Ytdiikokbdebedaa.P Go.Proofs.Ytdiikokbdebedaa.Ck Go.Proofs.Ytdiikokbdebedaa.Pk Go.Proofs.Ytdiikokbdebedaa.Hand Go.Proofs.YtdiikokbdebedaaW.PrintWords Go.Proofs.YtdiikokbdebedaaW.PrintLast Go.Proofs.YtdiikokbdebedaaW.PrintMore

/-- A trace whose bytes these are. -/
def Is (s : ByteArray) (l : List S47) : Prop := checkB (l.map toEv) = true ∧ s.data.toList = packL (l.map toEv)
theorem check_len (l : List S47) (h : checkB (l.map toEv) = true) : l.length ≤ 500 ∧ ∀ x ∈ l, evB (toEv x) = true := by
  unfold checkB at h
  rw [Bool.and_eq_true, decide_eq_true_iff, List.length_map] at h
  exact ⟨h.1, fun x hx => List.all_eq_true.mp h.2 _ (List.mem_map_of_mem hx)⟩
theorem packL_eq (l : List S47) : packL (l.map toEv) = [116, 114, 99, 49] ++ (be2 l.length ++ evs l) := by
  unfold packL evs; rw [List.length_map, List.append_assoc]
theorem Is.unique {s : ByteArray} {l m : List S47} (hl : Is s l) (hm : Is s m) : l = m := by
  obtain ⟨c1, p1⟩ := hl
  obtain ⟨c2, p2⟩ := hm
  obtain ⟨n1, v1⟩ := check_len l c1
  obtain ⟨n2, v2⟩ := check_len m c2
  rw [p1, packL_eq, packL_eq] at p2
  have p3 := List.append_cancel_left p2
  have hb : be2 l.length = be2 m.length := (List.append_inj p3 (by simp [be2])).1
  have hlen : l.length = m.length := by
    have h1 := be2_num l.length (by omega)
    have h2 := be2_num m.length (by omega)
    unfold be2 at hb
    simp only [List.cons.injEq, and_true] at hb
    rw [hb.1, hb.2] at h1
    omega
  have he := (List.append_inj p3 (by simp [be2])).2
  exact evs_inj l m hlen v1 v2 [] [] (by rw [List.append_nil, List.append_nil]; exact he)

theorem mn_le (n : Nat) : mn (n : Int) 501 = ((min n 501 : Nat) : Int) := by unfold mn; split <;> omega

theorem num_ok' (k z : Nat) (s : ByteArray) (hk : 1 ≤ k) (h1 : 1 ≤ z) (h7 : z ≤ 7) (h : z ≤ s.size) : oct_Reader_Num.f k s 0 (z : Int) = some ((Ge.getN 0 (s.data.toList.take z) : Int), s.extract z s.size, 0) := by
  obtain ⟨k, rfl⟩ : ∃ k', k = k' + 1 := ⟨k - 1, by omega⟩
  exact num_ok k z s h1 h7 h
theorem num_bad' (k z : Nat) (s : ByteArray) (hk : 1 ≤ k) (h1 : 1 ≤ z) (h7 : z ≤ 7) (h : s.size < z) : oct_Reader_Num.f k s 0 (z : Int) = some (0, s, 7) := by
  obtain ⟨k, rfl⟩ : ∃ k', k = k' + 1 := ⟨k - 1, by omega⟩
  exact num_bad k z s h1 h7 h
theorem num_err' (k z : Nat) (s : ByteArray) (e : Int) (hk : 1 ≤ k) (h1 : 1 ≤ z) (h7 : z ≤ 7) (h : e ≠ 0) : oct_Reader_Num.f k s e (z : Int) = some (0, s, e) := by
  obtain ⟨k, rfl⟩ : ∃ k', k = k' + 1 := ⟨k - 1, by omega⟩
  exact num_err k z s e h1 h7 h
theorem l0_zero (k : Nat) (x5 : ByteArray) (x6 : Int) (out : List S47) (s : ByteArray) (e : Int) (h : e ≠ 0) : trace_Unpack.l0 (k + 2) x5 x6 out 0 0 s e = some ([], 3) := by
  rw [trace_Unpack.l0, if_neg (by omega), j1_err _ _ _ _ _ _ h]

theorem l0_zero' (k : Nat) (hk : 2 ≤ k) (x5 : ByteArray) (x6 : Int) (out : List S47) (s : ByteArray) (e : Int) (h : e ≠ 0) : trace_Unpack.l0 k x5 x6 out 0 0 s e = some ([], 3) := by
  obtain ⟨k, rfl⟩ : ∃ k', k = k' + 2 := ⟨k - 2, by omega⟩
  exact l0_zero k x5 x6 out s e h
theorem unpack (s : ByteArray) (k : Nat) (hk : 600 ≤ k) : ∃ m e, trace_Unpack.f k s = some (m, e) ∧ ((e = 0 ∧ Is s m) ∨ (e = 3 ∧ m = [] ∧ ∀ l, ¬ Is s l)) := by
  have hL := lenB s
  unfold trace_Unpack.f
  simp only [oct_From.f, Option.bind_some, oct_Reader_Raw.f]
  by_cases h4 : s.size < 4
  · refine ⟨[], 3, ?_, Or.inr ⟨rfl, rfl, ?_⟩⟩
    · have c4 := cut_short s 4 h4
      rw [show ((4 : Nat) : Int) = 4 from rfl] at c4
      have n2 := num_err' k 2 s 7 (by omega) (by omega) (by omega) (by decide)
      rw [show ((2 : Nat) : Int) = 2 from rfl] at n2
      rw [c4]
      simp only [Option.bind_some]
      rw [n2]
      simp only [Option.bind_some]
      rw [show mn 0 501 = 0 from rfl, l0_zero' _ (by omega) _ _ _ _ _ (by decide)]
    · rintro l ⟨_, hp⟩
      rw [hp, packL_eq] at hL
      simp at hL; omega
  · have c4 := cut_ok s 4 (by omega)
    rw [show ((4 : Nat) : Int) = 4 from rfl] at c4
    have hf : (s.extract 0 4).data.toList = s.data.toList.take 4 := take_data s 4
    have hd : (s.extract 4 s.size).data.toList = s.data.toList.drop 4 := drop_data s 4
    have hs1 : (s.extract 4 s.size).size = s.size - 4 := by rw [← lenB, hd, List.length_drop, hL]
    rw [c4]
    simp only [Option.bind_some]
    generalize hx5 : s.extract 0 4 = x5 at *
    generalize s.extract 4 s.size = s1 at *
    by_cases h6 : s1.size < 2
    · refine ⟨[], 3, ?_, Or.inr ⟨rfl, rfl, ?_⟩⟩
      · have n2 := num_bad' k 2 s1 (by omega) (by omega) (by omega) h6
        rw [show ((2 : Nat) : Int) = 2 from rfl] at n2
        rw [n2]
        simp only [Option.bind_some]
        rw [show mn 0 501 = 0 from rfl, l0_zero' _ (by omega) _ _ _ _ _ (by decide)]
      · rintro l ⟨_, hp⟩
        rw [hp, packL_eq] at hL
        simp [be2] at hL; omega
    · obtain ⟨d, e, u, hu⟩ : ∃ d e u, s1.data.toList = d :: e :: u := by
        have := lenB s1
        match hh : s1.data.toList with
        | [] => rw [hh] at this; simp at this; omega
        | [_] => rw [hh] at this; simp at this; omega
        | d :: e :: u => exact ⟨d, e, u, rfl⟩
      have n2 := num_ok' k 2 s1 (by omega) (by omega) (by omega) (by omega)
      rw [show ((2 : Nat) : Int) = 2 from rfl, hu] at n2
      have g2 : (Ge.getN 0 (List.take 2 (d :: e :: u)) : Int) = ((d.toNat * 256 + e.toNat : Nat) : Int) := by simp [Ge.getN]
      rw [g2] at n2
      have d2 : (s1.extract 2 s1.size).data.toList = u := by rw [drop_data, hu]; rfl
      rw [n2]
      simp only [Option.bind_some]
      generalize s1.extract 2 s1.size = s2 at *
      have hdlt := d.toNat_lt
      have helt := e.toNat_lt
      obtain ⟨n, hn⟩ : ∃ n, n = d.toNat * 256 + e.toNat := ⟨_, rfl⟩
      have hbe : be2 n = [d, e] := by rw [hn, be2_of]
      have hs : s.data.toList = x5.data.toList ++ (be2 n ++ u) := by
        rw [hf, hbe, show [d, e] ++ u = d :: e :: u from rfl, ← hu, hd, List.take_append_drop]
      have hnb := be2_num n (by omega)
      rw [← hn, mn_le]
      have hl0 : x5.data.toList.length = 4 := by rw [hf, List.length_take, hL]; omega
      have key : ∀ l, Is s l → x5.data.toList = [116, 114, 99, 49] ∧ l.length = n ∧ u = evs l := by
        rintro l ⟨hc, hp⟩
        rw [hs, packL_eq] at hp
        obtain ⟨p1, p2⟩ := List.append_inj hp (by rw [hl0]; rfl)
        obtain ⟨p3, p4⟩ := List.append_inj p2 (by simp [be2])
        obtain ⟨hl5, _⟩ := check_len l hc
        have h1 := be2_num l.length (by omega)
        unfold be2 at p3
        simp only [List.cons.injEq, and_true] at p3
        rw [← p3.1, ← p3.2] at h1
        exact ⟨p1, by omega, p4⟩
      rcases loop (min n 501) k x5 (n : Int) ((min n 501 : Nat) : Int) [] 0 s2 (by omega) (by omega) (by simp) (by omega) with ⟨l, t, k', g1, g2', g3, g4⟩ | ⟨g1, g2'⟩
      · rw [show ((0 : Nat) : Int) = 0 from rfl, List.nil_append] at g3
        rw [g3]
        rcases j1_ok k' x5 (n : Int) l t (by omega) with ⟨q1, q2, q3, q4, q5⟩ | ⟨q1, q5⟩
        · refine ⟨l, 0, q5, Or.inl ⟨rfl, q4, ?_⟩⟩
          rw [hs, packL_eq, q1, ← d2, g2', q2, List.append_nil, show l.length = n by omega]
        · refine ⟨[], 3, q5, Or.inr ⟨rfl, rfl, ?_⟩⟩
          intro m hm
          obtain ⟨p1, p2, p3⟩ := key m hm
          obtain ⟨hl5, hv⟩ := check_len m hm.1
          obtain ⟨w1, w2⟩ := g4 m [] (by omega) hv (by rw [d2, p3, List.append_nil])
          refine q1 ⟨p1, w2.symm, ?_, ?_⟩
          · rw [← w1, p2]
          · rw [← w1]; exact hm.1
      · rw [show ((0 : Nat) : Int) = 0 from rfl] at g1
        refine ⟨[], 3, g1, Or.inr ⟨rfl, rfl, ?_⟩⟩
        intro m hm
        obtain ⟨p1, p2, p3⟩ := key m hm
        obtain ⟨hl5, hv⟩ := check_len m hm.1
        exact g2' m [] (by omega) hv (by rw [List.append_nil, d2, p3])

end Go.Proofs.Ytdiikokbdebedaa.Tr
