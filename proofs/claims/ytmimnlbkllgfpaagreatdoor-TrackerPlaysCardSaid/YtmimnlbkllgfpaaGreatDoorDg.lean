/- What the document finds, and which link it tells: in plain lists. -/
import Derived.Test.YtmimnlbkllgfpaaGreatDoorDf2
import Derived.Test.YtmimnlbkllgfpaaGreatDoorDe
import Derived.Test.YtmimnlbkllgfpaaGreatDoorTt
import Derived.Test.YtmimnlbkllgfpaaGreatDoorLk
namespace Go.Proofs.YtmimnlbkllgfpaaGreatDoor.Tb
set_option linter.unusedVariables false
set_option linter.unusedSimpArgs false
open Go.RowKit Go.Maps Go.Proofs.YtmimnlbkllgfpaaGreatDoor.A Go.Proofs.YtmimnlbkllgfpaaGreatDoorW.PrintWords Go.Proofs.YtmimnlbkllgfpaaGreatDoor.Di Go.Proofs.YtmimnlbkllgfpaaGreatDoor.So

def pr (p : S40) : Int × Int := (p.f0, p.f1)
theorem rd40 {L : List S40} {j : Nat} (h : j < L.length) : rd_T40 L (j : Int) = L[j] := by
  unfold rd_T40; rw [Int.toNat_natCast, List.getD_eq_getElem?_getD, List.getElem?_eq_getElem h]; rfl
theorem rdi {L : List Int} {j : Nat} (h : j < L.length) : rd L (j : Int) = L[j] := by
  unfold rd; rw [Int.toNat_natCast, List.getD_eq_getElem?_getD, List.getElem?_eq_getElem h]; rfl
theorem ddist (a b c d : Int) : mosaicref17_Dist.f a b c d = some (distP a b c d) := by
  unfold mosaicref17_Dist.f distP
  simp only [dcheck, Option.bind_some]
  cases h1 : okB a b <;> cases h2 : okB c d <;> simp
  rw [okB_iff] at h1 h2
  have m1 : -(2097152 * 2097152) ≤ (a - c) * (a - c) ∧ (a - c) * (a - c) ≤ 2097152 * 2097152 := mul_le (by omega) (by omega)
  have m2 : -(2097152 * 2097152) ≤ (b - d) * (b - d) ∧ (b - d) * (b - d) ≤ 2097152 * 2097152 := mul_le (by omega) (by omega)
  rw [wrap_eq (n := a - c) (by omega), wrap_eq (n := b - d) (by omega), wrap_eq (n := (a - c) * (a - c)) (by omega), wrap_eq (n := (b - d) * (b - d)) (by omega), wrap_eq (by omega)]
theorem dst40 (a b : Int) {L : List S40} {j : Nat} (h : j < L.length) : dst (a, b) (L.map pr) (j : Int) = distP a b L[j].f0 L[j].f1 := by
  unfold dst
  rw [Int.toNat_natCast, List.getD_eq_getElem?_getD, List.getElem?_map, List.getElem?_eq_getElem h]; rfl
theorem near_l0 (L : List S40) (a b : Int) (hl : L.length ≤ 100) (hok : ∀ p ∈ L, okB p.f0 p.f1 = true) : ∀ (m j k : Nat), j + m = L.length →
    mosaicref17_Near.l0 (k + m + 1) L (j : Int) a b = mosaicref17_Near.l1 k L [] 0 a b
  | 0, j, k, h => by
    rw [mosaicref17_Near.l0, if_neg (by omega), if_neg (by omega)]
  | m + 1, j, k, h => by
    have hlt : j < L.length := by omega
    rw [show k + (m + 1) + 1 = (k + m + 1) + 1 by omega, mosaicref17_Near.l0, if_pos (by omega), if_pos (by omega), rd40 hlt, dcheck, Option.bind_some, if_pos (hok _ (List.getElem_mem hlt)), wS (by omega)]
    exact near_l0 L a b hl hok m (j + 1) k (by omega)
theorem near_l2t (L : List S40) (out : List Int) (a b x8 : Int) (ho : out.length ≤ 1000) : ∀ (m j k : Nat) (nx : List Int), j + m = out.length → nx.length ≤ 2000 + j →
    mosaicref17_Near.l2 (k + m + 1) L out x8 nx true (j : Int) a b = mosaicref17_Near.l1 k L (nx ++ out.drop j) (wrap64 (x8 + 1)) a b
  | 0, j, k, nx, h, hn => by
    rw [mosaicref17_Near.l2, if_neg (by omega), if_pos rfl, List.drop_eq_nil_of_le (by omega), List.append_nil]
  | m + 1, j, k, nx, h, hn => by
    have hj : j < out.length := by omega
    have ih := near_l2t L out a b x8 ho m (j + 1) k (nx ++ [out[j]]) (by omega) (by rw [List.length_append, List.length_singleton]; omega)
    rw [show k + (m + 1) + 1 = (k + m + 1) + 1 by omega, mosaicref17_Near.l2, if_pos (by omega), if_pos rfl, if_pos (by omega), if_pos (by omega), wS (by omega), rdi hj, ih, List.drop_eq_getElem_cons hj]
    congr 1
    simp
theorem near_l2f (L : List S40) (out : List Int) (a b : Int) (i : Nat) (hi : i < L.length) (hl : L.length ≤ 100) (ho : out.length ≤ 1000) (hin : ∀ y ∈ out, 0 ≤ y ∧ y < L.length) : ∀ (m j k : Nat) (nx : List Int), j + m = out.length → nx.length = j →
    mosaicref17_Near.l2 (k + m + 1) L out (i : Int) nx false (j : Int) a b = mosaicref17_Near.l1 k L (nx ++ insL (dst (a, b) (L.map pr)) (i : Int) (out.drop j)) ((i + 1 : Nat) : Int) a b
  | 0, j, k, nx, h, hn => by
    rw [mosaicref17_Near.l2, if_neg (by omega), if_neg (by simp), if_pos (by omega), List.drop_eq_nil_of_le (by omega), wS (by omega)]
    rfl
  | m + 1, j, k, nx, h, hn => by
    have hj : j < out.length := by omega
    obtain ⟨r0, r1⟩ := hin out[j] (List.getElem_mem hj)
    obtain ⟨q, hq⟩ := Int.eq_ofNat_of_zero_le r0
    have hq' : q < L.length := by omega
    rw [show k + (m + 1) + 1 = (k + m + 1) + 1 by omega, mosaicref17_Near.l2, if_pos (by omega), if_neg (by simp), if_pos (by omega), if_pos (by omega), rd40 hi, ddist, Option.bind_some, if_pos (by omega), rdi hj, if_pos r0, if_pos r1, hq, rd40 hq', ddist, Option.bind_some,
      ← dst40 a b hi, ← dst40 a b hq', ← hq, List.drop_eq_getElem_cons hj, insL]
    by_cases hlt : dst (a, b) (L.map pr) (i : Int) < dst (a, b) (L.map pr) out[j]
    · rw [if_pos hlt, if_pos hlt, if_pos (by omega), Option.bind_some, if_pos (by rw [List.length_append, List.length_singleton]; omega), wS (by omega), near_l2t L out a b (i : Int) ho m (j + 1) k (nx ++ [(i : Int)] ++ [out[j]]) (by omega) (by simp only [List.length_append, List.length_singleton]; omega), wS (by omega)]
      congr 1
      simp
    · rw [if_neg hlt, if_neg hlt, if_pos (by omega), wS (by omega), near_l2f L out a b i hi hl ho hin m (j + 1) k (nx ++ [out[j]]) (by omega) (by rw [List.length_append, List.length_singleton]; omega)]
      congr 1
      simp
theorem near_l1 (L : List S40) (a b : Int) (hl : L.length ≤ 100) : ∀ (m i k : Nat), i + m = L.length → m * 200 < k →
    mosaicref17_Near.l1 k L (nearL (dst (a, b) (L.map pr)) i) (i : Int) a b = some (nearL (dst (a, b) (L.map pr)) L.length, 0)
  | 0, i, k, h, hk => by
    obtain ⟨k, rfl⟩ : ∃ k', k = k' + 1 := ⟨k - 1, by omega⟩
    rw [mosaicref17_Near.l1, if_neg (by omega), show i = L.length by omega]
  | m + 1, i, k, h, hk => by
    obtain ⟨k, rfl⟩ : ∃ k', k = k' + i + 1 + 1 := ⟨k - i - 2, by omega⟩
    have hlen := nearL_len (dst (a, b) (L.map pr)) i
    rw [mosaicref17_Near.l1, if_pos (by omega)]
    have := near_l2f L (nearL (dst (a, b) (L.map pr)) i) a b i (by omega) hl (by omega) (fun y hy => by have := (nearL_mem _ _ y).1 hy; omega) i 0 k [] (by omega) rfl
    rw [List.drop_zero, List.nil_append] at this
    have e : mosaicref17_Near.l2 (k + i + 1) L (nearL (dst (a, b) (L.map pr)) i) (i : Int) [] false 0 a b = _ := this
    rw [e]
    exact near_l1 L a b hl m (i + 1) k (by omega) (by omega)
theorem dnear (L : List S40) (a b : Int) (hl : L.length ≤ 16) (ha : okB a b = true) (hok : ∀ p ∈ L, okB p.f0 p.f1 = true) (k : Nat) (hk : 4000 ≤ k) :
    mosaicref17_Near.f k a b L = some (nearL (dst (a, b) (L.map pr)) L.length, 0) := by
  obtain ⟨k, rfl⟩ : ∃ k', k = k' + L.length + 1 := ⟨k - L.length - 1, by omega⟩
  unfold mosaicref17_Near.f
  rw [dcheck, Option.bind_some, ha, if_pos rfl]
  have h0 := near_l0 L a b (by omega) hok L.length 0 k (by omega)
  have h0' : mosaicref17_Near.l0 (k + L.length + 1) L 0 a b = _ := h0
  rw [h0']
  exact near_l1 L a b (by omega) L.length 0 k (by omega) (by omega)
/-- The places of notes. -/
def plQ (ns : List Nt) : List S40 := ns.map (fun x => (dN x).f2)
theorem plQ_pr (ns : List Nt) : (plQ ns).map pr = ns.map ntP := by unfold plQ; rw [List.map_map]; rfl
theorem find_l1 (ns : List Nt) (hl : ns.length ≤ 16) (kk : Int) (O : List Int) (hO : O.length ≤ 16) (hin : ∀ y ∈ O, 0 ≤ y ∧ y < ns.length) : ∀ (m j k : Nat) (out : List Int), j + m = O.length → m < k → out.length ≤ j →
    mosaicref31_Table_Find.l1 k kk (ns.map dN) O out (j : Int) = some (out ++ ((O.take kk.toNat).drop j).map (fun i => (rd_T35 ns i).f1), 0)
  | m, j, 0, out, _, hk, _ => by omega
  | 0, j, k + 1, out, h, hk, ho => by
    rw [mosaicref31_Table_Find.l1, if_neg (by omega), List.drop_eq_nil_of_le (by rw [List.length_take]; omega)]; simp
  | m + 1, j, k + 1, out, h, hk, ho => by
    have hj : j < O.length := by omega
    rw [mosaicref31_Table_Find.l1, if_pos (by omega)]
    by_cases hjk : (j : Int) < kk
    · obtain ⟨r0, r1⟩ := hin O[j] (List.getElem_mem hj)
      obtain ⟨q, hq⟩ := Int.eq_ofNat_of_zero_le r0
      have e : (O.take kk.toNat).drop j = O[j] :: (O.take kk.toNat).drop (j + 1) := by
        rw [List.drop_eq_getElem_cons (by rw [List.length_take]; omega), List.getElem_take]
      rw [if_pos hjk, if_pos (by omega), rdi hj, if_pos r0, if_pos (by rw [List.length_map]; exact r1), if_pos (by omega), wS (by omega), hq, rdm ns q (by omega),
        find_l1 ns hl kk O hO hin m (j + 1) k _ (by omega) (by omega) (by rw [List.length_append, List.length_singleton]; omega), e, hq]
      simp; rfl
    · rw [if_neg hjk, List.drop_eq_nil_of_le (by rw [List.length_take]; omega)]; simp
theorem find_l0 (ns : List Nt) (hl : ns.length ≤ 16) (kk a b : Int) : ∀ (m j k : Nat), j + m = ns.length →
    mosaicref31_Table_Find.l0 (k + m + 1) kk (ns.map dN) ((plQ ns).take j) (j : Int) a b = (mosaicref17_Near.f k a b (plQ ns)).bind fun t => mosaicref31_Table_Find.l1 k kk (ns.map dN) t.1 [] 0
  | 0, j, k, h => by
    rw [mosaicref31_Table_Find.l0, if_neg (by rw [List.length_map]; omega), List.take_of_length_le (by unfold plQ; rw [List.length_map]; omega)]
  | m + 1, j, k, h => by
    have hj : j < ns.length := by omega
    rw [show k + (m + 1) + 1 = (k + m + 1) + 1 by omega, mosaicref31_Table_Find.l0, if_pos (by rw [List.length_map]; omega), if_pos (by omega), if_pos (by rw [List.length_take]; omega), wS (by omega), rdm ns j hj]
    have e : (plQ ns).take (j + 1) = (plQ ns).take j ++ [(⟨(dN (rd_T35 ns (j : Int))).f2.f0, (dN (rd_T35 ns (j : Int))).f2.f1⟩ : S40)] := by
      rw [List.take_add_one, rd_at hj]
      congr 1
      unfold plQ
      rw [List.getElem?_map, List.getElem?_eq_getElem hj]; rfl
    rw [← e]
    exact find_l0 ns hl kk a b m (j + 1) k (by omega)
/-- What the document finds. -/
theorem dfind {T : TT} {L : List S42} (hn : NoteOk T) (hO : OkT T) (hD : Dc T L) (hl : L.length ≤ 900) (rm : Int) (s : ByteArray) (a : Int × Int) (kk now : Int) (k : Nat) (hk : 5000 ≤ k) :
    mosaicref31_Table_Find.f k rm L s a.1 a.2 kk now = some (findL T s.data.toList a kk now) := by
  obtain ⟨a0, a1⟩ := a
  obtain ⟨k, rfl⟩ : ∃ k', k = k' + 1 := ⟨k - 1, by omega⟩
  unfold mosaicref31_Table_Find.f findL
  have hbad : ∀ t, mosaicref31_Table_Find.j0 (k + 1) s kk now true rm L a0 a1 = t ↔ some (([] : List Int), (1 : Int)) = t := fun t => by rw [mosaicref31_Table_Find.j0, if_pos rfl]
  rw [dtick, Option.bind_some]
  by_cases h1 : tickB now = true
  · rw [if_pos h1]
    show (mosaicref17_Check.f a0 a1).bind _ = _
    rw [dcheck, Option.bind_some]
    by_cases h2 : okB a0 a1 = true
    · rw [if_pos h2]
      by_cases h3 : 0 ≤ kk
      · rw [if_pos ⟨h1, h2, h3⟩, decide_eq_false (by omega)]
        show mosaicref31_Table_Find.j0 (k + 1) s kk now false rm L a0 a1 = _
        rw [mosaicref31_Table_Find.j0, if_neg (by simp), dnodes_eq hn hD (by omega) rm s now k (by omega), Option.bind_some]
        have hle := nodesL_le T s.data.toList now
        have hok : ∀ x ∈ nodesL T s.data.toList now, okP (ntP x) = true := fun x hx => by
          obtain ⟨j, _, h1, _⟩ := nodesL_mem hx
          exact hO _ _ _ h1
        generalize nodesL T s.data.toList now = ns at *
        by_cases h4 : ns = []
        · rw [if_pos h4, if_pos (by rw [h4]; rfl)]
        · rw [if_neg h4, if_neg (by rw [List.length_map]; intro h; exact h4 (List.length_eq_zero_iff.1 (by omega)))]
          have hpl : (plQ ns).length = ns.length := by unfold plQ; rw [List.length_map]
          obtain ⟨k, rfl⟩ : ∃ k', k = k' + ns.length + 1 := ⟨k - ns.length - 1, by omega⟩
          have h0 := find_l0 ns hle kk a0 a1 ns.length 0 k (by omega)
          have h0' : mosaicref31_Table_Find.l0 (k + ns.length + 1) kk (ns.map dN) [] 0 a0 a1 = _ := h0
          rw [h0', dnear (plQ ns) a0 a1 (by omega) h2 (fun p hp => by
            unfold plQ at hp
            obtain ⟨x, hx, rfl⟩ := List.mem_map.1 hp
            exact hok x hx) k (by omega), Option.bind_some, plQ_pr, hpl]
          have h5 := find_l1 ns hle kk (nearL (dst (a0, a1) (ns.map ntP)) ns.length) (by rw [nearL_len]; exact hle) (fun y hy => (nearL_mem _ _ y).1 hy) ns.length 0 k [] (by rw [nearL_len]; omega) (by omega) (by simp)
          have h5' : mosaicref31_Table_Find.l1 k kk (ns.map dN) (nearL (dst (a0, a1) (ns.map ntP)) ns.length) [] 0 = _ := h5
          rw [h5', List.nil_append, List.drop_zero]; rfl
      · rw [if_neg (fun q => h3 q.2.2), decide_eq_true (by omega)]
        exact (hbad _).2 rfl
    · rw [if_neg h2, if_neg (fun q => h2 q.2.1)]
      exact (hbad _).2 rfl
  · rw [if_neg h1, if_neg (fun q => h1 q.1)]
    exact (hbad _).2 rfl
theorem has_from (l : List Int) (x : Int) (hl : l.length ≤ 1000000) : ∀ (m j k : Nat), j + m = l.length → m < k → mosaicref09_Has.l0 k l x (j : Int) = some (decide (x ∈ l.drop j))
  | m, j, 0, _, hk => by omega
  | 0, j, k + 1, hj, hk => by
    rw [mosaicref09_Has.l0, if_neg (by omega), List.drop_eq_nil_of_le (by omega)]; simp
  | m + 1, j, k + 1, hj, hk => by
    have hlt : j < l.length := by omega
    rw [mosaicref09_Has.l0, if_pos (by omega), if_pos (by omega), rdi hlt, List.drop_eq_getElem_cons hlt]
    by_cases h : l[j] = x
    · rw [if_pos h]; simp [h]
    · rw [if_neg h, wS (by omega), has_from l x hl m (j + 1) k (by omega) (by omega)]
      congr 1
      have h2 : ¬ x = l[j] := fun q => h q.symm
      simp only [List.mem_cons, h2, false_or]
theorem link_l0 (ns : List Nt) (hl : ns.length ≤ 16) (fl : List Int) (hf : fl.length ≤ 16) (s ti : ByteArray) : ∀ (m j k : Nat), j + m = ns.length → 20 ≤ k →
    mosaicref31_Table_Link.l0 (k + m + 1) fl (ns.map dN) (j : Int) s ti (lkN (ns.take j) fl) ((lkP (ns.take j) fl).map Hand.pc) = (mosaicref29_Text.f k s ti (lkN ns fl) ((lkP ns fl).map Hand.pc)).bind fun t => some (t.1, t.2)
  | 0, j, k, h, hk => by
    rw [mosaicref31_Table_Link.l0, if_neg (by rw [List.length_map]; omega), List.take_of_length_le (by omega)]
  | m + 1, j, k, h, hk => by
    have hj : j < ns.length := by omega
    have hh : mosaicref09_Has.f (k + m + 1) fl (rd_T35 ns (j : Int)).f1 = some (decide ((rd_T35 ns (j : Int)).f1 ∈ fl)) := by
      have := has_from fl (rd_T35 ns (j : Int)).f1 (by omega) fl.length 0 (k + m + 1) (by omega) (by omega)
      rw [List.drop_zero] at this
      exact this
    have hN : (lkN (ns.take j) fl).length ≤ 16 := by have := linkN_le ns fl j; unfold lkN; rw [List.length_map]; omega
    have hP : ((lkP (ns.take j) fl).map Hand.pc).length ≤ 16 := by have := linkN_le ns fl j; unfold lkP; rw [List.length_map, List.length_map]; omega
    have ih := link_l0 ns hl fl hf s ti m (j + 1) k (by omega) hk
    rw [show k + (m + 1) + 1 = (k + m + 1) + 1 by omega, mosaicref31_Table_Link.l0, if_pos (by rw [List.length_map]; omega), if_pos (by omega), rdm ns j hj]
    show (mosaicref09_Has.f (k + m + 1) fl (rd_T35 ns (j : Int)).f1).bind _ = _
    rw [hh, Option.bind_some, wS (by omega)]
    have hsn := linkN_snoc (near := fl) hj
    by_cases hin : (rd_T35 ns (j : Int)).f1 ∈ fl
    · have q1 : lkN (ns.take (j + 1)) fl = lkN (ns.take j) fl ++ [(rd_T35 ns (j : Int)).f1] := by
        unfold lkN; rw [hsn, if_pos hin, List.map_append]; rfl
      have q2 : (lkP (ns.take (j + 1)) fl).map Hand.pc = (lkP (ns.take j) fl).map Hand.pc ++ [(⟨(dN (rd_T35 ns (j : Int))).f2.f0, (dN (rd_T35 ns (j : Int))).f2.f1⟩ : S40)] := by
        unfold lkP; rw [hsn, if_pos hin, List.map_append, List.map_append]; rfl
      rw [if_pos (decide_eq_true hin), if_pos (by omega), if_pos (by omega), ← ih, q1, q2]; rfl
    · have q1 : lkN (ns.take (j + 1)) fl = lkN (ns.take j) fl := by
        unfold lkN; rw [hsn, if_neg hin, List.append_nil]
      have q2 : lkP (ns.take (j + 1)) fl = lkP (ns.take j) fl := by
        unfold lkP; rw [hsn, if_neg hin, List.append_nil]
      rw [if_neg (by simpa using hin), ← ih, q1, q2]
/-- Which link the document tells: of what is found. -/
theorem dlink_some {T : TT} {L : List S42} (hn : NoteOk T) (hO : OkT T) (hD : Dc T L) (hl : L.length ≤ 900) (rm : Int) (s ti : ByteArray) (a : Int × Int) (now : Int) (k : Nat) (hk : 9000 ≤ k)
    (htk : tickB now = true) (ho : okP a = true) (hne : nodesL T s.data.toList now ≠ []) :
    mosaicref31_Table_Link.f k rm L s ti a.1 a.2 now = link_Text.f 6000 s ti (lkN (nodesL T s.data.toList now) (foundL (nodesL T s.data.toList now) a 6)) (lkP (nodesL T s.data.toList now) (foundL (nodesL T s.data.toList now) a 6)) := by
  have hle := nodesL_le T s.data.toList now
  have hfl := found_len (nodesL T s.data.toList now) a 6
  unfold mosaicref31_Table_Link.f
  rw [dfind hn hO hD hl rm s a 6 now k (by omega), Option.bind_some]
  have hF : findL T s.data.toList a 6 now = (foundL (nodesL T s.data.toList now) a 6, 0) := by
    unfold findL
    rw [if_pos ⟨htk, ho, by decide⟩, if_neg hne]; rfl
  rw [hF, if_pos rfl, dnodes_eq hn hD (by omega) rm s now k (by omega), Option.bind_some]
  generalize nodesL T s.data.toList now = ns at *
  generalize foundL ns a 6 = fl at *
  obtain ⟨k, rfl⟩ : ∃ k', k = k' + ns.length + 1 := ⟨k - ns.length - 1, by omega⟩
  have h0 := link_l0 ns hle fl (by omega) s ti ns.length 0 k (by omega) (by omega)
  have h0' : mosaicref31_Table_Link.l0 (k + ns.length + 1) fl (ns.map dN) 0 s ti [] [] = _ := h0
  rw [h0', Tx.text_ref s ti _ _ 6000 k (by omega) (by omega)]
  cases link_Text.f 6000 s ti (lkN ns fl) (lkP ns fl) with
  | none => rfl
  | some t => rfl
/-- Of what is not found. -/
theorem dlink_none {T : TT} {L : List S42} (hn : NoteOk T) (hO : OkT T) (hD : Dc T L) (hl : L.length ≤ 900) (rm : Int) (s ti : ByteArray) (a : Int × Int) (now : Int) (k : Nat) (hk : 9000 ≤ k) (hc : (findL T s.data.toList a 6 now).2 ≠ 0) :
    mosaicref31_Table_Link.f k rm L s ti a.1 a.2 now = some (⟨#[]⟩, (findL T s.data.toList a 6 now).2) := by
  unfold mosaicref31_Table_Link.f
  rw [dfind hn hO hD hl rm s a 6 now k (by omega), Option.bind_some, if_neg hc]
end Go.Proofs.YtmimnlbkllgfpaaGreatDoor.Tb
