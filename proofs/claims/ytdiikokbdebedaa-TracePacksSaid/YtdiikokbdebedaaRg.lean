/- The document's own answer for trace: Reader and Unpack in plain words. -/
import Derived.Test.YtdiikokbdebedaaPx0
import Derived.Test.YtdiikokbdebedaaPx5
import Derived.Test.YtdiikokbdebedaaPx6
import Derived.Test.YtdiikokbdebedaaPx7
import Derived.Test.YtdiikokbdebedaaRf
namespace Go.Proofs.Ytdiikokbdebedaa.Rf
open Go.RowKit Go.Proofs.Ytdiikokbdebedaa.P Go.Proofs.Ytdiikokbdebedaa.Tr Go.Proofs.Ytdiikokbdebedaa.Ck Go.Proofs.Ytdiikokbdebedaa.Pk Go.Proofs.Ytdiikokbdebedaa.Hand Go.Proofs.YtdiikokbdebedaaW.PrintWords Go.Proofs.YtdiikokbdebedaaW.PrintLast Go.Proofs.YtdiikokbdebedaaW.PrintMore

theorem get1 (k : Nat) (a : UInt8) : mosaicref02_Get.f (k + 2) ⟨#[a]⟩ = some ((a.toNat : Nat) : Int) := by
  have h := a.toNat_lt
  have hb : bt ⟨#[a]⟩ 0 = ((a.toNat : Nat) : Int) := rfl
  unfold mosaicref02_Get.f
  rw [show ((⟨#[a]⟩ : ByteArray).size : Int) = 1 from rfl, if_neg (by decide), mosaicref02_Get.l0, show ((⟨#[a]⟩ : ByteArray).size : Int) = 1 from rfl, if_pos (by decide), if_pos (by decide), hb, W01,
    w64 (n := ((a.toNat : Nat) : Int)) (by omega), w64 (n := 256 * 0) (by decide), w64 (by omega), mosaicref02_Get.l0, show ((⟨#[a]⟩ : ByteArray).size : Int) = 1 from rfl, if_neg (by decide)]
  simp
theorem get2 (k : Nat) (a b : UInt8) : mosaicref02_Get.f (k + 3) ⟨#[a, b]⟩ = some ((a.toNat * 256 + b.toNat : Nat) : Int) := by
  have h := a.toNat_lt
  have h' := b.toNat_lt
  have hb : bt ⟨#[a, b]⟩ 0 = ((a.toNat : Nat) : Int) := rfl
  have hc : bt ⟨#[a, b]⟩ 1 = ((b.toNat : Nat) : Int) := rfl
  have hz : ((⟨#[a, b]⟩ : ByteArray).size : Int) = 2 := rfl
  unfold mosaicref02_Get.f
  rw [hz, if_neg (by decide), mosaicref02_Get.l0, hz, if_pos (by decide), if_pos (by decide), hb, W01, w64 (n := ((a.toNat : Nat) : Int)) (by omega), w64 (n := 256 * 0) (by decide), w64 (by omega),
    mosaicref02_Get.l0, hz, if_pos (by decide), if_pos (by decide), hc, W11, w64 (n := ((b.toNat : Nat) : Int)) (by omega), w64 (n := 256 * (256 * 0 + ((a.toNat : Nat) : Int))) (by omega), w64 (by omega),
    mosaicref02_Get.l0, hz, if_neg (by decide)]
  congr 1
  omega

theorem rnum_err (k : Nat) (s : ByteArray) (e z : Int) (h : e ≠ 0) : mosaicref02_Reader_Num.f k s e z = some (s, e, 0, ⟨#[]⟩) := by
  unfold mosaicref02_Reader_Num.f; rw [if_neg h]
theorem rnum1 (k : Nat) (s : ByteArray) (a : UInt8) (t : List UInt8) (h : s.data.toList = a :: t) (hk : 8 ≤ k) : ∃ s', mosaicref02_Reader_Num.f k s 0 1 = some (s', 0, ((a.toNat : Nat) : Int), ⟨#[]⟩) ∧ s'.data.toList = t := by
  obtain ⟨k, rfl⟩ : ∃ k', k = k' + 3 := ⟨k - 3, by omega⟩
  have hl : s.size = t.length + 1 := by rw [← lenB, h]; rfl
  have hx : s.extract 0 1 = ⟨#[a]⟩ := by
    apply ByteArray.ext; apply Array.ext'; rw [take_data, h]; rfl
  refine ⟨s.extract 1 s.size, ?_, by rw [drop_data, h]; rfl⟩
  unfold mosaicref02_Reader_Num.f
  simp only [mosaicref02_Reader_Num.j0]
  rw [if_pos trivial, if_neg (by decide), if_neg (by simp), if_neg (by omega), if_pos (by decide), if_pos (by omega), show (1 : Int).toNat = 1 from rfl, hx, get1, Option.bind_some]
theorem rnum2 (k : Nat) (s : ByteArray) (a b : UInt8) (t : List UInt8) (h : s.data.toList = a :: b :: t) (hk : 8 ≤ k) : ∃ s', mosaicref02_Reader_Num.f k s 0 2 = some (s', 0, ((a.toNat * 256 + b.toNat : Nat) : Int), ⟨#[]⟩) ∧ s'.data.toList = t := by
  obtain ⟨k, rfl⟩ : ∃ k', k = k' + 4 := ⟨k - 4, by omega⟩
  have hl : s.size = t.length + 2 := by rw [← lenB, h]; rfl
  have hx : s.extract 0 2 = ⟨#[a, b]⟩ := by
    apply ByteArray.ext; apply Array.ext'; rw [take_data, h]; rfl
  refine ⟨s.extract 2 s.size, ?_, by rw [drop_data, h]; rfl⟩
  unfold mosaicref02_Reader_Num.f
  simp only [mosaicref02_Reader_Num.j0]
  rw [if_pos trivial, if_neg (by decide), if_neg (by simp), if_neg (by omega), if_pos (by decide), if_pos (by omega), show (2 : Int).toNat = 2 from rfl, hx, get2, Option.bind_some]
theorem rnum_tot1 (k : Nat) (s : ByteArray) (e : Int) (hk : 8 ≤ k) : ∃ s' e' n, mosaicref02_Reader_Num.f k s e 1 = some (s', e', n, ⟨#[]⟩) := by
  by_cases he : e = 0
  · subst he
    match h : s.data.toList with
    | a :: t => obtain ⟨s', h1, _⟩ := rnum1 k s a t h hk; exact ⟨_, _, _, h1⟩
    | [] =>
      obtain ⟨k, rfl⟩ : ∃ k', k = k' + 1 := ⟨k - 1, by omega⟩
      have hl : s.size = 0 := by rw [← lenB, h]; rfl
      refine ⟨s, 7, 0, ?_⟩
      unfold mosaicref02_Reader_Num.f
      simp only [mosaicref02_Reader_Num.j0]
      rw [if_pos trivial, if_neg (by decide), if_neg (by simp), if_pos (by omega)]
  · exact ⟨_, _, _, rnum_err k s e 1 he⟩
theorem rnum_tot2 (k : Nat) (s : ByteArray) (e : Int) (hk : 8 ≤ k) : ∃ s' e' n, mosaicref02_Reader_Num.f k s e 2 = some (s', e', n, ⟨#[]⟩) := by
  by_cases he : e = 0
  · subst he
    match h : s.data.toList with
    | a :: b :: t => obtain ⟨s', h1, _⟩ := rnum2 k s a b t h hk; exact ⟨_, _, _, h1⟩
    | [] | [_] =>
      obtain ⟨k, rfl⟩ : ∃ k', k = k' + 1 := ⟨k - 1, by omega⟩
      have hl : s.size < 2 := by rw [← lenB, h]; simp
      refine ⟨s, 7, 0, ?_⟩
      unfold mosaicref02_Reader_Num.f
      simp only [mosaicref02_Reader_Num.j0]
      rw [if_pos trivial, if_neg (by decide), if_neg (by simp), if_pos (by omega)]
  · exact ⟨_, _, _, rnum_err k s e 2 he⟩
theorem rraw_tot (s : ByteArray) (e n : Int) : ∃ s' e' m t, mosaicref02_Reader_Raw.f s e n = some (s', e', m, t) := by
  unfold mosaicref02_Reader_Raw.f
  by_cases h1 : e = 0
  · rw [if_pos h1]
    by_cases h2 : n < 0
    · rw [if_pos h2]; exact ⟨_, _, _, _, rfl⟩
    · rw [if_neg h2]
      by_cases h3 : (s.size : Int) < n
      · rw [if_pos h3]; exact ⟨_, _, _, _, rfl⟩
      · rw [if_neg h3, if_pos (by omega), if_pos (by omega)]; exact ⟨_, _, _, _, rfl⟩
  · rw [if_neg h1]; exact ⟨_, _, _, _, rfl⟩
theorem rtext_tot (k : Nat) (s : ByteArray) (e : Int) (hk : 8 ≤ k) : ∃ s' e' m t, mosaicref02_Reader_Text.f k s e = some (s', e', m, t) := by
  obtain ⟨s1, e1, n1, h1⟩ := rnum_tot2 k s e hk
  obtain ⟨s2, e2, n2, t2, h2⟩ := rraw_tot s1 e1 n1
  unfold mosaicref02_Reader_Text.f
  rw [h1, Option.bind_some]
  simp only
  rw [h2, Option.bind_some]
  simp only
  by_cases h : e2 = 0
  · rw [if_pos h]; exact ⟨_, _, _, _, rfl⟩
  · rw [if_neg h]; exact ⟨_, _, _, _, rfl⟩
theorem rtext_ok (k : Nat) (s : ByteArray) (d e : UInt8) (u : List UInt8) (hs : s.data.toList = d :: e :: u) (h : d.toNat * 256 + e.toNat ≤ u.length) (hk : 8 ≤ k) :
    ∃ s' m, mosaicref02_Reader_Text.f k s 0 = some (s', 0, m, ⟨(u.take (d.toNat * 256 + e.toNat)).toArray⟩) ∧ s'.data.toList = u.drop (d.toNat * 256 + e.toNat) := by
  obtain ⟨s1, h1, hd⟩ := rnum2 k s d e u hs hk
  have hl : s1.size = u.length := by rw [← lenB, hd]
  generalize d.toNat * 256 + e.toNat = n at *
  refine ⟨s1.extract n s1.size, 0, ?_, by rw [drop_data, hd]⟩
  have hx : s1.extract 0 n = ⟨(u.take n).toArray⟩ := by
    apply ByteArray.ext; apply Array.ext'; rw [take_data, hd]
  unfold mosaicref02_Reader_Text.f
  rw [h1, Option.bind_some]
  simp only [mosaicref02_Reader_Raw.f]
  rw [if_pos trivial, if_neg (by omega), if_neg (by omega), if_pos (by omega), if_pos (by omega), Option.bind_some, Int.toNat_natCast, hx]
  rw [if_pos rfl]

/-- The end of reading: what is packed again is compared. -/
theorem j2_tot (s : ByteArray) (out : List S54) (i : Int) (x0 : ByteArray) (x1 x2 : Int) (x3 r : ByteArray) (e : Int) (k : Nat) (hk : 1101 ≤ k) (ho : out.length ≤ 1000) :
    (∃ l, mosaicref32_Unpack.j2 k s out i false x0 x1 x2 x3 r e = some (l, 0) ∧ Is s (l.map toS)) ∨ mosaicref32_Unpack.j2 k s out i false x0 x1 x2 x3 r e = some ([], 3) := by
  obtain ⟨k, rfl⟩ : ∃ k', k = k' + 1 := ⟨k - 1, by omega⟩
  rw [mosaicref32_Unpack.j2, if_neg (by simp)]
  cases h : checkB (out.map ev) with
  | false => rw [pack_bad out h ho k (by omega), Option.bind_some, if_neg (by decide)]; exact Or.inr rfl
  | true =>
    rw [pack_ok out h k (by omega), Option.bind_some, if_pos rfl]
    simp only [ByteArray.toList_eq]
    by_cases h2 : packL (out.map ev) = s.data.toList
    · rw [if_pos h2]
      unfold mosaicref02_Reader_End.f
      have hI : Is s (out.map toS) := ⟨by rw [ev_toS]; exact h, by rw [ev_toS]; exact h2.symm⟩
      by_cases h3 : e = 0
      · rw [if_pos h3]
        by_cases h4 : r.toList = []
        · rw [if_pos h4, Option.bind_some, if_pos h3]; exact Or.inl ⟨_, rfl, hI⟩
        · rw [if_neg h4, Option.bind_some, if_neg (by decide)]; exact Or.inr rfl
      · rw [if_neg h3, Option.bind_some, if_neg h3]; exact Or.inr rfl
    · rw [if_neg h2]; exact Or.inr rfl
theorem l0_tot (s : ByteArray) (x0 : ByteArray) (x1 x2 : Int) (x3 : ByteArray) (m : Nat) : ∀ (i k : Nat) (out : List S54) (r : ByteArray) (e : Int), i + m = 501 → out.length = i → 1200 + 2 * m ≤ k →
    (∃ l, mosaicref32_Unpack.l0 k s out (i : Int) x0 x1 x2 x3 r e = some (l, 0) ∧ Is s (l.map toS)) ∨ mosaicref32_Unpack.l0 k s out (i : Int) x0 x1 x2 x3 r e = some ([], 3) := by
  induction m with
  | zero =>
    intro i k out r e hi ho hk
    obtain ⟨k, rfl⟩ : ∃ k', k = k' + 1 := ⟨k - 1, by omega⟩
    rw [mosaicref32_Unpack.l0, decide_eq_false (by omega), ite_self]
    exact j2_tot s out i x0 x1 x2 x3 r e k (by omega) (by omega)
  | succ m ih =>
    intro i k out r e hi ho hk
    obtain ⟨k, rfl⟩ : ∃ k', k = k' + 2 := ⟨k - 2, by omega⟩
    rw [mosaicref32_Unpack.l0]
    by_cases h : (i : Int) < x2
    · obtain ⟨s1, e1, n1, h1⟩ := rnum_tot1 k r e (by omega)
      obtain ⟨s2, e2, n2, h2⟩ := rnum_tot2 k s1 e1 (by omega)
      rw [if_pos h, decide_eq_true (by omega), mosaicref32_Unpack.j2, if_pos rfl, h1, Option.bind_some]
      simp only
      rw [h2, Option.bind_some]
      simp only
      rw [w64 (by omega)]
      by_cases h3 : n1 = 1
      · obtain ⟨s3, e3, n3, t3, h4⟩ := rtext_tot k s2 e2 (by omega)
        rw [if_pos h3, h4, Option.bind_some]
        simp only
        rw [if_pos (by omega)]
        exact ih (i + 1) k _ s3 e3 (by omega) (by simp; omega) (by omega)
      · rw [if_neg h3, if_pos (by omega)]
        exact ih (i + 1) k _ s2 e2 (by omega) (by simp; omega) (by omega)
    · rw [if_neg h]
      exact j2_tot s out i x0 x1 x2 x3 r e (k + 1) (by omega) (by omega)

/-- A trace's bytes are read to its end. -/
theorem l0_fwd (s : ByteArray) (x0 : ByteArray) (x1 : Int) (x3 : ByteArray) (m : List S47) : ∀ (i k : Nat) (out : List S54) (r : ByteArray), i + m.length ≤ 500 → out.length = i → 1200 + 2 * m.length ≤ k →
    (∀ x ∈ m, evB (toEv x) = true) → r.data.toList = evs m → checkB ((out ++ m.map toR).map ev) = true → packL ((out ++ m.map toR).map ev) = s.data.toList →
    mosaicref32_Unpack.l0 k s out (i : Int) x0 x1 ((i + m.length : Nat) : Int) x3 r 0 = some (out ++ m.map toR, 0) := by
  induction m with
  | nil =>
    intro i k out r hi ho hk hv hr hc hp
    obtain ⟨k, rfl⟩ : ∃ k', k = k' + 2 := ⟨k - 2, by omega⟩
    rw [List.map_nil, List.append_nil] at hc hp
    have hr2 : r.toList = [] := by rw [ByteArray.toList_eq, hr]; rfl
    rw [mosaicref32_Unpack.l0, if_neg (by simp), mosaicref32_Unpack.j2, if_neg (by simp), pack_ok out hc k (by simp at hk; omega), Option.bind_some, if_pos rfl]
    simp only [ByteArray.toList_eq]
    rw [if_pos hp]
    unfold mosaicref02_Reader_End.f
    rw [if_pos rfl, if_pos hr2, Option.bind_some, if_pos rfl, List.map_nil, List.append_nil]
  | cons x m ih =>
    intro i k out r hi ho hk hv hr hc hp
    obtain ⟨k, rfl⟩ : ∃ k', k = k' + 2 := ⟨k - 2, by omega⟩
    rw [List.length_cons] at hi hk
    have hx := hv x (by simp)
    obtain ⟨e1, e2, e3, e4, e5⟩ := evB_facts _ hx
    have happ : out ++ (x :: m).map toR = (out ++ [toR x]) ++ m.map toR := by simp
    rw [happ] at hc hp ⊢
    rw [mosaicref32_Unpack.l0, if_pos (by simp; omega), decide_eq_true (by omega), mosaicref32_Unpack.j2, if_pos rfl]
    rw [show i + (x :: m).length = (i + 1) + m.length by simp; omega]
    have hg := fun (r' : ByteArray) (h' : r'.data.toList = evs m) => ih (i + 1) k (out ++ [toR x]) r' (by omega) (by simp; omega) (by omega) (fun y hy => hv y (by simp [hy])) h' hc hp
    rw [evs_cons] at hr
    clear happ hc hp ih
    obtain ⟨f0, f1, f2⟩ := x
    simp only [toEv, toR] at *
    obtain ⟨a, rfl⟩ := Int.eq_ofNat_of_zero_le (show 0 ≤ f0 by omega)
    obtain ⟨b, rfl⟩ := Int.eq_ofNat_of_zero_le e3
    have ha := n8 a (by omega)
    have hb := be2_num b (by omega)
    rw [evBytes_of, Int.toNat_natCast, Int.toNat_natCast, be1, be2] at hr
    rw [w64 (by omega)]
    by_cases h1 : a = 1
    · subst h1
      have hs := be2_num f2.size (by omega)
      have hl : f2.data.toList.length = f2.size := lenB f2
      rw [if_pos (by decide), be2] at hr
      simp only [List.cons_append, List.nil_append] at hr
      obtain ⟨s1, h1, hd1⟩ := rnum1 k r _ _ hr (by omega)
      obtain ⟨s2, h2, hd2⟩ := rnum2 k s1 _ _ _ hd1 (by omega)
      obtain ⟨s3, q, h3, hd3⟩ := rtext_ok k s2 _ _ _ hd2 (by rw [hs, List.length_append, hl]; omega) (by omega)
      rw [hs, List.take_left' hl] at h3
      rw [hs, List.drop_left' hl] at hd3
      rw [h1, Option.bind_some]
      simp only
      rw [h2, Option.bind_some]
      simp only
      rw [if_pos (by decide), h3, Option.bind_some]
      simp only
      rw [if_pos (by omega), hb]
      exact hg s3 hd3
    · have h2 : ¬ ((a : Nat) : Int) = 1 := by omega
      have hz : f2 = ⟨#[]⟩ := by
        unfold evB at hx
        simp only [if_neg h2] at hx
        split at hx
        · simp at hx; exact hx.2
        · split at hx
          · simp at hx; exact hx.2
          · cases hx
      subst hz
      rw [if_neg h2] at hr
      simp only [List.cons_append, List.nil_append] at hr
      obtain ⟨s1, g1, hd1⟩ := rnum1 k r _ _ hr (by omega)
      obtain ⟨s2, g2, hd2⟩ := rnum2 k s1 _ _ _ hd1 (by omega)
      rw [g1, Option.bind_some]
      simp only
      rw [g2, Option.bind_some]
      simp only
      rw [ha, hb, if_neg h2, if_pos (by omega)]
      exact hg s2 hd2

theorem unpack_eq (s : ByteArray) (k : Nat) (hk : 3000 ≤ k) : ∃ m e, mosaicref32_Unpack.f k s = some (m.map toR, e) ∧ ((e = 0 ∧ Is s m) ∨ (e = 3 ∧ m = [] ∧ ∀ l, ¬ Is s l)) := by
  have hL := lenB s
  unfold mosaicref32_Unpack.f
  obtain ⟨k, rfl⟩ : ∃ k', k = k' + 2 := ⟨k - 2, by omega⟩
  by_cases h6 : (s.size : Int) < 6
  · refine ⟨[], 3, ?_, Or.inr ⟨rfl, rfl, ?_⟩⟩
    · rw [if_pos h6, mosaicref32_Unpack.j0, if_pos rfl]; rfl
    · rintro l ⟨_, hp⟩
      rw [hp, packL_eq] at hL
      simp [be2] at hL; omega
  · rw [if_neg h6, if_pos (by decide), if_pos (by omega), mosaicref32_Unpack.j0, if_pos (show 4 ≤ (s.size : Int) by omega)]
    have hd : (s.extract 4 s.size).data.toList = s.data.toList.drop 4 := drop_data s 4
    by_cases hI : ∃ l, Is s l
    · obtain ⟨l, hl⟩ := hI
      obtain ⟨hc, hp⟩ := hl
      obtain ⟨hn, hv⟩ := check_len l hc
      refine ⟨l, 0, ?_, Or.inl ⟨rfl, hc, hp⟩⟩
      have hp2 := hp
      rw [packL_eq] at hp2
      have h4 : (s.extract 0 4).toList = [116, 114, 99, 49] := by rw [ByteArray.toList_eq, take_data, hp2]; rfl
      rw [h4, if_neg (by decide)]
      rw [hp2, show List.drop 4 (([116, 114, 99, 49] : List UInt8) ++ (be2 l.length ++ evs l)) = UInt8.ofNat (l.length / 256) :: UInt8.ofNat l.length :: evs l from rfl] at hd
      obtain ⟨s1, g1, hd1⟩ := rnum2 (k + 1) _ _ _ _ hd (by omega)
      rw [g1, Option.bind_some, be2_num l.length (by omega)]
      have := l0_fwd s s1 0 ⟨#[]⟩ l 0 (k + 1) [] s1 (by omega) rfl (by omega) hv hd1 (by rw [List.nil_append, ev_toR]; exact hc) (by rw [List.nil_append, ev_toR]; exact hp.symm)
      rw [List.nil_append, Nat.zero_add] at this
      exact this
    · refine ⟨[], 3, ?_, Or.inr ⟨rfl, rfl, fun l hl => hI ⟨l, hl⟩⟩⟩
      by_cases hb : ((s.extract 0 4).toList != [116, 114, 99, 49]) = true
      · rw [if_pos hb]; rfl
      · rw [if_neg hb]
        obtain ⟨s1, e1, n1, g1⟩ := rnum_tot2 (k + 1) (s.extract 4 s.size) 0 (by omega)
        rw [g1, Option.bind_some]
        rcases l0_tot s s1 e1 n1 ⟨#[]⟩ 501 0 (k + 1) [] s1 e1 (by omega) rfl (by omega) with ⟨l, _, hl⟩ | h
        · exact absurd ⟨_, hl⟩ hI
        · exact h

end Go.Proofs.Ytdiikokbdebedaa.Rf
