/- trace.Unpack: what it hands back is a trace whose bytes are those that were read; any trace's bytes are read. -/
import Derived.Test.YtdiikokbdebedaaPx0
import Derived.Test.YtdiikokbdebedaaPx3
import Derived.Test.YtdiikokbdebedaaPx4
import Derived.Test.YtdiikokbdebedaaTr
namespace Go.Proofs.Ytdiikokbdebedaa.Tr
open Go.RowKit Go.Proofs.Ytdiikokbdebedaa.P Go.Proofs.Ytdiikokbdebedaa.Ck Go.Proofs.Ytdiikokbdebedaa.Pk Go.Proofs.Ytdiikokbdebedaa.Hand Go.Proofs.YtdiikokbdebedaaW.PrintWords Go.Proofs.YtdiikokbdebedaaW.PrintLast Go.Proofs.YtdiikokbdebedaaW.PrintMore

def evs (l : List S47) : List UInt8 := (l.map toEv).flatMap evBytes
theorem evs_cons (x : S47) (l : List S47) : evs (x :: l) = evBytes (toEv x) ++ evs l := by simp [evs]
theorem hi8 (b c : UInt8) : UInt8.ofNat ((b.toNat * 256 + c.toNat) / 256) = b := by
  have := c.toNat_lt
  rw [show (b.toNat * 256 + c.toNat) / 256 = b.toNat by omega]; simp
theorem lo8 (b c : UInt8) : UInt8.ofNat (b.toNat * 256 + c.toNat) = c := by
  apply UInt8.toNat_inj.mp
  have := c.toNat_lt
  simp
theorem be2_of (b c : UInt8) : be2 (b.toNat * 256 + c.toNat) = [b, c] := by unfold be2; rw [hi8, lo8]

theorem evBytes_of (a b : Int) (f : ByteArray) : evBytes (a, b, f) = be1 a.toNat ++ be2 b.toNat ++ (if a = 1 then be2 f.size ++ f.data.toList else []) := rfl
theorem readEv_spec (r : List UInt8) (x : S47) (r' : List UInt8) (h : readEv r = some (x, r')) : r = evBytes (toEv x) ++ r' := by
  unfold readEv at h
  split at h
  · rename_i a b c t
    split at h
    · rename_i ha
      split at h
      · rename_i d e u
        split at h
        · rename_i hu
          obtain ⟨rfl, rfl⟩ := Prod.mk.inj (Option.some.inj h)
          have hsz : (⟨(u.take (d.toNat * 256 + e.toNat)).toArray⟩ : ByteArray).size = d.toNat * 256 + e.toNat := by
            show (u.take (d.toNat * 256 + e.toNat)).toArray.size = _
            simp; omega
          simp only [evBytes, toEv, if_true, hsz, Int.toNat_natCast, be2_of]
          simp [be1, ha]
        · cases h
      · cases h
    · rename_i ha
      obtain ⟨rfl, rfl⟩ := Prod.mk.inj (Option.some.inj h)
      have ha2 : ¬ ((a.toNat : Nat) : Int) = 1 := fun h => ha ((one_iff a).mp h)
      show a :: b :: c :: t = evBytes ((a.toNat : Int), ((b.toNat * 256 + c.toNat : Nat) : Int), (⟨#[]⟩ : ByteArray)) ++ t
      rw [evBytes_of, if_neg ha2, Int.toNat_natCast, Int.toNat_natCast, be2_of]
      simp [be1]
  · cases h

theorem n8 (n : Nat) (h : n < 256) : (UInt8.ofNat n).toNat = n := by simp [UInt8.toNat_ofNat']; omega
theorem be2_num (n : Nat) (h : n < 65536) : (UInt8.ofNat (n / 256)).toNat * 256 + (UInt8.ofNat n).toNat = n := by
  simp [UInt8.toNat_ofNat']; omega

theorem readEv_ev (x : S47) (r : List UInt8) (h : evB (toEv x) = true) : readEv (evBytes (toEv x) ++ r) = some (x, r) := by
  obtain ⟨e1, e2, e3, e4, e5⟩ := evB_facts _ h
  obtain ⟨f0, f1, f2⟩ := x
  simp only [toEv] at *
  obtain ⟨a, rfl⟩ := Int.eq_ofNat_of_zero_le (show 0 ≤ f0 by omega)
  obtain ⟨b, rfl⟩ := Int.eq_ofNat_of_zero_le e3
  have ha := n8 a (by omega)
  have hb := be2_num b (by omega)
  by_cases h1 : a = 1
  · subst h1
    have hs := be2_num f2.size (by omega)
    have hl : f2.data.toList.length = f2.size := lenB f2
    simp only [evBytes, be1, be2, Int.toNat_natCast, if_pos (show ((1 : Nat) : Int) = 1 from rfl), List.cons_append, List.nil_append, readEv]
    rw [if_pos (by decide : UInt8.ofNat 1 = 1), hs, hb, if_pos (by rw [List.length_append, hl]; omega), List.take_left' hl, List.drop_left' hl]
    rfl
  · have h2 : ¬ ((a : Nat) : Int) = 1 := by omega
    have h3 : ¬ UInt8.ofNat a = 1 := fun h => h1 (by rw [← ha, h]; rfl)
    have hz : f2 = ⟨#[]⟩ := by
      unfold evB at h
      simp only [if_neg h2] at h
      split at h
      · simp at h; exact h.2
      · split at h
        · simp at h; exact h.2
        · cases h
    subst hz
    simp only [evBytes, be1, be2, Int.toNat_natCast, if_neg h2, List.cons_append, List.nil_append, List.append_nil, readEv]
    rw [if_neg h3, ha, hb]

theorem evs_inj (l : List S47) : ∀ (m : List S47), l.length = m.length → (∀ x ∈ l, evB (toEv x) = true) → (∀ x ∈ m, evB (toEv x) = true) → ∀ r r', evs l ++ r = evs m ++ r' → l = m := by
  induction l with
  | nil => intro m hm _ _ _ _ _; cases m with | nil => rfl | cons _ _ => simp at hm
  | cons x l ih =>
    intro m hm hl hm2 r r' he
    cases m with
    | nil => simp at hm
    | cons y m =>
      rw [evs_cons, evs_cons, List.append_assoc, List.append_assoc] at he
      have h1 := readEv_ev x (evs l ++ r) (hl x (by simp))
      rw [he, readEv_ev y (evs m ++ r') (hm2 y (by simp))] at h1
      obtain ⟨rfl, h2⟩ := Prod.mk.inj (Option.some.inj h1)
      rw [ih m (by simpa using hm) (fun z hz => hl z (by simp [hz])) (fun z hz => hm2 z (by simp [hz])) r r' h2.symm]


/-- The loop: so many events are read, or there is no result. -/
theorem loop (n : Nat) : ∀ (k : Nat) (x5 : ByteArray) (x6 cnt : Int) (out : List S47) (i : Nat) (s : ByteArray), cnt = (i : Int) + n → n + 2 ≤ k → out.length ≤ i → i + n ≤ 600 →
    (∃ l t k', l.length = n ∧ s.data.toList = evs l ++ t.data.toList ∧ trace_Unpack.l0 k x5 x6 out cnt (i : Int) s 0 = trace_Unpack.j1 (k' + 1) x5 x6 (out ++ l) t 0 ∧ ∀ m r, m.length = n → (∀ x ∈ m, evB (toEv x) = true) → s.data.toList = evs m ++ r → m = l ∧ r = t.data.toList) ∨
      (trace_Unpack.l0 k x5 x6 out cnt (i : Int) s 0 = some ([], 3) ∧ ∀ l r, l.length = n → (∀ x ∈ l, evB (toEv x) = true) → s.data.toList ≠ evs l ++ r) := by
  induction n with
  | zero =>
    intro k x5 x6 cnt out i s hc hk ho hi
    obtain ⟨k, rfl⟩ : ∃ k', k = k' + 2 := ⟨k - 2, by omega⟩
    refine Or.inl ⟨[], s, k, rfl, rfl, ?_, ?_⟩
    · rw [trace_Unpack.l0, if_neg (by omega), List.append_nil]
    · intro m r hm _ he
      obtain rfl := List.length_eq_zero_iff.mp hm
      exact ⟨rfl, he.symm⟩
  | succ n ih =>
    intro k x5 x6 cnt out i s hc hk ho hi
    obtain ⟨k, rfl⟩ : ∃ k', k = k' + 2 := ⟨k - 2, by omega⟩
    rcases step k x5 x6 cnt out i s (by omega) (by omega) (by omega) with ⟨x, r, t, h1, h2, h3⟩ | ⟨h1, h2⟩
    · have hsp := readEv_spec _ _ _ h1
      rcases ih (k + 1) x5 x6 cnt (out ++ [x]) (i + 1) t (by omega) (by omega) (by simp; omega) (by omega) with ⟨l, u, k', g1, g2, g3, g4⟩ | ⟨g1, g2⟩
      · refine Or.inl ⟨x :: l, u, k', by simp [g1], ?_, ?_, ?_⟩
        · rw [hsp, evs_cons, ← h2, g2, List.append_assoc]
        · rw [h3, g3, List.append_assoc]; rfl
        · intro m r' hm hv he
          cases m with
          | nil => simp at hm
          | cons y m =>
            rw [evs_cons, List.append_assoc] at he
            rw [he, readEv_ev y _ (hv y (by simp))] at h1
            obtain ⟨rfl, rfl⟩ := Prod.mk.inj (Option.some.inj h1)
            obtain ⟨q1, q2⟩ := g4 m r' (by simpa using hm) (fun z hz => hv z (by simp [hz])) h2
            exact ⟨by rw [q1], q2⟩
      · refine Or.inr ⟨by rw [h3, g1], ?_⟩
        intro l r' hl hv he
        cases l with
        | nil => simp at hl
        | cons y l =>
          rw [evs_cons, List.append_assoc] at he
          rw [he, readEv_ev y _ (hv y (by simp))] at h1
          obtain ⟨rfl, rfl⟩ := Prod.mk.inj (Option.some.inj h1)
          exact g2 l r' (by simpa using hl) (fun z hz => hv z (by simp [hz])) h2
    · refine Or.inr ⟨h2, ?_⟩
      intro l r' hl hv he
      cases l with
      | nil => simp at hl
      | cons y l =>
        rw [evs_cons, List.append_assoc] at he
        rw [he, readEv_ev y _ (hv y (by simp))] at h1
        cases h1

theorem j1_ok (k : Nat) (x5 : ByteArray) (x6 : Int) (out : List S47) (s : ByteArray) (ho : out.length ≤ 1000) :
    (x5.data.toList = [116, 114, 99, 49] ∧ s.data.toList = [] ∧ (out.length : Int) = x6 ∧ checkB (out.map toEv) = true ∧ trace_Unpack.j1 (k + 1) x5 x6 out s 0 = some (out, 0)) ∨
      (¬ (x5.data.toList = [116, 114, 99, 49] ∧ s.data.toList = [] ∧ (out.length : Int) = x6 ∧ checkB (out.map toEv) = true) ∧ trace_Unpack.j1 (k + 1) x5 x6 out s 0 = some ([], 3)) := by
  simp only [trace_Unpack.j1, oct_Reader_End.f, oct_Reader_Err.f, Option.bind_some, trace_Check.f, if_pos (show out.length ≤ 100000 by omega), ByteArray.toList_eq, if_true]
  by_cases h1 : x5.data.toList = [116, 114, 99, 49]
  · by_cases h2 : s.data.toList = []
    · by_cases h3 : (out.length : Int) = x6
      · cases h4 : checkB (out.map toEv) <;> simp [h1, h2, h3]
      · simp [h1, h2, h3]
    · simp [h1, h2]
  · simp [h1]

end Go.Proofs.Ytdiikokbdebedaa.Tr
