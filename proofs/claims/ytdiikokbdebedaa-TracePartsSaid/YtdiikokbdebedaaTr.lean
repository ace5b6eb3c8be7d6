/- trace.Unpack in plain words: events read one after the other. -/
import Derived.Test.YtdiikokbdebedaaPx0
import Derived.Test.YtdiikokbdebedaaPx3
import Derived.Test.YtdiikokbdebedaaPx4
import Derived.Test.YtdiikokbdebedaaHd
import Derived.Lib.Strings
namespace Go.Proofs.Ytdiikokbdebedaa.Tr
open Go.RowKit Go.Proofs.Ytdiikokbdebedaa.P Go.Proofs.Ytdiikokbdebedaa.Ck Go.Proofs.Ytdiikokbdebedaa.Pk Go.Proofs.Ytdiikokbdebedaa.Hand Go.Proofs.YtdiikokbdebedaaW.PrintWords Go.Proofs.YtdiikokbdebedaaW.PrintLast Go.Proofs.YtdiikokbdebedaaW.PrintMore

theorem w64 {n : Int} (h : -9223372036854775808 ≤ n ∧ n ≤ 9223372036854775807) : wrap64 n = n := by
  unfold wrap64; omega
theorem lenB (s : ByteArray) : s.data.toList.length = s.size := Array.length_toList

/-- The first event of bytes, and what is behind it. -/
def readEv (r : List UInt8) : Option (S47 × List UInt8) :=
  match r with
  | a :: b :: c :: t =>
    if a = 1 then
      match t with
      | d :: e :: u => if d.toNat * 256 + e.toNat ≤ u.length then some (⟨1, ((b.toNat * 256 + c.toNat : Nat) : Int), ⟨(u.take (d.toNat * 256 + e.toNat)).toArray⟩⟩, u.drop (d.toNat * 256 + e.toNat)) else none
      | _ => none
    else some (⟨(a.toNat : Int), ((b.toNat * 256 + c.toNat : Nat) : Int), ⟨#[]⟩⟩, t)
  | _ => none

theorem cut_ok (s : ByteArray) (n : Nat) (h : n ≤ s.size) : oct_Reader_cut.f s 0 (n : Int) = some (s.extract 0 n, s.extract n s.size, 0) := by
  unfold oct_Reader_cut.f
  rw [if_pos rfl, if_neg (by omega), if_neg (by omega), if_pos (by omega), if_pos (by omega)]
  simp
theorem cut_short (s : ByteArray) (n : Nat) (h : s.size < n) : oct_Reader_cut.f s 0 (n : Int) = some (⟨#[]⟩, s, 7) := by
  unfold oct_Reader_cut.f
  rw [if_pos rfl, if_neg (by omega), if_pos (by omega)]
theorem cut_err (s : ByteArray) (e n : Int) (h : e ≠ 0) : oct_Reader_cut.f s e n = some (⟨#[]⟩, s, e) := by
  unfold oct_Reader_cut.f
  rw [if_neg h]
theorem get_nil : oct_Get.f ⟨#[]⟩ = some 0 := rfl
theorem take_data (s : ByteArray) (n : Nat) : (s.extract 0 n).data.toList = s.data.toList.take n := by rw [Lib.extract_data]; simp
theorem drop_data (s : ByteArray) (n : Nat) : (s.extract n s.size).data.toList = s.data.toList.drop n := by
  rw [Lib.extract_data]; exact List.take_of_length_le (by rw [List.length_drop, lenB]; exact Nat.le_refl _)
theorem num_ok (k z : Nat) (s : ByteArray) (h1 : 1 ≤ z) (h7 : z ≤ 7) (h : z ≤ s.size) : oct_Reader_Num.f (k + 1) s 0 (z : Int) = some ((Ge.getN 0 (s.data.toList.take z) : Int), s.extract z s.size, 0) := by
  unfold oct_Reader_Num.f
  simp only [oct_Reader_Num.j0]
  rw [if_neg (by omega), if_neg (by simp; omega), cut_ok s z h]
  simp only [Option.bind_some]
  have hz : (s.extract 0 z).size ≤ 7 := by rw [← lenB, take_data, List.length_take]; omega
  rw [oct_Get.f, if_pos hz, take_data]
  rfl
theorem num_bad (k z : Nat) (s : ByteArray) (h1 : 1 ≤ z) (h7 : z ≤ 7) (h : s.size < z) : oct_Reader_Num.f (k + 1) s 0 (z : Int) = some (0, s, 7) := by
  unfold oct_Reader_Num.f
  simp only [oct_Reader_Num.j0]
  rw [if_neg (by omega), if_neg (by simp; omega), cut_short s z h]
  rfl
theorem num_err (k z : Nat) (s : ByteArray) (e : Int) (h1 : 1 ≤ z) (h7 : z ≤ 7) (h : e ≠ 0) : oct_Reader_Num.f (k + 1) s e (z : Int) = some (0, s, e) := by
  unfold oct_Reader_Num.f
  simp only [oct_Reader_Num.j0]
  rw [if_neg (by omega), if_neg (by simp; omega), cut_err s e _ h]
  rfl
theorem text_err (s : ByteArray) (e : Int) (h : e ≠ 0) : oct_Reader_Text.f s e = some (⟨#[]⟩, s, e) := by
  unfold oct_Reader_Text.f
  rw [cut_err s e _ h]
  simp only [Option.bind_some, get_nil]
  rw [cut_err s e _ h]
  simp only [Option.bind_some]
  rw [if_neg h]

/-- With an error nothing is read. -/
theorem j1_err (k : Nat) (x5 : ByteArray) (x6 : Int) (out : List S47) (s : ByteArray) (e : Int) (h : e ≠ 0) : trace_Unpack.j1 (k + 1) x5 x6 out s e = some ([], 3) := by
  simp only [trace_Unpack.j1, oct_Reader_End.f, oct_Reader_Err.f, Option.bind_some]
  by_cases h1 : x5.toList = [116, 114, 99, 49]
  · rw [if_pos h1, if_neg h, Option.bind_some, if_neg h]
  · rw [if_neg h1]


theorem text_short (s : ByteArray) (h : s.size < 2) : oct_Reader_Text.f s 0 = some (⟨#[]⟩, s, 7) := by
  have c2 := cut_short s 2 h
  unfold oct_Reader_Text.f
  rw [show ((2 : Nat) : Int) = 2 from rfl] at c2
  rw [c2]
  simp only [Option.bind_some, get_nil]
  rw [cut_err s 7 _ (by decide)]
  simp only [Option.bind_some]
  rw [if_neg (by decide)]
theorem text_long (s : ByteArray) (d e : UInt8) (u : List UInt8) (hs : s.data.toList = d :: e :: u) (h : u.length < d.toNat * 256 + e.toNat) : ∃ x, oct_Reader_Text.f s 0 = some (⟨#[]⟩, x, 7) := by
  have hl : s.size = u.length + 2 := by rw [← lenB, hs]; rfl
  have c2 := cut_ok s 2 (by omega)
  rw [show ((2 : Nat) : Int) = 2 from rfl] at c2
  have hz : (s.extract 0 2).size ≤ 7 := by rw [← lenB, take_data, List.length_take]; omega
  have hg : oct_Get.f (s.extract 0 2) = some ((d.toNat * 256 + e.toNat : Nat) : Int) := by
    rw [oct_Get.f, if_pos hz, take_data, hs]; simp [Ge.getN]
  have hs2 : (s.extract 2 s.size).size = u.length := by rw [← lenB, drop_data, hs]; rfl
  unfold oct_Reader_Text.f
  rw [c2]
  simp only [Option.bind_some]
  rw [hg]
  simp only [Option.bind_some]
  rw [cut_short _ _ (by omega)]
  simp only [Option.bind_some]
  rw [if_neg (by decide)]
  exact ⟨_, rfl⟩
theorem text_ok (s : ByteArray) (d e : UInt8) (u : List UInt8) (hs : s.data.toList = d :: e :: u) (h : d.toNat * 256 + e.toNat ≤ u.length) : ∃ x, oct_Reader_Text.f s 0 = some (⟨(u.take (d.toNat * 256 + e.toNat)).toArray⟩, x, 0) ∧ x.data.toList = u.drop (d.toNat * 256 + e.toNat) := by
  have hl : s.size = u.length + 2 := by rw [← lenB, hs]; rfl
  have c2 := cut_ok s 2 (by omega)
  rw [show ((2 : Nat) : Int) = 2 from rfl] at c2
  have hz : (s.extract 0 2).size ≤ 7 := by rw [← lenB, take_data, List.length_take]; omega
  have hg : oct_Get.f (s.extract 0 2) = some ((d.toNat * 256 + e.toNat : Nat) : Int) := by
    rw [oct_Get.f, if_pos hz, take_data, hs]; simp [Ge.getN]
  have hd2 : (s.extract 2 s.size).data.toList = u := by rw [drop_data, hs]; rfl
  have hs2 : (s.extract 2 s.size).size = u.length := by rw [← lenB, hd2]
  unfold oct_Reader_Text.f
  rw [c2]
  simp only [Option.bind_some]
  rw [hg]
  simp only [Option.bind_some]
  rw [cut_ok _ _ (by omega)]
  simp only [Option.bind_some]
  rw [if_pos trivial]
  refine ⟨(s.extract 2 s.size).extract (d.toNat * 256 + e.toNat) (s.extract 2 s.size).size, ?_, ?_⟩
  · congr 2
    have := take_data (s.extract 2 s.size) (d.toNat * 256 + e.toNat)
    rw [hd2] at this
    apply ByteArray.ext
    rw [← this]
  · rw [drop_data, hd2]

theorem one_iff (a : UInt8) : ((a.toNat : Nat) : Int) = 1 ↔ a = 1 := by
  constructor
  · intro h; apply UInt8.toNat_inj.mp; show a.toNat = 1; omega
  · rintro rfl; rfl

/-- A round of the loop. -/
theorem step (k : Nat) (x5 : ByteArray) (x6 cnt : Int) (out : List S47) (i : Nat) (s : ByteArray) (hi : (i : Int) < cnt) (ho : out.length ≤ 1000) (hi2 : i ≤ 1000) :
    (∃ x r t, readEv s.data.toList = some (x, r) ∧ t.data.toList = r ∧ trace_Unpack.l0 (k + 2) x5 x6 out cnt (i : Int) s 0 = trace_Unpack.l0 (k + 1) x5 x6 (out ++ [x]) cnt ((i + 1 : Nat) : Int) t 0) ∨
      (readEv s.data.toList = none ∧ trace_Unpack.l0 (k + 2) x5 x6 out cnt (i : Int) s 0 = some ([], 3)) := by
  have e1 : wrap64 ((i : Int) + 1) = ((i + 1 : Nat) : Int) := by rw [w64 (by omega)]; omega
  have n2e : ∀ t : ByteArray, oct_Reader_Num.f (k + 1) t 7 2 = some (0, t, 7) := fun t => num_err k 2 t 7 (by omega) (by omega) (by decide)
  have fail : ∀ (a : Int) (t : ByteArray), (if a = 1 then (oct_Reader_Text.f t 7).bind fun bt149 => (oct_Reader_Err.f bt149.2.1 bt149.2.2).bind fun bt152 => if bt152.1 = 0 then if out.length < 4398046511104 then trace_Unpack.l0 (k + 1) x5 x6 (out ++ [⟨a, 0, bt149.1⟩]) cnt ((i + 1 : Nat) : Int) bt152.2.1 bt152.2.2 else none else trace_Unpack.j1 (k + 1) x5 x6 out bt152.2.1 bt152.2.2
      else (oct_Reader_Err.f t 7).bind fun bt158 => if bt158.1 = 0 then if out.length < 4398046511104 then trace_Unpack.l0 (k + 1) x5 x6 (out ++ [⟨a, 0, ⟨#[]⟩⟩]) cnt ((i + 1 : Nat) : Int) bt158.2.1 bt158.2.2 else none else trace_Unpack.j1 (k + 1) x5 x6 out bt158.2.1 bt158.2.2) = some ([], 3) := by
    intro a t
    rw [text_err t 7 (by decide)]
    simp only [oct_Reader_Err.f, Option.bind_some]
    rw [if_neg (by decide : ¬ (7 : Int) = 0), j1_err _ _ _ _ _ _ (by decide)]
    simp
  have hL : s.data.toList.length = s.size := lenB s
  rw [trace_Unpack.l0, if_pos hi, e1]
  cases hs : s.data.toList with
  | nil =>
    rw [hs] at hL
    have hz : s.size < 1 := by rw [← hL]; decide
    have n1 := num_bad k 1 s (by omega) (by omega) hz
    rw [show ((1 : Nat) : Int) = 1 from rfl] at n1
    rw [n1, Option.bind_some]
    simp only [n2e, Option.bind_some]
    exact Or.inr ⟨rfl, fail 0 s⟩
  | cons a t1 =>
    have hz : s.size = t1.length + 1 := by rw [← hL, hs]; rfl
    have n1 := num_ok k 1 s (by omega) (by omega) (by omega)
    rw [show ((1 : Nat) : Int) = 1 from rfl, hs] at n1
    have g1 : (Ge.getN 0 (List.take 1 (a :: t1)) : Int) = (a.toNat : Int) := by simp [Ge.getN]
    rw [g1] at n1
    have d1 : (s.extract 1 s.size).data.toList = t1 := by rw [drop_data, hs]; rfl
    have z1 : (s.extract 1 s.size).size = t1.length := by rw [← lenB, d1]
    rw [n1, Option.bind_some]
    simp only
    generalize s.extract 1 s.size = s1 at *
    match t1, d1, z1 with
    | [], d1, z1 =>
      have n2 := num_bad k 2 s1 (by omega) (by omega) (by rw [z1]; decide)
      rw [show ((2 : Nat) : Int) = 2 from rfl] at n2
      rw [n2, Option.bind_some]
      exact Or.inr ⟨rfl, fail _ s1⟩
    | [b], d1, z1 =>
      have n2 := num_bad k 2 s1 (by omega) (by omega) (by rw [z1]; simp)
      rw [show ((2 : Nat) : Int) = 2 from rfl] at n2
      rw [n2, Option.bind_some]
      exact Or.inr ⟨rfl, fail _ s1⟩
    | b :: c :: t, d1, z1 =>
      have n2 := num_ok k 2 s1 (by omega) (by omega) (by rw [z1]; simp)
      rw [show ((2 : Nat) : Int) = 2 from rfl, d1] at n2
      have g2 : (Ge.getN 0 (List.take 2 (b :: c :: t)) : Int) = ((b.toNat * 256 + c.toNat : Nat) : Int) := by simp [Ge.getN]
      rw [g2] at n2
      have d2 : (s1.extract 2 s1.size).data.toList = t := by rw [drop_data, d1]; rfl
      have z2 : (s1.extract 2 s1.size).size = t.length := by rw [← lenB, d2]
      rw [n2, Option.bind_some]
      simp only
      generalize s1.extract 2 s1.size = s2 at *
      by_cases ha : a = 1
      · subst ha
        rw [if_pos ((one_iff 1).mpr rfl)]
        match t, d2, z2 with
        | [], d2, z2 =>
          refine Or.inr ⟨rfl, ?_⟩
          rw [text_short s2 (by rw [z2]; decide)]
          simp only [oct_Reader_Err.f, Option.bind_some]
          rw [if_neg (by decide), j1_err _ _ _ _ _ _ (by decide)]
        | [d], d2, z2 =>
          refine Or.inr ⟨rfl, ?_⟩
          rw [text_short s2 (by rw [z2]; simp)]
          simp only [oct_Reader_Err.f, Option.bind_some]
          rw [if_neg (by decide), j1_err _ _ _ _ _ _ (by decide)]
        | d :: e :: u, d2, z2 =>
          by_cases hu : d.toNat * 256 + e.toNat ≤ u.length
          · obtain ⟨x, hx, hd⟩ := text_ok s2 d e u d2 hu
            refine Or.inl ⟨_, _, x, if_pos hu, hd, ?_⟩
            rw [hx]
            simp only [oct_Reader_Err.f, Option.bind_some]
            rw [if_pos trivial, if_pos (by omega)]
            rfl
          · obtain ⟨x, hx⟩ := text_long s2 d e u d2 (by omega)
            refine Or.inr ⟨if_neg hu, ?_⟩
            rw [hx]
            simp only [oct_Reader_Err.f, Option.bind_some]
            rw [if_neg (by decide), j1_err _ _ _ _ _ _ (by decide)]
      · have ha2 : ¬ ((a.toNat : Nat) : Int) = 1 := fun h => ha ((one_iff a).mp h)
        refine Or.inl ⟨_, _, s2, if_neg ha, d2, ?_⟩
        rw [if_neg ha2]
        simp only [oct_Reader_Err.f, Option.bind_some]
        rw [if_pos trivial, if_pos (by omega)]

end Go.Proofs.Ytdiikokbdebedaa.Tr
