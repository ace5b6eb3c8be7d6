/- More contracts of the functions that were walked by hand, in the printed texts' form. -/
import Derived.Test.YtbbncdbihiipcaaDoorHd
import Derived.Test.YtbbncdbihiipcaaDoorPe
import Derived.Test.YtbbncdbihiipcaaDoorGe
import Derived.Test.YtbbncdbihiipcaaDoorTs
namespace Go.Proofs.YtbbncdbihiipcaaDoor.Hand
open Go.RowKit Go.Proofs.YtbbncdbihiipcaaDoor.P Go.Proofs.YtbbncdbihiipcaaDoorW.PrintWords

def oct_Get.f (a0 : ByteArray) : Option Int := some (if a0.size ≤ 7 then (Ge.getN 0 a0.data.toList : Int) else 0)
theorem oct_Get.calls (a0 : ByteArray) (r : Int) (w : World) (h : oct_Get.f a0 = some r) :
    Calls Tryd.prog 70 #[.string a0] w fun e w' => e = .returned (.int .i64 r) ∧ Below w.heap.size w w' := by
  obtain rfl := Option.some.inj h
  exact Ge.get a0 w
instance (last : Int) : (l : List S39) → Decidable (Pa.GoodS last l)
  | [] => isTrue trivial
  | x :: r => by
    have := instDecidableGoodS x.f1 r
    unfold Pa.GoodS
    infer_instance
def runs_Pack.f (a0 : Int) (a1 : ByteArray) : Option (ByteArray × Int) :=
  (runs_of.f a0 a1 true).bind fun r => if r.2 = 0 then (if Pa.GoodS 0 r.1 ∧ r.1.length ≤ 200 then some (⟨(Pa.pkS 0 r.1).toArray⟩, 0) else none) else some (⟨#[]⟩, r.2)
theorem runs_Pack.calls (a0 : Int) (a1 : ByteArray) (r1 : ByteArray) (r2 : Int) (w : World) (h : runs_Pack.f a0 a1 = some (r1, r2)) :
    Calls Tryd.prog 21 #[.int .i64 a0, .string a1] w fun e w' => e = .returned (.tuple #[.string r1, .int .i64 r2]) ∧ Below w.heap.size w w' := by
  unfold runs_Pack.f at h
  obtain ⟨⟨l, e⟩, hf, h⟩ := Option.bind_eq_some_iff.mp h
  simp only at h
  split at h
  · rename_i he
    subst he
    split at h
    · rename_i hg
      obtain ⟨rfl, rfl⟩ := Prod.mk.inj (Option.some.inj h)
      by_cases hne : l = []
      · subst hne; exact Pa.pack0 a0 a1 w hf
      · exact Pa.pack a0 a1 l w hf hg.1 hg.2 hne
    · cases h
  · rename_i he
    obtain ⟨rfl, rfl⟩ := Prod.mk.inj (Option.some.inj h)
    exact Pa.packNo a0 a1 l _ w hf he
/-- The text of a run. -/
def runs_text.f (x0 : Int) (x1 : Int) : Option ByteArray :=
  if 0 ≤ x0 ∧ x1 ≤ 200 then (if x1 = x0 + 1 then some (itoaB x0) else if x0 + 1 < x1 ∧ (itoaB x0).size ≤ 100 ∧ (itoaB (x1 - 1)).size ≤ 100 then some ((itoaB x0 ++ ⟨#[45]⟩) ++ itoaB (x1 - 1)) else none) else none
theorem runs_text.calls (x0 : Int) (x1 : Int) (r : ByteArray) (w : World) (h : runs_text.f x0 x1 = some r) (hTabL : LibW w) :
    Calls Tryd.prog 54 #[.agg #[.int .i64 x0, .int .i64 x1]] w fun e w' => e = .returned (.string r) ∧ Below w.heap.size w w' := by
  have hTab := hTabL.tab
  unfold runs_text.f at h
  split at h
  · rename_i h0
    split at h
    · rename_i h1
      obtain rfl := Option.some.inj h
      exact text_one x0 x1 w h0.1 h1 h0.2 hTab
    · split at h
      · rename_i h2
        obtain rfl := Option.some.inj h
        exact text_two x0 x1 _ _ rfl rfl h2.2.1 h2.2.2 w h0.1 h2.1 h0.2 hTab
      · cases h
  · cases h
def strings_Join.f (l0 : List ByteArray) (a1 : ByteArray) : Option ByteArray :=
  if 0 < l0.length ∧ l0.length ≤ 140737488355328 ∧ (Lib.join (l0.map (·.data.toList)) a1.data.toList).length ≤ 140737488355328 then some ⟨(Lib.join (l0.map (·.data.toList)) a1.data.toList).toArray⟩ else none
theorem strings_Join.calls (A0 : Option Addr) (c0 : Nat) (l0 : List ByteArray) (a1 : ByteArray) (r : ByteArray) (w : World) (hr0 : Kd.C Kd.string w A0 l0.length l0) (hc0 : l0.length ≤ c0) (h : strings_Join.f l0 a1 = some r) :
    Calls Tryd.prog 55 #[.slice A0 l0.length c0, .string a1] w fun e w' => e = .returned (.string r) ∧ Below w.heap.size w w' := by
  unfold strings_Join.f at h
  split at h
  · rename_i hn
    obtain rfl := Option.some.inj h
    obtain ⟨⟨b, o, sp⟩, rfl, hx⟩ := hr0.2.2 hn.1
    have key : ∀ (j : Nat) x, l0[j]? = some x → w.cell? ((⟨b, o, sp⟩ : Addr).add j) = some (.string x) := by
      intro j x hj
      obtain ⟨c, hc, hK, hu⟩ := hx j x hj
      have hc1 : c = [.string x] := hK
      subst hc1
      have := hu 0 _ rfl
      rwa [show j * (Kd.string).sz + 0 = j from by show j * 1 + 0 = j; omega] at this
    obtain ⟨x0, h0⟩ : ∃ x, l0[0]? = some x := ⟨l0[0], List.getElem?_eq_getElem hn.1⟩
    have hc0' := key 0 x0 h0
    have hb : b < w.heap.size := World.block_lt_of_cell? w _ hc0'
    cases sp with
    | some z =>
      exfalso
      unfold World.cell? at hc0'
      split at hc0'
      · simp [Addr.add] at hc0'
      · cases hc0'
    | none => exact Tryd.strings_Join b o c0 l0 a1 w (fun j x hj => by have := key j x hj; unfold Addr.add at this; split at this <;> simp_all) hb hn.2.1 hc0 hn.2.2
  · cases h
end Go.Proofs.YtbbncdbihiipcaaDoor.Hand
