/-
  DERIVED: THE SHELF's CONTRACTS AT THIS DUMP, IN PLAIN WORDS (tools/lay-plain.mjs out of 'TryzShelf.lean', which tools/lay-shelf.mjs wrote): THE SAME DECLARATIONS UNDER THE SAME NAMES: 'import', 'namespace', 'open', 'def', 'theorem' AND NOTHING ELSE: no command of the shelf's: FOR A HAND-IN. Each laying: the table of numbers ('.._ren') and one theorem, a field a fact of the dump's own or the kernel's comparison; each contract: ONE APPLICATION.
-/
import Derived.Shelf.Strings.Builder1
import Derived.Shelf.Strings.Builder2
import Derived.Shelf.Strings.OnBuilder
import Derived.Shelf.Small.Strs
import Derived.Shelf.Small.Wraps
import Derived.Shelf.Strings.BuilderF
import Derived.Shelf.Strings.BuilderK
import Derived.Shelf.Strings.Builder2Cap
import Derived.Shelf.Strconv.Atoi
import Derived.Shelf.Strconv.Itoa0
import Derived.Shelf.Strconv.Itoa1
import Derived.Shelf.LaysM
import Derived.Shelf.Strconv.Itoa2
import Derived.Shelf.Strconv.Itoa3
import Derived.Shelf.Strconv.AtoiErrFast
import Derived.Shelf.Strconv.ParseIntEmpty
import Derived.Shelf.Strconv.AtoiFail
import Derived.Shelf.Strconv.Clone
import Derived.Shelf.Strconv.SyntaxError
import Derived.Shelf.LaysC
import Derived.Shelf.Strconv.ToError
import Derived.Shelf.Strconv.Lower
import Derived.Shelf.Strconv.ParseUint10
import Derived.Shelf.Strconv.ParseUint10Empty
import Derived.Shelf.Strconv.ParseUint10Any
import Derived.Shelf.Strconv.ParseInt10
import Derived.Shelf.Strconv.AtoiLong
import Derived.Shelf.Strconv.AtoiInnerAll
import Derived.Shelf.Strconv.RangeError
import Derived.Shelf.Strconv.ToErrorRange
import Derived.Shelf.Strconv.AtoiAll
import Derived.Shelf.Strconv.ErrVarAll
import Derived.Shelf.Strings.Search1
import Derived.Shelf.Strings.Search2
import Derived.Shelf.Strings.Search3
import Derived.Shelf.Strings.Cut
import Derived.Shelf.Strings.Count
import Derived.Shelf.Strings.Shaped
import Derived.Shelf.Strings.Prefix
import Derived.Shelf.Strings.Split
import Derived.Shelf.Strings.SplitShaped
import Derived.Shelf.Unicode.DecodeSlow
import Derived.Ground.SlgmProg
import Derived.Shelf.SortM.Plain
import Derived.Shelf.SortM.SortNone
import Derived.Test.YtmimnlbkllgfpaaGreatDoorProg
import Derived.Lib.Builder
import Derived.Lib.AppendStr
import Derived.Lib.Strings
import Derived.WalkKit
import Derived.Laws.Externs
import Derived.OwnWalk
import Derived.KernelRfl
import Derived.Laws.Bits64b
import Derived.RowKit
import Derived.Lib.UnsafeStr
import Derived.Tactics
import Derived.Tactics2
import Derived.StillTactics
import Derived.Laws.Shifts
import Derived.Laws.ShiftsVar
import Derived.Laws.Bits
import Derived.Laws.Bits64
import Derived.Laws.BitsAll
import Derived.Laws.Strings
import Derived.Scope
import Derived.RegionTactic
import Derived.LoopTactic
import Derived.WalkMore
import Derived.ScopeJumps
import Derived.Laws.Concat
import Derived.Laws.Strings2
import Derived.Laws.Strings3
import Derived.StillTailTactics
import Derived.Test.YtmimnlbkllgfpaaGreatDoorWMore
import Derived.Lib.ItoaNum
import Derived.Lib.Join
import Derived.Lib.AppendIntMem
namespace Go.Proofs
open Go.Shelf
def Tryz.lays169_ren : Go.Shelf.Ren := ⟨fun | 169 => 90 | n => n, fun | 70 => 133 | 9 => 9 | 0 => 0 | 72 => 135 | 37 => 112 | 127 => 154 | 3 => 3 | 5 => 5 | n => n, fun | n => n⟩
theorem Tryz.lays169 : Go.Proofs.Lays.n169 Tryz.prog Tryz.lays169_ren := {
  mixed := by kernel_rfl
  f169 := Tryz.func90.trans (congrArg some (by kernel_rfl))
  t0 := Tryz.underlying0
  a0 := Tryz.isAgg0
  z0 := Tryz.sizeOf0
  v0 := Tryz.zeroValue0
  t3 := Tryz.underlying3
  a3 := Tryz.isAgg3
  z3 := Tryz.sizeOf3
  v3 := Tryz.zeroValue3
  t9 := Tryz.underlying9
  a9 := Tryz.isAgg9
  z9 := Tryz.sizeOf9
  v9 := Tryz.zeroValue9
  t37 := Tryz.underlying112
  a37 := Tryz.isAgg112
  z37 := Tryz.sizeOf112
  v37 := Tryz.zeroValue112
  t70 := Tryz.underlying133
  a70 := Tryz.isAgg133
  z70 := Tryz.sizeOf133
  v70 := Tryz.zeroValue133
  t72 := Tryz.underlying135
  a72 := Tryz.isAgg135
  z72 := Tryz.sizeOf135
  v72 := Tryz.zeroValue135
  t127 := Tryz.underlying154
  a127 := Tryz.isAgg154
  z127 := Tryz.sizeOf154
  v127 := Tryz.zeroValue154 }
theorem Tryz.Builder_Extra_169 : Builder.Extra Tryz.prog Tryz.lays169_ren := {
  sizeBuilder := by kernel_rfl
  liesBuilder := by kernel_rfl
  t5 := Tryz.underlying5
  a5 := Tryz.isAgg5
  z5 := Tryz.sizeOf5
  v5 := Tryz.zeroValue5
  infoByte := by kernel_rfl
  cellsByte := by kernel_rfl
  sizeByte := by kernel_rfl
  neB5 := by decide }
open Go.RowKit in
/-- (*strings.Builder).String: "String returns the accumulated string.": OF A BUILDER THAT HOLDS AT LEAST ONE BYTE. ✋ THE MODEL FREEZES THOSE BYTES IN THE BUFFER (unsafe.String): a later write INTO them ends the model's run without an answer; a later append BEHIND them goes on. The statement's order of evaluation is drawn: one draw. (LAID: no walk: one application.) -/
theorem Tryz.Builder_String (B b : Nat) (l : List UInt8) (w : World) (h : Lib.IsBuilder 135 5 B b (Lib.byteCells l) w) (h0 : l ≠ []) :
    Calls Tryz.prog 90 #[.pointer (some ⟨b, 0, none⟩)] w fun e w' => e = .returned (.string ⟨l.toArray⟩) ∧ Below B w w' := Any.Builder_String Tryz.lays169 Tryz.Builder_Extra_169 B b l w h h0
open Go.RowKit in
/-- (*strings.Builder).String: "String returns the accumulated string.": WHATEVER THE BUILDER HOLDS. (LAID: no walk: one application.) -/
theorem Tryz.Builder_String_any (B b : Nat) (l : List UInt8) (w : World) (h : Lib.IsBuilder 135 5 B b (Lib.byteCells l) w) (hBw : B ≤ w.heap.size) :
    Calls Tryz.prog 90 #[.pointer (some ⟨b, 0, none⟩)] w fun e w' => e = .returned (.string ⟨l.toArray⟩) ∧ Below B w w' := Any.Builder_String_any Tryz.lays169 Tryz.Builder_Extra_169 B b l w h hBw
def Tryz.lays156_ren : Go.Shelf.Ren := ⟨fun | 156 => 66 | 165 => 92 | 166 => 89 | 169 => 90 | 240 => 108 | 241 => 110 | 276 => 132 | 277 => 137 | n => n, fun | 31 => 64 | 9 => 9 | 3 => 3 | 4 => 4 | 0 => 0 | 20 => 20 | 72 => 135 | 76 => 140 | 70 => 133 | 37 => 112 | 75 => 138 | 127 => 154 | 164 => 172 | 5 => 5 | 80 => 142 | n => n, fun | n => n⟩
theorem Tryz.lays156 : Go.Proofs.Lays.n156 Tryz.prog Tryz.lays156_ren := {
  mixed := by kernel_rfl
  f156 := Tryz.func66.trans (congrArg some (by kernel_rfl))
  f165 := Tryz.func92.trans (congrArg some (by kernel_rfl))
  f166 := Tryz.func89.trans (congrArg some (by kernel_rfl))
  f169 := Tryz.func90.trans (congrArg some (by kernel_rfl))
  f240 := Tryz.func108.trans (congrArg some (by kernel_rfl))
  f241 := Tryz.func110.trans (congrArg some (by kernel_rfl))
  f276 := Tryz.func132.trans (congrArg some (by kernel_rfl))
  f277 := Tryz.func137.trans (congrArg some (by kernel_rfl))
  t0 := Tryz.underlying0
  a0 := Tryz.isAgg0
  z0 := Tryz.sizeOf0
  v0 := Tryz.zeroValue0
  t3 := Tryz.underlying3
  a3 := Tryz.isAgg3
  z3 := Tryz.sizeOf3
  v3 := Tryz.zeroValue3
  t4 := Tryz.underlying4
  a4 := Tryz.isAgg4
  z4 := Tryz.sizeOf4
  v4 := Tryz.zeroValue4
  t9 := Tryz.underlying9
  a9 := Tryz.isAgg9
  z9 := Tryz.sizeOf9
  v9 := Tryz.zeroValue9
  t20 := Tryz.underlying20
  a20 := Tryz.isAgg20
  z20 := Tryz.sizeOf20
  v20 := Tryz.zeroValue20
  t31 := Tryz.underlying64
  a31 := Tryz.isAgg64
  z31 := Tryz.sizeOf64
  v31 := Tryz.zeroValue64
  t37 := Tryz.underlying112
  a37 := Tryz.isAgg112
  z37 := Tryz.sizeOf112
  v37 := Tryz.zeroValue112
  t70 := Tryz.underlying133
  a70 := Tryz.isAgg133
  z70 := Tryz.sizeOf133
  v70 := Tryz.zeroValue133
  t72 := Tryz.underlying135
  a72 := Tryz.isAgg135
  z72 := Tryz.sizeOf135
  v72 := Tryz.zeroValue135
  t75 := Tryz.underlying138
  a75 := Tryz.isAgg138
  z75 := Tryz.sizeOf138
  v75 := Tryz.zeroValue138
  t76 := Tryz.underlying140
  a76 := Tryz.isAgg140
  z76 := Tryz.sizeOf140
  v76 := Tryz.zeroValue140
  t127 := Tryz.underlying154
  a127 := Tryz.isAgg154
  z127 := Tryz.sizeOf154
  v127 := Tryz.zeroValue154
  t164 := Tryz.underlying172
  a164 := Tryz.isAgg172
  z164 := Tryz.sizeOf172
  v164 := Tryz.zeroValue172 }
theorem Tryz.Builder_Extra_156 : Builder.Extra Tryz.prog Tryz.lays156_ren := {
  sizeBuilder := by kernel_rfl
  liesBuilder := by kernel_rfl
  t5 := Tryz.underlying5
  a5 := Tryz.isAgg5
  z5 := Tryz.sizeOf5
  v5 := Tryz.zeroValue5
  infoByte := by kernel_rfl
  cellsByte := by kernel_rfl
  sizeByte := by kernel_rfl
  neB5 := by decide }
open Go.RowKit in
/-- strings.Join: "Join concatenates the elements of its first argument to create a single string. The separator string sep is placed between elements in the resulting string.": HOWEVER MANY ELEMENTS. Below the heap's end the world is as it was. (LAID: no walk: one application.) -/
theorem Tryz.strings_Join (bk o c : Nat) (xs : List ByteArray) (sep : ByteArray) (w : World) (hcells : ∀ (j : Nat) x, xs[j]? = some x → w.cell? ⟨bk, o + j, none⟩ = some (.string x)) (hbk : bk < w.heap.size) (hN : xs.length ≤ 140737488355328) (hcap : xs.length ≤ c) (hlen : (Lib.join (xs.map (·.data.toList)) sep.data.toList).length ≤ 140737488355328) :
    Calls Tryz.prog 66 #[.slice (some ⟨bk, o, none⟩) xs.length c, .string sep] w fun e w' => e = .returned (.string ⟨(Lib.join (xs.map (·.data.toList)) sep.data.toList).toArray⟩) ∧ Below w.heap.size w w' := Any.strings_Join Tryz.lays156 Tryz.Builder_Extra_156 bk o c xs sep w hcells hbk hN hcap hlen
def Tryz.lays137_ren : Go.Shelf.Ren := ⟨fun | 137 => 76 | 217 => 101 | 266 => 125 | n => n, fun | 9 => 9 | 5 => 5 | 3 => 3 | n => n, fun | n => n⟩
theorem Tryz.lays137 : Go.Proofs.Lays.n137 Tryz.prog Tryz.lays137_ren := {
  mixed := by kernel_rfl
  f137 := Tryz.func76.trans (congrArg some (by kernel_rfl))
  f217 := Tryz.func101.trans (congrArg some (by kernel_rfl))
  f266 := Tryz.func125.trans (congrArg some (by kernel_rfl))
  t3 := Tryz.underlying3
  a3 := Tryz.isAgg3
  z3 := Tryz.sizeOf3
  v3 := Tryz.zeroValue3
  t5 := Tryz.underlying5
  a5 := Tryz.isAgg5
  z5 := Tryz.sizeOf5
  v5 := Tryz.zeroValue5
  t9 := Tryz.underlying9
  a9 := Tryz.isAgg9
  z9 := Tryz.sizeOf9
  v9 := Tryz.zeroValue9 }
open Go.RowKit in
/-- strings.IndexByte: "IndexByte returns the index of the first instance of c in s, or -1 if c is not present in s.": IT RETURNS 'Lib.indexByte s c'; the world is as it was. (LAID: no walk: one application.) -/
theorem Tryz.strings_IndexByte (s : ByteArray) (c : Int) (w : World) :
    Calls Tryz.prog 76 #[.string s, .int .u8 c] w fun e w' => e = .returned (.int .i64 (Lib.indexByte s.data.toList c.toNat.toUInt8)) ∧ w' = w := Any.strings_IndexByte Tryz.lays137 s c w
def Tryz.laysM171_ren : Go.Shelf.Ren := ⟨fun | 171 => 64 | 243 => 91 | 246 => 109 | 283 => 133 | 284 => 134 | 285 => 135 | 286 => 136 | 129 => 121 | 317 => 152 | 318 => 153 | 319 => 154 | 320 => 155 | 337 => 160 | 338 => 161 | n => n, fun | 3 => 3 | 9 => 9 | 2 => 2 | 4 => 4 | 171 => 174 | 0 => 0 | 53 => 167 | 37 => 112 | 5 => 5 | 173 => 176 | 212 => 194 | 51 => 165 | 20 => 20 | 213 => 195 | 46 => 125 | 232 => 212 | 233 => 213 | n => n, fun | 17 => 1 | 18 => 6 | 19 => 7 | n => n⟩
theorem Tryz.laysM171 : Go.Proofs.LaysM.n171 Tryz.prog Tryz.laysM171_ren := {
  mixed := by kernel_rfl
  f129 := Tryz.func121.trans (congrArg some (by kernel_rfl))
  f171 := Tryz.func64.trans (congrArg some (by kernel_rfl))
  f243 := Tryz.func91.trans (congrArg some (by kernel_rfl))
  f246 := Tryz.func109.trans (congrArg some (by kernel_rfl))
  f283 := Tryz.func133.trans (congrArg some (by kernel_rfl))
  f284 := Tryz.func134.trans (congrArg some (by kernel_rfl))
  f285 := Tryz.func135.trans (congrArg some (by kernel_rfl))
  f286 := Tryz.func136.trans (congrArg some (by kernel_rfl))
  f317 := Tryz.func152.trans (congrArg some (by kernel_rfl))
  f318 := Tryz.func153.trans (congrArg some (by kernel_rfl))
  f319 := Tryz.func154.trans (congrArg some (by kernel_rfl))
  f320 := Tryz.func155.trans (congrArg some (by kernel_rfl))
  f337 := Tryz.func160.trans (congrArg some (by kernel_rfl))
  f338 := Tryz.func161.trans (congrArg some (by kernel_rfl))
  t0 := Tryz.underlying0
  a0 := Tryz.isAgg0
  z0 := Tryz.sizeOf0
  v0 := Tryz.zeroValue0
  t2 := Tryz.underlying2
  a2 := Tryz.isAgg2
  z2 := Tryz.sizeOf2
  v2 := Tryz.zeroValue2
  t3 := Tryz.underlying3
  a3 := Tryz.isAgg3
  z3 := Tryz.sizeOf3
  v3 := Tryz.zeroValue3
  t4 := Tryz.underlying4
  a4 := Tryz.isAgg4
  z4 := Tryz.sizeOf4
  v4 := Tryz.zeroValue4
  t5 := Tryz.underlying5
  a5 := Tryz.isAgg5
  z5 := Tryz.sizeOf5
  v5 := Tryz.zeroValue5
  t9 := Tryz.underlying9
  a9 := Tryz.isAgg9
  z9 := Tryz.sizeOf9
  v9 := Tryz.zeroValue9
  t20 := Tryz.underlying20
  a20 := Tryz.isAgg20
  z20 := Tryz.sizeOf20
  v20 := Tryz.zeroValue20
  t37 := Tryz.underlying112
  a37 := Tryz.isAgg112
  z37 := Tryz.sizeOf112
  v37 := Tryz.zeroValue112
  t46 := Tryz.underlying125
  a46 := Tryz.isAgg125
  z46 := Tryz.sizeOf125
  v46 := Tryz.zeroValue125
  t51 := Tryz.underlying165
  a51 := Tryz.isAgg165
  z51 := Tryz.sizeOf165
  v51 := Tryz.zeroValue165
  t53 := Tryz.underlying167
  a53 := Tryz.isAgg167
  z53 := Tryz.sizeOf167
  v53 := Tryz.zeroValue167
  t171 := Tryz.underlying174
  a171 := Tryz.isAgg174
  z171 := Tryz.sizeOf174
  v171 := Tryz.zeroValue174
  t173 := Tryz.underlying176
  a173 := Tryz.isAgg176
  z173 := Tryz.sizeOf176
  v173 := Tryz.zeroValue176
  t212 := Tryz.underlying194
  a212 := Tryz.isAgg194
  z212 := Tryz.sizeOf194
  v212 := Tryz.zeroValue194
  t213 := Tryz.underlying195
  a213 := Tryz.isAgg195
  z213 := Tryz.sizeOf195
  t232 := Tryz.underlying212
  a232 := Tryz.isAgg212
  z232 := Tryz.sizeOf212
  v232 := Tryz.zeroValue212
  t233 := Tryz.underlying213
  a233 := Tryz.isAgg213
  z233 := Tryz.sizeOf213
  v233 := Tryz.zeroValue213
  g17 := by kernel_rfl
  g18 := by kernel_rfl
  g19 := by kernel_rfl
  i0 := by kernel_rfl
  i2 := by kernel_rfl
  i3 := by kernel_rfl
  i4 := by kernel_rfl
  i5 := by kernel_rfl
  i9 := by kernel_rfl
  i20 := by kernel_rfl
  i37 := by kernel_rfl
  i46 := by kernel_rfl
  i51 := by kernel_rfl
  i53 := by kernel_rfl
  i171 := by kernel_rfl
  i173 := by kernel_rfl
  i212 := by kernel_rfl
  i232 := by kernel_rfl
  i233 := by kernel_rfl
  m17 := by kernel_rfl
  m18 := by kernel_rfl
  m19 := by kernel_rfl }
open Go.RowKit Go.Sort Go.Lib in
/-- strconv.Itoa: "Itoa is equivalent to FormatInt(int64(i), 10).": i's DECIMAL NUMERAL ('Lib.itoa': a '-' where i is negative, then the digits), FOR EVERY int. The world behind the call: the world before it, new blocks behind the heap (the library's 'var a [24]byte'), draws. (LAID: no walk: one application.) -/
theorem Tryz.strconv_Itoa (n : Int) (h0 : -9223372036854775808 ≤ n) (h1 : n ≤ 9223372036854775807) (w : World) (htab : Lib.TabIs Tryz.prog w "internal/strconv.uint64pow10" .u64 Lib.pow10Tab) :
    Calls Tryz.prog 64 #[.int .i64 n] w fun e w' => e = .returned (.string ⟨(Lib.itoa n).toArray⟩) ∧ ∃ k os, w' = grow (w.drewN k) os := Any.strconv_Itoa Tryz.laysM171 n h0 h1 w htab
end Go.Proofs
/- A strings.Builder that the call itself has made: WriteByte and WriteString lay bytes behind those that it holds; the new length is at most 2^47. -/
namespace Go.Proofs.YtmimnlbkllgfpaaGreatDoor.Bd
open Go.RowKit

theorem sizeB : (Tryz.prog.info? 135).map (fun i => i.size) = some 2 := by kernel_rfl
theorem liesB : liesAt Tryz.prog Tryz.prog.depth 135 (2 / Tryz.prog.cellsOf 135) 0 135 1 = true := by kernel_rfl
theorem infoByte : (Tryz.prog.info? 5).map (fun i => (i.zero, i.size, i.bytes)) = some (some (.int .u8 0), 1, 1) := by kernel_rfl

set_option maxRecDepth 100000 in
theorem check_used (b : Nat) (w : World) (h0 : w.cell? ⟨b, 0, none⟩ = some (.pointer (some ⟨b, 0, none⟩))) :
    Calls Tryz.prog 108 #[.pointer (some ⟨b, 0, none⟩)] w fun e w' => e = .returned (.tuple #[]) ∧ w = w' := by
  obtain ⟨j, hj, _⟩ := Option.map_eq_some_iff.1 sizeB
  go_enter Tryz.func108, Tryz.ntmps108
  go_wp2
  rw [Lib.run_neq_ptr_same w _ Tryz.underlying133 hj]
  go_wp2
  go_end0
  exact ⟨rfl, rfl⟩

set_option maxRecDepth 100000 in
theorem check_fresh (b : Nat) (w : World) (h0 : w.cell? ⟨b, 0, none⟩ = some (.pointer none)) (hsh : w.shape? b = some (135, 2)) (hfz : w.frozen? ⟨b, 0, none⟩ = false) :
    Calls Tryz.prog 108 #[.pointer (some ⟨b, 0, none⟩)] w fun e w' => e = .returned (.tuple #[]) ∧ w.setCell ⟨b, 0, none⟩ (.pointer (some ⟨b, 0, none⟩)) = w' := by
  obtain ⟨j, hj, hjs⟩ := Option.map_eq_some_iff.1 sizeB
  go_enter Tryz.func108, Tryz.ntmps108
  go_wp2
  rw [Lib.run_to_unsafe w ⟨b, 0, none⟩ Tryz.underlying133 Tryz.underlying172 hj (by rw [hjs]; decide) hsh (Nat.zero_lt_succ 1)]
  simp only [Result.andThen]
  rw [Oper.upon_value]
  go_wp2
  rw [run_callFunc_extern Tryz.func132 (by kernel_rfl) (by kernel_rfl) (by kernel_rfl) (e := Extern.AbiNoEscape.same) (by kernel_rfl)]
  rw [Lib.run_noEscape]
  simp only [Result.andThen]
  rw [Oper.upon_value]
  go_wp2
  rw [Lib.run_from_unsafe w ⟨b, 0, none⟩ Tryz.underlying172 Tryz.underlying133 hj hsh liesB]
  simp only [Result.andThen]
  rw [Oper.upon_value]
  go_wp2
  go_end0
  exact ⟨rfl, rfl⟩

theorem check (B b : Nat) (bs : List Value) (w : World) (h : Lib.IsBuilder 135 5 B b bs w) :
    Calls Tryz.prog 108 #[.pointer (some ⟨b, 0, none⟩)] w fun e w' => e = .returned (.tuple #[]) ∧ Lib.BuilderAt 135 5 B b (.pointer (some ⟨b, 0, none⟩)) bs w' ∧ Below B w w' := by
  rcases h with h | h
  · refine (check_fresh b w h.cell0 h.shape h.frozen0).mono ?_
    rintro e w' ⟨rfl, rfl⟩
    exact ⟨rfl, h.used _, (Below.refl B w).setCell (p := ⟨b, 0, none⟩) h.1 _⟩
  · refine (check_used b w h.cell0).mono ?_
    rintro e w' ⟨rfl, rfl⟩
    exact ⟨rfl, h, Below.refl B _⟩

set_option maxRecDepth 100000 in
theorem writeByte (B b : Nat) (bs : List Value) (c : Int) (w : World) (h : Lib.IsBuilder 135 5 B b bs w) (hlen : bs.length + 1 ≤ 140737488355328) (hBw : B ≤ w.heap.size) :
    Calls Tryz.prog 88 #[.pointer (some ⟨b, 0, none⟩), .int .u8 c] w fun e w' => e = .returned .nilIface ∧ Lib.BuilderAt 135 5 B b (.pointer (some ⟨b, 0, none⟩)) (bs ++ [.int .u8 c]) w' ∧ Below B w w' := by
  obtain ⟨i0, hi, hz0, hz1, hz2⟩ := info_parts infoByte
  go_enter Tryz.func88, Tryz.ntmps88
  go_wp2_with fail
  refine (check B b bs _ h).mono ?_
  rintro e w1 ⟨rfl, h1, hb1⟩
  obtain ⟨hB, v, hbk, hown, hne⟩ := h1
  have c0 : w1.cell? ⟨b, 0, none⟩ = some (.pointer (some ⟨b, 0, none⟩)) := by rw [Lib.cell_of_heap hbk]; rfl
  have c1 : w1.cell? ⟨b, 1, none⟩ = some v := by rw [Lib.cell_of_heap hbk]; rfl
  go_wp2_with (at_builtin; refine wpList_append_own _ rfl _ _ 112 rfl B 5 i0 (.int .u8 0) 1 1 Tryz.underlying112 hi hz0 hz1 hz2 rfl (by decide) _ _ _ rfl (hown.alloc _) ⟨w1.heap.size, 0, none⟩ 1 1 [.int .u8 c] rfl rfl ?c1 ?c2 ?c3 ?c4 ?c5 ?_)
  case c1 =>
    intro j u hj
    match j, hj with
    | 0, hj => simp at hj; subst hj; simp [Addr.add]
  case c2 => intro u hu; simp at hu; subst hu; rfl
  case c3 => unfold maxLen; omega
  case c4 => omega
  case c5 => have := hb1.size; simp; omega
  intro v' w2 hown' hgrow _
  have hlt : b < w1.heap.size := by
    rcases Nat.lt_or_ge b w1.heap.size with h' | h'
    · exact h'
    · simp [Array.getElem?_eq_none h'] at hbk
  have hb2 : w2.heap[b]? = some (.cells #[.pointer (some ⟨b, 0, none⟩), v] 135 (0, 0)) := by
    rw [hgrow.block b (by simp; omega) (fun e => hne e.symm), Lib.alloc_old w1 _ b hlt]
    exact hbk
  have d0 : w2.cell? ⟨b, 0, none⟩ = some (.pointer (some ⟨b, 0, none⟩)) := by rw [Lib.cell_of_heap hb2]; rfl
  have d1 : w2.cell? ⟨b, 1, none⟩ = some v := by rw [Lib.cell_of_heap hb2]; rfl
  have f1 : w2.frozen? ⟨b, 1, none⟩ = false := Lib.frozen_of_heap hb2 1
  obtain ⟨g, cap, rfl⟩ : ∃ g cap, v' = .slice (some ⟨g, 0, none⟩) (bs.length + 1) cap := by
    rcases hown'.2 with ⟨_, h0⟩ | ⟨g, cap, cur, hv, _⟩
    · omega
    · exact ⟨g, cap, hv⟩
  go_wp2
  go_ret
  refine ⟨rfl, ?_, ?_⟩
  · exact Lib.BuilderAt.put (T := 135) (e := 5) hB hb2 (bs' := bs ++ [.int .u8 c]) (by simpa using hown') (by decide)
  · exact ((hb1.alloc (by have := hb1.size; omega) _).grown hgrow (by have := hb1.size; simp; omega) (fun k hk => (hown.lt k hk).1)).setCell (p := ⟨b, 1, none⟩) hB _

set_option maxRecDepth 100000 in
theorem writeString (B b : Nat) (bs : List Value) (s : ByteArray) (w : World) (h : Lib.IsBuilder 135 5 B b bs w) (hlen : bs.length + s.size ≤ 140737488355328) (hBw : B ≤ w.heap.size) :
    Calls Tryz.prog 89 #[.pointer (some ⟨b, 0, none⟩), .string s] w fun e w' => e = .returned (.tuple #[.int .i64 s.size, .nilIface]) ∧ Lib.BuilderAt 135 5 B b (.pointer (some ⟨b, 0, none⟩)) (bs ++ Lib.strCells s) w' ∧ Below B w w' := by
  obtain ⟨i0, hi, hz0, hz1, hz2⟩ := info_parts infoByte
  go_enter Tryz.func89, Tryz.ntmps89
  go_wp2_with fail
  refine (check B b bs _ h).mono ?_
  rintro e w1 ⟨rfl, h1, hb1⟩
  obtain ⟨hB, v, hbk, hown, hne⟩ := h1
  have c0 : w1.cell? ⟨b, 0, none⟩ = some (.pointer (some ⟨b, 0, none⟩)) := by rw [Lib.cell_of_heap hbk]; rfl
  have c1 : w1.cell? ⟨b, 1, none⟩ = some v := by rw [Lib.cell_of_heap hbk]; rfl
  go_wp2_with (at_builtin; refine Lib.wpList_append_own_string _ rfl _ _ 112 9 rfl B 5 i0 Tryz.underlying112 Tryz.underlying9 hi hz0 hz1 hz2 _ _ _ rfl hown s rfl ?c3 ?c4 ?c5 ?_)
  case c3 => unfold maxLen; omega
  case c4 => omega
  case c5 => have := hb1.size; omega
  intro v' w2 hown' hgrow _
  have hlt : b < w1.heap.size := by
    rcases Nat.lt_or_ge b w1.heap.size with h' | h'
    · exact h'
    · simp [Array.getElem?_eq_none h'] at hbk
  have hb2 : w2.heap[b]? = some (.cells #[.pointer (some ⟨b, 0, none⟩), v] 135 (0, 0)) := by
    rw [hgrow.block b hlt (fun e => hne e.symm)]
    exact hbk
  have d0 : w2.cell? ⟨b, 0, none⟩ = some (.pointer (some ⟨b, 0, none⟩)) := by rw [Lib.cell_of_heap hb2]; rfl
  have d1 : w2.cell? ⟨b, 1, none⟩ = some v := by rw [Lib.cell_of_heap hb2]; rfl
  have f1 : w2.frozen? ⟨b, 1, none⟩ = false := Lib.frozen_of_heap hb2 1
  obtain ⟨ao, n', cap, rfl⟩ : ∃ ao n' cap, v' = .slice ao n' cap := by
    rcases hown'.2 with ⟨hv, _⟩ | ⟨g, cap, cur, hv, _⟩
    · exact ⟨_, _, _, hv⟩
    · exact ⟨_, _, _, hv⟩
  go_wp2
  go_ret2
  refine ⟨rfl, ?_, ?_⟩
  · exact Lib.BuilderAt.put (T := 135) (e := 5) hB hb2 (bs' := bs ++ Lib.strCells s) (by simpa [Lib.strCells_length] using hown') (by decide)
  · exact (hb1.grown hgrow (by have := hb1.size; omega) (fun k hk => (hown.lt k hk).1)).setCell (p := ⟨b, 1, none⟩) hB _

end Go.Proofs.YtmimnlbkllgfpaaGreatDoor.Bd
/- Base 32 in plain numbers: the number that k bits make, and the letters. -/
namespace Go.Proofs.YtmimnlbkllgfpaaGreatDoor.Bp

/-- The bit of a place, the highest of each byte first; behind the end 0. -/
def bitN (s : List UInt8) (p : Nat) : Nat := match s[p / 8]? with | some c => c.toNat / 2 ^ (7 - p % 8) % 2 | none => 0
/-- The number that k bits from p make. -/
def bv (s : List UInt8) (p : Nat) : Nat → Nat
  | 0 => 0
  | k + 1 => 2 * bv s p k + bitN s (p + k)
def lets : List UInt8 := [97, 98, 99, 100, 101, 102, 103, 104, 105, 106, 107, 108, 109, 110, 111, 112, 113, 114, 115, 116, 117, 118, 119, 120, 121, 122, 50, 51, 52, 53, 54, 55]
def letB (k : Nat) : UInt8 := lets.getD k 0
/-- The first c letters. -/
def encN (s : List UInt8) (c : Nat) : List UInt8 := (List.range c).map fun j => letB (bv s (5 * j) 5)
def b32 (s : ByteArray) : ByteArray := ⟨(encN s.data.toList ((8 * s.size + 4) / 5)).toArray⟩

theorem bitN_lt (s : List UInt8) (p : Nat) : bitN s p < 2 := by
  unfold bitN; split <;> omega
theorem bv_lt (s : List UInt8) (p k : Nat) : bv s p k < 2 ^ k := by
  induction k with
  | zero => simp [bv]
  | succ k ih => have := bitN_lt s (p + k); rw [bv, Nat.pow_succ]; omega
theorem bv_add (s : List UInt8) (p a b : Nat) : bv s p (a + b) = bv s p a * 2 ^ b + bv s (p + a) b := by
  induction b with
  | zero => simp [bv]
  | succ b ih => rw [← Nat.add_assoc, bv, ih, bv, Nat.pow_succ, Nat.add_assoc p a b]; generalize 2 ^ b = z; generalize bitN s (p + (a + b)) = y; grind
theorem bv_end (s : List UInt8) (p k : Nat) (h : 8 * s.length ≤ p) : bv s p k = 0 := by
  induction k with
  | zero => rfl
  | succ k ih =>
    rw [bv, ih]
    have : s[(p + k) / 8]? = none := List.getElem?_eq_none (by omega)
    simp [bitN, this]
theorem bv_byte (s : List UInt8) (i : Nat) (c : UInt8) (h : s[i]? = some c) : bv s (8 * i) 8 = c.toNat := by
  have hb : ∀ j, j < 8 → bitN s (8 * i + j) = c.toNat / 2 ^ (7 - j) % 2 := fun j hj => by
    have e1 : (8 * i + j) / 8 = i := by omega
    have e2 : (8 * i + j) % 8 = j := by omega
    rw [bitN, e1, h, e2]
  have hc : c.toNat < 256 := c.toNat_lt
  simp only [bv]
  rw [hb 0 (by omega), hb 1 (by omega), hb 2 (by omega), hb 3 (by omega), hb 4 (by omega), hb 5 (by omega), hb 6 (by omega), hb 7 (by omega)]
  simp only [Nat.reducePow, Nat.reduceSub]
  omega

theorem emit_div (s : List UInt8) (p h : Nat) (h5 : 5 ≤ h) : bv s p h / 2 ^ (h - 5) = bv s p 5 := by
  have e : bv s p h = bv s p 5 * 2 ^ (h - 5) + bv s (p + 5) (h - 5) := by
    rw [← bv_add]; congr 1; omega
  have := bv_lt s (p + 5) (h - 5)
  rw [e, Nat.add_comm, Nat.add_mul_div_right _ _ (Nat.two_pow_pos _), Nat.div_eq_of_lt this, Nat.zero_add]
theorem emit_mod (s : List UInt8) (p h : Nat) (h5 : 5 ≤ h) : bv s p h % 2 ^ (h - 5) = bv s (p + 5) (h - 5) := by
  have e : bv s p h = bv s p 5 * 2 ^ (h - 5) + bv s (p + 5) (h - 5) := by
    rw [← bv_add]; congr 1; omega
  rw [e, Nat.mul_add_mod_self_right, Nat.mod_eq_of_lt (bv_lt s (p + 5) (h - 5))]
theorem byte_in (s : List UInt8) (p h i : Nat) (c : UInt8) (hp : p + h = 8 * i) (hc : s[i]? = some c) : bv s p h * 256 + c.toNat = bv s p (h + 8) := by
  rw [bv_add, hp, bv_byte s i c hc]
theorem last_pad (s : List UInt8) (p h : Nat) (h5 : h ≤ 5) (he : 8 * s.length ≤ p + h) : bv s p h * 2 ^ (5 - h) = bv s p 5 := by
  have e : bv s p 5 = bv s p (h + (5 - h)) := by congr 1; omega
  rw [e, bv_add, bv_end s (p + h) (5 - h) he, Nat.add_zero]
theorem encN_succ (s : List UInt8) (c : Nat) : encN s (c + 1) = encN s c ++ [letB (bv s (5 * c) 5)] := by
  unfold encN; rw [List.range_succ, List.map_append]; rfl
theorem encN_length (s : List UInt8) (c : Nat) : (encN s c).length = c := by simp [encN]

theorem and64 (a b : Nat) (ha : a < 9223372036854775808) (hb : b < 9223372036854775808) : bits .and .i64 (a : Int) (b : Int) = ((a &&& b : Nat) : Int) := by
  have hx : a &&& b < 2 ^ 63 := Nat.and_lt_two_pow _ (by omega)
  have h1 : (BitVec.ofInt 64 (a : Int)).toNat = a := by
    rw [BitVec.ofInt_natCast, BitVec.toNat_ofNat]; exact Nat.mod_eq_of_lt (by omega)
  have h2 : (BitVec.ofInt 64 (b : Int)).toNat = b := by
    rw [BitVec.ofInt_natCast, BitVec.toNat_ofNat]; exact Nat.mod_eq_of_lt (by omega)
  show IntKind.i64.wrap ((BitVec.ofInt 64 (a : Int) &&& BitVec.ofInt 64 (b : Int)).toNat : Int) = _
  rw [BitVec.toNat_and, h1, h2, IntKind.wrap_i64]
  omega
theorem or64 (a b : Nat) (ha : a < 9223372036854775808) (hb : b < 9223372036854775808) : bits .or .i64 (a : Int) (b : Int) = ((a ||| b : Nat) : Int) := by
  have hx : a ||| b < 2 ^ 63 := Nat.or_lt_two_pow (by omega) (by omega)
  have h1 : (BitVec.ofInt 64 (a : Int)).toNat = a := by
    rw [BitVec.ofInt_natCast, BitVec.toNat_ofNat]; exact Nat.mod_eq_of_lt (by omega)
  have h2 : (BitVec.ofInt 64 (b : Int)).toNat = b := by
    rw [BitVec.ofInt_natCast, BitVec.toNat_ofNat]; exact Nat.mod_eq_of_lt (by omega)
  show IntKind.i64.wrap ((BitVec.ofInt 64 (a : Int) ||| BitVec.ofInt 64 (b : Int)).toNat : Int) = _
  rw [BitVec.toNat_or, h1, h2, IntKind.wrap_i64]
  omega
theorem and31 (x : Nat) (hx : x < 32) : bits .and .i64 (x : Int) 31 = (x : Int) := by
  have h := and64 x 31 (by omega) (by omega)
  rw [show ((31 : Nat) : Int) = 31 from rfl] at h
  rw [h, show (31 : Nat) = 2 ^ 5 - 1 from rfl, Nat.and_two_pow_sub_one_eq_mod, Nat.mod_eq_of_lt hx]
theorem andm (x k : Nat) (hx : x < 9223372036854775808) (hk : k ≤ 60) : bits .and .i64 (x : Int) ((2 ^ k - 1 : Nat) : Int) = ((x % 2 ^ k : Nat) : Int) := by
  have : 2 ^ k ≤ 2 ^ 60 := Nat.pow_le_pow_right (by omega) hk
  rw [and64 x (2 ^ k - 1) hx (by omega), Nat.and_two_pow_sub_one_eq_mod]
theorem or8 (x c k : Nat) (hc : c < 2 ^ k) (hk : k ≤ 20) (hx : x < 2 ^ 40) : bits .or .i64 ((x * 2 ^ k : Nat) : Int) (c : Int) = ((x * 2 ^ k + c : Nat) : Int) := by
  have h1 : 2 ^ k ≤ 2 ^ 20 := Nat.pow_le_pow_right (by omega) hk
  have h2 : x * 2 ^ k < 2 ^ 40 * 2 ^ 20 := Nat.lt_of_lt_of_le (Nat.mul_lt_mul_of_pos_right hx (Nat.two_pow_pos k)) (Nat.mul_le_mul_left _ h1)
  rw [or64 _ _ (by omega) (by omega), Nat.mul_comm x, Nat.two_pow_add_eq_or_of_lt hc]

end Go.Proofs.YtmimnlbkllgfpaaGreatDoor.Bp
namespace Go.Proofs.YtmimnlbkllgfpaaGreatDoor.Bx
open Go.RowKit Go.Proofs.YtmimnlbkllgfpaaGreatDoor.Bp

theorem exists_min (p : Nat → Prop) (h : ∃ n, p n) : ∃ n, p n ∧ ∀ m, p m → n ≤ m := by
  obtain ⟨n, hn⟩ := h
  induction n using Nat.strongRecOn with
  | _ n ih =>
    by_cases hm : ∃ m, m < n ∧ p m
    · obtain ⟨m, h1, h2⟩ := hm; exact ih m h1 h2
    · exact ⟨n, hn, fun m h => by
        rcases Nat.lt_or_ge m n with h' | h'
        · exact absurd ⟨m, h', h⟩ hm
        · exact h'⟩

open Classical in
theorem wp_scope_jumps2 {P : Program} {a : Act} {w : World} {Q : Exit → Act → World → Prop} {c rest : Code} (l : Nat) (J : Nat → Act → World → Prop) (hf : findLabel c l = some (.seq .skip rest))
    (pass : ∀ n a w, J n a w → rest.wp P (Exit.jump l (fun a' w' => ∃ m, m < n ∧ J m a' w') Q) a w)
    (first : (∀ n a w, J n a w → rest.wp P (Exit.jump l (fun a' w' => ∃ m, J m a' w') Q) a w) → c.wp P (Exit.jump l (fun a' w' => ∃ m, J m a' w') Q) a w) : (Code.scope c).wp P Q a w := by
  refine wp_scope_jumps l (fun a w => ∃ n, J n a w) (fun a w => if h : ∃ n, J n a w then Classical.choose (exists_min _ h) else 0) hf (first fun n a w h => Code.wp_mono ?_ (pass n a w h)) ?_
  · intro e a' w' h
    cases e <;> first | exact h | exact ⟨h.1, h.2.elim fun m hm => ⟨m, hm.2⟩⟩
  · intro a w h
    obtain ⟨h1, h2⟩ := Classical.choose_spec (exists_min _ h)
    apply wp_seq_k
    intro K hK
    apply wp_skip
    refine hK _ _ (Code.wp_mono ?_ (pass _ a w h1))
    intro e a' w' hq
    cases e <;> try exact hq
    obtain ⟨rfl, m, hm, hJ⟩ := hq
    refine ⟨rfl, ⟨m, hJ⟩, ?_⟩
    have he : ∃ n, J n a' w' := ⟨m, hJ⟩
    rw [dif_pos he, dif_pos h]
    exact Nat.lt_of_le_of_lt ((Classical.choose_spec (exists_min _ he)).2 m hJ) hm

def St (s : ByteArray) (B b : Nat) (bits hv i : Nat) (l : List UInt8) (a : Act) (w : World) : Prop :=
  ∃ u7 u8 u9 u10 u11 u12 u13 u14 u15 u16 u17 u18 u19 u20 u21 u22 u23 u24 u25 u26 u27 u28 u29 u30 u31 u32 u33 u34 u35 u36 u37 u38 u39 u40 u41 u42 u43 u44 u45 u46 : Value, a = { tmps := #[.string s, undef, .string ⟨#[]⟩, .pointer (some ⟨b, 0, none⟩), .int .i64 bits, .int .i64 hv, .int .i64 i, u7, u8, u9, u10, u11, u12, u13, u14, u15, u16, u17, u18, u19, u20, u21, u22, u23, u24, u25, u26, u27, u28, u29, u30, u31, u32, u33, u34, u35, u36, u37, u38, u39, u40, u41, u42, u43, u44, u45, u46], defers := [] } ∧ Lib.IsBuilder 135 5 B b (Lib.byteCells l) w

def J (s : ByteArray) (w0 : World) (n : Nat) (a : Act) (w : World) : Prop :=
  ∃ c hv i, St s w0.heap.size w0.heap.size (bv s.data.toList (5 * c) hv) hv i (encN s.data.toList c) a w ∧ Below w0.heap.size w0 w ∧ 5 * c + hv = 8 * i ∧ hv ≤ 12 ∧ i ≤ s.size ∧ n = 16 * (s.size - i) + hv

theorem letIdx (k : Nat) (h : k < 32) : (⟨#[97, 98, 99, 100, 101, 102, 103, 104, 105, 106, 107, 108, 109, 110, 111, 112, 113, 114, 115, 116, 117, 118, 119, 120, 121, 122, 50, 51, 52, 53, 54, 55]⟩ : ByteArray)[k]'h = letB k := by
  have : ∀ k : Fin 32, (⟨#[97, 98, 99, 100, 101, 102, 103, 104, 105, 106, 107, 108, 109, 110, 111, 112, 113, 114, 115, 116, 117, 118, 119, 120, 121, 122, 50, 51, 52, 53, 54, 55]⟩ : ByteArray)[k.1]'k.2 = letB k.1 := by decide
  exact this ⟨k, h⟩
theorem maskE (s : List UInt8) (c hv : Nat) (h5 : 5 ≤ hv) (h12 : hv ≤ 12) : bits .and .i64 ((bv s (5 * c) hv : Nat) : Int) (wrap64 (wrap64 (2 ^ (hv - 5)) - 1)) = ((bv s (5 * (c + 1)) (hv - 5) : Nat) : Int) := by
  have p1 : (2 : Int) ^ (hv - 5) = ((2 ^ (hv - 5) : Nat) : Int) := by simp
  have p2 : 2 ^ (hv - 5) ≤ 2 ^ 7 := Nat.pow_le_pow_right (by omega) (by omega)
  have p3 := Nat.two_pow_pos (hv - 5)
  have p4 := bv_lt s (5 * c) hv
  have p5 : 2 ^ hv ≤ 2 ^ 12 := Nat.pow_le_pow_right (by omega) h12
  have e : wrap64 (wrap64 (2 ^ (hv - 5)) - 1) = ((2 ^ (hv - 5) - 1 : Nat) : Int) := by
    rw [p1]; unfold wrap64; omega
  rw [e, andm _ _ (by omega) (by omega), emit_mod s (5 * c) hv h5, Nat.mul_succ]

theorem orE (s : List UInt8) (c hv i : Nat) (b : UInt8) (h5 : hv < 5) (hp : 5 * c + hv = 8 * i) (hc : s[i]? = some b) : bits .or .i64 (wrap64 (((bv s (5 * c) hv : Nat) : Int) * 256)) (wrap64 (b.toNat : Int)) = ((bv s (5 * c) (hv + 8) : Nat) : Int) := by
  have p4 := bv_lt s (5 * c) hv
  have p5 : 2 ^ hv ≤ 2 ^ 5 := Nat.pow_le_pow_right (by omega) (by omega)
  have p6 := b.toNat_lt
  have h1 : wrap64 (((bv s (5 * c) hv : Nat) : Int) * 256) = ((bv s (5 * c) hv * 2 ^ 8 : Nat) : Int) := by unfold wrap64; omega
  have h2 : wrap64 (b.toNat : Int) = (b.toNat : Int) := by unfold wrap64; omega
  rw [h1, h2, or8 _ _ 8 (by omega) (by omega) (by omega)]
  exact congrArg _ (byte_in s (5 * c) hv i b hp hc)
theorem padE (s : List UInt8) (c hv : Nat) (h5 : hv < 5) (he : 8 * s.length ≤ 5 * c + hv) : wrap64 (((bv s (5 * c) hv : Nat) : Int) * 2 ^ (5 - hv)) = ((bv s (5 * c) 5 : Nat) : Int) := by
  have p := bv_lt s (5 * c) 5
  have h1 : ((bv s (5 * c) hv : Nat) : Int) * 2 ^ (5 - hv) = ((bv s (5 * c) 5 : Nat) : Int) := by
    rw [← last_pad s (5 * c) hv (by omega) he]; simp
  rw [h1]; unfold wrap64; omega

set_option maxHeartbeats 4000000 in
set_option maxRecDepth 1000000 in
theorem base32 (s : ByteArray) (w : World) (hs : s.size ≤ 100000) :
    Calls Tryz.prog 65 #[.string s] w fun e w' => e = .returned (.string (b32 s)) ∧ Below w.heap.size w w' := by
  go_enter Tryz.func65, Tryz.ntmps65
  go_wp2
  refine wp_scope_jumps2 0 (J s w) rfl ?_ ?_
  · rintro nn a' w' ⟨c, hv, i, ⟨u7, u8, u9, u10, u11, u12, u13, u14, u15, u16, u17, u18, u19, u20, u21, u22, u23, u24, u25, u26, u27, u28, u29, u30, u31, u32, u33, u34, u35, u36, u37, u38, u39, u40, u41, u42, u43, u44, u45, u46, rfl, hI⟩, hB, hc, hv1, hi, hnn⟩
    have hlen : (Lib.byteCells (encN s.data.toList c)).length = c := by rw [Lib.byteCells_length, encN_length]
    have hbl := bv_lt s.data.toList (5 * c) hv
    by_cases h5 : 5 ≤ hv
    · have e1 : wrap64 ((hv : Int) - 5) = ((hv - 5 : Nat) : Int) := by unfold wrap64; omega
      have e2 : ((bv s.data.toList (5 * c) hv : Nat) : Int) / 2 ^ (hv - 5) = ((bv s.data.toList (5 * c) 5 : Nat) : Int) := by
        rw [← emit_div s.data.toList (5 * c) hv h5]; simp
      have l5 := bv_lt s.data.toList (5 * c) 5
      have e3 := and31 (bv s.data.toList (5 * c) 5) (by omega)
      have e4 := maskE s.data.toList c hv h5 hv1
      have e6 : (hv : Int) - 5 = ((hv - 5 : Nat) : Int) := by omega
      go_wp2_with (first | (go_at_call 88; refine (Bd.writeByte w.heap.size w.heap.size (Lib.byteCells (encN s.data.toList c)) _ _ hI (by omega) hB.size).mono ?_; rintro e w1 ⟨rfl, h1, hb1⟩) | rw [e1] | rw [e2] | rw [e3])
      go_step3
      try rw [e4]
      try rw [e6]
      refine ⟨rfl, 16 * (s.size - i) + (hv - 5), by omega, c + 1, hv - 5, i, ⟨_, _, _, _, _, _, _, _, _, _, _, _, _, _, _, _, _, _, _, _, _, _, _, _, _, _, _, _, _, _, _, _, _, _, _, _, _, _, _, _, rfl, Or.inr ?_⟩, hB.trans hb1, by omega, by omega, hi, rfl⟩
      rw [encN_succ, Lib.byteCells_append]
      have e7 := letIdx (bv s.data.toList (5 * c) 5) l5
      try rw [e7] at h1
      exact h1
    · by_cases hin : i < s.size
      · have e5 := orE s.data.toList c hv i s[i] (by omega) (by omega) (by rw [List.getElem?_eq_getElem (by simpa using hin)]; rfl)
        go_wp2_with fail
        have e6 : (hv : Int) + 8 = ((hv + 8 : Nat) : Int) := by omega
        have e7 : (i : Int) + 1 = ((i + 1 : Nat) : Int) := by omega
        go_step3
        rw [e6, e7]
        exact ⟨rfl, 16 * (s.size - (i + 1)) + (hv + 8), by omega, c, hv + 8, i + 1, ⟨_, _, _, _, _, _, _, _, _, _, _, _, _, _, _, _, _, _, _, _, _, _, _, _, _, _, _, _, _, _, _, _, _, _, _, _, _, _, _, _, rfl, hI⟩, hB, by omega, by omega, by omega, rfl⟩
      · have hlast : 8 * s.data.toList.length ≤ 5 * c + hv := by simp only [Array.length_toList]; show 8 * s.size ≤ _; omega
        by_cases h0 : 0 < hv
        · have e1 : wrap64 (5 - (hv : Int)) = ((5 - hv : Nat) : Int) := by unfold wrap64; omega
          have e2 := padE s.data.toList c hv (by omega) hlast
          have l5 := bv_lt s.data.toList (5 * c) 5
          have e3 := and31 (bv s.data.toList (5 * c) 5) (by omega)
          have e4 := letIdx (bv s.data.toList (5 * c) 5) l5
          have hC : (8 * s.size + 4) / 5 = c + 1 := by omega
          go_wp2_with (first | (go_at_call 88; refine (Bd.writeByte w.heap.size w.heap.size (Lib.byteCells (encN s.data.toList c)) _ _ hI (by omega) hB.size).mono ?_; rintro e w1 ⟨rfl, h1, hb1⟩) | rw [e1] | rw [e2] | rw [e3])
          go_wp2_with (first | (go_at_call 90; refine (Tryz.Builder_String_any w.heap.size w.heap.size (encN s.data.toList (c + 1)) _ (Or.inr (by rw [encN_succ, Lib.byteCells_append]; exact h1)) (hB.trans hb1).size).mono ?_; rintro e w2 ⟨rfl, hb2⟩))
          simp only [Exit.jump]
          go_ret
          refine ⟨?_, (hB.trans hb1).trans hb2⟩
          show Ending.returned (.string ⟨(encN s.data.toList (c + 1)).toArray⟩) = _
          rw [b32, hC]
        · have hz : hv = 0 := by omega
          subst hz
          have hC : (8 * s.size + 4) / 5 = c := by omega
          go_wp2_with (first | (go_at_call 90; refine (Tryz.Builder_String_any w.heap.size w.heap.size (encN s.data.toList c) _ hI hB.size).mono ?_; rintro e w1 ⟨rfl, hb1⟩))
          simp only [Exit.jump]
          go_ret
          refine ⟨?_, hB.trans hb1⟩
          show Ending.returned (.string ⟨(encN s.data.toList c).toArray⟩) = _
          rw [b32, hC]
  · intro hp
    go_wp2
    go_step3
    rename_i hk
    refine hk _ _ (hp (16 * s.size) _ _ ?_)
    exact ⟨0, 0, 0, ⟨_, _, _, _, _, _, _, _, _, _, _, _, _, _, _, _, _, _, _, _, _, _, _, _, _, _, _, _, _, _, _, _, _, _, _, _, _, _, _, _, rfl, Lib.fresh_isBuilder 135 5 w⟩, (Below.refl _ w).alloc (Nat.le_refl _) _, rfl, by omega, by omega, by omega⟩
end Go.Proofs.YtmimnlbkllgfpaaGreatDoor.Bx
/- link.plain and link.Escape, walked: what stands as it is, and what is escaped. -/
namespace Go.Proofs.YtmimnlbkllgfpaaGreatDoor.Ex
open Go.RowKit Go.Proofs.YtmimnlbkllgfpaaGreatDoor.Bp

def plainB (c : Int) : Bool := (decide (97 ≤ c) && decide (c ≤ 122)) || (decide (65 ≤ c) && decide (c ≤ 90)) || (decide (48 ≤ c) && decide (c ≤ 57)) || decide (0 ≤ Lib.indexByte [45, 46, 95, 126] c.toNat.toUInt8)

set_option maxRecDepth 1000000 in
theorem plain (c : Int) (w : World) :
    Calls Tryz.prog 87 #[.int .u8 c] w fun e w' => e = .returned (.bool (plainB c)) ∧ w' = w := by
  go_enter Tryz.func87, Tryz.ntmps87
  go_wp2_with (go_at_call 76; refine (Tryz.strings_IndexByte _ _ _).mono ?_; rintro e w1 ⟨rfl, rfl⟩)
  all_goals (go_ret; refine ⟨congrArg (fun b => Ending.returned (Value.bool b)) ?_, rfl⟩; unfold plainB; rw [Bool.eq_iff_iff]; simp; try omega)

def hexs : List UInt8 := [48, 49, 50, 51, 52, 53, 54, 55, 56, 57, 65, 66, 67, 68, 69, 70]
def hexB (k : Nat) : UInt8 := hexs.getD k 0
/-- A byte escaped. -/
def esc1 (b : UInt8) : List UInt8 := if plainB b.toNat then [b] else [37, hexB (b.toNat / 16), hexB (b.toNat % 16)]
def escL (s : List UInt8) : List UInt8 := s.flatMap esc1
def escB (s : ByteArray) : ByteArray := ⟨(escL s.data.toList).toArray⟩
theorem esc1_length (b : UInt8) : (esc1 b).length ≤ 3 := by unfold esc1; split <;> simp
theorem escL_length (s : List UInt8) : (escL s).length ≤ 3 * s.length := by
  induction s with
  | nil => simp [escL]
  | cons b s ih => have := esc1_length b; simp only [escL, List.flatMap_cons, List.length_append, List.length_cons] at *; omega
theorem escL_take (s : List UInt8) (k : Nat) (b : UInt8) (h : s[k]? = some b) : escL (s.take (k + 1)) = escL (s.take k) ++ esc1 b := by
  have hk : k < s.length := by
    rcases Nat.lt_or_ge k s.length with h' | h'
    · exact h'
    · rw [List.getElem?_eq_none h'] at h; cases h
  rw [List.take_add_one, h]
  simp [escL, List.flatMap_append]
def intOf : Value → Int | .int _ q => q | _ => 0

theorem and15 (x : Nat) (h : x < 256) : bits .and .u8 (x : Int) 15 = (x : Int) % 16 := by
  have h2 : (BitVec.ofInt 8 15).toNat = 2 ^ 4 - 1 := by decide
  have h1 : (BitVec.ofInt 8 (x : Int)).toNat = x := by
    rw [BitVec.ofInt_natCast, BitVec.toNat_ofNat]; exact Nat.mod_eq_of_lt (by omega)
  show IntKind.u8.wrap ((BitVec.ofInt 8 (x : Int) &&& BitVec.ofInt 8 15).toNat : Int) = _
  rw [BitVec.toNat_and, h1, h2, Nat.and_two_pow_sub_one_eq_mod, IntKind.wrap_u8']
  omega
theorem digS (n : Nat) (h : n < 16) (W : World) : Sem.run Tryz.prog (Instr.slice 9 (.string ⟨#[48, 49, 50, 51, 52, 53, 54, 55, 56, 57, 65, 66, 67, 68, 69, 70]⟩) (some (.int .u8 (n : Int))) (some (.int .u8 ((n : Int) + 1))) none) W = .ok (.string ⟨#[hexB n]⟩) W := by
  rw [run_slice_string W 9 _ _ _ _ _ Tryz.underlying9 (by omega) (by omega) (by show (n : Int) + 1 ≤ ((16 : Nat) : Int); omega)]
  have : ∀ m : Fin 16, (⟨#[48, 49, 50, 51, 52, 53, 54, 55, 56, 57, 65, 66, 67, 68, 69, 70]⟩ : ByteArray).extract ((m.1 : Int)).toNat ((m.1 : Int) + 1).toNat = ⟨#[hexB m.1]⟩ := by decide
  exact congrArg (fun x => Result.ok (Value.string x) W) (this ⟨n, h⟩)
theorem digS1 (x : Nat) (h : x < 256) (W : World) : Sem.run Tryz.prog (Instr.slice 9 (.string ⟨#[48, 49, 50, 51, 52, 53, 54, 55, 56, 57, 65, 66, 67, 68, 69, 70]⟩) (some (.int .u8 ((x : Int) / 16))) (some (.int .u8 ((x : Int) / 16 + 1))) none) W = .ok (.string ⟨#[hexB (x / 16)]⟩) W := by
  have := digS (x / 16) (by omega) W
  rwa [Int.natCast_ediv] at this
theorem digS2 (x : Nat) (W : World) : Sem.run Tryz.prog (Instr.slice 9 (.string ⟨#[48, 49, 50, 51, 52, 53, 54, 55, 56, 57, 65, 66, 67, 68, 69, 70]⟩) (some (.int .u8 ((x : Int) % 16))) (some (.int .u8 ((x : Int) % 16 + 1))) none) W = .ok (.string ⟨#[hexB (x % 16)]⟩) W := by
  have := digS (x % 16) (by omega) W
  rwa [Int.natCast_emod] at this

set_option maxHeartbeats 4000000 in
set_option maxRecDepth 1000000 in
theorem escape (s : ByteArray) (w : World) (hs : s.size ≤ 100000) :
    Calls Tryz.prog 63 #[.string s] w fun e w' => e = .returned (.string (escB s)) ∧ Below w.heap.size w w' := by
  go_enter Tryz.func63, Tryz.ntmps63
  go_wp2
  go_loopw [7] (fun iv wr => ∃ k : Nat, k ≤ s.size ∧ iv = .int .i64 k ∧ Lib.IsBuilder 135 5 w.heap.size w.heap.size (Lib.byteCells (escL (s.data.toList.take k))) wr ∧ Below w.heap.size w wr) (fun iv _ => s.size - (intOf iv).toNat)
  case atStart => exact ⟨0, by omega, rfl, Lib.fresh_isBuilder 135 5 w, (Below.refl _ w).alloc (Nat.le_refl _) _⟩
  case round =>
    obtain ⟨k, hk, rfl, hI, hB⟩ := hrel
    have hln : (Lib.byteCells (escL (s.data.toList.take k))).length ≤ 300000 := by
      rw [Lib.byteCells_length]
      have h1 := escL_length (s.data.toList.take k)
      have h2 : (s.data.toList.take k).length ≤ s.size := by rw [List.length_take]; exact Nat.le_trans (Nat.min_le_right _ _) (Nat.le_of_eq Array.length_toList)
      omega
    by_cases hlt : k < s.size
    · have hb0 : s.data.toList[k]? = some s[k] := by rw [List.getElem?_eq_getElem (by simpa using hlt)]; rfl
      have hb1 := s[k].toNat_lt
      have hT := escL_take _ k _ hb0
      by_cases hp : plainB s[k].toNat = true
      · have hE : esc1 s[k] = [s[k]] := by unfold esc1; rw [if_pos hp]
        go_wp2_with (first | (go_at_call 87; refine (plain _ _).mono ?_; rintro e w1 ⟨rfl, rfl⟩) | rw [hp] | (go_at_call 88; refine (Bd.writeByte w.heap.size w.heap.size _ _ _ hI (by omega) hB.size).mono ?_; rintro e w1 ⟨rfl, h1, hb1⟩))
        refine ⟨⟨k + 1, by omega, by rw [Int.natCast_add]; rfl, Or.inr ?_, hB.trans (by assumption)⟩, ?_⟩
        · rw [hT, hE, Lib.byteCells_append]; exact h1
        · show s.size - ((k : Int) + 1).toNat < s.size - (k : Int).toNat
          omega
      · have hp : plainB s[k].toNat = false := by simpa using hp
        have hE : esc1 s[k] = [37, hexB (s[k].toNat / 16), hexB (s[k].toNat % 16)] := by unfold esc1; rw [if_neg (by rw [hp]; simp)]
        go_wp2_with (first | (go_at_call 87; refine (plain _ _).mono ?_; rintro e w1 ⟨rfl, rfl⟩) | rw [hp])
        have d1 := digS1 s[k].toNat hb1
        have d2 := digS2 s[k].toNat
        have v1 : IntKind.u8.wrap ((s[k].toNat : Int) / 16 + 1) = (s[k].toNat : Int) / 16 + 1 := by rw [IntKind.wrap_u8']; omega
        have v2 : IntKind.u8.wrap ((s[k].toNat : Int) % 16 + 1) = (s[k].toNat : Int) % 16 + 1 := by rw [IntKind.wrap_u8']; omega
        have v3 := and15 s[k].toNat hb1
        go_still_tail 22, (by kernel_rfl)
        change wpList _ _ _ _ _ w1.drew
        have hI2 : Lib.IsBuilder 135 5 w.heap.size w.heap.size (Lib.byteCells (escL (s.data.toList.take k))) w1.drew := hI
        have hB2 : Below w.heap.size w w1.drew := hB.drew
        generalize w1.drew = w2 at *
        go_wp2_with (go_at_call 89; refine (Bd.writeString w.heap.size w.heap.size _ ⟨#[37, hexB (s[k].toNat / 16), hexB (s[k].toNat % 16)]⟩ _ hI2 (by show _ + 3 ≤ _; omega) hB2.size).mono ?_; rintro e w3 ⟨rfl, h1, hb3⟩)
        refine ⟨⟨k + 1, by omega, by rw [Int.natCast_add]; rfl, Or.inr ?_, hB2.trans hb3⟩, ?_⟩
        · rw [hT, hE, Lib.byteCells_append]; exact h1
        · show s.size - ((k : Int) + 1).toNat < s.size - (k : Int).toNat
          omega
    · go_wp2_with (go_at_call 90; refine (Tryz.Builder_String_any w.heap.size w.heap.size (escL (s.data.toList.take k)) _ hI hB.size).mono ?_; rintro e w1 ⟨rfl, hb1⟩)
      go_ret
      refine ⟨?_, hB.trans hb1⟩
      have hk2 : k = s.size := by omega
      show Ending.returned (.string ⟨(escL (s.data.toList.take k)).toArray⟩) = _
      rw [escB, hk2, show s.data.toList.take s.size = s.data.toList from List.take_of_length_le (Nat.le_of_eq Array.length_toList)]
end Go.Proofs.YtmimnlbkllgfpaaGreatDoor.Ex
/- The contracts of the functions that were walked by hand, in the printed texts' form. -/
namespace Go.Proofs.YtmimnlbkllgfpaaGreatDoor.Hand
open Go.RowKit Go.Proofs.YtmimnlbkllgfpaaGreatDoorW.PrintWords

def link_Base32.f (a0 : ByteArray) : Option ByteArray := if a0.size ≤ 100000 then some (Bp.b32 a0) else none
theorem link_Base32.calls (a0 : ByteArray) (r : ByteArray) (w : World) (h : link_Base32.f a0 = some r) :
    Calls Tryz.prog 65 #[.string a0] w fun e w' => e = .returned (.string r) ∧ Below w.heap.size w w' := by
  unfold link_Base32.f at h
  split at h
  · obtain rfl := Option.some.inj h
    rename_i hs
    exact Bx.base32 a0 w hs
  · cases h

def link_Escape.f (a0 : ByteArray) : Option ByteArray := if a0.size ≤ 100000 then some (Ex.escB a0) else none
theorem link_Escape.calls (a0 : ByteArray) (r : ByteArray) (w : World) (h : link_Escape.f a0 = some r) :
    Calls Tryz.prog 63 #[.string a0] w fun e w' => e = .returned (.string r) ∧ Below w.heap.size w w' := by
  unfold link_Escape.f at h
  split at h
  · obtain rfl := Option.some.inj h
    rename_i hs
    exact Ex.escape a0 w hs
  · cases h

/-- The library's table of the powers of ten is there. -/
def TabW (w : World) : Prop := Lib.TabIs Tryz.prog w "internal/strconv.uint64pow10" .u64 Lib.pow10Tab
theorem TabW.below {w w' : World} (h : TabW w) (hb : Below w.heap.size w w') : TabW w' := Lib.tabBelow_of_tabIs h w' hb

def strconv_Itoa_64.f (a0 : Int) : Option ByteArray := if -9223372036854775808 ≤ a0 ∧ a0 ≤ 9223372036854775807 then some ⟨(Lib.itoa a0).toArray⟩ else none
theorem strconv_Itoa_64.calls (a0 : Int) (r : ByteArray) (w : World) (h : strconv_Itoa_64.f a0 = some r) (hTab : TabW w) :
    Calls Tryz.prog 64 #[.int .i64 a0] w fun e w' => e = .returned (.string r) ∧ Below w.heap.size w w' := by
  unfold strconv_Itoa_64.f at h
  split at h
  · rename_i hn
    obtain rfl := Option.some.inj h
    refine (Tryz.strconv_Itoa a0 hn.1 hn.2 w hTab).mono ?_
    rintro e w' ⟨rfl, k, os, rfl⟩
    exact ⟨rfl, Lib.below_grow w.heap.size w (Nat.le_refl _) k os⟩
  · cases h

def strings_Join.f (l0 : List ByteArray) (a1 : ByteArray) : Option ByteArray :=
  if 0 < l0.length ∧ l0.length ≤ 140737488355328 ∧ (Lib.join (l0.map (·.data.toList)) a1.data.toList).length ≤ 140737488355328 then some ⟨(Lib.join (l0.map (·.data.toList)) a1.data.toList).toArray⟩ else none
theorem strings_Join.calls (A0 : Option Addr) (c0 : Nat) (l0 : List ByteArray) (a1 : ByteArray) (r : ByteArray) (w : World) (hr0 : Kd.C Kd.string w A0 l0.length l0) (hc0 : l0.length ≤ c0) (h : strings_Join.f l0 a1 = some r) :
    Calls Tryz.prog 66 #[.slice A0 l0.length c0, .string a1] w fun e w' => e = .returned (.string r) ∧ Below w.heap.size w w' := by
  unfold strings_Join.f at h
  split at h
  · rename_i hn
    obtain rfl := Option.some.inj h
    obtain ⟨⟨b, o, sp⟩, rfl, hx⟩ := hr0.2.2 hn.1
    have key : ∀ (j : Nat) x, l0[j]? = some x → w.cell? ((⟨b, o, sp⟩ : Addr).add j) = some (.string x) := by
      intro j x hj
      obtain ⟨c, hc, hK, hu⟩ := hx j x hj
      have hc1 : c = [.string x] := hK
      subst hc1
      have := hu 0 _ rfl
      rwa [show j * (Kd.string).sz + 0 = j from by show j * 1 + 0 = j; omega] at this
    obtain ⟨x0, h0⟩ : ∃ x, l0[0]? = some x := ⟨l0[0], List.getElem?_eq_getElem hn.1⟩
    have hc0' := key 0 x0 h0
    have hb : b < w.heap.size := World.block_lt_of_cell? w _ hc0'
    cases sp with
    | some z =>
      exfalso
      unfold World.cell? at hc0'
      split at hc0'
      · simp [Addr.add] at hc0'
      · cases hc0'
    | none => exact Tryz.strings_Join b o c0 l0 a1 w (fun j x hj => by have := key j x hj; unfold Addr.add at this; split at this <;> simp_all) hb hn.2.1 hc0 hn.2.2
  · cases h

end Go.Proofs.YtmimnlbkllgfpaaGreatDoor.Hand
