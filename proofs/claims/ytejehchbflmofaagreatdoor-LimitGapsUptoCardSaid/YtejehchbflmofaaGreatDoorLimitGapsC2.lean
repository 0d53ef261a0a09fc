/-
The plain functions of the program that the law LimitGaps reaches, that the program computes them, and what they come to. No condition.
-/
import Derived.Shelf.Strings.Builder1
import Derived.Shelf.Small.Strs
import Derived.Shelf.Strings.BuilderF
import Derived.Shelf.Strings.BuilderK
import Derived.Shelf.Strconv.Itoa0
import Derived.Shelf.Strconv.Itoa1
import Derived.Shelf.LaysM
import Derived.Shelf.Strconv.Itoa2
import Derived.Shelf.Strconv.Itoa3
import Derived.Shelf.Strings.Search1
import Derived.Shelf.Strings.BuilderCap
import Derived.Test.YtejehchbflmofaaGreatDoorProg
import Derived.Test.YtejehchbflmofaaGreatDoorChecked
import Derived.Test.YtejehchbflmofaaGreatDoorAm1
import Derived.Test.YtejehchbflmofaaGreatDoorAm2
import Derived.Test.YtejehchbflmofaaGreatDoorAm3
import Derived.Test.YtejehchbflmofaaGreatDoorLimitGapsC1
set_option linter.unusedVariables false
set_option linter.unusedSimpArgs false
set_option linter.unusedSectionVars false

section
/-
  DERIVED: THE SHELF's CONTRACTS AT THIS DUMP, IN PLAIN WORDS (tools/lay-plain.mjs out of 'TryzShelf.lean', which tools/lay-shelf.mjs wrote): THE SAME DECLARATIONS UNDER THE SAME NAMES: 'import', 'namespace', 'open', 'def', 'theorem' AND NOTHING ELSE: no command of the shelf's: FOR A HAND-IN. Each laying: the table of numbers ('.._ren') and one theorem, a field a fact of the dump's own or the kernel's comparison; each contract: ONE APPLICATION.
-/
namespace Go.Proofs
open Go.Shelf
def Tryz.lays170_ren : Go.Shelf.Ren := ⟨fun | 170 => 64 | n => n, fun | 70 => 94 | 3 => 3 | 0 => 0 | 72 => 97 | 37 => 95 | 5 => 5 | n => n, fun | n => n⟩
theorem Tryz.lays170 : Go.Proofs.Lays.n170 Tryz.prog Tryz.lays170_ren := {
  mixed := by kernel_rfl
  f170 := Tryz.func64.trans (congrArg some (by kernel_rfl))
  t0 := Tryz.underlying0
  a0 := Tryz.isAgg0
  z0 := Tryz.sizeOf0
  v0 := Tryz.zeroValue0
  t3 := Tryz.underlying3
  a3 := Tryz.isAgg3
  z3 := Tryz.sizeOf3
  v3 := Tryz.zeroValue3
  t37 := Tryz.underlying95
  a37 := Tryz.isAgg95
  z37 := Tryz.sizeOf95
  v37 := Tryz.zeroValue95
  t70 := Tryz.underlying94
  a70 := Tryz.isAgg94
  z70 := Tryz.sizeOf94
  v70 := Tryz.zeroValue94
  t72 := Tryz.underlying97
  a72 := Tryz.isAgg97
  z72 := Tryz.sizeOf97
  v72 := Tryz.zeroValue97 }
open Go.RowKit in
/-- (*strings.Builder).Len: "Len returns the number of accumulated bytes; b.Len() == len(b.String()).": the world is as it was. (LAID: no walk: one application.) -/
theorem Tryz.Builder_Len (B b : Nat) (bs : List Value) (w : World) (h : Lib.IsBuilder 97 5 B b bs w) :
    Calls Tryz.prog 64 #[.pointer (some ⟨b, 0, none⟩)] w fun e w' => e = .returned (.int .i64 bs.length) ∧ w' = w := Any.Builder_Len Tryz.lays170 B b bs w h
def Tryz.lays169_ren : Go.Shelf.Ren := ⟨fun | 169 => 65 | n => n, fun | 70 => 94 | 9 => 9 | 0 => 0 | 72 => 97 | 37 => 95 | 127 => 134 | 3 => 3 | 5 => 5 | n => n, fun | n => n⟩
theorem Tryz.lays169 : Go.Proofs.Lays.n169 Tryz.prog Tryz.lays169_ren := {
  mixed := by kernel_rfl
  f169 := Tryz.func65.trans (congrArg some (by kernel_rfl))
  t0 := Tryz.underlying0
  a0 := Tryz.isAgg0
  z0 := Tryz.sizeOf0
  v0 := Tryz.zeroValue0
  t3 := Tryz.underlying3
  a3 := Tryz.isAgg3
  z3 := Tryz.sizeOf3
  v3 := Tryz.zeroValue3
  t9 := Tryz.underlying9
  a9 := Tryz.isAgg9
  z9 := Tryz.sizeOf9
  v9 := Tryz.zeroValue9
  t37 := Tryz.underlying95
  a37 := Tryz.isAgg95
  z37 := Tryz.sizeOf95
  v37 := Tryz.zeroValue95
  t70 := Tryz.underlying94
  a70 := Tryz.isAgg94
  z70 := Tryz.sizeOf94
  v70 := Tryz.zeroValue94
  t72 := Tryz.underlying97
  a72 := Tryz.isAgg97
  z72 := Tryz.sizeOf97
  v72 := Tryz.zeroValue97
  t127 := Tryz.underlying134
  a127 := Tryz.isAgg134
  z127 := Tryz.sizeOf134
  v127 := Tryz.zeroValue134 }
theorem Tryz.Builder_Extra_169 : Builder.Extra Tryz.prog Tryz.lays169_ren := {
  sizeBuilder := by kernel_rfl
  liesBuilder := by kernel_rfl
  t5 := Tryz.underlying5
  a5 := Tryz.isAgg5
  z5 := Tryz.sizeOf5
  v5 := Tryz.zeroValue5
  infoByte := by kernel_rfl
  cellsByte := by kernel_rfl
  sizeByte := by kernel_rfl
  neB5 := by decide }
open Go.RowKit in
/-- (*strings.Builder).String: "String returns the accumulated string.": OF A BUILDER THAT HOLDS AT LEAST ONE BYTE. ✋ THE MODEL FREEZES THOSE BYTES IN THE BUFFER (unsafe.String): a later write INTO them ends the model's run without an answer; a later append BEHIND them goes on. The statement's order of evaluation is drawn: one draw. (LAID: no walk: one application.) -/
theorem Tryz.Builder_String (B b : Nat) (l : List UInt8) (w : World) (h : Lib.IsBuilder 97 5 B b (Lib.byteCells l) w) (h0 : l ≠ []) :
    Calls Tryz.prog 65 #[.pointer (some ⟨b, 0, none⟩)] w fun e w' => e = .returned (.string ⟨l.toArray⟩) ∧ Below B w w' := Any.Builder_String Tryz.lays169 Tryz.Builder_Extra_169 B b l w h h0
open Go.RowKit in
/-- (*strings.Builder).String OF A BUILDER THAT HOLDS NO BYTE: the empty string. (Its buffer is nil, or a row of which it has taken nothing yet; where that row has NO capacity the model lays one new block for unsafe.SliceData's 'some address'.) One draw. (LAID: no walk: one application.) -/
theorem Tryz.Builder_String_empty (B b : Nat) (w : World) (h : Lib.IsBuilder 97 5 B b [] w) (hBw : B ≤ w.heap.size) :
    Calls Tryz.prog 65 #[.pointer (some ⟨b, 0, none⟩)] w fun e w' => e = .returned (.string ⟨#[]⟩) ∧ Below B w w' := Any.Builder_String_empty Tryz.lays169 Tryz.Builder_Extra_169 B b w h hBw
open Go.RowKit in
/-- (*strings.Builder).String: "String returns the accumulated string.": WHATEVER THE BUILDER HOLDS. (LAID: no walk: one application.) -/
theorem Tryz.Builder_String_any (B b : Nat) (l : List UInt8) (w : World) (h : Lib.IsBuilder 97 5 B b (Lib.byteCells l) w) (hBw : B ≤ w.heap.size) :
    Calls Tryz.prog 65 #[.pointer (some ⟨b, 0, none⟩)] w fun e w' => e = .returned (.string ⟨l.toArray⟩) ∧ Below B w w' := Any.Builder_String_any Tryz.lays169 Tryz.Builder_Extra_169 B b l w h hBw
def Tryz.lays137_ren : Go.Shelf.Ren := ⟨fun | 137 => 73 | 217 => 111 | 266 => 131 | n => n, fun | 9 => 9 | 5 => 5 | 3 => 3 | n => n, fun | n => n⟩
theorem Tryz.lays137 : Go.Proofs.Lays.n137 Tryz.prog Tryz.lays137_ren := {
  mixed := by kernel_rfl
  f137 := Tryz.func73.trans (congrArg some (by kernel_rfl))
  f217 := Tryz.func111.trans (congrArg some (by kernel_rfl))
  f266 := Tryz.func131.trans (congrArg some (by kernel_rfl))
  t3 := Tryz.underlying3
  a3 := Tryz.isAgg3
  z3 := Tryz.sizeOf3
  v3 := Tryz.zeroValue3
  t5 := Tryz.underlying5
  a5 := Tryz.isAgg5
  z5 := Tryz.sizeOf5
  v5 := Tryz.zeroValue5
  t9 := Tryz.underlying9
  a9 := Tryz.isAgg9
  z9 := Tryz.sizeOf9
  v9 := Tryz.zeroValue9 }
open Go.RowKit in
/-- strings.IndexByte: "IndexByte returns the index of the first instance of c in s, or -1 if c is not present in s.": IT RETURNS 'Lib.indexByte s c'; the world is as it was. (LAID: no walk: one application.) -/
theorem Tryz.strings_IndexByte (s : ByteArray) (c : Int) (w : World) :
    Calls Tryz.prog 73 #[.string s, .int .u8 c] w fun e w' => e = .returned (.int .i64 (Lib.indexByte s.data.toList c.toNat.toUInt8)) ∧ w' = w := Any.strings_IndexByte Tryz.lays137 s c w
open Go.RowKit in
/-- (*strings.Builder).Len: "Len returns the number of accumulated bytes; b.Len() == len(b.String()).": the world is as it was. (THE FORM '_f': 'Lib.IsBuilderF'.) (LAID: no walk: one application.) -/
theorem Tryz.Builder_Len_f (B b : Nat) (bs : List Value) (w : World) (h : Lib.IsBuilderF 97 5 B b bs w) :
    Calls Tryz.prog 64 #[.pointer (some ⟨b, 0, none⟩)] w fun e w' => e = .returned (.int .i64 bs.length) ∧ w' = w := Any.Builder_Len_f Tryz.lays170 B b bs w h
open Go.RowKit in
/-- (*strings.Builder).String: "String returns the accumulated string.": OF A BUILDER THAT HOLDS AT LEAST ONE BYTE. ✋ THE MODEL FREEZES THOSE BYTES IN THE BUFFER (unsafe.String): a later write INTO them ends the model's run without an answer; a later append BEHIND them goes on. The statement's order of evaluation is drawn: one draw. THE FORM '_f': IT SAYS BESIDES THAT THE BUILDER IS A BUILDER STILL ('Lib.IsBuilderF', the same bytes): SO IT CAN BE WRITTEN ON: 'b.WriteString(b.String()[:k])'. (LAID: no walk: one application.) -/
theorem Tryz.Builder_String_f (B b : Nat) (l : List UInt8) (w : World) (h : Lib.IsBuilderF 97 5 B b (Lib.byteCells l) w) (h0 : l ≠ []) :
    Calls Tryz.prog 65 #[.pointer (some ⟨b, 0, none⟩)] w fun e w' => e = .returned (.string ⟨l.toArray⟩) ∧ (Lib.IsBuilderF 97 5 B b (Lib.byteCells l) w' ∧ Below B w w') := Any.Builder_String_f Tryz.lays169 Tryz.Builder_Extra_169 B b l w h h0
open Go.RowKit in
/-- (*strings.Builder).String OF A BUILDER THAT HOLDS NO BYTE: the empty string; THE FORM '_f': a builder still. (LAID: no walk: one application.) -/
theorem Tryz.Builder_String_empty_f (B b : Nat) (w : World) (h : Lib.IsBuilderF 97 5 B b [] w) (hBw : B ≤ w.heap.size) :
    Calls Tryz.prog 65 #[.pointer (some ⟨b, 0, none⟩)] w fun e w' => e = .returned (.string ⟨#[]⟩) ∧ (Lib.IsBuilderF 97 5 B b [] w' ∧ Below B w w') := Any.Builder_String_empty_f Tryz.lays169 Tryz.Builder_Extra_169 B b w h hBw
open Go.RowKit in
/-- (*strings.Builder).String: "String returns the accumulated string.": WHATEVER THE BUILDER HOLDS; THE FORM '_f': OF A BUILDER THAT MAY HAVE BEEN READ BEFORE; AND IT IS A BUILDER STILL, holding the same bytes: it can be written on. (LAID: no walk: one application.) -/
theorem Tryz.Builder_String_any_f (B b : Nat) (l : List UInt8) (w : World) (h : Lib.IsBuilderF 97 5 B b (Lib.byteCells l) w) (hBw : B ≤ w.heap.size) :
    Calls Tryz.prog 65 #[.pointer (some ⟨b, 0, none⟩)] w fun e w' => e = .returned (.string ⟨l.toArray⟩) ∧ (Lib.IsBuilderF 97 5 B b (Lib.byteCells l) w' ∧ Below B w w') := Any.Builder_String_any_f Tryz.lays169 Tryz.Builder_Extra_169 B b l w h hBw
open Go.RowKit in
/-- (*strings.Builder).String: "String returns the accumulated string.": OF A BUILDER THAT HOLDS AT LEAST ONE BYTE. ✋ THE MODEL FREEZES THOSE BYTES IN THE BUFFER (unsafe.String): a later write INTO them ends the model's run without an answer; a later append BEHIND them goes on. The statement's order of evaluation is drawn: one draw. THE FORM '_k': OVER 'Lib.IsBuilderF' (a builder that 'String()' may have read), AND WITH THE FRAME THAT REACHES ABOVE THE BUILDER: 'Lib.OthersKept': every block that is not b and is no row of uint8's stands as it stood: the iterator of a range among them. (LAID: no walk: one application.) -/
theorem Tryz.Builder_String_k (B b : Nat) (l : List UInt8) (w : World) (h : Lib.IsBuilderF 97 5 B b (Lib.byteCells l) w) (h0 : l ≠ []) :
    Calls Tryz.prog 65 #[.pointer (some ⟨b, 0, none⟩)] w fun e w' => e = .returned (.string ⟨l.toArray⟩) ∧ (Lib.IsBuilderF 97 5 B b (Lib.byteCells l) w' ∧ Below B w w' ∧ Lib.OthersKept 5 (some b) w w') := Any.Builder_String_k Tryz.lays169 Tryz.Builder_Extra_169 B b l w h h0
open Go.RowKit in
/-- (*strings.Builder).String OF A BUILDER THAT HOLDS NO BYTE: the empty string; THE FORM '_k': OVER 'Lib.IsBuilderF' (a builder that 'String()' may have read), AND WITH THE FRAME THAT REACHES ABOVE THE BUILDER: 'Lib.OthersKept': every block that is not b and is no row of uint8's stands as it stood: the iterator of a range among them. (LAID: no walk: one application.) -/
theorem Tryz.Builder_String_empty_k (B b : Nat) (w : World) (h : Lib.IsBuilderF 97 5 B b [] w) (hBw : B ≤ w.heap.size) :
    Calls Tryz.prog 65 #[.pointer (some ⟨b, 0, none⟩)] w fun e w' => e = .returned (.string ⟨#[]⟩) ∧ (Lib.IsBuilderF 97 5 B b [] w' ∧ Below B w w' ∧ Lib.OthersKept 5 (some b) w w') := Any.Builder_String_empty_k Tryz.lays169 Tryz.Builder_Extra_169 B b w h hBw
open Go.RowKit in
/-- (*strings.Builder).String: "String returns the accumulated string.": WHATEVER THE BUILDER HOLDS; THE FORM '_k': OVER 'Lib.IsBuilderF' (a builder that 'String()' may have read), AND WITH THE FRAME THAT REACHES ABOVE THE BUILDER: 'Lib.OthersKept': every block that is not b and is no row of uint8's stands as it stood: the iterator of a range among them. (LAID: no walk: one application.) -/
theorem Tryz.Builder_String_any_k (B b : Nat) (l : List UInt8) (w : World) (h : Lib.IsBuilderF 97 5 B b (Lib.byteCells l) w) (hBw : B ≤ w.heap.size) :
    Calls Tryz.prog 65 #[.pointer (some ⟨b, 0, none⟩)] w fun e w' => e = .returned (.string ⟨l.toArray⟩) ∧ (Lib.IsBuilderF 97 5 B b (Lib.byteCells l) w' ∧ Below B w w' ∧ Lib.OthersKept 5 (some b) w w') := Any.Builder_String_any_k Tryz.lays169 Tryz.Builder_Extra_169 B b l w h hBw
def Tryz.lays129_ren : Go.Shelf.Ren := ⟨fun | 129 => 149 | n => n, fun | 53 => 158 | 3 => 3 | 4 => 4 | 46 => 144 | 5 => 5 | 9 => 9 | n => n, fun | n => n⟩
theorem Tryz.lays129 : Go.Proofs.Lays.n129 Tryz.prog Tryz.lays129_ren := {
  mixed := by kernel_rfl
  f129 := Tryz.func149.trans (congrArg some (by kernel_rfl))
  t3 := Tryz.underlying3
  a3 := Tryz.isAgg3
  z3 := Tryz.sizeOf3
  v3 := Tryz.zeroValue3
  t4 := Tryz.underlying4
  a4 := Tryz.isAgg4
  z4 := Tryz.sizeOf4
  v4 := Tryz.zeroValue4
  t5 := Tryz.underlying5
  a5 := Tryz.isAgg5
  z5 := Tryz.sizeOf5
  v5 := Tryz.zeroValue5
  t9 := Tryz.underlying9
  a9 := Tryz.isAgg9
  z9 := Tryz.sizeOf9
  v9 := Tryz.zeroValue9
  t46 := Tryz.underlying144
  a46 := Tryz.isAgg144
  z46 := Tryz.sizeOf144
  v46 := Tryz.zeroValue144
  t53 := Tryz.underlying158
  a53 := Tryz.isAgg158
  z53 := Tryz.sizeOf158
  v53 := Tryz.zeroValue158 }
/-- bits.Len64: "Len64 returns the minimum number of bits required to represent x; the result is 0 for x == 0.": IT RETURNS 'Lib.bitLen x'; the world is as it was. ('h0', 'h1': x is a uint64.) (LAID: no walk: one application.) -/
theorem Tryz.bits_Len64 (x : Int) (w : World) (h0 : 0 ≤ x) (h1 : x ≤ 18446744073709551615) :
    Calls Tryz.prog 149 #[.int .u64 x] w fun e w' => e = .returned (.int .i64 (Lib.bitLen x.toNat)) ∧ w' = w := Any.bits_Len64 Tryz.lays129 x w h0 h1
def Tryz.lays317_ren : Go.Shelf.Ren := ⟨fun | 317 => 148 | n => n, fun | 3 => 3 | 46 => 144 | n => n, fun | n => n⟩
theorem Tryz.lays317 : Go.Proofs.Lays.n317 Tryz.prog Tryz.lays317_ren := {
  mixed := by kernel_rfl
  f317 := Tryz.func148.trans (congrArg some (by kernel_rfl))
  t3 := Tryz.underlying3
  a3 := Tryz.isAgg3
  z3 := Tryz.sizeOf3
  v3 := Tryz.zeroValue3
  t46 := Tryz.underlying144
  a46 := Tryz.isAgg144
  z46 := Tryz.sizeOf144
  v46 := Tryz.zeroValue144 }
open Go.Lib in
/-- internal/strconv.log10Pow2: "log10Pow2(x) returns ⌊log₁₀ 2**x⌋ = ⌊x * log₁₀ 2⌋.": '(x * 78913) >> 18', at an x up to 64 (a length in bits). The world is as it was. (LAID: no walk: one application.) -/
theorem Tryz.internal_strconv_log10Pow2 (x : Nat) (h : x ≤ 64) (w : World) :
    Calls Tryz.prog 148 #[.int .i64 x] w fun e w' => e = .returned (.int .i64 (Lib.l10 x)) ∧ w' = w := Any.internal_strconv_log10Pow2 Tryz.lays317 x h w
def Tryz.lays318_ren : Go.Shelf.Ren := ⟨fun | 318 => 150 | n => n, fun | 3 => 3 | 4 => 4 | n => n, fun | n => n⟩
theorem Tryz.lays318 : Go.Proofs.Lays.n318 Tryz.prog Tryz.lays318_ren := {
  mixed := by kernel_rfl
  f318 := Tryz.func150.trans (congrArg some (by kernel_rfl))
  t3 := Tryz.underlying3
  a3 := Tryz.isAgg3
  z3 := Tryz.sizeOf3
  v3 := Tryz.zeroValue3
  t4 := Tryz.underlying4
  a4 := Tryz.isAgg4
  z4 := Tryz.sizeOf4
  v4 := Tryz.zeroValue4 }
open Go.Lib in
/-- internal/strconv.bool2: "bool2 converts b to an integer: 1 for true, 0 for false." The world is as it was. (LAID: no walk: one application.) -/
theorem Tryz.internal_strconv_bool2_int (b : Bool) (w : World) :
    Calls Tryz.prog 150 #[.bool b] w fun e w' => e = .returned (.int .i64 (if b then 1 else 0)) ∧ w' = w := Any.internal_strconv_bool2_int Tryz.lays318 b w
def Tryz.lays283_ren : Go.Shelf.Ren := ⟨fun | 283 => 139 | n => n, fun | 3 => 3 | 9 => 9 | 4 => 4 | n => n, fun | n => n⟩
theorem Tryz.lays283 : Go.Proofs.Lays.n283 Tryz.prog Tryz.lays283_ren := {
  mixed := by kernel_rfl
  f283 := Tryz.func139.trans (congrArg some (by kernel_rfl))
  t3 := Tryz.underlying3
  a3 := Tryz.isAgg3
  z3 := Tryz.sizeOf3
  v3 := Tryz.zeroValue3
  t4 := Tryz.underlying4
  a4 := Tryz.isAgg4
  z4 := Tryz.sizeOf4
  v4 := Tryz.zeroValue4
  t9 := Tryz.underlying9
  a9 := Tryz.isAgg9
  z9 := Tryz.sizeOf9
  v9 := Tryz.zeroValue9 }
open Go.Lib in
/-- internal/strconv.small: "small returns the string for an i with 0 <= i < nSmalls.": i's decimal numeral. The world is as it was. (LAID: no walk: one application.) -/
theorem Tryz.internal_strconv_small (i : Nat) (h : i < 100) (w : World) :
    Calls Tryz.prog 139 #[.int .i64 i] w fun e w' => e = .returned (.string ⟨(Lib.decDigits i).toArray⟩) ∧ w' = w := Any.internal_strconv_small Tryz.lays283 i h w
def Tryz.laysM284_ren : Go.Shelf.Ren := ⟨fun | 284 => 140 | 129 => 149 | 317 => 148 | 318 => 150 | n => n, fun | 53 => 158 | 3 => 3 | 212 => 171 | 0 => 0 | 4 => 4 | 46 => 144 | 5 => 5 | 9 => 9 | n => n, fun | 17 => 1 | n => n⟩
theorem Tryz.laysM284 : Go.Proofs.LaysM.n284 Tryz.prog Tryz.laysM284_ren := {
  mixed := by kernel_rfl
  f129 := Tryz.func149.trans (congrArg some (by kernel_rfl))
  f284 := Tryz.func140.trans (congrArg some (by kernel_rfl))
  f317 := Tryz.func148.trans (congrArg some (by kernel_rfl))
  f318 := Tryz.func150.trans (congrArg some (by kernel_rfl))
  t0 := Tryz.underlying0
  a0 := Tryz.isAgg0
  z0 := Tryz.sizeOf0
  v0 := Tryz.zeroValue0
  t3 := Tryz.underlying3
  a3 := Tryz.isAgg3
  z3 := Tryz.sizeOf3
  v3 := Tryz.zeroValue3
  t4 := Tryz.underlying4
  a4 := Tryz.isAgg4
  z4 := Tryz.sizeOf4
  v4 := Tryz.zeroValue4
  t5 := Tryz.underlying5
  a5 := Tryz.isAgg5
  z5 := Tryz.sizeOf5
  v5 := Tryz.zeroValue5
  t9 := Tryz.underlying9
  a9 := Tryz.isAgg9
  z9 := Tryz.sizeOf9
  v9 := Tryz.zeroValue9
  t46 := Tryz.underlying144
  a46 := Tryz.isAgg144
  z46 := Tryz.sizeOf144
  v46 := Tryz.zeroValue144
  t53 := Tryz.underlying158
  a53 := Tryz.isAgg158
  z53 := Tryz.sizeOf158
  v53 := Tryz.zeroValue158
  t212 := Tryz.underlying171
  a212 := Tryz.isAgg171
  z212 := Tryz.sizeOf171
  v212 := Tryz.zeroValue171
  g17 := by kernel_rfl
  i0 := by kernel_rfl
  i3 := by kernel_rfl
  i4 := by kernel_rfl
  i5 := by kernel_rfl
  i9 := by kernel_rfl
  i46 := by kernel_rfl
  i53 := by kernel_rfl
  i212 := by kernel_rfl
  m17 := by kernel_rfl }
open Go.Lib in
/-- internal/strconv.numDigits, at a d that is not 0: THE NUMBER OF d's DECIMAL DIGITS. The world is as it was. (LAID: no walk: one application.) -/
theorem Tryz.internal_strconv_numDigits (u : Nat) (h1 : 1 ≤ u) (h2 : u < 18446744073709551616) (w : World) (htab : Lib.TabIs Tryz.prog w "internal/strconv.uint64pow10" .u64 Lib.pow10Tab) :
    Calls Tryz.prog 140 #[.int .u64 u] w fun e w' => e = .returned (.int .i64 (Lib.nDigits u)) ∧ w' = w := Any.internal_strconv_numDigits Tryz.laysM284 u h1 h2 w htab
def Tryz.lays285_ren : Go.Shelf.Ren := ⟨fun | 285 => 141 | n => n, fun | 37 => 95 | 53 => 158 | 3 => 3 | 4 => 4 | 51 => 172 | 9 => 9 | 5 => 5 | 0 => 0 | n => n, fun | n => n⟩
theorem Tryz.lays285 : Go.Proofs.Lays.n285 Tryz.prog Tryz.lays285_ren := {
  mixed := by kernel_rfl
  f285 := Tryz.func141.trans (congrArg some (by kernel_rfl))
  t0 := Tryz.underlying0
  a0 := Tryz.isAgg0
  z0 := Tryz.sizeOf0
  v0 := Tryz.zeroValue0
  t3 := Tryz.underlying3
  a3 := Tryz.isAgg3
  z3 := Tryz.sizeOf3
  v3 := Tryz.zeroValue3
  t4 := Tryz.underlying4
  a4 := Tryz.isAgg4
  z4 := Tryz.sizeOf4
  v4 := Tryz.zeroValue4
  t5 := Tryz.underlying5
  a5 := Tryz.isAgg5
  z5 := Tryz.sizeOf5
  v5 := Tryz.zeroValue5
  t9 := Tryz.underlying9
  a9 := Tryz.isAgg9
  z9 := Tryz.sizeOf9
  v9 := Tryz.zeroValue9
  t37 := Tryz.underlying95
  a37 := Tryz.isAgg95
  z37 := Tryz.sizeOf95
  v37 := Tryz.zeroValue95
  t51 := Tryz.underlying172
  a51 := Tryz.isAgg172
  z51 := Tryz.sizeOf172
  v51 := Tryz.zeroValue172
  t53 := Tryz.underlying158
  a53 := Tryz.isAgg158
  z53 := Tryz.sizeOf158
  v53 := Tryz.zeroValue158 }
open Go.RowKit Go.Sort Go.Lib in
/-- internal/strconv.formatBase10: "formatBase10 formats the decimal representation of u into a. The caller is responsible for ensuring that a is big enough to hold u. If a is too big, leading zeros will be filled in as needed.": THE ROW HOLDS u's DIGITS ('FmtInv .. 0 ..': every place t holds 'dg u (len - 1 - t)'); all else is as it was but for the count of draws. (LAID: no walk: one application.) -/
theorem Tryz.internal_strconv_formatBase10 (blk off cap : Nat) (u : Nat) (d : Array UInt8) (w : World) (hH : Holds (fun (b : UInt8) => Value.int .u8 (b.toNat : Int)) w blk off d) (hu : u < 10 ^ d.size) (hu64 : u < 18446744073709551616) (hsz : d.size < 4611686018427387904) :
    Calls Tryz.prog 141 #[.slice (some ⟨blk, off, none⟩) d.size cap, .int .u64 u] w fun e w' =>
      e = .returned (.tuple #[]) ∧ ∃ (n v' : Nat) (dk : Array UInt8), w' = (putRow (fun (b : UInt8) => Value.int .u8 (b.toNat : Int)) w blk off dk).drewN n ∧ FmtInv d.size u 0 v' dk := Any.internal_strconv_formatBase10 Tryz.lays285 blk off cap u d w hH hu hu64 hsz
def Tryz.laysM246_ren : Go.Shelf.Ren := ⟨fun | 246 => 125 | 283 => 139 | 284 => 140 | 285 => 141 | 286 => 142 | 129 => 149 | 317 => 148 | 318 => 150 | 319 => 151 | 320 => 152 | 337 => 154 | 338 => 155 | n => n, fun | 2 => 2 | 3 => 3 | 9 => 9 | 4 => 4 | 171 => 157 | 0 => 0 | 53 => 158 | 37 => 95 | 5 => 5 | 173 => 161 | 212 => 171 | 51 => 172 | 20 => 20 | 213 => 173 | 46 => 144 | 232 => 177 | 233 => 178 | n => n, fun | 17 => 1 | 18 => 2 | 19 => 3 | n => n⟩
theorem Tryz.laysM246 : Go.Proofs.LaysM.n246 Tryz.prog Tryz.laysM246_ren := {
  mixed := by kernel_rfl
  f129 := Tryz.func149.trans (congrArg some (by kernel_rfl))
  f246 := Tryz.func125.trans (congrArg some (by kernel_rfl))
  f283 := Tryz.func139.trans (congrArg some (by kernel_rfl))
  f284 := Tryz.func140.trans (congrArg some (by kernel_rfl))
  f285 := Tryz.func141.trans (congrArg some (by kernel_rfl))
  f286 := Tryz.func142.trans (congrArg some (by kernel_rfl))
  f317 := Tryz.func148.trans (congrArg some (by kernel_rfl))
  f318 := Tryz.func150.trans (congrArg some (by kernel_rfl))
  f319 := Tryz.func151.trans (congrArg some (by kernel_rfl))
  f320 := Tryz.func152.trans (congrArg some (by kernel_rfl))
  f337 := Tryz.func154.trans (congrArg some (by kernel_rfl))
  f338 := Tryz.func155.trans (congrArg some (by kernel_rfl))
  t0 := Tryz.underlying0
  a0 := Tryz.isAgg0
  z0 := Tryz.sizeOf0
  v0 := Tryz.zeroValue0
  t2 := Tryz.underlying2
  a2 := Tryz.isAgg2
  z2 := Tryz.sizeOf2
  v2 := Tryz.zeroValue2
  t3 := Tryz.underlying3
  a3 := Tryz.isAgg3
  z3 := Tryz.sizeOf3
  v3 := Tryz.zeroValue3
  t4 := Tryz.underlying4
  a4 := Tryz.isAgg4
  z4 := Tryz.sizeOf4
  v4 := Tryz.zeroValue4
  t5 := Tryz.underlying5
  a5 := Tryz.isAgg5
  z5 := Tryz.sizeOf5
  v5 := Tryz.zeroValue5
  t9 := Tryz.underlying9
  a9 := Tryz.isAgg9
  z9 := Tryz.sizeOf9
  v9 := Tryz.zeroValue9
  t20 := Tryz.underlying20
  a20 := Tryz.isAgg20
  z20 := Tryz.sizeOf20
  v20 := Tryz.zeroValue20
  t37 := Tryz.underlying95
  a37 := Tryz.isAgg95
  z37 := Tryz.sizeOf95
  v37 := Tryz.zeroValue95
  t46 := Tryz.underlying144
  a46 := Tryz.isAgg144
  z46 := Tryz.sizeOf144
  v46 := Tryz.zeroValue144
  t51 := Tryz.underlying172
  a51 := Tryz.isAgg172
  z51 := Tryz.sizeOf172
  v51 := Tryz.zeroValue172
  t53 := Tryz.underlying158
  a53 := Tryz.isAgg158
  z53 := Tryz.sizeOf158
  v53 := Tryz.zeroValue158
  t171 := Tryz.underlying157
  a171 := Tryz.isAgg157
  z171 := Tryz.sizeOf157
  v171 := Tryz.zeroValue157
  t173 := Tryz.underlying161
  a173 := Tryz.isAgg161
  z173 := Tryz.sizeOf161
  v173 := Tryz.zeroValue161
  t212 := Tryz.underlying171
  a212 := Tryz.isAgg171
  z212 := Tryz.sizeOf171
  v212 := Tryz.zeroValue171
  t213 := Tryz.underlying173
  a213 := Tryz.isAgg173
  z213 := Tryz.sizeOf173
  t232 := Tryz.underlying177
  a232 := Tryz.isAgg177
  z232 := Tryz.sizeOf177
  v232 := Tryz.zeroValue177
  t233 := Tryz.underlying178
  a233 := Tryz.isAgg178
  z233 := Tryz.sizeOf178
  v233 := Tryz.zeroValue178
  g17 := by kernel_rfl
  g18 := by kernel_rfl
  g19 := by kernel_rfl
  i0 := by kernel_rfl
  i2 := by kernel_rfl
  i3 := by kernel_rfl
  i4 := by kernel_rfl
  i5 := by kernel_rfl
  i9 := by kernel_rfl
  i20 := by kernel_rfl
  i37 := by kernel_rfl
  i46 := by kernel_rfl
  i51 := by kernel_rfl
  i53 := by kernel_rfl
  i171 := by kernel_rfl
  i173 := by kernel_rfl
  i212 := by kernel_rfl
  i232 := by kernel_rfl
  i233 := by kernel_rfl
  m17 := by kernel_rfl
  m18 := by kernel_rfl
  m19 := by kernel_rfl }
open Go.RowKit Go.Sort Go.Lib in
/-- internal/strconv.FormatInt: "FormatInt returns the string representation of i in the given base": AT BASE 10: i's decimal numeral, for every int64. The world behind the call: the world before it, new blocks behind the heap, draws. (LAID: no walk: one application.) -/
theorem Tryz.internal_strconv_FormatInt_10 (n : Int) (h0 : -9223372036854775808 ≤ n) (h1 : n ≤ 9223372036854775807) (w : World) (htab : Lib.TabIs Tryz.prog w "internal/strconv.uint64pow10" .u64 Lib.pow10Tab) :
    Calls Tryz.prog 125 #[.int .i64 n, .int .i64 10] w fun e w' => e = .returned (.string ⟨(Lib.itoa n).toArray⟩) ∧ ∃ k os, w' = grow (w.drewN k) os := Any.internal_strconv_FormatInt_10 Tryz.laysM246 n h0 h1 w htab
def Tryz.lays246_ren : Go.Shelf.Ren := ⟨fun | 246 => 125 | 283 => 139 | 284 => 140 | 285 => 141 | 286 => 142 | 129 => 149 | 317 => 148 | 318 => 150 | 319 => 151 | 320 => 152 | 337 => 154 | 338 => 155 | n => n, fun | 2 => 2 | 3 => 3 | 9 => 9 | 4 => 4 | 171 => 157 | 0 => 0 | 53 => 158 | 37 => 95 | 5 => 5 | 173 => 161 | 212 => 171 | 51 => 172 | 20 => 20 | 213 => 173 | 46 => 144 | 232 => 177 | 233 => 178 | n => n, fun | 17 => 1 | 18 => 2 | 19 => 3 | n => n⟩
theorem Tryz.lays246 : Go.Proofs.Lays.n246 Tryz.prog Tryz.lays246_ren := {
  mixed := by kernel_rfl
  f129 := Tryz.func149.trans (congrArg some (by kernel_rfl))
  f246 := Tryz.func125.trans (congrArg some (by kernel_rfl))
  f283 := Tryz.func139.trans (congrArg some (by kernel_rfl))
  f284 := Tryz.func140.trans (congrArg some (by kernel_rfl))
  f285 := Tryz.func141.trans (congrArg some (by kernel_rfl))
  f286 := Tryz.func142.trans (congrArg some (by kernel_rfl))
  f317 := Tryz.func148.trans (congrArg some (by kernel_rfl))
  f318 := Tryz.func150.trans (congrArg some (by kernel_rfl))
  f319 := Tryz.func151.trans (congrArg some (by kernel_rfl))
  f320 := Tryz.func152.trans (congrArg some (by kernel_rfl))
  f337 := Tryz.func154.trans (congrArg some (by kernel_rfl))
  f338 := Tryz.func155.trans (congrArg some (by kernel_rfl))
  t0 := Tryz.underlying0
  a0 := Tryz.isAgg0
  z0 := Tryz.sizeOf0
  v0 := Tryz.zeroValue0
  t2 := Tryz.underlying2
  a2 := Tryz.isAgg2
  z2 := Tryz.sizeOf2
  v2 := Tryz.zeroValue2
  t3 := Tryz.underlying3
  a3 := Tryz.isAgg3
  z3 := Tryz.sizeOf3
  v3 := Tryz.zeroValue3
  t4 := Tryz.underlying4
  a4 := Tryz.isAgg4
  z4 := Tryz.sizeOf4
  v4 := Tryz.zeroValue4
  t5 := Tryz.underlying5
  a5 := Tryz.isAgg5
  z5 := Tryz.sizeOf5
  v5 := Tryz.zeroValue5
  t9 := Tryz.underlying9
  a9 := Tryz.isAgg9
  z9 := Tryz.sizeOf9
  v9 := Tryz.zeroValue9
  t20 := Tryz.underlying20
  a20 := Tryz.isAgg20
  z20 := Tryz.sizeOf20
  v20 := Tryz.zeroValue20
  t37 := Tryz.underlying95
  a37 := Tryz.isAgg95
  z37 := Tryz.sizeOf95
  v37 := Tryz.zeroValue95
  t46 := Tryz.underlying144
  a46 := Tryz.isAgg144
  z46 := Tryz.sizeOf144
  v46 := Tryz.zeroValue144
  t51 := Tryz.underlying172
  a51 := Tryz.isAgg172
  z51 := Tryz.sizeOf172
  v51 := Tryz.zeroValue172
  t53 := Tryz.underlying158
  a53 := Tryz.isAgg158
  z53 := Tryz.sizeOf158
  v53 := Tryz.zeroValue158
  t171 := Tryz.underlying157
  a171 := Tryz.isAgg157
  z171 := Tryz.sizeOf157
  v171 := Tryz.zeroValue157
  t173 := Tryz.underlying161
  a173 := Tryz.isAgg161
  z173 := Tryz.sizeOf161
  v173 := Tryz.zeroValue161
  t212 := Tryz.underlying171
  a212 := Tryz.isAgg171
  z212 := Tryz.sizeOf171
  v212 := Tryz.zeroValue171
  t213 := Tryz.underlying173
  a213 := Tryz.isAgg173
  z213 := Tryz.sizeOf173
  t232 := Tryz.underlying177
  a232 := Tryz.isAgg177
  z232 := Tryz.sizeOf177
  v232 := Tryz.zeroValue177
  t233 := Tryz.underlying178
  a233 := Tryz.isAgg178
  z233 := Tryz.sizeOf178
  v233 := Tryz.zeroValue178
  g17 := by kernel_rfl
  g18 := by kernel_rfl
  g19 := by kernel_rfl }
open Go.RowKit Go.Sort Go.Lib in
/-- THE ROAD WITHOUT THE TABLE: 0 <= i < 100: two constants are read, nothing is laid: no premise on the world, and the world is as it was. (LAID: no walk: one application.) -/
theorem Tryz.internal_strconv_FormatInt_10_small (i : Nat) (hi : i < 100) (w : World) :
    Calls Tryz.prog 125 #[.int .i64 i, .int .i64 10] w fun e w' => e = .returned (.string ⟨(Lib.decDigits i).toArray⟩) ∧ w' = w := Any.internal_strconv_FormatInt_10_small Tryz.lays246 i hi w
def Tryz.laysM243_ren : Go.Shelf.Ren := ⟨fun | 243 => 99 | 246 => 125 | 283 => 139 | 284 => 140 | 285 => 141 | 286 => 142 | 129 => 149 | 317 => 148 | 318 => 150 | 319 => 151 | 320 => 152 | 337 => 154 | 338 => 155 | n => n, fun | 3 => 3 | 9 => 9 | 2 => 2 | 4 => 4 | 171 => 157 | 0 => 0 | 53 => 158 | 37 => 95 | 5 => 5 | 173 => 161 | 212 => 171 | 51 => 172 | 20 => 20 | 213 => 173 | 46 => 144 | 232 => 177 | 233 => 178 | n => n, fun | 17 => 1 | 18 => 2 | 19 => 3 | n => n⟩
theorem Tryz.laysM243 : Go.Proofs.LaysM.n243 Tryz.prog Tryz.laysM243_ren := {
  mixed := by kernel_rfl
  f129 := Tryz.func149.trans (congrArg some (by kernel_rfl))
  f243 := Tryz.func99.trans (congrArg some (by kernel_rfl))
  f246 := Tryz.func125.trans (congrArg some (by kernel_rfl))
  f283 := Tryz.func139.trans (congrArg some (by kernel_rfl))
  f284 := Tryz.func140.trans (congrArg some (by kernel_rfl))
  f285 := Tryz.func141.trans (congrArg some (by kernel_rfl))
  f286 := Tryz.func142.trans (congrArg some (by kernel_rfl))
  f317 := Tryz.func148.trans (congrArg some (by kernel_rfl))
  f318 := Tryz.func150.trans (congrArg some (by kernel_rfl))
  f319 := Tryz.func151.trans (congrArg some (by kernel_rfl))
  f320 := Tryz.func152.trans (congrArg some (by kernel_rfl))
  f337 := Tryz.func154.trans (congrArg some (by kernel_rfl))
  f338 := Tryz.func155.trans (congrArg some (by kernel_rfl))
  t0 := Tryz.underlying0
  a0 := Tryz.isAgg0
  z0 := Tryz.sizeOf0
  v0 := Tryz.zeroValue0
  t2 := Tryz.underlying2
  a2 := Tryz.isAgg2
  z2 := Tryz.sizeOf2
  v2 := Tryz.zeroValue2
  t3 := Tryz.underlying3
  a3 := Tryz.isAgg3
  z3 := Tryz.sizeOf3
  v3 := Tryz.zeroValue3
  t4 := Tryz.underlying4
  a4 := Tryz.isAgg4
  z4 := Tryz.sizeOf4
  v4 := Tryz.zeroValue4
  t5 := Tryz.underlying5
  a5 := Tryz.isAgg5
  z5 := Tryz.sizeOf5
  v5 := Tryz.zeroValue5
  t9 := Tryz.underlying9
  a9 := Tryz.isAgg9
  z9 := Tryz.sizeOf9
  v9 := Tryz.zeroValue9
  t20 := Tryz.underlying20
  a20 := Tryz.isAgg20
  z20 := Tryz.sizeOf20
  v20 := Tryz.zeroValue20
  t37 := Tryz.underlying95
  a37 := Tryz.isAgg95
  z37 := Tryz.sizeOf95
  v37 := Tryz.zeroValue95
  t46 := Tryz.underlying144
  a46 := Tryz.isAgg144
  z46 := Tryz.sizeOf144
  v46 := Tryz.zeroValue144
  t51 := Tryz.underlying172
  a51 := Tryz.isAgg172
  z51 := Tryz.sizeOf172
  v51 := Tryz.zeroValue172
  t53 := Tryz.underlying158
  a53 := Tryz.isAgg158
  z53 := Tryz.sizeOf158
  v53 := Tryz.zeroValue158
  t171 := Tryz.underlying157
  a171 := Tryz.isAgg157
  z171 := Tryz.sizeOf157
  v171 := Tryz.zeroValue157
  t173 := Tryz.underlying161
  a173 := Tryz.isAgg161
  z173 := Tryz.sizeOf161
  v173 := Tryz.zeroValue161
  t212 := Tryz.underlying171
  a212 := Tryz.isAgg171
  z212 := Tryz.sizeOf171
  v212 := Tryz.zeroValue171
  t213 := Tryz.underlying173
  a213 := Tryz.isAgg173
  z213 := Tryz.sizeOf173
  t232 := Tryz.underlying177
  a232 := Tryz.isAgg177
  z232 := Tryz.sizeOf177
  v232 := Tryz.zeroValue177
  t233 := Tryz.underlying178
  a233 := Tryz.isAgg178
  z233 := Tryz.sizeOf178
  v233 := Tryz.zeroValue178
  g17 := by kernel_rfl
  g18 := by kernel_rfl
  g19 := by kernel_rfl
  i0 := by kernel_rfl
  i2 := by kernel_rfl
  i3 := by kernel_rfl
  i4 := by kernel_rfl
  i5 := by kernel_rfl
  i9 := by kernel_rfl
  i20 := by kernel_rfl
  i37 := by kernel_rfl
  i46 := by kernel_rfl
  i51 := by kernel_rfl
  i53 := by kernel_rfl
  i171 := by kernel_rfl
  i173 := by kernel_rfl
  i212 := by kernel_rfl
  i232 := by kernel_rfl
  i233 := by kernel_rfl
  m17 := by kernel_rfl
  m18 := by kernel_rfl
  m19 := by kernel_rfl }
open Go.RowKit Go.Sort Go.Lib in
/-- internal/strconv.Itoa: "Itoa is equivalent to FormatInt(int64(i), 10).": i's decimal numeral, for every int. (LAID: no walk: one application.) -/
theorem Tryz.internal_strconv_Itoa (n : Int) (h0 : -9223372036854775808 ≤ n) (h1 : n ≤ 9223372036854775807) (w : World) (htab : Lib.TabIs Tryz.prog w "internal/strconv.uint64pow10" .u64 Lib.pow10Tab) :
    Calls Tryz.prog 99 #[.int .i64 n] w fun e w' => e = .returned (.string ⟨(Lib.itoa n).toArray⟩) ∧ ∃ k os, w' = grow (w.drewN k) os := Any.internal_strconv_Itoa Tryz.laysM243 n h0 h1 w htab
def Tryz.lays243_ren : Go.Shelf.Ren := ⟨fun | 243 => 99 | 246 => 125 | 283 => 139 | 284 => 140 | 285 => 141 | 286 => 142 | 129 => 149 | 317 => 148 | 318 => 150 | 319 => 151 | 320 => 152 | 337 => 154 | 338 => 155 | n => n, fun | 3 => 3 | 9 => 9 | 2 => 2 | 4 => 4 | 171 => 157 | 0 => 0 | 53 => 158 | 37 => 95 | 5 => 5 | 173 => 161 | 212 => 171 | 51 => 172 | 20 => 20 | 213 => 173 | 46 => 144 | 232 => 177 | 233 => 178 | n => n, fun | 17 => 1 | 18 => 2 | 19 => 3 | n => n⟩
theorem Tryz.lays243 : Go.Proofs.Lays.n243 Tryz.prog Tryz.lays243_ren := {
  mixed := by kernel_rfl
  f129 := Tryz.func149.trans (congrArg some (by kernel_rfl))
  f243 := Tryz.func99.trans (congrArg some (by kernel_rfl))
  f246 := Tryz.func125.trans (congrArg some (by kernel_rfl))
  f283 := Tryz.func139.trans (congrArg some (by kernel_rfl))
  f284 := Tryz.func140.trans (congrArg some (by kernel_rfl))
  f285 := Tryz.func141.trans (congrArg some (by kernel_rfl))
  f286 := Tryz.func142.trans (congrArg some (by kernel_rfl))
  f317 := Tryz.func148.trans (congrArg some (by kernel_rfl))
  f318 := Tryz.func150.trans (congrArg some (by kernel_rfl))
  f319 := Tryz.func151.trans (congrArg some (by kernel_rfl))
  f320 := Tryz.func152.trans (congrArg some (by kernel_rfl))
  f337 := Tryz.func154.trans (congrArg some (by kernel_rfl))
  f338 := Tryz.func155.trans (congrArg some (by kernel_rfl))
  t0 := Tryz.underlying0
  a0 := Tryz.isAgg0
  z0 := Tryz.sizeOf0
  v0 := Tryz.zeroValue0
  t2 := Tryz.underlying2
  a2 := Tryz.isAgg2
  z2 := Tryz.sizeOf2
  v2 := Tryz.zeroValue2
  t3 := Tryz.underlying3
  a3 := Tryz.isAgg3
  z3 := Tryz.sizeOf3
  v3 := Tryz.zeroValue3
  t4 := Tryz.underlying4
  a4 := Tryz.isAgg4
  z4 := Tryz.sizeOf4
  v4 := Tryz.zeroValue4
  t5 := Tryz.underlying5
  a5 := Tryz.isAgg5
  z5 := Tryz.sizeOf5
  v5 := Tryz.zeroValue5
  t9 := Tryz.underlying9
  a9 := Tryz.isAgg9
  z9 := Tryz.sizeOf9
  v9 := Tryz.zeroValue9
  t20 := Tryz.underlying20
  a20 := Tryz.isAgg20
  z20 := Tryz.sizeOf20
  v20 := Tryz.zeroValue20
  t37 := Tryz.underlying95
  a37 := Tryz.isAgg95
  z37 := Tryz.sizeOf95
  v37 := Tryz.zeroValue95
  t46 := Tryz.underlying144
  a46 := Tryz.isAgg144
  z46 := Tryz.sizeOf144
  v46 := Tryz.zeroValue144
  t51 := Tryz.underlying172
  a51 := Tryz.isAgg172
  z51 := Tryz.sizeOf172
  v51 := Tryz.zeroValue172
  t53 := Tryz.underlying158
  a53 := Tryz.isAgg158
  z53 := Tryz.sizeOf158
  v53 := Tryz.zeroValue158
  t171 := Tryz.underlying157
  a171 := Tryz.isAgg157
  z171 := Tryz.sizeOf157
  v171 := Tryz.zeroValue157
  t173 := Tryz.underlying161
  a173 := Tryz.isAgg161
  z173 := Tryz.sizeOf161
  v173 := Tryz.zeroValue161
  t212 := Tryz.underlying171
  a212 := Tryz.isAgg171
  z212 := Tryz.sizeOf171
  v212 := Tryz.zeroValue171
  t213 := Tryz.underlying173
  a213 := Tryz.isAgg173
  z213 := Tryz.sizeOf173
  t232 := Tryz.underlying177
  a232 := Tryz.isAgg177
  z232 := Tryz.sizeOf177
  v232 := Tryz.zeroValue177
  t233 := Tryz.underlying178
  a233 := Tryz.isAgg178
  z233 := Tryz.sizeOf178
  v233 := Tryz.zeroValue178
  g17 := by kernel_rfl
  g18 := by kernel_rfl
  g19 := by kernel_rfl }
open Go.RowKit Go.Sort Go.Lib in
/-- THE ROAD WITHOUT THE TABLE: 0 <= i < 100. (LAID: no walk: one application.) -/
theorem Tryz.internal_strconv_Itoa_small (i : Nat) (hi : i < 100) (w : World) :
    Calls Tryz.prog 99 #[.int .i64 i] w fun e w' => e = .returned (.string ⟨(Lib.decDigits i).toArray⟩) ∧ w' = w := Any.internal_strconv_Itoa_small Tryz.lays243 i hi w
def Tryz.laysM171_ren : Go.Shelf.Ren := ⟨fun | 171 => 60 | 243 => 99 | 246 => 125 | 283 => 139 | 284 => 140 | 285 => 141 | 286 => 142 | 129 => 149 | 317 => 148 | 318 => 150 | 319 => 151 | 320 => 152 | 337 => 154 | 338 => 155 | n => n, fun | 3 => 3 | 9 => 9 | 2 => 2 | 4 => 4 | 171 => 157 | 0 => 0 | 53 => 158 | 37 => 95 | 5 => 5 | 173 => 161 | 212 => 171 | 51 => 172 | 20 => 20 | 213 => 173 | 46 => 144 | 232 => 177 | 233 => 178 | n => n, fun | 17 => 1 | 18 => 2 | 19 => 3 | n => n⟩
theorem Tryz.laysM171 : Go.Proofs.LaysM.n171 Tryz.prog Tryz.laysM171_ren := {
  mixed := by kernel_rfl
  f129 := Tryz.func149.trans (congrArg some (by kernel_rfl))
  f171 := Tryz.func60.trans (congrArg some (by kernel_rfl))
  f243 := Tryz.func99.trans (congrArg some (by kernel_rfl))
  f246 := Tryz.func125.trans (congrArg some (by kernel_rfl))
  f283 := Tryz.func139.trans (congrArg some (by kernel_rfl))
  f284 := Tryz.func140.trans (congrArg some (by kernel_rfl))
  f285 := Tryz.func141.trans (congrArg some (by kernel_rfl))
  f286 := Tryz.func142.trans (congrArg some (by kernel_rfl))
  f317 := Tryz.func148.trans (congrArg some (by kernel_rfl))
  f318 := Tryz.func150.trans (congrArg some (by kernel_rfl))
  f319 := Tryz.func151.trans (congrArg some (by kernel_rfl))
  f320 := Tryz.func152.trans (congrArg some (by kernel_rfl))
  f337 := Tryz.func154.trans (congrArg some (by kernel_rfl))
  f338 := Tryz.func155.trans (congrArg some (by kernel_rfl))
  t0 := Tryz.underlying0
  a0 := Tryz.isAgg0
  z0 := Tryz.sizeOf0
  v0 := Tryz.zeroValue0
  t2 := Tryz.underlying2
  a2 := Tryz.isAgg2
  z2 := Tryz.sizeOf2
  v2 := Tryz.zeroValue2
  t3 := Tryz.underlying3
  a3 := Tryz.isAgg3
  z3 := Tryz.sizeOf3
  v3 := Tryz.zeroValue3
  t4 := Tryz.underlying4
  a4 := Tryz.isAgg4
  z4 := Tryz.sizeOf4
  v4 := Tryz.zeroValue4
  t5 := Tryz.underlying5
  a5 := Tryz.isAgg5
  z5 := Tryz.sizeOf5
  v5 := Tryz.zeroValue5
  t9 := Tryz.underlying9
  a9 := Tryz.isAgg9
  z9 := Tryz.sizeOf9
  v9 := Tryz.zeroValue9
  t20 := Tryz.underlying20
  a20 := Tryz.isAgg20
  z20 := Tryz.sizeOf20
  v20 := Tryz.zeroValue20
  t37 := Tryz.underlying95
  a37 := Tryz.isAgg95
  z37 := Tryz.sizeOf95
  v37 := Tryz.zeroValue95
  t46 := Tryz.underlying144
  a46 := Tryz.isAgg144
  z46 := Tryz.sizeOf144
  v46 := Tryz.zeroValue144
  t51 := Tryz.underlying172
  a51 := Tryz.isAgg172
  z51 := Tryz.sizeOf172
  v51 := Tryz.zeroValue172
  t53 := Tryz.underlying158
  a53 := Tryz.isAgg158
  z53 := Tryz.sizeOf158
  v53 := Tryz.zeroValue158
  t171 := Tryz.underlying157
  a171 := Tryz.isAgg157
  z171 := Tryz.sizeOf157
  v171 := Tryz.zeroValue157
  t173 := Tryz.underlying161
  a173 := Tryz.isAgg161
  z173 := Tryz.sizeOf161
  v173 := Tryz.zeroValue161
  t212 := Tryz.underlying171
  a212 := Tryz.isAgg171
  z212 := Tryz.sizeOf171
  v212 := Tryz.zeroValue171
  t213 := Tryz.underlying173
  a213 := Tryz.isAgg173
  z213 := Tryz.sizeOf173
  t232 := Tryz.underlying177
  a232 := Tryz.isAgg177
  z232 := Tryz.sizeOf177
  v232 := Tryz.zeroValue177
  t233 := Tryz.underlying178
  a233 := Tryz.isAgg178
  z233 := Tryz.sizeOf178
  v233 := Tryz.zeroValue178
  g17 := by kernel_rfl
  g18 := by kernel_rfl
  g19 := by kernel_rfl
  i0 := by kernel_rfl
  i2 := by kernel_rfl
  i3 := by kernel_rfl
  i4 := by kernel_rfl
  i5 := by kernel_rfl
  i9 := by kernel_rfl
  i20 := by kernel_rfl
  i37 := by kernel_rfl
  i46 := by kernel_rfl
  i51 := by kernel_rfl
  i53 := by kernel_rfl
  i171 := by kernel_rfl
  i173 := by kernel_rfl
  i212 := by kernel_rfl
  i232 := by kernel_rfl
  i233 := by kernel_rfl
  m17 := by kernel_rfl
  m18 := by kernel_rfl
  m19 := by kernel_rfl }
open Go.RowKit Go.Sort Go.Lib in
/-- strconv.Itoa: "Itoa is equivalent to FormatInt(int64(i), 10).": i's DECIMAL NUMERAL ('Lib.itoa': a '-' where i is negative, then the digits), FOR EVERY int. The world behind the call: the world before it, new blocks behind the heap (the library's 'var a [24]byte'), draws. (LAID: no walk: one application.) -/
theorem Tryz.strconv_Itoa (n : Int) (h0 : -9223372036854775808 ≤ n) (h1 : n ≤ 9223372036854775807) (w : World) (htab : Lib.TabIs Tryz.prog w "internal/strconv.uint64pow10" .u64 Lib.pow10Tab) :
    Calls Tryz.prog 60 #[.int .i64 n] w fun e w' => e = .returned (.string ⟨(Lib.itoa n).toArray⟩) ∧ ∃ k os, w' = grow (w.drewN k) os := Any.strconv_Itoa Tryz.laysM171 n h0 h1 w htab
def Tryz.lays171_ren : Go.Shelf.Ren := ⟨fun | 171 => 60 | 243 => 99 | 246 => 125 | 283 => 139 | 284 => 140 | 285 => 141 | 286 => 142 | 129 => 149 | 317 => 148 | 318 => 150 | 319 => 151 | 320 => 152 | 337 => 154 | 338 => 155 | n => n, fun | 3 => 3 | 9 => 9 | 2 => 2 | 4 => 4 | 171 => 157 | 0 => 0 | 53 => 158 | 37 => 95 | 5 => 5 | 173 => 161 | 212 => 171 | 51 => 172 | 20 => 20 | 213 => 173 | 46 => 144 | 232 => 177 | 233 => 178 | n => n, fun | 17 => 1 | 18 => 2 | 19 => 3 | n => n⟩
theorem Tryz.lays171 : Go.Proofs.Lays.n171 Tryz.prog Tryz.lays171_ren := {
  mixed := by kernel_rfl
  f129 := Tryz.func149.trans (congrArg some (by kernel_rfl))
  f171 := Tryz.func60.trans (congrArg some (by kernel_rfl))
  f243 := Tryz.func99.trans (congrArg some (by kernel_rfl))
  f246 := Tryz.func125.trans (congrArg some (by kernel_rfl))
  f283 := Tryz.func139.trans (congrArg some (by kernel_rfl))
  f284 := Tryz.func140.trans (congrArg some (by kernel_rfl))
  f285 := Tryz.func141.trans (congrArg some (by kernel_rfl))
  f286 := Tryz.func142.trans (congrArg some (by kernel_rfl))
  f317 := Tryz.func148.trans (congrArg some (by kernel_rfl))
  f318 := Tryz.func150.trans (congrArg some (by kernel_rfl))
  f319 := Tryz.func151.trans (congrArg some (by kernel_rfl))
  f320 := Tryz.func152.trans (congrArg some (by kernel_rfl))
  f337 := Tryz.func154.trans (congrArg some (by kernel_rfl))
  f338 := Tryz.func155.trans (congrArg some (by kernel_rfl))
  t0 := Tryz.underlying0
  a0 := Tryz.isAgg0
  z0 := Tryz.sizeOf0
  v0 := Tryz.zeroValue0
  t2 := Tryz.underlying2
  a2 := Tryz.isAgg2
  z2 := Tryz.sizeOf2
  v2 := Tryz.zeroValue2
  t3 := Tryz.underlying3
  a3 := Tryz.isAgg3
  z3 := Tryz.sizeOf3
  v3 := Tryz.zeroValue3
  t4 := Tryz.underlying4
  a4 := Tryz.isAgg4
  z4 := Tryz.sizeOf4
  v4 := Tryz.zeroValue4
  t5 := Tryz.underlying5
  a5 := Tryz.isAgg5
  z5 := Tryz.sizeOf5
  v5 := Tryz.zeroValue5
  t9 := Tryz.underlying9
  a9 := Tryz.isAgg9
  z9 := Tryz.sizeOf9
  v9 := Tryz.zeroValue9
  t20 := Tryz.underlying20
  a20 := Tryz.isAgg20
  z20 := Tryz.sizeOf20
  v20 := Tryz.zeroValue20
  t37 := Tryz.underlying95
  a37 := Tryz.isAgg95
  z37 := Tryz.sizeOf95
  v37 := Tryz.zeroValue95
  t46 := Tryz.underlying144
  a46 := Tryz.isAgg144
  z46 := Tryz.sizeOf144
  v46 := Tryz.zeroValue144
  t51 := Tryz.underlying172
  a51 := Tryz.isAgg172
  z51 := Tryz.sizeOf172
  v51 := Tryz.zeroValue172
  t53 := Tryz.underlying158
  a53 := Tryz.isAgg158
  z53 := Tryz.sizeOf158
  v53 := Tryz.zeroValue158
  t171 := Tryz.underlying157
  a171 := Tryz.isAgg157
  z171 := Tryz.sizeOf157
  v171 := Tryz.zeroValue157
  t173 := Tryz.underlying161
  a173 := Tryz.isAgg161
  z173 := Tryz.sizeOf161
  v173 := Tryz.zeroValue161
  t212 := Tryz.underlying171
  a212 := Tryz.isAgg171
  z212 := Tryz.sizeOf171
  v212 := Tryz.zeroValue171
  t213 := Tryz.underlying173
  a213 := Tryz.isAgg173
  z213 := Tryz.sizeOf173
  t232 := Tryz.underlying177
  a232 := Tryz.isAgg177
  z232 := Tryz.sizeOf177
  v232 := Tryz.zeroValue177
  t233 := Tryz.underlying178
  a233 := Tryz.isAgg178
  z233 := Tryz.sizeOf178
  v233 := Tryz.zeroValue178
  g17 := by kernel_rfl
  g18 := by kernel_rfl
  g19 := by kernel_rfl }
open Go.RowKit Go.Sort Go.Lib in
/-- THE ROAD WITHOUT THE TABLE: 0 <= i < 100: NO PREMISE ON THE WORLD, AND THE WORLD IS AS IT WAS: a row that keeps its argument in that range need list no table ('laid = []'). (LAID: no walk: one application.) -/
theorem Tryz.strconv_Itoa_small (i : Nat) (hi : i < 100) (w : World) :
    Calls Tryz.prog 60 #[.int .i64 i] w fun e w' => e = .returned (.string ⟨(Lib.decDigits i).toArray⟩) ∧ w' = w := Any.strconv_Itoa_small Tryz.lays171 i hi w
def Tryz.lays217_ren : Go.Shelf.Ren := ⟨fun | 217 => 111 | 266 => 131 | n => n, fun | 9 => 9 | 5 => 5 | 3 => 3 | n => n, fun | n => n⟩
theorem Tryz.lays217 : Go.Proofs.Lays.n217 Tryz.prog Tryz.lays217_ren := {
  mixed := by kernel_rfl
  f217 := Tryz.func111.trans (congrArg some (by kernel_rfl))
  f266 := Tryz.func131.trans (congrArg some (by kernel_rfl))
  t3 := Tryz.underlying3
  a3 := Tryz.isAgg3
  z3 := Tryz.sizeOf3
  v3 := Tryz.zeroValue3
  t5 := Tryz.underlying5
  a5 := Tryz.isAgg5
  z5 := Tryz.sizeOf5
  v5 := Tryz.zeroValue5
  t9 := Tryz.underlying9
  a9 := Tryz.isAgg9
  z9 := Tryz.sizeOf9
  v9 := Tryz.zeroValue9 }
open Go.RowKit Go.Lib in
/-- internal/stringslite.IndexByte (what strings.IndexByte calls): IT RETURNS 'Lib.indexByte s c'; the world is as it was. (LAID: no walk: one application.) -/
theorem Tryz.stringslite_IndexByte (s : ByteArray) (c : Int) (w : World) :
    Calls Tryz.prog 111 #[.string s, .int .u8 c] w fun e w' => e = .returned (.int .i64 (Lib.indexByte s.data.toList c.toNat.toUInt8)) ∧ w' = w := Any.stringslite_IndexByte Tryz.lays217 s c w
end Go.Proofs
end

section
/-
YtejehchbflmofaaGreatDoor: strconv.Itoa, by the shelf: its contract. No condition.
-/
open Go Go.AM
namespace Go.Proofs.YtejehchbflmofaaGreatDoor
noncomputable section
def itoaG (n : Int) : Option (ByteArray × Unit) := if -9223372036854775808 ≤ n ∧ n ≤ 9223372036854775807 then some (strB (Lib.itoa n), ()) else none
def strconv_Itoa (n : Int) : Option ((ByteArray × Unit) × Unit) := (itoaG n).bind fun y => some (y, ())
def fc60 : FC := ⟨⟨[.one (.int .i64)], []⟩, ⟨[.one .str], []⟩, fun x => strconv_Itoa x.1.1⟩
theorem con60 : Contract Tryz.prog 60 fc60 :=
  Contract.below (P := Tryz.prog) (f := 60) (sa := [.one (.int .i64)]) (sr := [.one .str]) (fn := Tryz.f60) (c := Tryz.f60.body.getD .skip) Tryz.func60 (by kernel_rfl) (by kernel_rfl) (g := fun x => itoaG x.1) (fun w M G x y vals hI hv hg => by
    obtain ⟨n, u⟩ := x
    obtain ⟨vs⟩ := vals
    match vs, hv with
    | [v1], hv =>
      obtain ⟨⟨rfl, _⟩, _⟩ := hv
      have hg' : itoaG n = some y := hg
      unfold itoaG at hg'
      split at hg'
      · rename_i hn
        cases hg'
        refine (Tryz.strconv_Itoa n hn.1 hn.2 w (zone_tab (hI.zone _ _ zone_pow))).mono ?_
        rintro e w' ⟨rfl, k, os, rfl⟩
        refine ⟨_, rfl, ⟨rfl, rfl, rfl, ?_, fun i hi => ?_⟩, rfl, rfl⟩
        · show w.heap.size ≤ (w.heap ++ os).size
          simp
        · show (w.heap ++ os)[i]? = w.heap[i]?
          rw [Array.getElem?_append_left hi]
      · cases hg'
    | [], hv => exact hv.elim
    | _ :: _ :: _, hv => exact hv.2.elim)
end
end Go.Proofs.YtejehchbflmofaaGreatDoor
end

section
/-
YtejehchbflmofaaGreatDoor: signalbench.limit.number, as one plain function, its equations, its contract. No condition.
-/
set_option maxRecDepth 100000
set_option linter.unusedVariables false
set_option maxHeartbeats 4000000
open Go Go.AM
namespace Go.Proofs.YtejehchbflmofaaGreatDoor
noncomputable section
def limit_number_D : FD := ⟨T, lookC [(60, fc60)], [], (Tryz.f31.body.getD .skip), Tryz.f31.results.toList, ⟨[.one (.int .i64)], []⟩, ⟨[.row (.cons (.int .i64) (.cons .str (.cons (.int .i64) (.int .i64))))], []⟩, []⟩
def limit_number (n : Int) : (Option ((TToken × Unit) × Unit)) :=
  (strconv_Itoa n).bind fun y1 =>
    some (((2, y1.1.1, n, 0), ()), ())
def fc31 : FC := ⟨⟨[.one (.int .i64)], []⟩, ⟨[.row (.cons (.int .i64) (.cons .str (.cons (.int .i64) (.int .i64))))], []⟩, fun x => limit_number x.1.1⟩
theorem con31 : Contract Tryz.prog 31 fc31 :=
  limit_number_D.contract tok (cok_of (l := [(60, fc60)]) ⟨con60, trivial⟩) mixed (fn' := Tryz.f31) (by kernel_rfl) (by kernel_rfl) rfl (by kernel_rfl) (fun x => (FD.fn_eq _ _).trans (by kernel_rfl))
end
end Go.Proofs.YtejehchbflmofaaGreatDoor
end

section
/-
YtejehchbflmofaaGreatDoor: signalbench.limit.mark, as one plain function, its equations, its contract. No condition.
-/
set_option maxRecDepth 100000
set_option linter.unusedVariables false
set_option maxHeartbeats 4000000
open Go Go.AM
namespace Go.Proofs.YtejehchbflmofaaGreatDoor
noncomputable section
def limit_mark_D : FD := ⟨T, lookC [], [], (Tryz.f32.body.getD .skip), Tryz.f32.results.toList, ⟨[.one .str], []⟩, ⟨[.row (.cons (.int .i64) (.cons .str (.cons (.int .i64) (.int .i64))))], []⟩, []⟩
def limit_mark (s : ByteArray) : (Option ((TToken × Unit) × Unit)) :=
  some (((4, s, 0, 0), ()), ())
def fc32 : FC := ⟨⟨[.one .str], []⟩, ⟨[.row (.cons (.int .i64) (.cons .str (.cons (.int .i64) (.int .i64))))], []⟩, fun x => limit_mark x.1.1⟩
theorem con32 : Contract Tryz.prog 32 fc32 :=
  limit_mark_D.contract tok (cok_of (l := []) trivial) mixed (fn' := Tryz.f32) (by kernel_rfl) (by kernel_rfl) rfl (by kernel_rfl) (fun x => (FD.fn_eq _ _).trans (by kernel_rfl))
end
end Go.Proofs.YtejehchbflmofaaGreatDoor
end

section
/-
YtejehchbflmofaaGreatDoor: signalbench.lex.form, as one plain function, its equations, its contract. No condition.
-/
set_option maxRecDepth 100000
set_option linter.unusedVariables false
set_option maxHeartbeats 4000000
open Go Go.AM
namespace Go.Proofs.YtejehchbflmofaaGreatDoor
noncomputable section
def lex_form_D : FD := ⟨T, lookC [(27, fc27), (60, fc60), (100, fc100), (101, fc101), (102, fc102)], [], (Tryz.f61.body.getD .skip), Tryz.f61.results.toList, ⟨[.row (.cons (.int .i64) (.cons .str (.cons (.int .i64) (.int .i64))))], []⟩, ⟨[.one .str, .one .bool], []⟩, []⟩
def lex_form (t : TToken) : (Option ((ByteArray × Bool × Unit) × Unit)) :=
  if (t.1 == 1) = true then
    (lex_Name t.2.1).bind fun y1 =>
      if y1.1.1 = true then
        some ((t.2.1, t.2.2.1 == 0, ()), ())
      else
        some ((t.2.1, false, ()), ())
  else
    if (t.1 == 2) = true then
      (lex_Number t.2.1).bind fun y2 =>
        (strconv_Itoa t.2.2.1).bind fun y3 =>
          if (y2.1.2.1 == 0) = true then
            some ((y3.1.1, y2.1.1 == t.2.2.1, ()), ())
          else
            some ((y3.1.1, false, ()), ())
    else
      if (t.1 == 3) = true then
        (lex_Quote t.2.1).bind fun y4 =>
          some ((y4.1.1, t.2.2.1 == 0, ()), ())
      else
        if (t.1 == 4) = true then
          if ((t.2.1.size : Int) == 1) = true then
            if 0 ≤ (0 : Int) ∧ 0 < (t.2.1.size : Int) then
              (lex_mark (IntKind.i32.wrap (bt t.2.1 0))).bind fun y5 =>
                if y5.1.1 = true then
                  some ((t.2.1, t.2.2.1 == 0, ()), ())
                else
                  some ((t.2.1, false, ()), ())
            else
              none
          else
            some ((t.2.1, false, ()), ())
        else
          some (((strB []), false, ()), ())
def fc61 : FC := ⟨⟨[.row (.cons (.int .i64) (.cons .str (.cons (.int .i64) (.int .i64))))], []⟩, ⟨[.one .str, .one .bool], []⟩, fun x => lex_form x.1.1⟩
theorem con61 : Contract Tryz.prog 61 fc61 :=
  lex_form_D.contract tok (cok_of (l := [(27, fc27), (60, fc60), (100, fc100), (101, fc101), (102, fc102)]) ⟨con27, con60, con100, con101, con102, trivial⟩) mixed (fn' := Tryz.f61) (by kernel_rfl) (by kernel_rfl) rfl (by kernel_rfl) (fun x => (FD.fn_eq _ _).trans (by kernel_rfl))
end
end Go.Proofs.YtejehchbflmofaaGreatDoor
end

section
/-
YtejehchbflmofaaGreatDoor: (*strings.Builder).Len, as one plain function, its equations, its contract. No condition.
-/
set_option maxRecDepth 100000
set_option linter.unusedVariables false
set_option maxHeartbeats 4000000
open Go Go.AM
namespace Go.Proofs.YtejehchbflmofaaGreatDoor
noncomputable section
def strings_Builder_Len_D : FD := ⟨T, lookC [], [], (Tryz.f64.body.getD .skip), Tryz.f64.results.toList, ⟨[.one (.ptr 0 0)], [.box 97 [(.oself 0), (.own 1)], .arr 5 (.int .u8) true]⟩, ⟨[.one (.int .i64)], [.box 97 [(.oself 0), (.own 2)], .dead, .arr 5 (.int .u8) true]⟩, []⟩
def strings_Builder_Len (l1 : (List Int)) : (Option ((Int × Unit) × ((Unit × Unit × Unit) × Unit × (List Int) × Unit))) :=
  some (((l1.length : Int), ()), (((), (), ()), (), l1, ()))
def fc64 : FC := ⟨⟨[.one (.ptr 0 0)], [.box 97 [(.oself 0), (.own 1)], .arr 5 (.int .u8) true]⟩, ⟨[.one (.int .i64)], [.box 97 [(.oself 0), (.own 2)], .dead, .arr 5 (.int .u8) true]⟩, fun x => strings_Builder_Len x.2.2.1⟩
theorem con64 : Contract Tryz.prog 64 fc64 :=
  strings_Builder_Len_D.contract tok (cok_of (l := []) trivial) mixed (fn' := Tryz.f64) (by kernel_rfl) (by kernel_rfl) rfl (by kernel_rfl) (fun x => (FD.fn_eq _ _).trans (by kernel_rfl))
end
end Go.Proofs.YtejehchbflmofaaGreatDoor
end

section
/-
YtejehchbflmofaaGreatDoor: signalbench.lex.Text, as one plain function, its equations, its contract. No condition.
-/
set_option maxRecDepth 100000
set_option linter.unusedVariables false
set_option maxHeartbeats 4000000
open Go Go.AM
namespace Go.Proofs.YtejehchbflmofaaGreatDoor
noncomputable section
def lex_Text_F4 : FSh := ⟨[(0, .one (.sl (.cons (.int .i64) (.cons .str (.cons (.int .i64) (.int .i64)))))), (4, .one (.ptr 0 0)), (9, .one (.int .i64)), (10, .one (.int .i64))], [.box 97 [(.oself 0), (.own 1)], .arr 5 (.int .u8) true]⟩
def lex_Text_D : FD := ⟨T, lookC [(61, fc61), (62, fc62), (63, fc63), (64, fc64), (65, fc65)], [], (Tryz.f33.body.getD .skip), Tryz.f33.results.toList, ⟨[.one (.sl (.cons (.int .i64) (.cons .str (.cons (.int .i64) (.int .i64)))))], []⟩, ⟨[.one .str, .one (.int .i64)], []⟩, [(4, lex_Text_F4)]⟩
def lex_Text_l4 (l : (List TToken)) (t9 : Int) (t10 : Int) (l1 : (List Int)) : (Option ((ByteArray × Int × Unit) × Unit)) := lex_Text_D.lab 4 lex_Text_F4 ((l, (), t9, t10, ()), (((), (), ()), l1, ()))
theorem lex_Text_l4_eq (l : (List TToken)) (t9 : Int) (t10 : Int) (l1 : (List Int)) : lex_Text_l4 l t9 t10 l1 =
  if (decide (t10 < t9)) = true then
    if 0 ≤ t10 ∧ t10 < (l.length : Int) then
      (lex_form (l.getD t10.toNat dToken)).bind fun y1 =>
        if (!y1.1.2.1) = true then
          some (((strB []), 1, ()), ())
        else
          if (decide (t10 > 0)) = true then
            (strings_Builder_WriteByte 32 l1).bind fun y2 =>
              (strings_Builder_WriteString y1.1.1 y2.2.2.2.1).bind fun y3 =>
                lex_Text_l4 l t9 (IntKind.i64.wrap (t10 + 1)) y3.2.2.2.1
          else
            (strings_Builder_WriteString y1.1.1 l1).bind fun y4 =>
              lex_Text_l4 l t9 (IntKind.i64.wrap (t10 + 1)) y4.2.2.2.1
    else
      none
  else
    (strings_Builder_Len l1).bind fun y5 =>
      if (decide (y5.1.1 > 1048576)) = true then
        some (((strB []), 6, ()), ())
      else
        (strings_Builder_String y5.2.2.2.1).bind fun y6 =>
          some ((y6.1.1, 0, ()), ()) := (FD.lab_eq _ _ _ _).trans (by kernel_rfl)
def lex_Text (l : (List TToken)) : (Option ((ByteArray × Int × Unit) × Unit)) :=
  lex_Text_l4 l (l.length : Int) 0 []
def fc33 : FC := ⟨⟨[.one (.sl (.cons (.int .i64) (.cons .str (.cons (.int .i64) (.int .i64)))))], []⟩, ⟨[.one .str, .one (.int .i64)], []⟩, fun x => lex_Text x.1.1⟩
theorem con33 : Contract Tryz.prog 33 fc33 :=
  lex_Text_D.contract tok (cok_of (l := [(61, fc61), (62, fc62), (63, fc63), (64, fc64), (65, fc65)]) ⟨con61, con62, con63, con64, con65, trivial⟩) mixed (fn' := Tryz.f33) (by kernel_rfl) (by kernel_rfl) rfl (by kernel_rfl) (fun x => (FD.fn_eq _ _).trans (by kernel_rfl))
end
end Go.Proofs.YtejehchbflmofaaGreatDoor
end

section
/-
YtejehchbflmofaaGreatDoor: signalbench.limit.Print, as one plain function, its equations, its contract. No condition.
-/
set_option maxRecDepth 100000
set_option linter.unusedVariables false
set_option maxHeartbeats 4000000
open Go Go.AM
namespace Go.Proofs.YtejehchbflmofaaGreatDoor
noncomputable section
def limit_Print_F7 : FSh := ⟨[(4, .one (.own 0)), (12, .one (.sl (.cons (.int .i64) (.cons .str (.cons .str (.cons .bool (.cons (.int .i64) (.int .i64)))))))), (13, .one (.int .i64)), (14, .one (.int .i64))], [.arr 63 (.cons (.int .i64) (.cons .str (.cons (.int .i64) (.int .i64)))) true]⟩
def limit_Print_F20 : FSh := ⟨[(4, .one (.own 0)), (6, .one (.ptr 1 0)), (12, .one (.sl (.cons (.int .i64) (.cons .str (.cons .str (.cons .bool (.cons (.int .i64) (.int .i64)))))))), (13, .one (.int .i64)), (14, .one (.int .i64))], [.arr 63 (.cons (.int .i64) (.cons .str (.cons (.int .i64) (.int .i64)))) true, .boxr 46 (.cons (.int .i64) (.cons .str (.cons .str (.cons .bool (.cons (.int .i64) (.int .i64))))))]⟩
def limit_Print_F23 : FSh := ⟨[(4, .one (.own 0)), (6, .one (.ptr 1 0)), (8, .one .str), (12, .one (.sl (.cons (.int .i64) (.cons .str (.cons .str (.cons .bool (.cons (.int .i64) (.int .i64)))))))), (13, .one (.int .i64)), (14, .one (.int .i64))], [.arr 63 (.cons (.int .i64) (.cons .str (.cons (.int .i64) (.int .i64)))) true, .boxr 46 (.cons (.int .i64) (.cons .str (.cons .str (.cons .bool (.cons (.int .i64) (.int .i64))))))]⟩
def limit_Print_D : FD := ⟨T, lookC [(26, fc26), (27, fc27), (28, fc28), (29, fc29), (30, fc30), (31, fc31), (32, fc32), (33, fc33)], [23, 20], (Tryz.f12.body.getD .skip), Tryz.f12.results.toList, ⟨[.one (.sl (.cons (.int .i64) (.cons .str (.cons .str (.cons .bool (.cons (.int .i64) (.int .i64)))))))], []⟩, ⟨[.one .str, .one (.int .i64)], []⟩, [(7, limit_Print_F7), (20, limit_Print_F20), (23, limit_Print_F23)]⟩
def limit_Print_l7 (t12 : (List TLimit)) (t13 : Int) (t14 : Int) (l0 : (List TToken)) : (Option ((ByteArray × Int × Unit) × Unit)) := limit_Print_D.lab 7 limit_Print_F7 (((), t12, t13, t14, ()), (l0, ()))
def limit_Print_l20 (t12 : (List TLimit)) (t13 : Int) (t14 : Int) (l0 : (List TToken)) (h1 : TLimit) : (Option ((ByteArray × Int × Unit) × Unit)) := limit_Print_D.lab 20 limit_Print_F20 (((), (), t12, t13, t14, ()), (l0, h1, ()))
def limit_Print_l23 (edge : ByteArray) (t12 : (List TLimit)) (t13 : Int) (t14 : Int) (l0 : (List TToken)) (h1 : TLimit) : (Option ((ByteArray × Int × Unit) × Unit)) := limit_Print_D.lab 23 limit_Print_F23 (((), (), edge, t12, t13, t14, ()), (l0, h1, ()))
theorem limit_Print_l7_eq (t12 : (List TLimit)) (t13 : Int) (t14 : Int) (l0 : (List TToken)) : limit_Print_l7 t12 t13 t14 l0 =
  if (decide (t14 < t13)) = true then
    if 0 ≤ t14 ∧ t14 < (t12.length : Int) then
      (limit_form (t12.getD t14.toNat dLimit)).bind fun y1 =>
        if (y1.1.1 != 0) = true then
          some (((strB []), y1.1.1, ()), ())
        else
          (lex_Name (t12.getD t14.toNat dLimit).2.1).bind fun y2 =>
            if (!y2.1.1) = true then
              some (((strB []), 4, ()), ())
            else
              (limit_clocked (t12.getD t14.toNat dLimit)).bind fun y3 =>
                if y3.1.1 = true then
                  (lex_Name (t12.getD t14.toNat dLimit).2.2.1).bind fun y4 =>
                    if (!y4.1.1) = true then
                      some (((strB []), 4, ()), ())
                    else
                      (limit_word (t12.getD t14.toNat dLimit).1).bind fun y5 =>
                        (limit_name y5.1.1).bind fun y6 =>
                          (limit_name (t12.getD t14.toNat dLimit).2.1).bind fun y7 =>
                            if (l0.length + 2) * 40 ≤ 140737488355328 ∧ 0 < 40 then
                              (limit_clocked (t12.getD t14.toNat dLimit)).bind fun y8 =>
                                if y8.1.1 = true then
                                  if (t12.getD t14.toNat dLimit).2.2.2.1 = true then
                                    limit_Print_l23 (strB [114, 105, 115, 101]) t12 t13 t14 (l0 ++ [y6.1.1, y7.1.1]) (t12.getD t14.toNat dLimit)
                                  else
                                    limit_Print_l23 (strB [102, 97, 108, 108]) t12 t13 t14 (l0 ++ [y6.1.1, y7.1.1]) (t12.getD t14.toNat dLimit)
                                else
                                  limit_Print_l20 t12 t13 t14 (l0 ++ [y6.1.1, y7.1.1]) (t12.getD t14.toNat dLimit)
                            else
                              none
                else
                  (limit_word (t12.getD t14.toNat dLimit).1).bind fun y9 =>
                    (limit_name y9.1.1).bind fun y10 =>
                      (limit_name (t12.getD t14.toNat dLimit).2.1).bind fun y11 =>
                        if (l0.length + 2) * 40 ≤ 140737488355328 ∧ 0 < 40 then
                          (limit_clocked (t12.getD t14.toNat dLimit)).bind fun y12 =>
                            if y12.1.1 = true then
                              if (t12.getD t14.toNat dLimit).2.2.2.1 = true then
                                limit_Print_l23 (strB [114, 105, 115, 101]) t12 t13 t14 (l0 ++ [y10.1.1, y11.1.1]) (t12.getD t14.toNat dLimit)
                              else
                                limit_Print_l23 (strB [102, 97, 108, 108]) t12 t13 t14 (l0 ++ [y10.1.1, y11.1.1]) (t12.getD t14.toNat dLimit)
                            else
                              limit_Print_l20 t12 t13 t14 (l0 ++ [y10.1.1, y11.1.1]) (t12.getD t14.toNat dLimit)
                        else
                          none
    else
      none
  else
    (lex_Text l0).bind fun y13 =>
      some ((y13.1.1, y13.1.2.1, ()), ()) := (FD.lab_eq _ _ _ _).trans (by kernel_rfl)
theorem limit_Print_l20_eq (t12 : (List TLimit)) (t13 : Int) (t14 : Int) (l0 : (List TToken)) (h1 : TLimit) : limit_Print_l20 t12 t13 t14 l0 h1 =
  (limit_number h1.2.2.2.2.1).bind fun y1 =>
    (limit_mark (strB [46])).bind fun y2 =>
      (limit_mark (strB [46])).bind fun y3 =>
        (limit_number h1.2.2.2.2.2).bind fun y4 =>
          (limit_mark (strB [59])).bind fun y5 =>
            if (l0.length + 5) * 40 ≤ 140737488355328 ∧ 0 < 40 then
              limit_Print_l7 t12 t13 (IntKind.i64.wrap (t14 + 1)) (l0 ++ [y1.1.1, y2.1.1, y3.1.1, y4.1.1, y5.1.1])
            else
              none := (FD.lab_eq _ _ _ _).trans (by kernel_rfl)
theorem limit_Print_l23_eq (edge : ByteArray) (t12 : (List TLimit)) (t13 : Int) (t14 : Int) (l0 : (List TToken)) (h1 : TLimit) : limit_Print_l23 edge t12 t13 t14 l0 h1 =
  (limit_name h1.2.2.1).bind fun y1 =>
    (limit_name edge).bind fun y2 =>
      if (l0.length + 2) * 40 ≤ 140737488355328 ∧ 0 < 40 then
        limit_Print_l20 t12 t13 t14 (l0 ++ [y1.1.1, y2.1.1]) h1
      else
        none := (FD.lab_eq _ _ _ _).trans (by kernel_rfl)
def limit_Print (l : (List TLimit)) : (Option ((ByteArray × Int × Unit) × Unit)) :=
  if (decide ((l.length : Int) > 64)) = true then
    some (((strB []), 6, ()), ())
  else
    limit_Print_l7 l (l.length : Int) 0 []
def fc12 : FC := ⟨⟨[.one (.sl (.cons (.int .i64) (.cons .str (.cons .str (.cons .bool (.cons (.int .i64) (.int .i64)))))))], []⟩, ⟨[.one .str, .one (.int .i64)], []⟩, fun x => limit_Print x.1.1⟩
theorem con12 : Contract Tryz.prog 12 fc12 :=
  limit_Print_D.contract tok (cok_of (l := [(26, fc26), (27, fc27), (28, fc28), (29, fc29), (30, fc30), (31, fc31), (32, fc32), (33, fc33)]) ⟨con26, con27, con28, con29, con30, con31, con32, con33, trivial⟩) mixed (fn' := Tryz.f12) (by kernel_rfl) (by kernel_rfl) rfl (by kernel_rfl) (fun x => (FD.fn_eq _ _).trans (by kernel_rfl))
end
end Go.Proofs.YtejehchbflmofaaGreatDoor
end

section
/-
YtejehchbflmofaaGreatDoor: signalbench.signalbenchref05.Name, as one plain function, its equations, its contract. No condition.
-/
set_option maxRecDepth 100000
set_option linter.unusedVariables false
set_option maxHeartbeats 4000000
open Go Go.AM
namespace Go.Proofs.YtejehchbflmofaaGreatDoor
noncomputable section
def ref05_Name_F6 : FSh := ⟨[(0, .one .str), (3, .one (.int .i64))], []⟩
def ref05_Name_D : FD := ⟨T, lookC [(104, fc104), (105, fc105)], [], (Tryz.f66.body.getD .skip), Tryz.f66.results.toList, ⟨[.one .str], []⟩, ⟨[.one .bool], []⟩, [(6, ref05_Name_F6)]⟩
def ref05_Name_l6 (s : ByteArray) (i : Int) : (Option ((Bool × Unit) × Unit)) := ref05_Name_D.lab 6 ref05_Name_F6 ((s, i, ()), ())
theorem ref05_Name_l6_eq (s : ByteArray) (i : Int) : ref05_Name_l6 s i =
  if (decide (i < (s.size : Int))) = true then
    if 0 ≤ i ∧ i < (s.size : Int) then
      (ref05_inner (bt s i)).bind fun y1 =>
        if (!y1.1.1) = true then
          some ((false, ()), ())
        else
          ref05_Name_l6 s (IntKind.i64.wrap (i + 1))
    else
      none
  else
    some ((true, ()), ()) := (FD.lab_eq _ _ _ _).trans (by kernel_rfl)
def ref05_Name (s : ByteArray) : (Option ((Bool × Unit) × Unit)) :=
  if (decide ((s.size : Int) < 1)) = true then
    some ((false, ()), ())
  else
    if (decide ((s.size : Int) > 16)) = true then
      some ((false, ()), ())
    else
      if 0 ≤ (0 : Int) ∧ 0 < (s.size : Int) then
        (ref05_letter (bt s 0)).bind fun y1 =>
          if (!y1.1.1) = true then
            some ((false, ()), ())
          else
            ref05_Name_l6 s 0
      else
        none
def fc66 : FC := ⟨⟨[.one .str], []⟩, ⟨[.one .bool], []⟩, fun x => ref05_Name x.1.1⟩
theorem con66 : Contract Tryz.prog 66 fc66 :=
  ref05_Name_D.contract tok (cok_of (l := [(104, fc104), (105, fc105)]) ⟨con104, con105, trivial⟩) mixed (fn' := Tryz.f66) (by kernel_rfl) (by kernel_rfl) rfl (by kernel_rfl) (fun x => (FD.fn_eq _ _).trans (by kernel_rfl))
end
end Go.Proofs.YtejehchbflmofaaGreatDoor
end

section
/-
YtejehchbflmofaaGreatDoor: signalbench.signalbenchref49.wrong, as one plain function, its equations, its contract. No condition.
-/
set_option maxRecDepth 100000
set_option linter.unusedVariables false
set_option maxHeartbeats 4000000
open Go Go.AM
namespace Go.Proofs.YtejehchbflmofaaGreatDoor
noncomputable section
def ref49_wrong_F6 : FSh := ⟨[(0, .one (.sl (.cons (.int .i64) (.cons .str (.cons .str (.cons .bool (.cons (.int .i64) (.int .i64)))))))), (3, .one (.int .i64))], []⟩
def ref49_wrong_D : FD := ⟨T, lookC [(43, fc43), (56, fc56), (66, fc66)], [], (Tryz.f34.body.getD .skip), Tryz.f34.results.toList, ⟨[.one (.sl (.cons (.int .i64) (.cons .str (.cons .str (.cons .bool (.cons (.int .i64) (.int .i64)))))))], []⟩, ⟨[.one (.int .i64)], []⟩, [(6, ref49_wrong_F6)]⟩
def ref49_wrong_l6 (l : (List TLimit)) (i : Int) : (Option ((Int × Unit) × Unit)) := ref49_wrong_D.lab 6 ref49_wrong_F6 ((l, i, ()), ())
theorem ref49_wrong_l6_eq (l : (List TLimit)) (i : Int) : ref49_wrong_l6 l i =
  if (decide (i < (l.length : Int))) = true then
    if 0 ≤ i ∧ i < (l.length : Int) then
      (ref49_bad (l.getD i.toNat dLimit)).bind fun y1 =>
        if y1.1.1 = true then
          some ((1, ()), ())
        else
          if 0 ≤ i ∧ i < (l.length : Int) then
            (ref05_Name (l.getD i.toNat dLimit).2.1).bind fun y2 =>
              if (!y2.1.1) = true then
                some ((4, ()), ())
              else
                if 0 ≤ i ∧ i < (l.length : Int) then
                  (ref49_clocked (l.getD i.toNat dLimit)).bind fun y3 =>
                    if y3.1.1 = true then
                      if 0 ≤ i ∧ i < (l.length : Int) then
                        (ref05_Name (l.getD i.toNat dLimit).2.2.1).bind fun y4 =>
                          if (!y4.1.1) = true then
                            some ((4, ()), ())
                          else
                            ref49_wrong_l6 l (IntKind.i64.wrap (i + 1))
                      else
                        none
                    else
                      ref49_wrong_l6 l (IntKind.i64.wrap (i + 1))
                else
                  none
          else
            none
    else
      none
  else
    some ((0, ()), ()) := (FD.lab_eq _ _ _ _).trans (by kernel_rfl)
def ref49_wrong (l : (List TLimit)) : (Option ((Int × Unit) × Unit)) :=
  if (decide ((l.length : Int) > 64)) = true then
    some ((6, ()), ())
  else
    ref49_wrong_l6 l 0
def fc34 : FC := ⟨⟨[.one (.sl (.cons (.int .i64) (.cons .str (.cons .str (.cons .bool (.cons (.int .i64) (.int .i64)))))))], []⟩, ⟨[.one (.int .i64)], []⟩, fun x => ref49_wrong x.1.1⟩
theorem con34 : Contract Tryz.prog 34 fc34 :=
  ref49_wrong_D.contract tok (cok_of (l := [(43, fc43), (56, fc56), (66, fc66)]) ⟨con43, con56, con66, trivial⟩) mixed (fn' := Tryz.f34) (by kernel_rfl) (by kernel_rfl) rfl (by kernel_rfl) (fun x => (FD.fn_eq _ _).trans (by kernel_rfl))
end
end Go.Proofs.YtejehchbflmofaaGreatDoor
end

section
/-
YtejehchbflmofaaGreatDoor: signalbench.signalbenchref05.Right, as one plain function, its equations, its contract. No condition.
-/
set_option maxRecDepth 100000
set_option linter.unusedVariables false
set_option maxHeartbeats 4000000
open Go Go.AM
namespace Go.Proofs.YtejehchbflmofaaGreatDoor
noncomputable section
def ref05_Right_D : FD := ⟨T, lookC [(66, fc66), (106, fc106), (107, fc107)], [], (Tryz.f67.body.getD .skip), Tryz.f67.results.toList, ⟨[.row (.cons (.int .i64) (.cons .str (.cons (.int .i64) (.int .i64))))], []⟩, ⟨[.one .bool], []⟩, []⟩
def ref05_Right (t : TToken) : (Option ((Bool × Unit) × Unit)) :=
  if (t.1 == 2) = true then
    (ref05_Number t.2.1).bind fun y1 =>
      if (y1.1.2.1 == 0) = true then
        some ((y1.1.1 == t.2.2.1, ()), ())
      else
        some ((false, ()), ())
  else
    if (t.2.2.1 != 0) = true then
      some ((false, ()), ())
    else
      if (t.1 == 1) = true then
        (ref05_Name t.2.1).bind fun y2 =>
          some ((y2.1.1, ()), ())
      else
        if (t.1 == 4) = true then
          if ((t.2.1.size : Int) == 1) = true then
            if 0 ≤ (0 : Int) ∧ 0 < (t.2.1.size : Int) then
              (ref05_Mark (bt t.2.1 0)).bind fun y3 =>
                some ((y3.1.1, ()), ())
            else
              none
          else
            some ((false, ()), ())
        else
          some ((t.1 == 3, ()), ())
def fc67 : FC := ⟨⟨[.row (.cons (.int .i64) (.cons .str (.cons (.int .i64) (.int .i64))))], []⟩, ⟨[.one .bool], []⟩, fun x => ref05_Right x.1.1⟩
theorem con67 : Contract Tryz.prog 67 fc67 :=
  ref05_Right_D.contract tok (cok_of (l := [(66, fc66), (106, fc106), (107, fc107)]) ⟨con66, con106, con107, trivial⟩) mixed (fn' := Tryz.f67) (by kernel_rfl) (by kernel_rfl) rfl (by kernel_rfl) (fun x => (FD.fn_eq _ _).trans (by kernel_rfl))
end
end Go.Proofs.YtejehchbflmofaaGreatDoor
end

section
/-
YtejehchbflmofaaGreatDoor: signalbench.signalbenchref05.written, as one plain function, its equations, its contract. No condition.
-/
set_option maxRecDepth 100000
set_option linter.unusedVariables false
set_option maxHeartbeats 4000000
open Go Go.AM
namespace Go.Proofs.YtejehchbflmofaaGreatDoor
noncomputable section
def ref05_written_D : FD := ⟨T, lookC [(108, fc108), (109, fc109)], [], (Tryz.f68.body.getD .skip), Tryz.f68.results.toList, ⟨[.row (.cons (.int .i64) (.cons .str (.cons (.int .i64) (.int .i64))))], []⟩, ⟨[.one .str], []⟩, []⟩
def ref05_written (t : TToken) : (Option ((ByteArray × Unit) × Unit)) :=
  if (t.1 == 2) = true then
    (ref05_Decimal t.2.2.1).bind fun y1 =>
      some ((y1.1.1, ()), ())
  else
    if (t.1 == 3) = true then
      (ref05_Quote t.2.1).bind fun y2 =>
        some ((y2.1.1, ()), ())
    else
      some ((t.2.1, ()), ())
def fc68 : FC := ⟨⟨[.row (.cons (.int .i64) (.cons .str (.cons (.int .i64) (.int .i64))))], []⟩, ⟨[.one .str], []⟩, fun x => ref05_written x.1.1⟩
theorem con68 : Contract Tryz.prog 68 fc68 :=
  ref05_written_D.contract tok (cok_of (l := [(108, fc108), (109, fc109)]) ⟨con108, con109, trivial⟩) mixed (fn' := Tryz.f68) (by kernel_rfl) (by kernel_rfl) rfl (by kernel_rfl) (fun x => (FD.fn_eq _ _).trans (by kernel_rfl))
end
end Go.Proofs.YtejehchbflmofaaGreatDoor
end

section
/-
YtejehchbflmofaaGreatDoor: signalbench.signalbenchref05.Text, as one plain function, its equations, its contract. No condition.
-/
set_option maxRecDepth 100000
set_option linter.unusedVariables false
set_option maxHeartbeats 4000000
open Go Go.AM
namespace Go.Proofs.YtejehchbflmofaaGreatDoor
noncomputable section
def ref05_Text_F3 : FSh := ⟨[(0, .one (.sl (.cons (.int .i64) (.cons .str (.cons (.int .i64) (.int .i64)))))), (4, .one (.int .i64))], []⟩
def ref05_Text_F12 : FSh := ⟨[(0, .one (.sl (.cons (.int .i64) (.cons .str (.cons (.int .i64) (.int .i64)))))), (5, .one (.own 0)), (6, .one (.int .i64))], [.arr 5 (.int .u8) true]⟩
def ref05_Text_F16 : FSh := ⟨[(0, .one (.sl (.cons (.int .i64) (.cons .str (.cons (.int .i64) (.int .i64)))))), (5, .one (.own 0)), (6, .one (.int .i64))], [.arr 5 (.int .u8) true]⟩
def ref05_Text_D : FD := ⟨T, lookC [(67, fc67), (68, fc68)], [16], (Tryz.f35.body.getD .skip), Tryz.f35.results.toList, ⟨[.one (.sl (.cons (.int .i64) (.cons .str (.cons (.int .i64) (.int .i64)))))], []⟩, ⟨[.one .str, .one (.int .i64)], []⟩, [(3, ref05_Text_F3), (12, ref05_Text_F12), (16, ref05_Text_F16)]⟩
def ref05_Text_l3 (l : (List TToken)) (i : Int) : (Option ((ByteArray × Int × Unit) × Unit)) := ref05_Text_D.lab 3 ref05_Text_F3 ((l, i, ()), ())
def ref05_Text_l12 (l : (List TToken)) (i : Int) (l0 : (List Int)) : (Option ((ByteArray × Int × Unit) × Unit)) := ref05_Text_D.lab 12 ref05_Text_F12 ((l, (), i, ()), (l0, ()))
def ref05_Text_l16 (l : (List TToken)) (i : Int) (l0 : (List Int)) : (Option ((ByteArray × Int × Unit) × Unit)) := ref05_Text_D.lab 16 ref05_Text_F16 ((l, (), i, ()), (l0, ()))
theorem ref05_Text_l3_eq (l : (List TToken)) (i : Int) : ref05_Text_l3 l i =
  if (decide (i < (l.length : Int))) = true then
    if 0 ≤ i ∧ i < (l.length : Int) then
      (ref05_Right (l.getD i.toNat dToken)).bind fun y1 =>
        if (!y1.1.1) = true then
          some (((strB []), 1, ()), ())
        else
          ref05_Text_l3 l (IntKind.i64.wrap (i + 1))
    else
      none
  else
    ref05_Text_l12 l 0 [] := (FD.lab_eq _ _ _ _).trans (by kernel_rfl)
theorem ref05_Text_l12_eq (l : (List TToken)) (i : Int) (l0 : (List Int)) : ref05_Text_l12 l i l0 =
  if (decide (i < (l.length : Int))) = true then
    if (decide (i > 0)) = true then
      if (l0.length + 1) * 1 ≤ 140737488355328 ∧ 0 < 1 then
        ref05_Text_l16 l i (l0 ++ [32])
      else
        none
    else
      ref05_Text_l16 l i l0
  else
    some ((strOfBytes l0, 0, ()), ()) := (FD.lab_eq _ _ _ _).trans (by kernel_rfl)
theorem ref05_Text_l16_eq (l : (List TToken)) (i : Int) (l0 : (List Int)) : ref05_Text_l16 l i l0 =
  if 0 ≤ i ∧ i < (l.length : Int) then
    (ref05_written (l.getD i.toNat dToken)).bind fun y1 =>
      if (l0.length + (bytesOfStr y1.1.1).length) * 1 ≤ 140737488355328 ∧ 0 < 1 then
        if (decide (((l0 ++ (bytesOfStr y1.1.1)).length : Int) > 1048576)) = true then
          some (((strB []), 6, ()), ())
        else
          ref05_Text_l12 l (IntKind.i64.wrap (i + 1)) (l0 ++ (bytesOfStr y1.1.1))
      else
        none
  else
    none := (FD.lab_eq _ _ _ _).trans (by kernel_rfl)
def ref05_Text (l : (List TToken)) : (Option ((ByteArray × Int × Unit) × Unit)) :=
  ref05_Text_l3 l 0
def fc35 : FC := ⟨⟨[.one (.sl (.cons (.int .i64) (.cons .str (.cons (.int .i64) (.int .i64)))))], []⟩, ⟨[.one .str, .one (.int .i64)], []⟩, fun x => ref05_Text x.1.1⟩
theorem con35 : Contract Tryz.prog 35 fc35 :=
  ref05_Text_D.contract tok (cok_of (l := [(67, fc67), (68, fc68)]) ⟨con67, con68, trivial⟩) mixed (fn' := Tryz.f35) (by kernel_rfl) (by kernel_rfl) rfl (by kernel_rfl) (fun x => (FD.fn_eq _ _).trans (by kernel_rfl))
end
end Go.Proofs.YtejehchbflmofaaGreatDoor
end

section
/-
YtejehchbflmofaaGreatDoor: signalbench.signalbenchref49.word, as one plain function, its equations, its contract. No condition.
-/
set_option maxRecDepth 100000
set_option linter.unusedVariables false
set_option maxHeartbeats 4000000
open Go Go.AM
namespace Go.Proofs.YtejehchbflmofaaGreatDoor
noncomputable section
def ref49_word_D : FD := ⟨T, lookC [], [], (Tryz.f69.body.getD .skip), Tryz.f69.results.toList, ⟨[.one .str], []⟩, ⟨[.row (.cons (.int .i64) (.cons .str (.cons (.int .i64) (.int .i64))))], []⟩, []⟩
def ref49_word (s : ByteArray) : (Option ((TToken × Unit) × Unit)) :=
  some (((1, s, 0, 0), ()), ())
def fc69 : FC := ⟨⟨[.one .str], []⟩, ⟨[.row (.cons (.int .i64) (.cons .str (.cons (.int .i64) (.int .i64))))], []⟩, fun x => ref49_word x.1.1⟩
theorem con69 : Contract Tryz.prog 69 fc69 :=
  ref49_word_D.contract tok (cok_of (l := []) trivial) mixed (fn' := Tryz.f69) (by kernel_rfl) (by kernel_rfl) rfl (by kernel_rfl) (fun x => (FD.fn_eq _ _).trans (by kernel_rfl))
end
end Go.Proofs.YtejehchbflmofaaGreatDoor
end

section
/-
YtejehchbflmofaaGreatDoor: signalbench.signalbenchref49.measures, as one plain function, its equations, its contract. No condition.
-/
set_option maxRecDepth 100000
set_option linter.unusedVariables false
set_option maxHeartbeats 4000000
open Go Go.AM
namespace Go.Proofs.YtejehchbflmofaaGreatDoor
noncomputable section
def ref49_measures_D : FD := ⟨T, lookC [], [], (Tryz.f70.body.getD .skip), Tryz.f70.results.toList, ⟨[], []⟩, ⟨[.one (.sl .str)], []⟩, []⟩
def ref49_measures : (Option (((List ByteArray) × Unit) × Unit)) :=
  some (([(strB [112, 101, 114, 105, 111, 100]), (strB [104, 105, 103, 104]), (strB [108, 111, 119]), (strB [115, 101, 116, 117, 112]), (strB [104, 111, 108, 100]), (strB [100, 101, 108, 97, 121])], ()), ())
def fc70 : FC := ⟨⟨[], []⟩, ⟨[.one (.sl .str)], []⟩, fun x => ref49_measures⟩
theorem con70 : Contract Tryz.prog 70 fc70 :=
  ref49_measures_D.contract tok (cok_of (l := []) trivial) mixed (fn' := Tryz.f70) (by kernel_rfl) (by kernel_rfl) rfl (by kernel_rfl) (fun x => (FD.fn_eq _ _).trans (by kernel_rfl))
end
end Go.Proofs.YtejehchbflmofaaGreatDoor
end

section
/-
YtejehchbflmofaaGreatDoor: signalbench.signalbenchref49.number, as one plain function, its equations, its contract. No condition.
-/
set_option maxRecDepth 100000
set_option linter.unusedVariables false
set_option maxHeartbeats 4000000
open Go Go.AM
namespace Go.Proofs.YtejehchbflmofaaGreatDoor
noncomputable section
def ref49_number_D : FD := ⟨T, lookC [(110, fc110)], [], (Tryz.f71.body.getD .skip), Tryz.f71.results.toList, ⟨[.one (.int .i64)], []⟩, ⟨[.row (.cons (.int .i64) (.cons .str (.cons (.int .i64) (.int .i64))))], []⟩, []⟩
def ref49_number (n : Int) : (Option ((TToken × Unit) × Unit)) :=
  (ref49_digits n).bind fun y1 =>
    some (((2, y1.1.1, n, 0), ()), ())
def fc71 : FC := ⟨⟨[.one (.int .i64)], []⟩, ⟨[.row (.cons (.int .i64) (.cons .str (.cons (.int .i64) (.int .i64))))], []⟩, fun x => ref49_number x.1.1⟩
theorem con71 : Contract Tryz.prog 71 fc71 :=
  ref49_number_D.contract tok (cok_of (l := [(110, fc110)]) ⟨con110, trivial⟩) mixed (fn' := Tryz.f71) (by kernel_rfl) (by kernel_rfl) rfl (by kernel_rfl) (fun x => (FD.fn_eq _ _).trans (by kernel_rfl))
end
end Go.Proofs.YtejehchbflmofaaGreatDoor
end

section
/-
YtejehchbflmofaaGreatDoor: signalbench.signalbenchref49.mark, as one plain function, its equations, its contract. No condition.
-/
set_option maxRecDepth 100000
set_option linter.unusedVariables false
set_option maxHeartbeats 4000000
open Go Go.AM
namespace Go.Proofs.YtejehchbflmofaaGreatDoor
noncomputable section
def ref49_mark_D : FD := ⟨T, lookC [], [], (Tryz.f72.body.getD .skip), Tryz.f72.results.toList, ⟨[.one .str], []⟩, ⟨[.row (.cons (.int .i64) (.cons .str (.cons (.int .i64) (.int .i64))))], []⟩, []⟩
def ref49_mark (s : ByteArray) : (Option ((TToken × Unit) × Unit)) :=
  some (((4, s, 0, 0), ()), ())
def fc72 : FC := ⟨⟨[.one .str], []⟩, ⟨[.row (.cons (.int .i64) (.cons .str (.cons (.int .i64) (.int .i64))))], []⟩, fun x => ref49_mark x.1.1⟩
theorem con72 : Contract Tryz.prog 72 fc72 :=
  ref49_mark_D.contract tok (cok_of (l := []) trivial) mixed (fn' := Tryz.f72) (by kernel_rfl) (by kernel_rfl) rfl (by kernel_rfl) (fun x => (FD.fn_eq _ _).trans (by kernel_rfl))
end
end Go.Proofs.YtejehchbflmofaaGreatDoor
end

section
/-
YtejehchbflmofaaGreatDoor: signalbench.signalbenchref49.Tokens, as one plain function, its equations, its contract. No condition.
-/
set_option maxRecDepth 100000
set_option linter.unusedVariables false
set_option maxHeartbeats 4000000
open Go Go.AM
namespace Go.Proofs.YtejehchbflmofaaGreatDoor
noncomputable section
def ref49_Tokens_F4 : FSh := ⟨[(0, .one (.sl (.cons (.int .i64) (.cons .str (.cons .str (.cons .bool (.cons (.int .i64) (.int .i64)))))))), (3, .one (.own 0)), (4, .one (.int .i64))], [.arr 63 (.cons (.int .i64) (.cons .str (.cons (.int .i64) (.int .i64)))) true]⟩
def ref49_Tokens_F10 : FSh := ⟨[(0, .one (.sl (.cons (.int .i64) (.cons .str (.cons .str (.cons .bool (.cons (.int .i64) (.int .i64)))))))), (3, .one (.own 0)), (4, .one (.int .i64)), (5, .one (.ptr 1 0))], [.arr 63 (.cons (.int .i64) (.cons .str (.cons (.int .i64) (.int .i64)))) true, .boxr 46 (.cons (.int .i64) (.cons .str (.cons .str (.cons .bool (.cons (.int .i64) (.int .i64))))))]⟩
def ref49_Tokens_D : FD := ⟨T, lookC [(43, fc43), (69, fc69), (70, fc70), (71, fc71), (72, fc72)], [10], (Tryz.f36.body.getD .skip), Tryz.f36.results.toList, ⟨[.one (.sl (.cons (.int .i64) (.cons .str (.cons .str (.cons .bool (.cons (.int .i64) (.int .i64)))))))], []⟩, ⟨[.one (.sl (.cons (.int .i64) (.cons .str (.cons (.int .i64) (.int .i64)))))], []⟩, [(4, ref49_Tokens_F4), (10, ref49_Tokens_F10)]⟩
def ref49_Tokens_l4 (l : (List TLimit)) (i : Int) (l0 : (List TToken)) : (Option (((List TToken) × Unit) × Unit)) := ref49_Tokens_D.lab 4 ref49_Tokens_F4 ((l, (), i, ()), (l0, ()))
def ref49_Tokens_l10 (l : (List TLimit)) (i : Int) (l0 : (List TToken)) (h1 : TLimit) : (Option (((List TToken) × Unit) × Unit)) := ref49_Tokens_D.lab 10 ref49_Tokens_F10 ((l, (), i, (), ()), (l0, h1, ()))
theorem ref49_Tokens_l4_eq (l : (List TLimit)) (i : Int) (l0 : (List TToken)) : ref49_Tokens_l4 l i l0 =
  if (decide (i < (l.length : Int))) = true then
    if 0 ≤ i ∧ i < (l.length : Int) then
      (ref49_measures).bind fun y1 =>
        if 0 ≤ IntKind.i64.wrap ((l.getD i.toNat dLimit).1 - 1) ∧ IntKind.i64.wrap ((l.getD i.toNat dLimit).1 - 1) < (y1.1.1.length : Int) then
          (ref49_word (y1.1.1.getD (IntKind.i64.wrap ((l.getD i.toNat dLimit).1 - 1)).toNat (strB []))).bind fun y2 =>
            (ref49_word (l.getD i.toNat dLimit).2.1).bind fun y3 =>
              if (l0.length + 2) * 40 ≤ 140737488355328 ∧ 0 < 40 then
                (ref49_clocked (l.getD i.toNat dLimit)).bind fun y4 =>
                  if y4.1.1 = true then
                    (ref49_word (l.getD i.toNat dLimit).2.2.1).bind fun y5 =>
                      if ((l0 ++ [y2.1.1, y3.1.1]).length + 1) * 40 ≤ 140737488355328 ∧ 0 < 40 then
                        if (l.getD i.toNat dLimit).2.2.2.1 = true then
                          (ref49_word (strB [114, 105, 115, 101])).bind fun y6 =>
                            if (((l0 ++ [y2.1.1, y3.1.1]) ++ [y5.1.1]).length + 1) * 40 ≤ 140737488355328 ∧ 0 < 40 then
                              ref49_Tokens_l10 l i (((l0 ++ [y2.1.1, y3.1.1]) ++ [y5.1.1]) ++ [y6.1.1]) (l.getD i.toNat dLimit)
                            else
                              none
                        else
                          (ref49_word (strB [102, 97, 108, 108])).bind fun y7 =>
                            if (((l0 ++ [y2.1.1, y3.1.1]) ++ [y5.1.1]).length + 1) * 40 ≤ 140737488355328 ∧ 0 < 40 then
                              ref49_Tokens_l10 l i (((l0 ++ [y2.1.1, y3.1.1]) ++ [y5.1.1]) ++ [y7.1.1]) (l.getD i.toNat dLimit)
                            else
                              none
                      else
                        none
                  else
                    ref49_Tokens_l10 l i (l0 ++ [y2.1.1, y3.1.1]) (l.getD i.toNat dLimit)
              else
                none
        else
          none
    else
      none
  else
    some ((l0, ()), ()) := (FD.lab_eq _ _ _ _).trans (by kernel_rfl)
theorem ref49_Tokens_l10_eq (l : (List TLimit)) (i : Int) (l0 : (List TToken)) (h1 : TLimit) : ref49_Tokens_l10 l i l0 h1 =
  (ref49_number h1.2.2.2.2.1).bind fun y1 =>
    (ref49_mark (strB [46])).bind fun y2 =>
      (ref49_mark (strB [46])).bind fun y3 =>
        (ref49_number h1.2.2.2.2.2).bind fun y4 =>
          (ref49_mark (strB [59])).bind fun y5 =>
            if (l0.length + 5) * 40 ≤ 140737488355328 ∧ 0 < 40 then
              ref49_Tokens_l4 l (IntKind.i64.wrap (i + 1)) (l0 ++ [y1.1.1, y2.1.1, y3.1.1, y4.1.1, y5.1.1])
            else
              none := (FD.lab_eq _ _ _ _).trans (by kernel_rfl)
def ref49_Tokens (l : (List TLimit)) : (Option (((List TToken) × Unit) × Unit)) :=
  ref49_Tokens_l4 l 0 []
def fc36 : FC := ⟨⟨[.one (.sl (.cons (.int .i64) (.cons .str (.cons .str (.cons .bool (.cons (.int .i64) (.int .i64)))))))], []⟩, ⟨[.one (.sl (.cons (.int .i64) (.cons .str (.cons (.int .i64) (.int .i64)))))], []⟩, fun x => ref49_Tokens x.1.1⟩
theorem con36 : Contract Tryz.prog 36 fc36 :=
  ref49_Tokens_D.contract tok (cok_of (l := [(43, fc43), (69, fc69), (70, fc70), (71, fc71), (72, fc72)]) ⟨con43, con69, con70, con71, con72, trivial⟩) mixed (fn' := Tryz.f36) (by kernel_rfl) (by kernel_rfl) rfl (by kernel_rfl) (fun x => (FD.fn_eq _ _).trans (by kernel_rfl))
end
end Go.Proofs.YtejehchbflmofaaGreatDoor
end

section
/-
YtejehchbflmofaaGreatDoor: signalbench.signalbenchref49.Print, as one plain function, its equations, its contract. No condition.
-/
set_option maxRecDepth 100000
set_option linter.unusedVariables false
set_option maxHeartbeats 4000000
open Go Go.AM
namespace Go.Proofs.YtejehchbflmofaaGreatDoor
noncomputable section
def ref49_Print_D : FD := ⟨T, lookC [(34, fc34), (35, fc35), (36, fc36)], [], (Tryz.f13.body.getD .skip), Tryz.f13.results.toList, ⟨[.one (.sl (.cons (.int .i64) (.cons .str (.cons .str (.cons .bool (.cons (.int .i64) (.int .i64)))))))], []⟩, ⟨[.one .str, .one (.int .i64)], []⟩, []⟩
def ref49_Print (l : (List TLimit)) : (Option ((ByteArray × Int × Unit) × Unit)) :=
  (ref49_wrong l).bind fun y1 =>
    if (y1.1.1 != 0) = true then
      some (((strB []), y1.1.1, ()), ())
    else
      (ref49_Tokens l).bind fun y2 =>
        (ref05_Text y2.1.1).bind fun y3 =>
          some ((y3.1.1, y3.1.2.1, ()), ())
def fc13 : FC := ⟨⟨[.one (.sl (.cons (.int .i64) (.cons .str (.cons .str (.cons .bool (.cons (.int .i64) (.int .i64)))))))], []⟩, ⟨[.one .str, .one (.int .i64)], []⟩, fun x => ref49_Print x.1.1⟩
theorem con13 : Contract Tryz.prog 13 fc13 :=
  ref49_Print_D.contract tok (cok_of (l := [(34, fc34), (35, fc35), (36, fc36)]) ⟨con34, con35, con36, trivial⟩) mixed (fn' := Tryz.f13) (by kernel_rfl) (by kernel_rfl) rfl (by kernel_rfl) (fun x => (FD.fn_eq _ _).trans (by kernel_rfl))
end
end Go.Proofs.YtejehchbflmofaaGreatDoor
end

section
/-
YtejehchbflmofaaGreatDoor: signalbench.lex.take, as one plain function, its equations, its contract. No condition.
-/
set_option maxRecDepth 100000
set_option linter.unusedVariables false
set_option maxHeartbeats 4000000
open Go Go.AM
namespace Go.Proofs.YtejehchbflmofaaGreatDoor
noncomputable section
def lex_take_D : FD := ⟨T, lookC [(27, fc27), (58, fc58), (98, fc98), (100, fc100), (102, fc102), (112, fc112), (113, fc113), (114, fc114)], [], (Tryz.f74.body.getD .skip), Tryz.f74.results.toList, ⟨[.one .str], []⟩, ⟨[.row (.cons (.int .i64) (.cons .str (.cons (.int .i64) (.int .i64)))), .one (.int .i64), .one (.int .i64)], []⟩, []⟩
def lex_take (s : ByteArray) : (Option ((TToken × Int × Int × Unit) × Unit)) :=
  if 0 ≤ (0 : Int) ∧ 0 < (s.size : Int) then
    (lex_letter (IntKind.i32.wrap (bt s 0))).bind fun y1 =>
      if y1.1.1 = true then
        (lex_words s).bind fun y2 =>
          if 0 ≤ (0 : Int) ∧ (0 : Int) ≤ y2.1.1 ∧ y2.1.1 ≤ (s.size : Int) then
            (lex_Name (s.extract 0 y2.1.1.toNat)).bind fun y3 =>
              if (!y3.1.1) = true then
                some (((0, (strB []), 0, 0), 0, 4, ()), ())
              else
                if 0 ≤ (0 : Int) ∧ (0 : Int) ≤ y2.1.1 ∧ y2.1.1 ≤ (s.size : Int) then
                  some (((1, s.extract 0 y2.1.1.toNat, 0, 0), y2.1.1, 0, ()), ())
                else
                  none
          else
            none
      else
        (lex_digit (IntKind.i32.wrap (bt s 0))).bind fun y4 =>
          if y4.1.1 = true then
            if 0 ≤ (1 : Int) ∧ 1 ≤ (s.size : Int) then
              (lex_words (s.extract 1 s.size)).bind fun y5 =>
                if 0 ≤ (0 : Int) ∧ (0 : Int) ≤ IntKind.i64.wrap (1 + y5.1.1) ∧ IntKind.i64.wrap (1 + y5.1.1) ≤ (s.size : Int) then
                  (lex_Number (s.extract 0 (IntKind.i64.wrap (1 + y5.1.1)).toNat)).bind fun y6 =>
                    if 0 ≤ (0 : Int) ∧ (0 : Int) ≤ IntKind.i64.wrap (1 + y5.1.1) ∧ IntKind.i64.wrap (1 + y5.1.1) ≤ (s.size : Int) then
                      some (((2, s.extract 0 (IntKind.i64.wrap (1 + y5.1.1)).toNat, y6.1.1, 0), IntKind.i64.wrap (1 + y5.1.1), y6.1.2.1, ()), ())
                    else
                      none
                else
                  none
            else
              none
          else
            if ((IntKind.i32.wrap (bt s 0)) == 45) = true then
              if 0 ≤ (1 : Int) ∧ 1 ≤ (s.size : Int) then
                (lex_words (s.extract 1 s.size)).bind fun y7 =>
                  if 0 ≤ (0 : Int) ∧ (0 : Int) ≤ IntKind.i64.wrap (1 + y7.1.1) ∧ IntKind.i64.wrap (1 + y7.1.1) ≤ (s.size : Int) then
                    (lex_Number (s.extract 0 (IntKind.i64.wrap (1 + y7.1.1)).toNat)).bind fun y8 =>
                      if 0 ≤ (0 : Int) ∧ (0 : Int) ≤ IntKind.i64.wrap (1 + y7.1.1) ∧ IntKind.i64.wrap (1 + y7.1.1) ≤ (s.size : Int) then
                        some (((2, s.extract 0 (IntKind.i64.wrap (1 + y7.1.1)).toNat, y8.1.1, 0), IntKind.i64.wrap (1 + y7.1.1), y8.1.2.1, ()), ())
                      else
                        none
                  else
                    none
              else
                none
            else
              if ((IntKind.i32.wrap (bt s 0)) == 34) = true then
                (lex_quoted s).bind fun y9 =>
                  if 0 ≤ (0 : Int) ∧ (0 : Int) ≤ y9.1.1 ∧ y9.1.1 ≤ (s.size : Int) then
                    (lex_Unquote (s.extract 0 y9.1.1.toNat)).bind fun y10 =>
                      some (((3, y10.1.1, 0, 0), y9.1.1, y10.1.2.1, ()), ())
                  else
                    none
              else
                (lex_mark (IntKind.i32.wrap (bt s 0))).bind fun y11 =>
                  if y11.1.1 = true then
                    if 0 ≤ (0 : Int) ∧ (0 : Int) ≤ 1 ∧ 1 ≤ (s.size : Int) then
                      some (((4, s.extract 0 1, 0, 0), 1, 0, ()), ())
                    else
                      none
                  else
                    some (((0, (strB []), 0, 0), 0, 4, ()), ())
  else
    none
def fc74 : FC := ⟨⟨[.one .str], []⟩, ⟨[.row (.cons (.int .i64) (.cons .str (.cons (.int .i64) (.int .i64)))), .one (.int .i64), .one (.int .i64)], []⟩, fun x => lex_take x.1.1⟩
theorem con74 : Contract Tryz.prog 74 fc74 :=
  lex_take_D.contract tok (cok_of (l := [(27, fc27), (58, fc58), (98, fc98), (100, fc100), (102, fc102), (112, fc112), (113, fc113), (114, fc114)]) ⟨con27, con58, con98, con100, con102, con112, con113, con114, trivial⟩) mixed (fn' := Tryz.f74) (by kernel_rfl) (by kernel_rfl) rfl (by kernel_rfl) (fun x => (FD.fn_eq _ _).trans (by kernel_rfl))
end
end Go.Proofs.YtejehchbflmofaaGreatDoor
end

section
/-
YtejehchbflmofaaGreatDoor: strings.IndexByte, by the shelf. No condition.
-/
open Go Go.AM
variable [Inhabited ZMem]
namespace Go.Proofs.YtejehchbflmofaaGreatDoor
noncomputable section
def strings_IndexByte (s : ByteArray) (c : Int) : Option ((Int × Unit) × Unit) := some ((Lib.indexByte s.data.toList c.toNat.toUInt8, ()), ())
def fc73 : FC := ⟨⟨[.one .str, .one (.int .u8)], []⟩, ⟨[.one (.int .i64)], []⟩, fun x => strings_IndexByte x.1.1 x.1.2.1⟩
theorem con73 : Contract Tryz.prog 73 fc73 :=
  Contract.still (P := Tryz.prog) (f := 73) (sa := [.one .str, .one (.int .u8)]) (sr := [.one (.int .i64)]) (fn := Tryz.f73) (c := Tryz.f73.body.getD .skip) (by kernel_rfl) (by kernel_rfl) (by kernel_rfl) (g := fun x => some (Lib.indexByte x.1.data.toList x.2.1.toNat.toUInt8, ())) (fun w M G x y vals hI hv hg => by
    obtain ⟨s, c, u⟩ := x
    obtain ⟨vs⟩ := vals
    match vs, hv with
    | [v1, v2], hv =>
      obtain ⟨⟨rfl, _⟩, ⟨rfl, _⟩, _⟩ := hv
      cases hg
      refine (Tryz.strings_IndexByte s c w).mono ?_
      rintro e w' ⟨rfl, rfl⟩
      exact ⟨_, rfl, rfl, rfl, rfl⟩)
end
end Go.Proofs.YtejehchbflmofaaGreatDoor
end

section
/-
YtejehchbflmofaaGreatDoor: signalbench.lex.Tokens, as one plain function, its equations, its contract. No condition.
-/
set_option maxRecDepth 100000
set_option linter.unusedVariables false
set_option maxHeartbeats 4000000
open Go Go.AM
namespace Go.Proofs.YtejehchbflmofaaGreatDoor
noncomputable section
def lex_Tokens_F7 : FSh := ⟨[(0, .one .str), (5, .one (.own 0)), (6, .one (.int .i64))], [.arr 63 (.cons (.int .i64) (.cons .str (.cons (.int .i64) (.int .i64)))) true]⟩
def lex_Tokens_F15 : FSh := ⟨[(0, .one .str), (5, .one (.own 0)), (6, .one (.int .i64)), (17, .one (.int .u8)), (24, .one .bool)], [.arr 63 (.cons (.int .i64) (.cons .str (.cons (.int .i64) (.int .i64)))) true]⟩
def lex_Tokens_D : FD := ⟨T, lookC [(73, fc73), (74, fc74)], [15], (Tryz.f37.body.getD .skip), Tryz.f37.results.toList, ⟨[.one .str], []⟩, ⟨[.one (.sl (.cons (.int .i64) (.cons .str (.cons (.int .i64) (.int .i64))))), .one (.int .i64), .one (.int .i64)], []⟩, [(7, lex_Tokens_F7), (15, lex_Tokens_F15)]⟩
def lex_Tokens_l7 (s : ByteArray) (line : Int) (l0 : (List TToken)) : (Option (((List TToken) × Int × Int × Unit) × Unit)) := lex_Tokens_D.lab 7 lex_Tokens_F7 ((s, (), line, ()), (l0, ()))
def lex_Tokens_l15 (s : ByteArray) (line : Int) (t17 : Int) (t24 : Bool) (l0 : (List TToken)) : (Option (((List TToken) × Int × Int × Unit) × Unit)) := lex_Tokens_D.lab 15 lex_Tokens_F15 ((s, (), line, t17, t24, ()), (l0, ()))
theorem lex_Tokens_l7_eq (s : ByteArray) (line : Int) (l0 : (List TToken)) : lex_Tokens_l7 s line l0 =
  if (!(s.toList == (strB []).toList)) = true then
    if 0 ≤ (0 : Int) ∧ 0 < (s.size : Int) then
      if ((bt s 0) == 10) = true then
        if 0 ≤ (1 : Int) ∧ 1 ≤ (s.size : Int) then
          lex_Tokens_l7 (s.extract 1 s.size) (IntKind.i64.wrap (line + 1)) l0
        else
          none
      else
        if ((bt s 0) == 32) = true then
          lex_Tokens_l15 s line (bt s 0) true l0
        else
          lex_Tokens_l15 s line (bt s 0) ((bt s 0) == 9) l0
    else
      none
  else
    some ((l0, 0, 0, ()), ()) := (FD.lab_eq _ _ _ _).trans (by kernel_rfl)
theorem lex_Tokens_l15_eq (s : ByteArray) (line : Int) (t17 : Int) (t24 : Bool) (l0 : (List TToken)) : lex_Tokens_l15 s line t17 t24 l0 =
  if t24 = true then
    if 0 ≤ (1 : Int) ∧ 1 ≤ (s.size : Int) then
      lex_Tokens_l7 (s.extract 1 s.size) line l0
    else
      none
  else
    if (t17 == 35) = true then
      (strings_IndexByte s 10).bind fun y1 =>
        if (decide (y1.1.1 < 0)) = true then
          if 0 ≤ (s.size : Int) ∧ (s.size : Int) ≤ (s.size : Int) then
            lex_Tokens_l7 (s.extract (s.size : Int).toNat s.size) line l0
          else
            none
        else
          if 0 ≤ y1.1.1 ∧ y1.1.1 ≤ (s.size : Int) then
            lex_Tokens_l7 (s.extract y1.1.1.toNat s.size) line l0
          else
            none
    else
      (lex_take s).bind fun y2 =>
        if (y2.1.2.2.1 != 0) = true then
          some (([], line, y2.1.2.2.1, ()), ())
        else
          if (l0.length + 1) * 40 ≤ 140737488355328 ∧ 0 < 40 then
            if 0 ≤ y2.1.2.1 ∧ y2.1.2.1 ≤ (s.size : Int) then
              lex_Tokens_l7 (s.extract y2.1.2.1.toNat s.size) line (l0 ++ [(y2.1.1.1, y2.1.1.2.1, y2.1.1.2.2.1, line)])
            else
              none
          else
            none := (FD.lab_eq _ _ _ _).trans (by kernel_rfl)
def lex_Tokens (s : ByteArray) : (Option (((List TToken) × Int × Int × Unit) × Unit)) :=
  if (decide ((s.size : Int) > 1048576)) = true then
    some (([], 0, 6, ()), ())
  else
    lex_Tokens_l7 s 1 []
def fc37 : FC := ⟨⟨[.one .str], []⟩, ⟨[.one (.sl (.cons (.int .i64) (.cons .str (.cons (.int .i64) (.int .i64))))), .one (.int .i64), .one (.int .i64)], []⟩, fun x => lex_Tokens x.1.1⟩
theorem con37 : Contract Tryz.prog 37 fc37 :=
  lex_Tokens_D.contract tok (cok_of (l := [(73, fc73), (74, fc74)]) ⟨con73, con74, trivial⟩) mixed (fn' := Tryz.f37) (by kernel_rfl) (by kernel_rfl) rfl (by kernel_rfl) (fun x => (FD.fn_eq _ _).trans (by kernel_rfl))
end
end Go.Proofs.YtejehchbflmofaaGreatDoor
end

section
/-
YtejehchbflmofaaGreatDoor: (*signalbench.limit.reader).need, as one plain function, its equations, its contract. No condition.
-/
set_option maxRecDepth 100000
set_option linter.unusedVariables false
set_option maxHeartbeats 4000000
open Go Go.AM
namespace Go.Proofs.YtejehchbflmofaaGreatDoor
noncomputable section
def limit_reader_need_D : FD := ⟨T, lookC [], [], (Tryz.f75.body.getD .skip), Tryz.f75.results.toList, ⟨[.one (.ptr 0 0), .one (.int .i64), .one .str], [.boxr 74 (.cons (.sl (.cons (.int .i64) (.cons .str (.cons (.int .i64) (.int .i64))))) (.cons (.int .i64) (.int .i64)))]⟩, ⟨[.row (.cons (.int .i64) (.cons .str (.cons (.int .i64) (.int .i64))))], [.boxr 74 (.cons (.sl (.cons (.int .i64) (.cons .str (.cons (.int .i64) (.int .i64))))) (.cons (.int .i64) (.int .i64)))]⟩, []⟩
def limit_reader_need (kind : Int) (text : ByteArray) (h0 : Treader) : (Option ((TToken × Unit) × (Treader × Unit))) :=
  if (decide (h0.2.2 > 0)) = true then
    some (((0, (strB []), 0, 0), ()), (h0, ()))
  else
    if (decide (h0.2.1 ≥ (h0.1.length : Int))) = true then
      if 0 ≤ IntKind.i64.wrap ((h0.1.length : Int) - 1) ∧ IntKind.i64.wrap ((h0.1.length : Int) - 1) < (h0.1.length : Int) then
        some (((0, (strB []), 0, 0), ()), ((h0.1, h0.2.1, (h0.1.getD (IntKind.i64.wrap ((h0.1.length : Int) - 1)).toNat dToken).2.2.2), ()))
      else
        none
    else
      if 0 ≤ h0.2.1 ∧ h0.2.1 < (h0.1.length : Int) then
        if ((h0.1.getD h0.2.1.toNat dToken).1 != kind) = true then
          some (((0, (strB []), 0, 0), ()), ((h0.1, h0.2.1, (h0.1.getD h0.2.1.toNat dToken).2.2.2), ()))
        else
          if (!(text.toList == (strB []).toList)) = true then
            if (!((h0.1.getD h0.2.1.toNat dToken).2.1.toList == text.toList)) = true then
              some (((0, (strB []), 0, 0), ()), ((h0.1, h0.2.1, (h0.1.getD h0.2.1.toNat dToken).2.2.2), ()))
            else
              some (((h0.1.getD h0.2.1.toNat dToken), ()), ((h0.1, IntKind.i64.wrap (h0.2.1 + 1), h0.2.2), ()))
          else
            some (((h0.1.getD h0.2.1.toNat dToken), ()), ((h0.1, IntKind.i64.wrap (h0.2.1 + 1), h0.2.2), ()))
      else
        none
def fc75 : FC := ⟨⟨[.one (.ptr 0 0), .one (.int .i64), .one .str], [.boxr 74 (.cons (.sl (.cons (.int .i64) (.cons .str (.cons (.int .i64) (.int .i64))))) (.cons (.int .i64) (.int .i64)))]⟩, ⟨[.row (.cons (.int .i64) (.cons .str (.cons (.int .i64) (.int .i64))))], [.boxr 74 (.cons (.sl (.cons (.int .i64) (.cons .str (.cons (.int .i64) (.int .i64))))) (.cons (.int .i64) (.int .i64)))]⟩, fun x => limit_reader_need x.1.2.1 x.1.2.2.1 x.2.1⟩
theorem con75 : Contract Tryz.prog 75 fc75 :=
  limit_reader_need_D.contract tok (cok_of (l := []) trivial) mixed (fn' := Tryz.f75) (by kernel_rfl) (by kernel_rfl) rfl (by kernel_rfl) (fun x => (FD.fn_eq _ _).trans (by kernel_rfl))
end
end Go.Proofs.YtejehchbflmofaaGreatDoor
end

section
/-
YtejehchbflmofaaGreatDoor: (*signalbench.limit.reader).limit, as one plain function, its equations, its contract. No condition.
-/
set_option maxRecDepth 100000
set_option linter.unusedVariables false
set_option maxHeartbeats 4000000
open Go Go.AM
namespace Go.Proofs.YtejehchbflmofaaGreatDoor
noncomputable section
def limit_reader_limit_F4 : FSh := ⟨[(0, .one (.ptr 0 0)), (2, .one (.ptr 1 0)), (3, .one (.ptr 2 0)), (4, .one (.int .i64))], [.boxr 74 (.cons (.sl (.cons (.int .i64) (.cons .str (.cons (.int .i64) (.int .i64))))) (.cons (.int .i64) (.int .i64))), .boxr 46 (.cons (.int .i64) (.cons .str (.cons .str (.cons .bool (.cons (.int .i64) (.int .i64)))))), .boxr 46 (.cons (.int .i64) (.cons .str (.cons .str (.cons .bool (.cons (.int .i64) (.int .i64))))))]⟩
def limit_reader_limit_F16 : FSh := ⟨[(0, .one (.ptr 0 0)), (2, .one (.ptr 1 0)), (3, .one (.ptr 2 0))], [.boxr 74 (.cons (.sl (.cons (.int .i64) (.cons .str (.cons (.int .i64) (.int .i64))))) (.cons (.int .i64) (.int .i64))), .boxr 46 (.cons (.int .i64) (.cons .str (.cons .str (.cons .bool (.cons (.int .i64) (.int .i64)))))), .boxr 46 (.cons (.int .i64) (.cons .str (.cons .str (.cons .bool (.cons (.int .i64) (.int .i64))))))]⟩
def limit_reader_limit_D : FD := ⟨T, lookC [(28, fc28), (30, fc30), (75, fc75)], [16], (Tryz.f38.body.getD .skip), Tryz.f38.results.toList, ⟨[.one (.ptr 0 0)], [.boxr 74 (.cons (.sl (.cons (.int .i64) (.cons .str (.cons (.int .i64) (.int .i64))))) (.cons (.int .i64) (.int .i64)))]⟩, ⟨[.row (.cons (.int .i64) (.cons .str (.cons .str (.cons .bool (.cons (.int .i64) (.int .i64))))))], [.boxr 74 (.cons (.sl (.cons (.int .i64) (.cons .str (.cons (.int .i64) (.int .i64))))) (.cons (.int .i64) (.int .i64)))]⟩, [(4, limit_reader_limit_F4), (16, limit_reader_limit_F16)]⟩
def limit_reader_limit_l4 (m : Int) (h0 : Treader) (h1 : TLimit) (h2 : TLimit) : (Option ((TLimit × Unit) × (Treader × Unit))) := limit_reader_limit_D.lab 4 limit_reader_limit_F4 (((), (), (), m, ()), (h0, h1, h2, ()))
def limit_reader_limit_l16 (h0 : Treader) (h1 : TLimit) (h2 : TLimit) : (Option ((TLimit × Unit) × (Treader × Unit))) := limit_reader_limit_D.lab 16 limit_reader_limit_F16 (((), (), (), ()), (h0, h1, h2, ()))
theorem limit_reader_limit_l4_eq (m : Int) (h0 : Treader) (h1 : TLimit) (h2 : TLimit) : limit_reader_limit_l4 m h0 h1 h2 =
  if (decide (m ≤ 6)) = true then
    if 0 ≤ h0.2.1 ∧ h0.2.1 < (h0.1.length : Int) then
      if ((h0.1.getD h0.2.1.toNat dToken).1 == 1) = true then
        (limit_word m).bind fun y1 =>
          if ((h0.1.getD h0.2.1.toNat dToken).2.1.toList == y1.1.1.toList) = true then
            limit_reader_limit_l4 (IntKind.i64.wrap (m + 1)) h0 h1 (m, h2.2)
          else
            limit_reader_limit_l4 (IntKind.i64.wrap (m + 1)) h0 h1 h2
      else
        limit_reader_limit_l4 (IntKind.i64.wrap (m + 1)) h0 h1 h2
    else
      none
  else
    if (h2.1 == 0) = true then
      if 0 ≤ h0.2.1 ∧ h0.2.1 < (h0.1.length : Int) then
        some ((h2, ()), ((h0.1, h0.2.1, (h0.1.getD h0.2.1.toNat dToken).2.2.2), ()))
      else
        none
    else
      (limit_reader_need 1 (strB []) (h0.1, IntKind.i64.wrap (h0.2.1 + 1), h0.2.2)).bind fun y2 =>
        (limit_clocked (h2.1, y2.1.1.2.1, h2.2.2)).bind fun y3 =>
          if y3.1.1 = true then
            (limit_reader_need 1 (strB []) y2.2.1).bind fun y4 =>
              (limit_reader_need 1 (strB []) y4.2.1).bind fun y5 =>
                if (y5.2.1.2.2 == 0) = true then
                  if (!(y5.1.1.2.1.toList == (strB [114, 105, 115, 101]).toList)) = true then
                    if (!(y5.1.1.2.1.toList == (strB [102, 97, 108, 108]).toList)) = true then
                      limit_reader_limit_l16 (y5.2.1.1, y5.2.1.2.1, y5.1.1.2.2.2) h1 (h2.1, y2.1.1.2.1, y4.1.1.2.1, y5.1.1.2.1.toList == (strB [114, 105, 115, 101]).toList, h2.2.2.2.2)
                    else
                      limit_reader_limit_l16 y5.2.1 h1 (h2.1, y2.1.1.2.1, y4.1.1.2.1, y5.1.1.2.1.toList == (strB [114, 105, 115, 101]).toList, h2.2.2.2.2)
                  else
                    limit_reader_limit_l16 y5.2.1 h1 (h2.1, y2.1.1.2.1, y4.1.1.2.1, y5.1.1.2.1.toList == (strB [114, 105, 115, 101]).toList, h2.2.2.2.2)
                else
                  limit_reader_limit_l16 y5.2.1 h1 (h2.1, y2.1.1.2.1, y4.1.1.2.1, y5.1.1.2.1.toList == (strB [114, 105, 115, 101]).toList, h2.2.2.2.2)
          else
            limit_reader_limit_l16 y2.2.1 h1 (h2.1, y2.1.1.2.1, h2.2.2) := (FD.lab_eq _ _ _ _).trans (by kernel_rfl)
theorem limit_reader_limit_l16_eq (h0 : Treader) (h1 : TLimit) (h2 : TLimit) : limit_reader_limit_l16 h0 h1 h2 =
  (limit_reader_need 2 (strB []) h0).bind fun y1 =>
    (limit_reader_need 4 (strB [46]) y1.2.1).bind fun y2 =>
      (limit_reader_need 4 (strB [46]) y2.2.1).bind fun y3 =>
        (limit_reader_need 2 (strB []) y3.2.1).bind fun y4 =>
          (limit_reader_need 4 (strB [59]) y4.2.1).bind fun y5 =>
            some (((h2.1, h2.2.1, h2.2.2.1, h2.2.2.2.1, y1.1.1.2.2.1, y4.1.1.2.2.1), ()), (y5.2.1, ())) := (FD.lab_eq _ _ _ _).trans (by kernel_rfl)
def limit_reader_limit (h0 : Treader) : (Option ((TLimit × Unit) × (Treader × Unit))) :=
  limit_reader_limit_l4 1 h0 (0, (strB []), (strB []), false, 0, 0) (0, (strB []), (strB []), false, 0, 0)
def fc38 : FC := ⟨⟨[.one (.ptr 0 0)], [.boxr 74 (.cons (.sl (.cons (.int .i64) (.cons .str (.cons (.int .i64) (.int .i64))))) (.cons (.int .i64) (.int .i64)))]⟩, ⟨[.row (.cons (.int .i64) (.cons .str (.cons .str (.cons .bool (.cons (.int .i64) (.int .i64))))))], [.boxr 74 (.cons (.sl (.cons (.int .i64) (.cons .str (.cons (.int .i64) (.int .i64))))) (.cons (.int .i64) (.int .i64)))]⟩, fun x => limit_reader_limit x.2.1⟩
theorem con38 : Contract Tryz.prog 38 fc38 :=
  limit_reader_limit_D.contract tok (cok_of (l := [(28, fc28), (30, fc30), (75, fc75)]) ⟨con28, con30, con75, trivial⟩) mixed (fn' := Tryz.f38) (by kernel_rfl) (by kernel_rfl) rfl (by kernel_rfl) (fun x => (FD.fn_eq _ _).trans (by kernel_rfl))
end
end Go.Proofs.YtejehchbflmofaaGreatDoor
end

section
/-
YtejehchbflmofaaGreatDoor: signalbench.limit.Parse, as one plain function, its equations, its contract. No condition.
-/
set_option maxRecDepth 100000
set_option linter.unusedVariables false
set_option maxHeartbeats 4000000
open Go Go.AM
namespace Go.Proofs.YtejehchbflmofaaGreatDoor
noncomputable section
def limit_Parse_F8 : FSh := ⟨[(8, .one (.ptr 0 0)), (9, .one (.own 1))], [.boxr 74 (.cons (.sl (.cons (.int .i64) (.cons .str (.cons (.int .i64) (.int .i64))))) (.cons (.int .i64) (.int .i64))), .arr 46 (.cons (.int .i64) (.cons .str (.cons .str (.cons .bool (.cons (.int .i64) (.int .i64)))))) true]⟩
def limit_Parse_D : FD := ⟨T, lookC [(12, fc12), (37, fc37), (38, fc38)], [], (Tryz.f14.body.getD .skip), Tryz.f14.results.toList, ⟨[.one .str], []⟩, ⟨[.one (.sl (.cons (.int .i64) (.cons .str (.cons .str (.cons .bool (.cons (.int .i64) (.int .i64))))))), .one (.int .i64), .one (.int .i64)], []⟩, [(8, limit_Parse_F8)]⟩
def limit_Parse_l8 (h0 : Treader) (l1 : (List TLimit)) : (Option (((List TLimit) × Int × Int × Unit) × Unit)) := limit_Parse_D.lab 8 limit_Parse_F8 (((), (), ()), (h0, l1, ()))
theorem limit_Parse_l8_eq (h0 : Treader) (l1 : (List TLimit)) : limit_Parse_l8 h0 l1 =
  if (decide (h0.2.1 < (h0.1.length : Int))) = true then
    if (h0.2.2 == 0) = true then
      (limit_reader_limit h0).bind fun y1 =>
        if (l1.length + 1) * 64 ≤ 140737488355328 ∧ 0 < 64 then
          limit_Parse_l8 y1.2.1 (l1 ++ [y1.1.1])
        else
          none
    else
      if (decide (h0.2.2 > 0)) = true then
        some (([], h0.2.2, 4, ()), ())
      else
        (limit_Print l1).bind fun y2 =>
          if (y2.1.2.1 != 0) = true then
            some (([], 0, y2.1.2.1, ()), ())
          else
            some ((l1, 0, 0, ()), ())
  else
    if (decide (h0.2.2 > 0)) = true then
      some (([], h0.2.2, 4, ()), ())
    else
      (limit_Print l1).bind fun y3 =>
        if (y3.1.2.1 != 0) = true then
          some (([], 0, y3.1.2.1, ()), ())
        else
          some ((l1, 0, 0, ()), ()) := (FD.lab_eq _ _ _ _).trans (by kernel_rfl)
def limit_Parse (s : ByteArray) : (Option (((List TLimit) × Int × Int × Unit) × Unit)) :=
  (lex_Tokens s).bind fun y1 =>
    if (y1.1.2.2.1 != 0) = true then
      some (([], y1.1.2.1, y1.1.2.2.1, ()), ())
    else
      limit_Parse_l8 (y1.1.1, 0, 0) []
def fc14 : FC := ⟨⟨[.one .str], []⟩, ⟨[.one (.sl (.cons (.int .i64) (.cons .str (.cons .str (.cons .bool (.cons (.int .i64) (.int .i64))))))), .one (.int .i64), .one (.int .i64)], []⟩, fun x => limit_Parse x.1.1⟩
theorem con14 : Contract Tryz.prog 14 fc14 :=
  limit_Parse_D.contract tok (cok_of (l := [(12, fc12), (37, fc37), (38, fc38)]) ⟨con12, con37, con38, trivial⟩) mixed (fn' := Tryz.f14) (by kernel_rfl) (by kernel_rfl) rfl (by kernel_rfl) (fun x => (FD.fn_eq _ _).trans (by kernel_rfl))
end
end Go.Proofs.YtejehchbflmofaaGreatDoor
end

section
/-
YtejehchbflmofaaGreatDoor: signalbench.signalbenchref05.token, as one plain function, its equations, its contract. No condition.
-/
set_option maxRecDepth 100000
set_option linter.unusedVariables false
set_option maxHeartbeats 4000000
open Go Go.AM
namespace Go.Proofs.YtejehchbflmofaaGreatDoor
noncomputable section
def ref05_token_D : FD := ⟨T, lookC [(66, fc66), (104, fc104), (106, fc106), (107, fc107), (115, fc115), (116, fc116), (117, fc117)], [], (Tryz.f76.body.getD .skip), Tryz.f76.results.toList, ⟨[.one .str, .one (.int .i64), .one (.int .i64)], []⟩, ⟨[.row (.cons (.int .i64) (.cons .str (.cons (.int .i64) (.int .i64)))), .one (.int .i64), .one (.int .i64)], []⟩, []⟩
def ref05_token (s : ByteArray) (at_ : Int) (line : Int) : (Option ((TToken × Int × Int × Unit) × Unit)) :=
  if 0 ≤ at_ ∧ at_ < (s.size : Int) then
    (ref05_letter (bt s at_)).bind fun y1 =>
      if y1.1.1 = true then
        (ref05_word s at_).bind fun y2 =>
          if 0 ≤ at_ ∧ at_ ≤ y2.1.1 ∧ y2.1.1 ≤ (s.size : Int) then
            (ref05_Name (s.extract at_.toNat y2.1.1.toNat)).bind fun y3 =>
              if (!y3.1.1) = true then
                some (((0, (strB []), 0, 0), 0, 4, ()), ())
              else
                if 0 ≤ at_ ∧ at_ ≤ y2.1.1 ∧ y2.1.1 ≤ (s.size : Int) then
                  some (((1, s.extract at_.toNat y2.1.1.toNat, 0, line), y2.1.1, 0, ()), ())
                else
                  none
          else
            none
      else
        (ref05_digit (bt s at_)).bind fun y4 =>
          if y4.1.1 = true then
            (ref05_word s at_).bind fun y5 =>
              if 0 ≤ at_ ∧ at_ ≤ y5.1.1 ∧ y5.1.1 ≤ (s.size : Int) then
                (ref05_Number (s.extract at_.toNat y5.1.1.toNat)).bind fun y6 =>
                  if (y6.1.2.1 != 0) = true then
                    some (((0, (strB []), 0, 0), 0, y6.1.2.1, ()), ())
                  else
                    if 0 ≤ at_ ∧ at_ ≤ y5.1.1 ∧ y5.1.1 ≤ (s.size : Int) then
                      some (((2, s.extract at_.toNat y5.1.1.toNat, y6.1.1, line), y5.1.1, 0, ()), ())
                    else
                      none
              else
                none
          else
            if ((bt s at_) == 45) = true then
              (ref05_word s at_).bind fun y7 =>
                if 0 ≤ at_ ∧ at_ ≤ y7.1.1 ∧ y7.1.1 ≤ (s.size : Int) then
                  (ref05_Number (s.extract at_.toNat y7.1.1.toNat)).bind fun y8 =>
                    if (y8.1.2.1 != 0) = true then
                      some (((0, (strB []), 0, 0), 0, y8.1.2.1, ()), ())
                    else
                      if 0 ≤ at_ ∧ at_ ≤ y7.1.1 ∧ y7.1.1 ≤ (s.size : Int) then
                        some (((2, s.extract at_.toNat y7.1.1.toNat, y8.1.1, line), y7.1.1, 0, ()), ())
                      else
                        none
                else
                  none
            else
              if ((bt s at_) == 34) = true then
                (ref05_quoted s at_).bind fun y9 =>
                  if (!y9.1.2.2.1) = true then
                    some (((0, (strB []), 0, 0), 0, 4, ()), ())
                  else
                    some (((3, y9.1.1, 0, line), y9.1.2.1, 0, ()), ())
              else
                (ref05_Mark (bt s at_)).bind fun y10 =>
                  if y10.1.1 = true then
                    if 0 ≤ at_ ∧ at_ ≤ IntKind.i64.wrap (at_ + 1) ∧ IntKind.i64.wrap (at_ + 1) ≤ (s.size : Int) then
                      some (((4, s.extract at_.toNat (IntKind.i64.wrap (at_ + 1)).toNat, 0, line), IntKind.i64.wrap (at_ + 1), 0, ()), ())
                    else
                      none
                  else
                    some (((0, (strB []), 0, 0), 0, 4, ()), ())
  else
    none
def fc76 : FC := ⟨⟨[.one .str, .one (.int .i64), .one (.int .i64)], []⟩, ⟨[.row (.cons (.int .i64) (.cons .str (.cons (.int .i64) (.int .i64)))), .one (.int .i64), .one (.int .i64)], []⟩, fun x => ref05_token x.1.1 x.1.2.1 x.1.2.2.1⟩
theorem con76 : Contract Tryz.prog 76 fc76 :=
  ref05_token_D.contract tok (cok_of (l := [(66, fc66), (104, fc104), (106, fc106), (107, fc107), (115, fc115), (116, fc116), (117, fc117)]) ⟨con66, con104, con106, con107, con115, con116, con117, trivial⟩) mixed (fn' := Tryz.f76) (by kernel_rfl) (by kernel_rfl) rfl (by kernel_rfl) (fun x => (FD.fn_eq _ _).trans (by kernel_rfl))
end
end Go.Proofs.YtejehchbflmofaaGreatDoor
end

section
/-
YtejehchbflmofaaGreatDoor: signalbench.signalbenchref05.Tokens, as one plain function, its equations, its contract. No condition.
-/
set_option maxRecDepth 100000
set_option linter.unusedVariables false
set_option maxHeartbeats 4000000
open Go Go.AM
namespace Go.Proofs.YtejehchbflmofaaGreatDoor
noncomputable section
def ref05_Tokens_F8 : FSh := ⟨[(0, .one .str), (5, .one (.own 0)), (6, .one (.int .i64)), (7, .one (.int .i64))], [.arr 63 (.cons (.int .i64) (.cons .str (.cons (.int .i64) (.int .i64)))) true]⟩
def ref05_Tokens_F16 : FSh := ⟨[(0, .one .str), (5, .one (.own 0)), (6, .one (.int .i64)), (7, .one (.int .i64))], [.arr 63 (.cons (.int .i64) (.cons .str (.cons (.int .i64) (.int .i64)))) true]⟩
def ref05_Tokens_D : FD := ⟨T, lookC [(76, fc76)], [], (Tryz.f39.body.getD .skip), Tryz.f39.results.toList, ⟨[.one .str], []⟩, ⟨[.one (.sl (.cons (.int .i64) (.cons .str (.cons (.int .i64) (.int .i64))))), .one (.int .i64), .one (.int .i64)], []⟩, [(8, ref05_Tokens_F8), (16, ref05_Tokens_F16)]⟩
def ref05_Tokens_l8 (s : ByteArray) (line : Int) (i : Int) (l0 : (List TToken)) : (Option (((List TToken) × Int × Int × Unit) × Unit)) := ref05_Tokens_D.lab 8 ref05_Tokens_F8 ((s, (), line, i, ()), (l0, ()))
def ref05_Tokens_l16 (s : ByteArray) (line : Int) (i : Int) (l0 : (List TToken)) : (Option (((List TToken) × Int × Int × Unit) × Unit)) := ref05_Tokens_D.lab 16 ref05_Tokens_F16 ((s, (), line, i, ()), (l0, ()))
theorem ref05_Tokens_l8_eq (s : ByteArray) (line : Int) (i : Int) (l0 : (List TToken)) : ref05_Tokens_l8 s line i l0 =
  if (decide (i < (s.size : Int))) = true then
    if 0 ≤ i ∧ i < (s.size : Int) then
      if ((bt s i) == 10) = true then
        ref05_Tokens_l8 s (IntKind.i64.wrap (line + 1)) (IntKind.i64.wrap (i + 1)) l0
      else
        if ((bt s i) == 32) = true then
          ref05_Tokens_l8 s line (IntKind.i64.wrap (i + 1)) l0
        else
          if ((bt s i) == 9) = true then
            ref05_Tokens_l8 s line (IntKind.i64.wrap (i + 1)) l0
          else
            if ((bt s i) == 35) = true then
              ref05_Tokens_l16 s line i l0
            else
              (ref05_token s i line).bind fun y1 =>
                if (y1.1.2.2.1 != 0) = true then
                  some (([], line, y1.1.2.2.1, ()), ())
                else
                  if (l0.length + 1) * 40 ≤ 140737488355328 ∧ 0 < 40 then
                    ref05_Tokens_l8 s line y1.1.2.1 (l0 ++ [y1.1.1])
                  else
                    none
    else
      none
  else
    some ((l0, 0, 0, ()), ()) := (FD.lab_eq _ _ _ _).trans (by kernel_rfl)
theorem ref05_Tokens_l16_eq (s : ByteArray) (line : Int) (i : Int) (l0 : (List TToken)) : ref05_Tokens_l16 s line i l0 =
  if (decide (i < (s.size : Int))) = true then
    if 0 ≤ i ∧ i < (s.size : Int) then
      if ((bt s i) != 10) = true then
        ref05_Tokens_l16 s line (IntKind.i64.wrap (i + 1)) l0
      else
        ref05_Tokens_l8 s line i l0
    else
      none
  else
    ref05_Tokens_l8 s line i l0 := (FD.lab_eq _ _ _ _).trans (by kernel_rfl)
def ref05_Tokens (s : ByteArray) : (Option (((List TToken) × Int × Int × Unit) × Unit)) :=
  if (decide ((s.size : Int) > 1048576)) = true then
    some (([], 0, 6, ()), ())
  else
    ref05_Tokens_l8 s 1 0 []
def fc39 : FC := ⟨⟨[.one .str], []⟩, ⟨[.one (.sl (.cons (.int .i64) (.cons .str (.cons (.int .i64) (.int .i64))))), .one (.int .i64), .one (.int .i64)], []⟩, fun x => ref05_Tokens x.1.1⟩
theorem con39 : Contract Tryz.prog 39 fc39 :=
  ref05_Tokens_D.contract tok (cok_of (l := [(76, fc76)]) ⟨con76, trivial⟩) mixed (fn' := Tryz.f39) (by kernel_rfl) (by kernel_rfl) rfl (by kernel_rfl) (fun x => (FD.fn_eq _ _).trans (by kernel_rfl))
end
end Go.Proofs.YtejehchbflmofaaGreatDoor
end

section
/-
YtejehchbflmofaaGreatDoor: signalbench.signalbenchref49.kind, as one plain function, its equations, its contract. No condition.
-/
set_option maxRecDepth 100000
set_option linter.unusedVariables false
set_option maxHeartbeats 4000000
open Go Go.AM
namespace Go.Proofs.YtejehchbflmofaaGreatDoor
noncomputable section
def ref49_kind_D : FD := ⟨T, lookC [], [], (Tryz.f77.body.getD .skip), Tryz.f77.results.toList, ⟨[.one (.sl (.cons (.int .i64) (.cons .str (.cons (.int .i64) (.int .i64))))), .one (.int .i64), .one (.int .i64)], []⟩, ⟨[.one .bool], []⟩, []⟩
def ref49_kind (l : (List TToken)) (at_ : Int) (k0 : Int) : (Option ((Bool × Unit) × Unit)) :=
  if (decide (at_ < (l.length : Int))) = true then
    if 0 ≤ at_ ∧ at_ < (l.length : Int) then
      some (((l.getD at_.toNat dToken).1 == k0, ()), ())
    else
      none
  else
    some ((false, ()), ())
def fc77 : FC := ⟨⟨[.one (.sl (.cons (.int .i64) (.cons .str (.cons (.int .i64) (.int .i64))))), .one (.int .i64), .one (.int .i64)], []⟩, ⟨[.one .bool], []⟩, fun x => ref49_kind x.1.1 x.1.2.1 x.1.2.2.1⟩
theorem con77 : Contract Tryz.prog 77 fc77 :=
  ref49_kind_D.contract tok (cok_of (l := []) trivial) mixed (fn' := Tryz.f77) (by kernel_rfl) (by kernel_rfl) rfl (by kernel_rfl) (fun x => (FD.fn_eq _ _).trans (by kernel_rfl))
end
end Go.Proofs.YtejehchbflmofaaGreatDoor
end

section
/-
YtejehchbflmofaaGreatDoor: signalbench.signalbenchref49.is, as one plain function, its equations, its contract. No condition.
-/
set_option maxRecDepth 100000
set_option linter.unusedVariables false
set_option maxHeartbeats 4000000
open Go Go.AM
namespace Go.Proofs.YtejehchbflmofaaGreatDoor
noncomputable section
def ref49_is_D : FD := ⟨T, lookC [], [], (Tryz.f78.body.getD .skip), Tryz.f78.results.toList, ⟨[.one (.sl (.cons (.int .i64) (.cons .str (.cons (.int .i64) (.int .i64))))), .one (.int .i64), .one .str], []⟩, ⟨[.one .bool], []⟩, []⟩
def ref49_is (l : (List TToken)) (at_ : Int) (s : ByteArray) : (Option ((Bool × Unit) × Unit)) :=
  if (decide (at_ < (l.length : Int))) = true then
    if 0 ≤ at_ ∧ at_ < (l.length : Int) then
      if ((l.getD at_.toNat dToken).1 == 1) = true then
        if 0 ≤ at_ ∧ at_ < (l.length : Int) then
          some (((l.getD at_.toNat dToken).2.1.toList == s.toList, ()), ())
        else
          none
      else
        if 0 ≤ at_ ∧ at_ < (l.length : Int) then
          if ((l.getD at_.toNat dToken).1 == 4) = true then
            if 0 ≤ at_ ∧ at_ < (l.length : Int) then
              some (((l.getD at_.toNat dToken).2.1.toList == s.toList, ()), ())
            else
              none
          else
            some ((false, ()), ())
        else
          none
    else
      none
  else
    some ((false, ()), ())
def fc78 : FC := ⟨⟨[.one (.sl (.cons (.int .i64) (.cons .str (.cons (.int .i64) (.int .i64))))), .one (.int .i64), .one .str], []⟩, ⟨[.one .bool], []⟩, fun x => ref49_is x.1.1 x.1.2.1 x.1.2.2.1⟩
theorem con78 : Contract Tryz.prog 78 fc78 :=
  ref49_is_D.contract tok (cok_of (l := []) trivial) mixed (fn' := Tryz.f78) (by kernel_rfl) (by kernel_rfl) rfl (by kernel_rfl) (fun x => (FD.fn_eq _ _).trans (by kernel_rfl))
end
end Go.Proofs.YtejehchbflmofaaGreatDoor
end

section
/-
YtejehchbflmofaaGreatDoor: signalbench.signalbenchref49.takeRange, as one plain function, its equations, its contract. No condition.
-/
set_option maxRecDepth 100000
set_option linter.unusedVariables false
set_option maxHeartbeats 4000000
open Go Go.AM
namespace Go.Proofs.YtejehchbflmofaaGreatDoor
noncomputable section
def ref49_takeRange_D : FD := ⟨T, lookC [(77, fc77), (78, fc78)], [], (Tryz.f79.body.getD .skip), Tryz.f79.results.toList, ⟨[.one (.sl (.cons (.int .i64) (.cons .str (.cons (.int .i64) (.int .i64))))), .one (.int .i64), .row (.cons (.int .i64) (.cons .str (.cons .str (.cons .bool (.cons (.int .i64) (.int .i64))))))], []⟩, ⟨[.row (.cons (.int .i64) (.cons .str (.cons .str (.cons .bool (.cons (.int .i64) (.int .i64)))))), .one (.int .i64), .one .bool], []⟩, []⟩
def ref49_takeRange (l : (List TToken)) (at_ : Int) (x0 : TLimit) : (Option ((TLimit × Int × Bool × Unit) × Unit)) :=
  (ref49_kind l at_ 2).bind fun y1 =>
    if (!y1.1.1) = true then
      some ((x0, at_, false, ()), ())
    else
      if 0 ≤ at_ ∧ at_ < (l.length : Int) then
        (ref49_is l (IntKind.i64.wrap (at_ + 1)) (strB [46])).bind fun y2 =>
          if (!y2.1.1) = true then
            some (((x0.1, x0.2.1, x0.2.2.1, x0.2.2.2.1, (l.getD at_.toNat dToken).2.2.1, x0.2.2.2.2.2), IntKind.i64.wrap (at_ + 1), false, ()), ())
          else
            (ref49_is l (IntKind.i64.wrap (at_ + 2)) (strB [46])).bind fun y3 =>
              if (!y3.1.1) = true then
                some (((x0.1, x0.2.1, x0.2.2.1, x0.2.2.2.1, (l.getD at_.toNat dToken).2.2.1, x0.2.2.2.2.2), IntKind.i64.wrap (at_ + 2), false, ()), ())
              else
                (ref49_kind l (IntKind.i64.wrap (at_ + 3)) 2).bind fun y4 =>
                  if (!y4.1.1) = true then
                    some (((x0.1, x0.2.1, x0.2.2.1, x0.2.2.2.1, (l.getD at_.toNat dToken).2.2.1, x0.2.2.2.2.2), IntKind.i64.wrap (at_ + 3), false, ()), ())
                  else
                    if 0 ≤ IntKind.i64.wrap (at_ + 3) ∧ IntKind.i64.wrap (at_ + 3) < (l.length : Int) then
                      (ref49_is l (IntKind.i64.wrap (at_ + 4)) (strB [59])).bind fun y5 =>
                        some (((x0.1, x0.2.1, x0.2.2.1, x0.2.2.2.1, (l.getD at_.toNat dToken).2.2.1, (l.getD (IntKind.i64.wrap (at_ + 3)).toNat dToken).2.2.1), IntKind.i64.wrap (at_ + 5), y5.1.1, ()), ())
                    else
                      none
      else
        none
def fc79 : FC := ⟨⟨[.one (.sl (.cons (.int .i64) (.cons .str (.cons (.int .i64) (.int .i64))))), .one (.int .i64), .row (.cons (.int .i64) (.cons .str (.cons .str (.cons .bool (.cons (.int .i64) (.int .i64))))))], []⟩, ⟨[.row (.cons (.int .i64) (.cons .str (.cons .str (.cons .bool (.cons (.int .i64) (.int .i64)))))), .one (.int .i64), .one .bool], []⟩, fun x => ref49_takeRange x.1.1 x.1.2.1 x.1.2.2.1⟩
theorem con79 : Contract Tryz.prog 79 fc79 :=
  ref49_takeRange_D.contract tok (cok_of (l := [(77, fc77), (78, fc78)]) ⟨con77, con78, trivial⟩) mixed (fn' := Tryz.f79) (by kernel_rfl) (by kernel_rfl) rfl (by kernel_rfl) (fun x => (FD.fn_eq _ _).trans (by kernel_rfl))
end
end Go.Proofs.YtejehchbflmofaaGreatDoor
end

section
/-
YtejehchbflmofaaGreatDoor: signalbench.signalbenchref49.takeLimit, as one plain function, its equations, its contract. No condition.
-/
set_option maxRecDepth 100000
set_option linter.unusedVariables false
set_option maxHeartbeats 4000000
open Go Go.AM
namespace Go.Proofs.YtejehchbflmofaaGreatDoor
noncomputable section
def ref49_takeLimit_F4 : FSh := ⟨[(0, .one (.sl (.cons (.int .i64) (.cons .str (.cons (.int .i64) (.int .i64)))))), (1, .one (.int .i64)), (4, .one (.ptr 0 0)), (7, .one (.ptr 1 0)), (8, .one (.int .i64))], [.boxr 46 (.cons (.int .i64) (.cons .str (.cons .str (.cons .bool (.cons (.int .i64) (.int .i64)))))), .boxr 46 (.cons (.int .i64) (.cons .str (.cons .str (.cons .bool (.cons (.int .i64) (.int .i64))))))]⟩
def ref49_takeLimit_F17 : FSh := ⟨[(0, .one (.sl (.cons (.int .i64) (.cons .str (.cons (.int .i64) (.int .i64)))))), (1, .one (.int .i64)), (4, .one (.ptr 0 0)), (7, .one (.ptr 1 0))], [.boxr 46 (.cons (.int .i64) (.cons .str (.cons .str (.cons .bool (.cons (.int .i64) (.int .i64)))))), .boxr 46 (.cons (.int .i64) (.cons .str (.cons .str (.cons .bool (.cons (.int .i64) (.int .i64))))))]⟩
def ref49_takeLimit_D : FD := ⟨T, lookC [(43, fc43), (70, fc70), (77, fc77), (78, fc78), (79, fc79)], [17], (Tryz.f40.body.getD .skip), Tryz.f40.results.toList, ⟨[.one (.sl (.cons (.int .i64) (.cons .str (.cons (.int .i64) (.int .i64))))), .one (.int .i64)], []⟩, ⟨[.row (.cons (.int .i64) (.cons .str (.cons .str (.cons .bool (.cons (.int .i64) (.int .i64)))))), .one (.int .i64), .one .bool], []⟩, [(4, ref49_takeLimit_F4), (17, ref49_takeLimit_F17)]⟩
def ref49_takeLimit_l4 (l : (List TToken)) (at_ : Int) (i : Int) (h0 : TLimit) (h1 : TLimit) : (Option ((TLimit × Int × Bool × Unit) × Unit)) := ref49_takeLimit_D.lab 4 ref49_takeLimit_F4 ((l, at_, (), (), i, ()), (h0, h1, ()))
def ref49_takeLimit_l17 (l : (List TToken)) (at_ : Int) (h0 : TLimit) (h1 : TLimit) : (Option ((TLimit × Int × Bool × Unit) × Unit)) := ref49_takeLimit_D.lab 17 ref49_takeLimit_F17 ((l, at_, (), (), ()), (h0, h1, ()))
theorem ref49_takeLimit_l4_eq (l : (List TToken)) (at_ : Int) (i : Int) (h0 : TLimit) (h1 : TLimit) : ref49_takeLimit_l4 l at_ i h0 h1 =
  if (decide (i < 6)) = true then
    (ref49_kind l at_ 1).bind fun y1 =>
      if y1.1.1 = true then
        if 0 ≤ at_ ∧ at_ < (l.length : Int) then
          (ref49_measures).bind fun y2 =>
            if 0 ≤ i ∧ i < (y2.1.1.length : Int) then
              if ((l.getD at_.toNat dToken).2.1.toList == (y2.1.1.getD i.toNat (strB [])).toList) = true then
                ref49_takeLimit_l4 l at_ (IntKind.i64.wrap (i + 1)) h0 (IntKind.i64.wrap (i + 1), h1.2)
              else
                ref49_takeLimit_l4 l at_ (IntKind.i64.wrap (i + 1)) h0 h1
            else
              none
        else
          none
      else
        ref49_takeLimit_l4 l at_ (IntKind.i64.wrap (i + 1)) h0 h1
  else
    if (h1.1 == 0) = true then
      some ((h1, at_, false, ()), ())
    else
      (ref49_kind l (IntKind.i64.wrap (at_ + 1)) 1).bind fun y3 =>
        if (!y3.1.1) = true then
          some ((h1, IntKind.i64.wrap (at_ + 1), false, ()), ())
        else
          if 0 ≤ IntKind.i64.wrap (at_ + 1) ∧ IntKind.i64.wrap (at_ + 1) < (l.length : Int) then
            (ref49_clocked (h1.1, (l.getD (IntKind.i64.wrap (at_ + 1)).toNat dToken).2.1, h1.2.2)).bind fun y4 =>
              if y4.1.1 = true then
                (ref49_kind l (IntKind.i64.wrap (at_ + 2)) 1).bind fun y5 =>
                  if (!y5.1.1) = true then
                    some (((h1.1, (l.getD (IntKind.i64.wrap (at_ + 1)).toNat dToken).2.1, h1.2.2), IntKind.i64.wrap (at_ + 2), false, ()), ())
                  else
                    if 0 ≤ IntKind.i64.wrap (at_ + 2) ∧ IntKind.i64.wrap (at_ + 2) < (l.length : Int) then
                      (ref49_is l (IntKind.i64.wrap ((IntKind.i64.wrap (at_ + 2)) + 1)) (strB [114, 105, 115, 101])).bind fun y6 =>
                        if (!y6.1.1) = true then
                          (ref49_is l (IntKind.i64.wrap ((IntKind.i64.wrap (at_ + 2)) + 1)) (strB [102, 97, 108, 108])).bind fun y7 =>
                            if (!y7.1.1) = true then
                              some (((h1.1, (l.getD (IntKind.i64.wrap (at_ + 1)).toNat dToken).2.1, (l.getD (IntKind.i64.wrap (at_ + 2)).toNat dToken).2.1, y6.1.1, h1.2.2.2.2), IntKind.i64.wrap ((IntKind.i64.wrap (at_ + 2)) + 1), false, ()), ())
                            else
                              ref49_takeLimit_l17 l (IntKind.i64.wrap ((IntKind.i64.wrap (at_ + 2)) + 2)) h0 (h1.1, (l.getD (IntKind.i64.wrap (at_ + 1)).toNat dToken).2.1, (l.getD (IntKind.i64.wrap (at_ + 2)).toNat dToken).2.1, y6.1.1, h1.2.2.2.2)
                        else
                          ref49_takeLimit_l17 l (IntKind.i64.wrap ((IntKind.i64.wrap (at_ + 2)) + 2)) h0 (h1.1, (l.getD (IntKind.i64.wrap (at_ + 1)).toNat dToken).2.1, (l.getD (IntKind.i64.wrap (at_ + 2)).toNat dToken).2.1, y6.1.1, h1.2.2.2.2)
                    else
                      none
              else
                ref49_takeLimit_l17 l (IntKind.i64.wrap (at_ + 2)) h0 (h1.1, (l.getD (IntKind.i64.wrap (at_ + 1)).toNat dToken).2.1, h1.2.2)
          else
            none := (FD.lab_eq _ _ _ _).trans (by kernel_rfl)
theorem ref49_takeLimit_l17_eq (l : (List TToken)) (at_ : Int) (h0 : TLimit) (h1 : TLimit) : ref49_takeLimit_l17 l at_ h0 h1 =
  (ref49_takeRange l at_ h1).bind fun y1 =>
    if (!y1.1.2.2.1) = true then
      if (y1.1.2.1 == (IntKind.i64.wrap (at_ + 5))) = true then
        some ((y1.1.1, IntKind.i64.wrap (at_ + 4), false, ()), ())
      else
        some ((y1.1.1, y1.1.2.1, y1.1.2.2.1, ()), ())
    else
      some ((y1.1.1, y1.1.2.1, y1.1.2.2.1, ()), ()) := (FD.lab_eq _ _ _ _).trans (by kernel_rfl)
def ref49_takeLimit (l : (List TToken)) (at_ : Int) : (Option ((TLimit × Int × Bool × Unit) × Unit)) :=
  ref49_takeLimit_l4 l at_ 0 (0, (strB []), (strB []), false, 0, 0) (0, (strB []), (strB []), false, 0, 0)
def fc40 : FC := ⟨⟨[.one (.sl (.cons (.int .i64) (.cons .str (.cons (.int .i64) (.int .i64))))), .one (.int .i64)], []⟩, ⟨[.row (.cons (.int .i64) (.cons .str (.cons .str (.cons .bool (.cons (.int .i64) (.int .i64)))))), .one (.int .i64), .one .bool], []⟩, fun x => ref49_takeLimit x.1.1 x.1.2.1⟩
theorem con40 : Contract Tryz.prog 40 fc40 :=
  ref49_takeLimit_D.contract tok (cok_of (l := [(43, fc43), (70, fc70), (77, fc77), (78, fc78), (79, fc79)]) ⟨con43, con70, con77, con78, con79, trivial⟩) mixed (fn' := Tryz.f40) (by kernel_rfl) (by kernel_rfl) rfl (by kernel_rfl) (fun x => (FD.fn_eq _ _).trans (by kernel_rfl))
end
end Go.Proofs.YtejehchbflmofaaGreatDoor
end

section
/-
YtejehchbflmofaaGreatDoor: signalbench.signalbenchref49.line, as one plain function, its equations, its contract. No condition.
-/
set_option maxRecDepth 100000
set_option linter.unusedVariables false
set_option maxHeartbeats 4000000
open Go Go.AM
namespace Go.Proofs.YtejehchbflmofaaGreatDoor
noncomputable section
def ref49_line_D : FD := ⟨T, lookC [], [], (Tryz.f41.body.getD .skip), Tryz.f41.results.toList, ⟨[.one (.sl (.cons (.int .i64) (.cons .str (.cons (.int .i64) (.int .i64))))), .one (.int .i64)], []⟩, ⟨[.one (.int .i64)], []⟩, []⟩
def ref49_line (l : (List TToken)) (at_ : Int) : (Option ((Int × Unit) × Unit)) :=
  if (decide (at_ < (l.length : Int))) = true then
    if 0 ≤ at_ ∧ at_ < (l.length : Int) then
      some (((l.getD at_.toNat dToken).2.2.2, ()), ())
    else
      none
  else
    if 0 ≤ IntKind.i64.wrap ((l.length : Int) - 1) ∧ IntKind.i64.wrap ((l.length : Int) - 1) < (l.length : Int) then
      some (((l.getD (IntKind.i64.wrap ((l.length : Int) - 1)).toNat dToken).2.2.2, ()), ())
    else
      none
def fc41 : FC := ⟨⟨[.one (.sl (.cons (.int .i64) (.cons .str (.cons (.int .i64) (.int .i64))))), .one (.int .i64)], []⟩, ⟨[.one (.int .i64)], []⟩, fun x => ref49_line x.1.1 x.1.2.1⟩
theorem con41 : Contract Tryz.prog 41 fc41 :=
  ref49_line_D.contract tok (cok_of (l := []) trivial) mixed (fn' := Tryz.f41) (by kernel_rfl) (by kernel_rfl) rfl (by kernel_rfl) (fun x => (FD.fn_eq _ _).trans (by kernel_rfl))
end
end Go.Proofs.YtejehchbflmofaaGreatDoor
end

section
/-
YtejehchbflmofaaGreatDoor: signalbench.signalbenchref49.Parse, as one plain function, its equations, its contract. No condition.
-/
set_option maxRecDepth 100000
set_option linter.unusedVariables false
set_option maxHeartbeats 4000000
open Go Go.AM
namespace Go.Proofs.YtejehchbflmofaaGreatDoor
noncomputable section
def ref49_Parse_F7 : FSh := ⟨[(5, .one (.sl (.cons (.int .i64) (.cons .str (.cons (.int .i64) (.int .i64)))))), (8, .one (.own 0)), (9, .one (.int .i64))], [.arr 46 (.cons (.int .i64) (.cons .str (.cons .str (.cons .bool (.cons (.int .i64) (.int .i64)))))) true]⟩
def ref49_Parse_D : FD := ⟨T, lookC [(34, fc34), (39, fc39), (40, fc40), (41, fc41)], [], (Tryz.f15.body.getD .skip), Tryz.f15.results.toList, ⟨[.one .str], []⟩, ⟨[.one (.sl (.cons (.int .i64) (.cons .str (.cons .str (.cons .bool (.cons (.int .i64) (.int .i64))))))), .one (.int .i64), .one (.int .i64)], []⟩, [(7, ref49_Parse_F7)]⟩
def ref49_Parse_l7 (l : (List TToken)) (at_ : Int) (l0 : (List TLimit)) : (Option (((List TLimit) × Int × Int × Unit) × Unit)) := ref49_Parse_D.lab 7 ref49_Parse_F7 ((l, (), at_, ()), (l0, ()))
theorem ref49_Parse_l7_eq (l : (List TToken)) (at_ : Int) (l0 : (List TLimit)) : ref49_Parse_l7 l at_ l0 =
  if (decide (at_ < (l.length : Int))) = true then
    (ref49_takeLimit l at_).bind fun y1 =>
      if (!y1.1.2.2.1) = true then
        (ref49_line l y1.1.2.1).bind fun y2 =>
          some (([], y2.1.1, 4, ()), ())
      else
        if (l0.length + 1) * 64 ≤ 140737488355328 ∧ 0 < 64 then
          ref49_Parse_l7 l y1.1.2.1 (l0 ++ [y1.1.1])
        else
          none
  else
    (ref49_wrong l0).bind fun y3 =>
      if (y3.1.1 != 0) = true then
        some (([], 0, y3.1.1, ()), ())
      else
        some ((l0, 0, 0, ()), ()) := (FD.lab_eq _ _ _ _).trans (by kernel_rfl)
def ref49_Parse (s : ByteArray) : (Option (((List TLimit) × Int × Int × Unit) × Unit)) :=
  (ref05_Tokens s).bind fun y1 =>
    if (y1.1.2.2.1 != 0) = true then
      some (([], y1.1.2.1, y1.1.2.2.1, ()), ())
    else
      ref49_Parse_l7 y1.1.1 0 []
def fc15 : FC := ⟨⟨[.one .str], []⟩, ⟨[.one (.sl (.cons (.int .i64) (.cons .str (.cons .str (.cons .bool (.cons (.int .i64) (.int .i64))))))), .one (.int .i64), .one (.int .i64)], []⟩, fun x => ref49_Parse x.1.1⟩
theorem con15 : Contract Tryz.prog 15 fc15 :=
  ref49_Parse_D.contract tok (cok_of (l := [(34, fc34), (39, fc39), (40, fc40), (41, fc41)]) ⟨con34, con39, con40, con41, trivial⟩) mixed (fn' := Tryz.f15) (by kernel_rfl) (by kernel_rfl) rfl (by kernel_rfl) (fun x => (FD.fn_eq _ _).trans (by kernel_rfl))
end
end Go.Proofs.YtejehchbflmofaaGreatDoor
end

section
/-
YtejehchbflmofaaGreatDoor: signalbench.signalbenchref49.Same, as one plain function, its equations, its contract. No condition.
-/
set_option maxRecDepth 100000
set_option linter.unusedVariables false
set_option maxHeartbeats 4000000
open Go Go.AM
namespace Go.Proofs.YtejehchbflmofaaGreatDoor
noncomputable section
def ref49_Same_F6 : FSh := ⟨[(0, .one (.sl (.cons (.int .i64) (.cons .str (.cons .str (.cons .bool (.cons (.int .i64) (.int .i64)))))))), (1, .one (.sl (.cons (.int .i64) (.cons .str (.cons .str (.cons .bool (.cons (.int .i64) (.int .i64)))))))), (5, .one (.int .i64))], []⟩
def ref49_Same_D : FD := ⟨T, lookC [], [], (Tryz.f16.body.getD .skip), Tryz.f16.results.toList, ⟨[.one (.sl (.cons (.int .i64) (.cons .str (.cons .str (.cons .bool (.cons (.int .i64) (.int .i64))))))), .one (.sl (.cons (.int .i64) (.cons .str (.cons .str (.cons .bool (.cons (.int .i64) (.int .i64)))))))], []⟩, ⟨[.one .bool], []⟩, [(6, ref49_Same_F6)]⟩
def ref49_Same_l6 (a : (List TLimit)) (b : (List TLimit)) (i : Int) : (Option ((Bool × Unit) × Unit)) := ref49_Same_D.lab 6 ref49_Same_F6 ((a, b, i, ()), ())
theorem ref49_Same_l6_eq (a : (List TLimit)) (b : (List TLimit)) (i : Int) : ref49_Same_l6 a b i =
  if (decide (i < (a.length : Int))) = true then
    if 0 ≤ i ∧ i < (a.length : Int) then
      if 0 ≤ i ∧ i < (b.length : Int) then
        if (!(eqU uLimit (a.getD i.toNat dLimit) (b.getD i.toNat dLimit))) = true then
          some ((false, ()), ())
        else
          ref49_Same_l6 a b (IntKind.i64.wrap (i + 1))
      else
        none
    else
      none
  else
    some ((true, ()), ()) := (FD.lab_eq _ _ _ _).trans (by kernel_rfl)
def ref49_Same (a : (List TLimit)) (b : (List TLimit)) : (Option ((Bool × Unit) × Unit)) :=
  if ((a.length : Int) != (b.length : Int)) = true then
    some ((false, ()), ())
  else
    ref49_Same_l6 a b 0
def fc16 : FC := ⟨⟨[.one (.sl (.cons (.int .i64) (.cons .str (.cons .str (.cons .bool (.cons (.int .i64) (.int .i64))))))), .one (.sl (.cons (.int .i64) (.cons .str (.cons .str (.cons .bool (.cons (.int .i64) (.int .i64)))))))], []⟩, ⟨[.one .bool], []⟩, fun x => ref49_Same x.1.1 x.1.2.1⟩
theorem con16 : Contract Tryz.prog 16 fc16 :=
  ref49_Same_D.contract tok (cok_of (l := []) trivial) mixed (fn' := Tryz.f16) (by kernel_rfl) (by kernel_rfl) rfl (by kernel_rfl) (fun x => (FD.fn_eq _ _).trans (by kernel_rfl))
end
end Go.Proofs.YtejehchbflmofaaGreatDoor
end

section
/-
YtejehchbflmofaaGreatDoor: signalbench.signalbenchlaw49.brief, as one plain function, its equations, its contract. No condition.
-/
set_option maxRecDepth 100000
set_option linter.unusedVariables false
set_option maxHeartbeats 4000000
open Go Go.AM
namespace Go.Proofs.YtejehchbflmofaaGreatDoor
noncomputable section
def law49_brief_D : FD := ⟨T, lookC [], [], (Tryz.f17.body.getD .skip), Tryz.f17.results.toList, ⟨[.one .str], []⟩, ⟨[.one .bool], []⟩, []⟩
def law49_brief (s : ByteArray) : (Option ((Bool × Unit) × Unit)) :=
  some ((decide ((s.size : Int) ≤ 20), ()), ())
def fc17 : FC := ⟨⟨[.one .str], []⟩, ⟨[.one .bool], []⟩, fun x => law49_brief x.1.1⟩
theorem con17 : Contract Tryz.prog 17 fc17 :=
  law49_brief_D.contract tok (cok_of (l := []) trivial) mixed (fn' := Tryz.f17) (by kernel_rfl) (by kernel_rfl) rfl (by kernel_rfl) (fun x => (FD.fn_eq _ _).trans (by kernel_rfl))
end
end Go.Proofs.YtejehchbflmofaaGreatDoor
end

section
/-
YtejehchbflmofaaGreatDoor: signalbench.limit.Gaps, as one plain function, its equations, its contract. No condition.
-/
set_option maxRecDepth 100000
set_option linter.unusedVariables false
set_option maxHeartbeats 4000000
open Go Go.AM
namespace Go.Proofs.YtejehchbflmofaaGreatDoor
noncomputable section
def limit_Gaps_D : FD := ⟨T, lookC [(23, fc23), (24, fc24)], [], (Tryz.f18.body.getD .skip), Tryz.f18.results.toList, ⟨[.row (.cons (.sl .str) (.sl (.cons (.int .i64) (.int .i64)))), .row (.cons (.int .i64) (.cons .str (.cons .str (.cons .bool (.cons (.int .i64) (.int .i64))))))], []⟩, ⟨[.one (.sl (.cons (.int .i64) (.int .i64))), .one (.int .i64)], []⟩, []⟩
def limit_Gaps (c : TCapture) (x0 : TLimit) : (Option (((List TGap) × Int × Unit) × Unit)) :=
  (limit_Check c [x0]).bind fun y1 =>
    if (y1.1.2.1 != 0) = true then
      some (([], y1.1.2.1, ()), ())
    else
      (limit_gaps c x0).bind fun y2 =>
        some ((y2.1.1, 0, ()), ())
def fc18 : FC := ⟨⟨[.row (.cons (.sl .str) (.sl (.cons (.int .i64) (.int .i64)))), .row (.cons (.int .i64) (.cons .str (.cons .str (.cons .bool (.cons (.int .i64) (.int .i64))))))], []⟩, ⟨[.one (.sl (.cons (.int .i64) (.int .i64))), .one (.int .i64)], []⟩, fun x => limit_Gaps x.1.1 x.1.2.1⟩
theorem con18 : Contract Tryz.prog 18 fc18 :=
  limit_Gaps_D.contract tok (cok_of (l := [(23, fc23), (24, fc24)]) ⟨con23, con24, trivial⟩) mixed (fn' := Tryz.f18) (by kernel_rfl) (by kernel_rfl) rfl (by kernel_rfl) (fun x => (FD.fn_eq _ _).trans (by kernel_rfl))
end
end Go.Proofs.YtejehchbflmofaaGreatDoor
end

section
/-
YtejehchbflmofaaGreatDoor: signalbench.limit.away, as one plain function, its equations, its contract. No condition.
-/
set_option maxRecDepth 100000
set_option linter.unusedVariables false
set_option maxHeartbeats 4000000
open Go Go.AM
namespace Go.Proofs.YtejehchbflmofaaGreatDoor
noncomputable section
def limit_away_D : FD := ⟨T, lookC [], [], (Tryz.f49.body.getD .skip), Tryz.f49.results.toList, ⟨[.row (.cons (.int .i64) (.cons .str (.cons .str (.cons .bool (.cons (.int .i64) (.int .i64)))))), .row (.cons (.int .i64) (.int .i64))], []⟩, ⟨[.one (.int .i64)], []⟩, []⟩
def limit_away (x0 : TLimit) (g : TGap) : (Option ((Int × Unit) × Unit)) :=
  some ((if IntKind.i64.wrap ((IntKind.i64.wrap ((IntKind.i64.wrap (2 * g.2)) - x0.2.2.2.2.1)) - x0.2.2.2.2.2) < IntKind.i64.wrap (0 - (IntKind.i64.wrap ((IntKind.i64.wrap ((IntKind.i64.wrap (2 * g.2)) - x0.2.2.2.2.1)) - x0.2.2.2.2.2))) then IntKind.i64.wrap (0 - (IntKind.i64.wrap ((IntKind.i64.wrap ((IntKind.i64.wrap (2 * g.2)) - x0.2.2.2.2.1)) - x0.2.2.2.2.2))) else IntKind.i64.wrap ((IntKind.i64.wrap ((IntKind.i64.wrap (2 * g.2)) - x0.2.2.2.2.1)) - x0.2.2.2.2.2), ()), ())
def fc49 : FC := ⟨⟨[.row (.cons (.int .i64) (.cons .str (.cons .str (.cons .bool (.cons (.int .i64) (.int .i64)))))), .row (.cons (.int .i64) (.int .i64))], []⟩, ⟨[.one (.int .i64)], []⟩, fun x => limit_away x.1.1 x.1.2.1⟩
theorem con49 : Contract Tryz.prog 49 fc49 :=
  limit_away_D.contract tok (cok_of (l := []) trivial) mixed (fn' := Tryz.f49) (by kernel_rfl) (by kernel_rfl) rfl (by kernel_rfl) (fun x => (FD.fn_eq _ _).trans (by kernel_rfl))
end
end Go.Proofs.YtejehchbflmofaaGreatDoor
end

section
/-
YtejehchbflmofaaGreatDoor: signalbench.limit.Worst, as one plain function, its equations, its contract. No condition.
-/
set_option maxRecDepth 100000
set_option linter.unusedVariables false
set_option maxHeartbeats 4000000
open Go Go.AM
namespace Go.Proofs.YtejehchbflmofaaGreatDoor
noncomputable section
def limit_Worst_F8 : FSh := ⟨[(3, .one (.ptr 0 0)), (4, .one (.ptr 1 0)), (8, .one (.ptr 2 0)), (28, .one (.sl (.cons (.int .i64) (.int .i64)))), (29, .one (.int .i64)), (30, .one (.int .i64))], [.boxr 46 (.cons (.int .i64) (.cons .str (.cons .str (.cons .bool (.cons (.int .i64) (.int .i64)))))), .boxr 35 (.cons (.int .i64) (.int .i64)), .boxr 35 (.cons (.int .i64) (.int .i64))]⟩
def limit_Worst_D : FD := ⟨T, lookC [(18, fc18), (49, fc49)], [], (Tryz.f20.body.getD .skip), Tryz.f20.results.toList, ⟨[.row (.cons (.sl .str) (.sl (.cons (.int .i64) (.int .i64)))), .row (.cons (.int .i64) (.cons .str (.cons .str (.cons .bool (.cons (.int .i64) (.int .i64))))))], []⟩, ⟨[.row (.cons (.int .i64) (.int .i64)), .one .bool], []⟩, [(8, limit_Worst_F8)]⟩
def limit_Worst_l8 (t28 : (List TGap)) (t29 : Int) (t30 : Int) (h0 : TLimit) (h1 : TGap) (h2 : TGap) : (Option ((TGap × Bool × Unit) × Unit)) := limit_Worst_D.lab 8 limit_Worst_F8 (((), (), (), t28, t29, t30, ()), (h0, h1, h2, ()))
theorem limit_Worst_l8_eq (t28 : (List TGap)) (t29 : Int) (t30 : Int) (h0 : TLimit) (h1 : TGap) (h2 : TGap) : limit_Worst_l8 t28 t29 t30 h0 h1 h2 =
  if (decide (t30 < t29)) = true then
    if 0 ≤ t30 ∧ t30 < (t28.length : Int) then
      (limit_away h0 (t28.getD t30.toNat dGap)).bind fun y1 =>
        (limit_away h0 h2).bind fun y2 =>
          if (decide (y1.1.1 > y2.1.1)) = true then
            limit_Worst_l8 t28 t29 (IntKind.i64.wrap (t30 + 1)) h0 h1 (t28.getD t30.toNat dGap)
          else
            limit_Worst_l8 t28 t29 (IntKind.i64.wrap (t30 + 1)) h0 h1 h2
    else
      none
  else
    some ((h2, true, ()), ()) := (FD.lab_eq _ _ _ _).trans (by kernel_rfl)
def limit_Worst (c : TCapture) (x0 : TLimit) : (Option ((TGap × Bool × Unit) × Unit)) :=
  (limit_Gaps c x0).bind fun y1 =>
    if (y1.1.2.1 != 0) = true then
      some (((0, 0), false, ()), ())
    else
      if ((y1.1.1.length : Int) == 0) = true then
        some (((0, 0), false, ()), ())
      else
        if 0 ≤ (0 : Int) ∧ 0 < (y1.1.1.length : Int) then
          limit_Worst_l8 y1.1.1 (y1.1.1.length : Int) 0 x0 (0, 0) (y1.1.1.getD 0 dGap)
        else
          none
def fc20 : FC := ⟨⟨[.row (.cons (.sl .str) (.sl (.cons (.int .i64) (.int .i64)))), .row (.cons (.int .i64) (.cons .str (.cons .str (.cons .bool (.cons (.int .i64) (.int .i64))))))], []⟩, ⟨[.row (.cons (.int .i64) (.int .i64)), .one .bool], []⟩, fun x => limit_Worst x.1.1 x.1.2.1⟩
theorem con20 : Contract Tryz.prog 20 fc20 :=
  limit_Worst_D.contract tok (cok_of (l := [(18, fc18), (49, fc49)]) ⟨con18, con49, trivial⟩) mixed (fn' := Tryz.f20) (by kernel_rfl) (by kernel_rfl) rfl (by kernel_rfl) (fun x => (FD.fn_eq _ _).trans (by kernel_rfl))
end
end Go.Proofs.YtejehchbflmofaaGreatDoor
end

section
/-
YtejehchbflmofaaGreatDoor: signalbench.signalbenchref49.Far, as one plain function, its equations, its contract. No condition.
-/
set_option maxRecDepth 100000
set_option linter.unusedVariables false
set_option maxHeartbeats 4000000
open Go Go.AM
namespace Go.Proofs.YtejehchbflmofaaGreatDoor
noncomputable section
def ref49_Far_D : FD := ⟨T, lookC [], [], (Tryz.f50.body.getD .skip), Tryz.f50.results.toList, ⟨[.row (.cons (.int .i64) (.cons .str (.cons .str (.cons .bool (.cons (.int .i64) (.int .i64)))))), .row (.cons (.int .i64) (.int .i64))], []⟩, ⟨[.one (.int .i64)], []⟩, []⟩
def ref49_Far (x0 : TLimit) (g : TGap) : (Option ((Int × Unit) × Unit)) :=
  if (decide ((IntKind.i64.wrap ((IntKind.i64.wrap ((IntKind.i64.wrap (2 * g.2)) - x0.2.2.2.2.1)) - x0.2.2.2.2.2)) < 0)) = true then
    some ((IntKind.i64.wrap (0 - (IntKind.i64.wrap ((IntKind.i64.wrap ((IntKind.i64.wrap (2 * g.2)) - x0.2.2.2.2.1)) - x0.2.2.2.2.2))), ()), ())
  else
    some ((IntKind.i64.wrap ((IntKind.i64.wrap ((IntKind.i64.wrap (2 * g.2)) - x0.2.2.2.2.1)) - x0.2.2.2.2.2), ()), ())
def fc50 : FC := ⟨⟨[.row (.cons (.int .i64) (.cons .str (.cons .str (.cons .bool (.cons (.int .i64) (.int .i64)))))), .row (.cons (.int .i64) (.int .i64))], []⟩, ⟨[.one (.int .i64)], []⟩, fun x => ref49_Far x.1.1 x.1.2.1⟩
theorem con50 : Contract Tryz.prog 50 fc50 :=
  ref49_Far_D.contract tok (cok_of (l := []) trivial) mixed (fn' := Tryz.f50) (by kernel_rfl) (by kernel_rfl) rfl (by kernel_rfl) (fun x => (FD.fn_eq _ _).trans (by kernel_rfl))
end
end Go.Proofs.YtejehchbflmofaaGreatDoor
end

section
/-
YtejehchbflmofaaGreatDoor: signalbench.signalbenchref49.Worst, as one plain function, its equations, its contract. No condition.
-/
set_option maxRecDepth 100000
set_option linter.unusedVariables false
set_option maxHeartbeats 4000000
open Go Go.AM
namespace Go.Proofs.YtejehchbflmofaaGreatDoor
noncomputable section
def ref49_Worst_F8 : FSh := ⟨[(3, .one (.ptr 0 0)), (4, .one (.ptr 1 0)), (6, .one (.sl (.cons (.int .i64) (.int .i64)))), (8, .one (.ptr 2 0)), (9, .one (.int .i64))], [.boxr 46 (.cons (.int .i64) (.cons .str (.cons .str (.cons .bool (.cons (.int .i64) (.int .i64)))))), .boxr 35 (.cons (.int .i64) (.int .i64)), .boxr 35 (.cons (.int .i64) (.int .i64))]⟩
def ref49_Worst_D : FD := ⟨T, lookC [(19, fc19), (50, fc50)], [], (Tryz.f21.body.getD .skip), Tryz.f21.results.toList, ⟨[.row (.cons (.sl .str) (.sl (.cons (.int .i64) (.int .i64)))), .row (.cons (.int .i64) (.cons .str (.cons .str (.cons .bool (.cons (.int .i64) (.int .i64))))))], []⟩, ⟨[.row (.cons (.int .i64) (.int .i64)), .one .bool], []⟩, [(8, ref49_Worst_F8)]⟩
def ref49_Worst_l8 (gaps : (List TGap)) (i : Int) (h0 : TLimit) (h1 : TGap) (h2 : TGap) : (Option ((TGap × Bool × Unit) × Unit)) := ref49_Worst_D.lab 8 ref49_Worst_F8 (((), (), gaps, (), i, ()), (h0, h1, h2, ()))
theorem ref49_Worst_l8_eq (gaps : (List TGap)) (i : Int) (h0 : TLimit) (h1 : TGap) (h2 : TGap) : ref49_Worst_l8 gaps i h0 h1 h2 =
  if (decide (i < (gaps.length : Int))) = true then
    if 0 ≤ i ∧ i < (gaps.length : Int) then
      (ref49_Far h0 (gaps.getD i.toNat dGap)).bind fun y1 =>
        (ref49_Far h0 h2).bind fun y2 =>
          if (decide (y1.1.1 > y2.1.1)) = true then
            if 0 ≤ i ∧ i < (gaps.length : Int) then
              ref49_Worst_l8 gaps (IntKind.i64.wrap (i + 1)) h0 h1 (gaps.getD i.toNat dGap)
            else
              none
          else
            ref49_Worst_l8 gaps (IntKind.i64.wrap (i + 1)) h0 h1 h2
    else
      none
  else
    some ((h2, true, ()), ()) := (FD.lab_eq _ _ _ _).trans (by kernel_rfl)
def ref49_Worst (c : TCapture) (x0 : TLimit) : (Option ((TGap × Bool × Unit) × Unit)) :=
  (ref49_Gaps c x0).bind fun y1 =>
    if (y1.1.2.1 != 0) = true then
      some (((0, 0), false, ()), ())
    else
      if ((y1.1.1.length : Int) == 0) = true then
        some (((0, 0), false, ()), ())
      else
        if 0 ≤ (0 : Int) ∧ 0 < (y1.1.1.length : Int) then
          ref49_Worst_l8 y1.1.1 1 x0 (0, 0) (y1.1.1.getD 0 dGap)
        else
          none
def fc21 : FC := ⟨⟨[.row (.cons (.sl .str) (.sl (.cons (.int .i64) (.int .i64)))), .row (.cons (.int .i64) (.cons .str (.cons .str (.cons .bool (.cons (.int .i64) (.int .i64))))))], []⟩, ⟨[.row (.cons (.int .i64) (.int .i64)), .one .bool], []⟩, fun x => ref49_Worst x.1.1 x.1.2.1⟩
theorem con21 : Contract Tryz.prog 21 fc21 :=
  ref49_Worst_D.contract tok (cok_of (l := [(19, fc19), (50, fc50)]) ⟨con19, con50, trivial⟩) mixed (fn' := Tryz.f21) (by kernel_rfl) (by kernel_rfl) rfl (by kernel_rfl) (fun x => (FD.fn_eq _ _).trans (by kernel_rfl))
end
end Go.Proofs.YtejehchbflmofaaGreatDoor
end

section
/-
YtejehchbflmofaaGreatDoor: signalbench.signalbenchlaw49.sameGaps, as one plain function, its equations, its contract. No condition.
-/
set_option maxRecDepth 100000
set_option linter.unusedVariables false
set_option maxHeartbeats 4000000
open Go Go.AM
namespace Go.Proofs.YtejehchbflmofaaGreatDoor
noncomputable section
def law49_sameGaps_F6 : FSh := ⟨[(0, .one (.sl (.cons (.int .i64) (.int .i64)))), (1, .one (.sl (.cons (.int .i64) (.int .i64)))), (5, .one (.int .i64))], []⟩
def law49_sameGaps_D : FD := ⟨T, lookC [], [], (Tryz.f22.body.getD .skip), Tryz.f22.results.toList, ⟨[.one (.sl (.cons (.int .i64) (.int .i64))), .one (.sl (.cons (.int .i64) (.int .i64)))], []⟩, ⟨[.one .bool], []⟩, [(6, law49_sameGaps_F6)]⟩
def law49_sameGaps_l6 (a : (List TGap)) (b : (List TGap)) (i : Int) : (Option ((Bool × Unit) × Unit)) := law49_sameGaps_D.lab 6 law49_sameGaps_F6 ((a, b, i, ()), ())
theorem law49_sameGaps_l6_eq (a : (List TGap)) (b : (List TGap)) (i : Int) : law49_sameGaps_l6 a b i =
  if (decide (i < (a.length : Int))) = true then
    if 0 ≤ i ∧ i < (a.length : Int) then
      if 0 ≤ i ∧ i < (b.length : Int) then
        if (!(eqU uGap (a.getD i.toNat dGap) (b.getD i.toNat dGap))) = true then
          some ((false, ()), ())
        else
          law49_sameGaps_l6 a b (IntKind.i64.wrap (i + 1))
      else
        none
    else
      none
  else
    some ((true, ()), ()) := (FD.lab_eq _ _ _ _).trans (by kernel_rfl)
def law49_sameGaps (a : (List TGap)) (b : (List TGap)) : (Option ((Bool × Unit) × Unit)) :=
  if ((a.length : Int) != (b.length : Int)) = true then
    some ((false, ()), ())
  else
    law49_sameGaps_l6 a b 0
def fc22 : FC := ⟨⟨[.one (.sl (.cons (.int .i64) (.int .i64))), .one (.sl (.cons (.int .i64) (.int .i64)))], []⟩, ⟨[.one .bool], []⟩, fun x => law49_sameGaps x.1.1 x.1.2.1⟩
theorem con22 : Contract Tryz.prog 22 fc22 :=
  law49_sameGaps_D.contract tok (cok_of (l := []) trivial) mixed (fn' := Tryz.f22) (by kernel_rfl) (by kernel_rfl) rfl (by kernel_rfl) (fun x => (FD.fn_eq _ _).trans (by kernel_rfl))
end
end Go.Proofs.YtejehchbflmofaaGreatDoor
end

section
/-
YtejehchbflmofaaGreatDoor: signalbench.signalbenchlaw49.small, as one plain function, its equations, its contract. No condition.
-/
set_option maxRecDepth 100000
set_option linter.unusedVariables false
set_option maxHeartbeats 4000000
open Go Go.AM
namespace Go.Proofs.YtejehchbflmofaaGreatDoor
noncomputable section
def law49_small_F6 : FSh := ⟨[(1, .one (.ptr 0 0)), (3, .one (.int .i64))], [.boxr 25 (.cons (.sl .str) (.sl (.cons (.int .i64) (.int .i64))))]⟩
def law49_small_D : FD := ⟨T, lookC [(17, fc17)], [], (Tryz.f7.body.getD .skip), Tryz.f7.results.toList, ⟨[.row (.cons (.sl .str) (.sl (.cons (.int .i64) (.int .i64))))], []⟩, ⟨[.one .bool], []⟩, [(6, law49_small_F6)]⟩
def law49_small_l6 (i : Int) (h0 : TCapture) : (Option ((Bool × Unit) × Unit)) := law49_small_D.lab 6 law49_small_F6 (((), i, ()), (h0, ()))
theorem law49_small_l6_eq (i : Int) (h0 : TCapture) : law49_small_l6 i h0 =
  if (decide (i < (h0.1.length : Int))) = true then
    if 0 ≤ i ∧ i < (h0.1.length : Int) then
      (law49_brief (h0.1.getD i.toNat (strB []))).bind fun y1 =>
        if (!y1.1.1) = true then
          some ((false, ()), ())
        else
          law49_small_l6 (IntKind.i64.wrap (i + 1)) h0
    else
      none
  else
    some ((true, ()), ()) := (FD.lab_eq _ _ _ _).trans (by kernel_rfl)
def law49_small (c : TCapture) : (Option ((Bool × Unit) × Unit)) :=
  if (decide ((c.2.length : Int) > 30)) = true then
    some ((false, ()), ())
  else
    if (decide ((c.1.length : Int) > 17)) = true then
      some ((false, ()), ())
    else
      law49_small_l6 0 c
def fc7 : FC := ⟨⟨[.row (.cons (.sl .str) (.sl (.cons (.int .i64) (.int .i64))))], []⟩, ⟨[.one .bool], []⟩, fun x => law49_small x.1.1⟩
theorem con7 : Contract Tryz.prog 7 fc7 :=
  law49_small_D.contract tok (cok_of (l := [(17, fc17)]) ⟨con17, trivial⟩) mixed (fn' := Tryz.f7) (by kernel_rfl) (by kernel_rfl) rfl (by kernel_rfl) (fun x => (FD.fn_eq _ _).trans (by kernel_rfl))
end
end Go.Proofs.YtejehchbflmofaaGreatDoor
end

section
/-
YtejehchbflmofaaGreatDoor: signalbench.signalbenchlaw49.few, as one plain function, its equations, its contract. No condition.
-/
set_option maxRecDepth 100000
set_option linter.unusedVariables false
set_option maxHeartbeats 4000000
open Go Go.AM
namespace Go.Proofs.YtejehchbflmofaaGreatDoor
noncomputable section
def law49_few_F6 : FSh := ⟨[(0, .one (.sl (.cons (.int .i64) (.cons .str (.cons .str (.cons .bool (.cons (.int .i64) (.int .i64)))))))), (3, .one (.int .i64))], []⟩
def law49_few_D : FD := ⟨T, lookC [(17, fc17)], [], (Tryz.f8.body.getD .skip), Tryz.f8.results.toList, ⟨[.one (.sl (.cons (.int .i64) (.cons .str (.cons .str (.cons .bool (.cons (.int .i64) (.int .i64)))))))], []⟩, ⟨[.one .bool], []⟩, [(6, law49_few_F6)]⟩
def law49_few_l6 (l : (List TLimit)) (i : Int) : (Option ((Bool × Unit) × Unit)) := law49_few_D.lab 6 law49_few_F6 ((l, i, ()), ())
theorem law49_few_l6_eq (l : (List TLimit)) (i : Int) : law49_few_l6 l i =
  if (decide (i < (l.length : Int))) = true then
    if 0 ≤ i ∧ i < (l.length : Int) then
      (law49_brief (l.getD i.toNat dLimit).2.1).bind fun y1 =>
        if (!y1.1.1) = true then
          some ((false, ()), ())
        else
          if 0 ≤ i ∧ i < (l.length : Int) then
            (law49_brief (l.getD i.toNat dLimit).2.2.1).bind fun y2 =>
              if (!y2.1.1) = true then
                some ((false, ()), ())
              else
                law49_few_l6 l (IntKind.i64.wrap (i + 1))
          else
            none
    else
      none
  else
    some ((true, ()), ()) := (FD.lab_eq _ _ _ _).trans (by kernel_rfl)
def law49_few (l : (List TLimit)) : (Option ((Bool × Unit) × Unit)) :=
  if (decide ((l.length : Int) > 66)) = true then
    some ((false, ()), ())
  else
    law49_few_l6 l 0
def fc8 : FC := ⟨⟨[.one (.sl (.cons (.int .i64) (.cons .str (.cons .str (.cons .bool (.cons (.int .i64) (.int .i64)))))))], []⟩, ⟨[.one .bool], []⟩, fun x => law49_few x.1.1⟩
theorem con8 : Contract Tryz.prog 8 fc8 :=
  law49_few_D.contract tok (cok_of (l := [(17, fc17)]) ⟨con17, trivial⟩) mixed (fn' := Tryz.f8) (by kernel_rfl) (by kernel_rfl) rfl (by kernel_rfl) (fun x => (FD.fn_eq _ _).trans (by kernel_rfl))
end
end Go.Proofs.YtejehchbflmofaaGreatDoor
end

section
/-
YtejehchbflmofaaGreatDoor: signalbench.signalbenchlaw49.awake, as one plain function, its equations, its contract. No condition.
-/
set_option maxRecDepth 100000
set_option linter.unusedVariables false
set_option maxHeartbeats 4000000
open Go Go.AM
namespace Go.Proofs.YtejehchbflmofaaGreatDoor
noncomputable section
def law49_awake_D : FD := ⟨T, lookC [(10, fc10), (12, fc12), (14, fc14), (18, fc18)], [], (Tryz.f9.body.getD .skip), Tryz.f9.results.toList, ⟨[], []⟩, ⟨[.one .bool], []⟩, []⟩
def law49_awake : (Option ((Bool × Unit) × Unit)) :=
  (limit_Print [(4, (strB [100]), (strB [99]), true, 4, 9)]).bind fun y1 =>
    (limit_Gaps ([(strB [100]), (strB [99])], [(0, 10), (1, 4), (3, 5)]) (4, (strB [100]), (strB [99]), true, 4, 9)).bind fun y2 =>
      (limit_Parse y1.1.1).bind fun y3 =>
        (limit_Find ([(strB [100]), (strB [99])], [(0, 10), (1, 4), (3, 5)]) [(4, (strB [100]), (strB [99]), true, 4, 9)]).bind fun y4 =>
          (limit_Find ([(strB [100]), (strB [99])], [(0, 10), (1, 4), (3, 5)]) [(4, (strB [100]), (strB [99]), true, 5, 9)]).bind fun y5 =>
            if (y1.1.2.1 != 0) = true then
              some ((false, ()), ())
            else
              if (y2.1.2.1 != 0) = true then
                some ((false, ()), ())
              else
                if (y3.1.2.2.1 != 0) = true then
                  some ((false, ()), ())
                else
                  if (y4.1.2.1 != 0) = true then
                    some ((false, ()), ())
                  else
                    if (y5.1.2.1 != 0) = true then
                      some ((false, ()), ())
                    else
                      if (y3.1.2.1 != 0) = true then
                        some ((false, ()), ())
                      else
                        if ((y2.1.1.length : Int) != 1) = true then
                          some ((false, ()), ())
                        else
                          if ((y3.1.1.length : Int) != 1) = true then
                            some ((false, ()), ())
                          else
                            if ((y4.1.1.length : Int) != 0) = true then
                              some ((false, ()), ())
                            else
                              if ((y5.1.1.length : Int) != 1) = true then
                                some ((false, ()), ())
                              else
                                if (y1.1.1.toList == (strB [115, 101, 116, 117, 112, 32, 100, 32, 99, 32, 114, 105, 115, 101, 32, 52, 32, 46, 32, 46, 32, 57, 32, 59]).toList) = true then
                                  if 0 ≤ (0 : Int) ∧ 0 < (y2.1.1.length : Int) then
                                    if (eqU uGap (y2.1.1.getD 0 dGap) (10, 4)) = true then
                                      if 0 ≤ (0 : Int) ∧ 0 < (y3.1.1.length : Int) then
                                        if ((y3.1.1.getD 0 dLimit).2.2.2.2.1 == 4) = true then
                                          if 0 ≤ (0 : Int) ∧ 0 < (y5.1.1.length : Int) then
                                            if 0 ≤ (0 : Int) ∧ 0 < (y2.1.1.length : Int) then
                                              some ((eqU uViolation (y5.1.1.getD 0 dViolation) (0, (y2.1.1.getD 0 dGap)), ()), ())
                                            else
                                              none
                                          else
                                            none
                                        else
                                          some ((false, ()), ())
                                      else
                                        none
                                    else
                                      some ((false, ()), ())
                                  else
                                    none
                                else
                                  some ((false, ()), ())
def fc9 : FC := ⟨⟨[], []⟩, ⟨[.one .bool], []⟩, fun x => law49_awake⟩
theorem con9 : Contract Tryz.prog 9 fc9 :=
  law49_awake_D.contract tok (cok_of (l := [(10, fc10), (12, fc12), (14, fc14), (18, fc18)]) ⟨con10, con12, con14, con18, trivial⟩) mixed (fn' := Tryz.f9) (by kernel_rfl) (by kernel_rfl) rfl (by kernel_rfl) (fun x => (FD.fn_eq _ _).trans (by kernel_rfl))
end
end Go.Proofs.YtejehchbflmofaaGreatDoor
end

section
/-
YtejehchbflmofaaGreatDoor: signalbench.signalbenchlaw49.LimitFinds, as one plain function, its equations, its contract. No condition.
-/
set_option maxRecDepth 100000
set_option linter.unusedVariables false
set_option maxHeartbeats 4000000
open Go Go.AM
namespace Go.Proofs.YtejehchbflmofaaGreatDoor
noncomputable section
def law49_LimitFinds_F11 : FSh := ⟨[(5, .one (.sl (.cons (.int .i64) (.cons (.int .i64) (.int .i64))))), (7, .one (.sl (.cons (.int .i64) (.cons (.int .i64) (.int .i64))))), (9, .one (.int .i64))], []⟩
def law49_LimitFinds_D : FD := ⟨T, lookC [(7, fc7), (8, fc8), (9, fc9), (10, fc10), (11, fc11)], [], (Tryz.f3.body.getD .skip), Tryz.f3.results.toList, ⟨[.row (.cons (.sl .str) (.sl (.cons (.int .i64) (.int .i64)))), .one (.sl (.cons (.int .i64) (.cons .str (.cons .str (.cons .bool (.cons (.int .i64) (.int .i64)))))))], []⟩, ⟨[.one .bool], []⟩, [(11, law49_LimitFinds_F11)]⟩
def law49_LimitFinds_l11 (a : (List TViolation)) (b : (List TViolation)) (i : Int) : (Option ((Bool × Unit) × Unit)) := law49_LimitFinds_D.lab 11 law49_LimitFinds_F11 ((a, b, i, ()), ())
theorem law49_LimitFinds_l11_eq (a : (List TViolation)) (b : (List TViolation)) (i : Int) : law49_LimitFinds_l11 a b i =
  if (decide (i < (b.length : Int))) = true then
    if 0 ≤ i ∧ i < (a.length : Int) then
      if 0 ≤ i ∧ i < (b.length : Int) then
        if (!(eqU uViolation (a.getD i.toNat dViolation) (b.getD i.toNat dViolation))) = true then
          some ((false, ()), ())
        else
          law49_LimitFinds_l11 a b (IntKind.i64.wrap (i + 1))
      else
        none
    else
      none
  else
    (law49_awake).bind fun y1 =>
      some ((y1.1.1, ()), ()) := (FD.lab_eq _ _ _ _).trans (by kernel_rfl)
def law49_LimitFinds (c : TCapture) (l : (List TLimit)) : (Option ((Bool × Unit) × Unit)) :=
  (law49_small c).bind fun y1 =>
    if (!y1.1.1) = true then
      (law49_awake).bind fun y2 =>
        some ((y2.1.1, ()), ())
    else
      (law49_few l).bind fun y3 =>
        if (!y3.1.1) = true then
          (law49_awake).bind fun y4 =>
            some ((y4.1.1, ()), ())
        else
          (limit_Find c l).bind fun y5 =>
            (ref49_Find c l).bind fun y6 =>
              if (y5.1.2.1 != y6.1.2.1) = true then
                some ((false, ()), ())
              else
                if ((y5.1.1.length : Int) != (y6.1.1.length : Int)) = true then
                  some ((false, ()), ())
                else
                  law49_LimitFinds_l11 y5.1.1 y6.1.1 0
def fc3 : FC := ⟨⟨[.row (.cons (.sl .str) (.sl (.cons (.int .i64) (.int .i64)))), .one (.sl (.cons (.int .i64) (.cons .str (.cons .str (.cons .bool (.cons (.int .i64) (.int .i64)))))))], []⟩, ⟨[.one .bool], []⟩, fun x => law49_LimitFinds x.1.1 x.1.2.1⟩
theorem con3 : Contract Tryz.prog 3 fc3 :=
  law49_LimitFinds_D.contract tok (cok_of (l := [(7, fc7), (8, fc8), (9, fc9), (10, fc10), (11, fc11)]) ⟨con7, con8, con9, con10, con11, trivial⟩) mixed (fn' := Tryz.f3) (by kernel_rfl) (by kernel_rfl) rfl (by kernel_rfl) (fun x => (FD.fn_eq _ _).trans (by kernel_rfl))
end
end Go.Proofs.YtejehchbflmofaaGreatDoor
end

section
/-
YtejehchbflmofaaGreatDoor: signalbench.signalbenchlaw49.LimitPrints, as one plain function, its equations, its contract. No condition.
-/
set_option maxRecDepth 100000
set_option linter.unusedVariables false
set_option maxHeartbeats 4000000
open Go Go.AM
namespace Go.Proofs.YtejehchbflmofaaGreatDoor
noncomputable section
def law49_LimitPrints_D : FD := ⟨T, lookC [(8, fc8), (9, fc9), (12, fc12), (13, fc13)], [], (Tryz.f4.body.getD .skip), Tryz.f4.results.toList, ⟨[.one (.sl (.cons (.int .i64) (.cons .str (.cons .str (.cons .bool (.cons (.int .i64) (.int .i64)))))))], []⟩, ⟨[.one .bool], []⟩, []⟩
def law49_LimitPrints (l : (List TLimit)) : (Option ((Bool × Unit) × Unit)) :=
  (law49_few l).bind fun y1 =>
    if (!y1.1.1) = true then
      (law49_awake).bind fun y2 =>
        some ((y2.1.1, ()), ())
    else
      (limit_Print l).bind fun y3 =>
        (ref49_Print l).bind fun y4 =>
          if (y3.1.1.toList == y4.1.1.toList) = true then
            if (y3.1.2.1 == y4.1.2.1) = true then
              (law49_awake).bind fun y5 =>
                some ((y5.1.1, ()), ())
            else
              some ((false, ()), ())
          else
            some ((false, ()), ())
def fc4 : FC := ⟨⟨[.one (.sl (.cons (.int .i64) (.cons .str (.cons .str (.cons .bool (.cons (.int .i64) (.int .i64)))))))], []⟩, ⟨[.one .bool], []⟩, fun x => law49_LimitPrints x.1.1⟩
theorem con4 : Contract Tryz.prog 4 fc4 :=
  law49_LimitPrints_D.contract tok (cok_of (l := [(8, fc8), (9, fc9), (12, fc12), (13, fc13)]) ⟨con8, con9, con12, con13, trivial⟩) mixed (fn' := Tryz.f4) (by kernel_rfl) (by kernel_rfl) rfl (by kernel_rfl) (fun x => (FD.fn_eq _ _).trans (by kernel_rfl))
end
end Go.Proofs.YtejehchbflmofaaGreatDoor
end

section
/-
YtejehchbflmofaaGreatDoor: signalbench.signalbenchlaw49.LimitParses, as one plain function, its equations, its contract. No condition.
-/
set_option maxRecDepth 100000
set_option linter.unusedVariables false
set_option maxHeartbeats 4000000
open Go Go.AM
namespace Go.Proofs.YtejehchbflmofaaGreatDoor
noncomputable section
def law49_LimitParses_D : FD := ⟨T, lookC [(9, fc9), (14, fc14), (15, fc15), (16, fc16)], [], (Tryz.f5.body.getD .skip), Tryz.f5.results.toList, ⟨[.one .str], []⟩, ⟨[.one .bool], []⟩, []⟩
def law49_LimitParses (s : ByteArray) : (Option ((Bool × Unit) × Unit)) :=
  if (decide ((s.size : Int) > 500)) = true then
    (law49_awake).bind fun y1 =>
      some ((y1.1.1, ()), ())
  else
    (limit_Parse s).bind fun y2 =>
      (ref49_Parse s).bind fun y3 =>
        (ref49_Same y2.1.1 y3.1.1).bind fun y4 =>
          if y4.1.1 = true then
            if (y2.1.2.1 == y3.1.2.1) = true then
              if (y2.1.2.2.1 == y3.1.2.2.1) = true then
                (law49_awake).bind fun y5 =>
                  some ((y5.1.1, ()), ())
              else
                some ((false, ()), ())
            else
              some ((false, ()), ())
          else
            some ((false, ()), ())
def fc5 : FC := ⟨⟨[.one .str], []⟩, ⟨[.one .bool], []⟩, fun x => law49_LimitParses x.1.1⟩
theorem con5 : Contract Tryz.prog 5 fc5 :=
  law49_LimitParses_D.contract tok (cok_of (l := [(9, fc9), (14, fc14), (15, fc15), (16, fc16)]) ⟨con9, con14, con15, con16, trivial⟩) mixed (fn' := Tryz.f5) (by kernel_rfl) (by kernel_rfl) rfl (by kernel_rfl) (fun x => (FD.fn_eq _ _).trans (by kernel_rfl))
end
end Go.Proofs.YtejehchbflmofaaGreatDoor
end

section
/-
YtejehchbflmofaaGreatDoor: signalbench.signalbenchlaw49.LimitGaps, as one plain function, its equations, its contract. No condition.
-/
set_option maxRecDepth 100000
set_option linter.unusedVariables false
set_option maxHeartbeats 4000000
open Go Go.AM
namespace Go.Proofs.YtejehchbflmofaaGreatDoor
noncomputable section
def law49_LimitGaps_D : FD := ⟨T, lookC [(7, fc7), (9, fc9), (17, fc17), (18, fc18), (19, fc19), (20, fc20), (21, fc21), (22, fc22)], [], (Tryz.f6.body.getD .skip), Tryz.f6.results.toList, ⟨[.row (.cons (.sl .str) (.sl (.cons (.int .i64) (.int .i64)))), .row (.cons (.int .i64) (.cons .str (.cons .str (.cons .bool (.cons (.int .i64) (.int .i64))))))], []⟩, ⟨[.one .bool], []⟩, []⟩
def law49_LimitGaps (c : TCapture) (x0 : TLimit) : (Option ((Bool × Unit) × Unit)) :=
  (law49_small c).bind fun y1 =>
    if (!y1.1.1) = true then
      (law49_awake).bind fun y2 =>
        some ((y2.1.1, ()), ())
    else
      (law49_brief x0.2.1).bind fun y3 =>
        if (!y3.1.1) = true then
          (law49_awake).bind fun y4 =>
            some ((y4.1.1, ()), ())
        else
          (law49_brief x0.2.2.1).bind fun y5 =>
            if (!y5.1.1) = true then
              (law49_awake).bind fun y6 =>
                some ((y6.1.1, ()), ())
            else
              (limit_Gaps c x0).bind fun y7 =>
                (ref49_Gaps c x0).bind fun y8 =>
                  (limit_Worst c x0).bind fun y9 =>
                    (ref49_Worst c x0).bind fun y10 =>
                      (law49_sameGaps y7.1.1 y8.1.1).bind fun y11 =>
                        if y11.1.1 = true then
                          if (y7.1.2.1 == y8.1.2.1) = true then
                            if (eqU uGap y9.1.1 y10.1.1) = true then
                              if (y9.1.2.1 == y10.1.2.1) = true then
                                (law49_awake).bind fun y12 =>
                                  some ((y12.1.1, ()), ())
                              else
                                some ((false, ()), ())
                            else
                              some ((false, ()), ())
                          else
                            some ((false, ()), ())
                        else
                          some ((false, ()), ())
def fc6 : FC := ⟨⟨[.row (.cons (.sl .str) (.sl (.cons (.int .i64) (.int .i64)))), .row (.cons (.int .i64) (.cons .str (.cons .str (.cons .bool (.cons (.int .i64) (.int .i64))))))], []⟩, ⟨[.one .bool], []⟩, fun x => law49_LimitGaps x.1.1 x.1.2.1⟩
theorem con6 : Contract Tryz.prog 6 fc6 :=
  law49_LimitGaps_D.contract tok (cok_of (l := [(7, fc7), (9, fc9), (17, fc17), (18, fc18), (19, fc19), (20, fc20), (21, fc21), (22, fc22)]) ⟨con7, con9, con17, con18, con19, con20, con21, con22, trivial⟩) mixed (fn' := Tryz.f6) (by kernel_rfl) (by kernel_rfl) rfl (by kernel_rfl) (fun x => (FD.fn_eq _ _).trans (by kernel_rfl))
end
end Go.Proofs.YtejehchbflmofaaGreatDoor
end

section
/-
YtejehchbflmofaaGreatDoor: the plain functions of names and numbers come to what they should. No condition.
-/
set_option maxRecDepth 100000
open Go Go.AM
namespace Go.Proofs.YtejehchbflmofaaGreatDoor

theorem lex_letter_b (c : UInt8) : lex_letter c.toNat = some ((letterB c, ()), ()) := by
  unfold lex_letter letterB
  by_cases h : 97 ≤ c.toNat
  · rw [if_pos (decide_eq_true (by omega)), decide_eq_true h, Bool.true_and]
    by_cases h2 : c.toNat ≤ 122
    · rw [decide_eq_true h2, decide_eq_true (by omega)]
    · rw [decide_eq_false h2, decide_eq_false (by omega)]
  · rw [if_neg (dF (by omega)), decide_eq_false h, Bool.false_and]

theorem lex_digit_b (c : UInt8) : lex_digit c.toNat = some ((digitB c, ()), ()) := by
  unfold lex_digit digitB
  by_cases h : 48 ≤ c.toNat
  · rw [if_pos (decide_eq_true (by omega)), decide_eq_true h, Bool.true_and]
    by_cases h2 : c.toNat ≤ 57
    · rw [decide_eq_true h2, decide_eq_true (by omega)]
    · rw [decide_eq_false h2, decide_eq_false (by omega)]
  · rw [if_neg (dF (by omega)), decide_eq_false h, Bool.false_and]

theorem int_beq (c d : UInt8) : ((c.toNat : Int) == (d.toNat : Int)) = (c == d) := by
  rw [Bool.eq_iff_iff, beq_iff_eq, beq_iff_eq, u8_eq]

theorem lex_word_b (c : UInt8) : lex_word c.toNat = some ((wordB c, ()), ()) := by
  unfold lex_word wordB
  rw [lex_letter_b, lex_digit_b]
  have := int_beq c 95
  cases letterB c <;> cases digitB c <;> simp <;> exact this

theorem ref05_letter_b (c : UInt8) : ref05_letter c.toNat = some ((letterB c, ()), ()) := lex_letter_b c
theorem ref05_digit_b (c : UInt8) : ref05_digit c.toNat = some ((digitB c, ()), ()) := lex_digit_b c
theorem ref05_inner_b (c : UInt8) : ref05_inner c.toNat = some ((wordB c, ()), ()) := lex_word_b c

theorem lex_hex_b (c : UInt8) : lex_hex c.toNat = some ((hexI c, ()), ()) := by
  have hc := c.toNat_lt
  unfold lex_hex hexI hexv
  by_cases h : 48 ≤ c.toNat ∧ c.toNat ≤ 57
  · rw [if_pos (decide_eq_true (by omega)), if_pos (decide_eq_true (by omega)), if_pos h, w8 (by omega) (by omega), w64 (by omega) (by omega)]
    simp only [Option.some.injEq, Prod.mk.injEq, and_true]; omega
  · rw [if_neg h]
    by_cases h2 : 97 ≤ c.toNat ∧ c.toNat ≤ 102
    · have e1 : IntKind.u8.wrap ((c.toNat : Int) - 97) = c.toNat - 97 := w8 (by omega) (by omega)
      have e2 : IntKind.i64.wrap ((c.toNat : Int) - 97) = c.toNat - 97 := w64 (by omega) (by omega)
      have e3 : IntKind.i64.wrap ((c.toNat : Int) - 97 + 10) = c.toNat - 97 + 10 := w64 (by omega) (by omega)
      rw [if_pos (decide_eq_true (by omega)), if_neg (dF (by omega)), if_pos (decide_eq_true (by omega)), if_pos (decide_eq_true (by omega)), if_pos h2, e1, e2, e3]
      simp only [Option.some.injEq, Prod.mk.injEq, and_true]; omega
    · rw [if_neg h2]
      simp only [decide_eq_true_eq]
      repeat' split
      all_goals first | rfl | (exfalso; omega)

theorem ref05_hexa_b (c : UInt8) : ref05_hexa c.toNat = some ((hexI c, ()), ()) := by
  have hc := c.toNat_lt
  unfold ref05_hexa
  rw [ref05_digit_b]
  simp only [Option.bind_some]
  unfold hexI hexv digitB
  by_cases h : 48 ≤ c.toNat ∧ c.toNat ≤ 57
  · rw [if_pos (by simp; omega), if_pos h, w64 (x := (c.toNat : Int)) (by omega) (by omega), w64 (by omega) (by omega)]
    simp only [Option.some.injEq, Prod.mk.injEq, and_true]; omega
  · rw [if_neg h, if_neg (by simp; omega)]
    by_cases h2 : 97 ≤ c.toNat ∧ c.toNat ≤ 102
    · have e1 : IntKind.i64.wrap (c.toNat : Int) = c.toNat := w64 (by omega) (by omega)
      have e2 : IntKind.i64.wrap ((c.toNat : Int) - 97) = c.toNat - 97 := w64 (by omega) (by omega)
      have e3 : IntKind.i64.wrap ((c.toNat : Int) - 97 + 10) = c.toNat - 97 + 10 := w64 (by omega) (by omega)
      rw [if_pos (decide_eq_true (by omega)), if_pos (decide_eq_true (by omega)), if_pos h2, e1, e2, e3]
      simp only [Option.some.injEq, Prod.mk.injEq, and_true]; omega
    · rw [if_neg h2]
      simp only [decide_eq_true_eq]
      repeat' split
      all_goals first | rfl | (exfalso; omega)

theorem hasPrefix_b (s p : ByteArray) : strings_HasPrefix s p = some ((decide (L s = L p ++ (L s).drop (L p).length), ()), ()) := by
  unfold strings_HasPrefix stringslite_HasPrefix
  by_cases h : p.size ≤ s.size
  · rw [if_pos (decide_eq_true (by omega)), if_pos ⟨by omega, by omega, by omega⟩]
    simp only [Option.bind_some, Option.some.injEq, Prod.mk.injEq, and_true]
    rw [Bool.eq_iff_iff, beq_iff_eq, decide_eq_true_eq, toL, toL, L_ext]
    simp only [Int.toNat_natCast, List.drop_zero]
    rw [← L_len p]
    constructor
    · intro e
      conv => lhs; rw [← List.take_append_drop (L p).length (L s), e]
    · intro e
      rw [e, List.take_left]
  · rw [if_neg (dF (by omega))]
    simp only [Option.bind_some, Option.some.injEq, Prod.mk.injEq, and_true]
    symm
    rw [decide_eq_false_iff_not]
    intro e
    have := congrArg List.length e
    simp only [List.length_append, L_len] at this
    omega

theorem lex_Name_loop (s : ByteArray) (hs : s.size ≤ 4611686018427387904) : ∀ (r : List UInt8) (n : Nat), (L s).drop n = r → lex_Name_l6 s s.size n = some ((r.all wordB, ()), ())
  | [], n, h => by
    have := drop_nil h
    rw [L_len] at this
    rw [lex_Name_l6_eq, if_neg (dF (by omega))]
    rfl
  | c :: r, n, h => by
    have h1 := drop_lt h
    rw [L_len] at h1
    rw [lex_Name_l6_eq, if_pos (decide_eq_true (by omega)), if_pos ⟨by omega, by omega⟩, bt_drop h, w32c, lex_word_b]
    simp only [Option.bind_some, List.all_cons]
    cases hw : wordB c
    · rfl
    · simp only [Bool.not_true, Bool.false_eq_true, if_false, Bool.true_and]
      rw [w64 (by omega) (by omega)]
      exact lex_Name_loop s hs r (n + 1) (drop_succ h)

theorem ref05_Name_loop (s : ByteArray) (hs : s.size ≤ 4611686018427387904) : ∀ (r : List UInt8) (n : Nat), (L s).drop n = r → ref05_Name_l6 s n = some ((r.all wordB, ()), ())
  | [], n, h => by
    have := drop_nil h
    rw [L_len] at this
    rw [ref05_Name_l6_eq, if_neg (dF (by omega))]
    rfl
  | c :: r, n, h => by
    have h1 := drop_lt h
    rw [L_len] at h1
    rw [ref05_Name_l6_eq, if_pos (decide_eq_true (by omega)), if_pos ⟨by omega, by omega⟩, bt_drop h, ref05_inner_b]
    simp only [Option.bind_some, List.all_cons]
    cases hw : wordB c
    · rfl
    · simp only [Bool.not_true, Bool.false_eq_true, if_false, Bool.true_and]
      rw [w64 (by omega) (by omega)]
      exact ref05_Name_loop s hs r (n + 1) (drop_succ h)

theorem lex_Name_b (s : ByteArray) : lex_Name s = some ((nameB (L s), ()), ()) := by
  unfold lex_Name
  have hl := L_len s
  cases hL : L s with
  | nil => rw [if_pos (by rw [toL, toL, hL, L_strB]; rfl)]; rfl
  | cons c r =>
    rw [hL] at hl
    simp only [List.length_cons] at hl
    rw [if_neg (by rw [toL, toL, hL, L_strB]; simp)]
    rw [nameB_cons]
    by_cases h : s.size ≤ 16
    · rw [if_neg (dF (by omega)), if_pos ⟨by omega, by omega⟩, bt_cons hL, w32c, lex_letter_b, decide_eq_true (by omega : r.length + 1 ≤ 16)]
      simp only [Option.bind_some, Bool.true_and]
      cases letterB c
      · rfl
      · simp only [Bool.not_true, Bool.false_eq_true, if_false, Bool.true_and]
        exact lex_Name_loop s (by omega) (c :: r) 0 (by rw [hL]; rfl)
    · rw [if_pos (decide_eq_true (by omega)), decide_eq_false (by omega : ¬ r.length + 1 ≤ 16)]
      rfl

theorem ref05_Name_b (s : ByteArray) : ref05_Name s = some ((nameB (L s), ()), ()) := by
  unfold ref05_Name
  have hl := L_len s
  cases hL : L s with
  | nil =>
    rw [hL] at hl
    simp only [List.length_nil] at hl
    rw [if_pos (decide_eq_true (by omega))]; rfl
  | cons c r =>
    rw [hL] at hl
    simp only [List.length_cons] at hl
    rw [if_neg (dF (by omega))]
    rw [nameB_cons]
    by_cases h : s.size ≤ 16
    · rw [if_neg (dF (by omega)), if_pos ⟨by omega, by omega⟩, bt_cons hL, ref05_letter_b, decide_eq_true (by omega : r.length + 1 ≤ 16)]
      simp only [Option.bind_some, Bool.true_and]
      cases letterB c
      · rfl
      · simp only [Bool.not_true, Bool.false_eq_true, if_false, Bool.true_and]
        exact ref05_Name_loop s (by omega) (c :: r) 0 (by rw [hL]; rfl)
    · rw [if_pos (decide_eq_true (by omega)), decide_eq_false (by omega : ¬ r.length + 1 ≤ 16)]
      rfl

theorem hexI_cases (c : UInt8) : (hexv c = none ∧ hexI c = -1) ∨ ∃ d : Nat, hexv c = some d ∧ hexI c = d ∧ d < 16 := by
  unfold hexI
  cases h : hexv c with
  | none => exact .inl ⟨rfl, rfl⟩
  | some d => exact .inr ⟨d, rfl, rfl, hexv_lt h⟩

/-- What the loop over the digits comes to. -/
def numEnd (minus : Bool) : Option Nat → Int × Int
  | none => (0, 4)
  | some n => if n > 9007199254740992 then (0, 2) else (if minus = true then -(n : Int) else n, 0)

theorem lex_Number_loop (s : ByteArray) (hs : s.size ≤ 4611686018427387904) (minus : Bool) (base : Nat) (hb : base ≤ 16) : ∀ (r : List UInt8) (i n : Nat), (L s).drop i = r → n ≤ 9007199254740993 →
    lex_Number_l13 s minus base n s.size i = some (((numEnd minus (digs base r n)).1, (numEnd minus (digs base r n)).2, ()), ())
  | [], i, n, h, hn => by
    have := drop_nil h
    rw [L_len] at this
    rw [lex_Number_l13_eq, if_neg (dF (by omega))]
    simp only [digs, numEnd]
    by_cases h2 : n > 9007199254740992
    · rw [if_pos (decide_eq_true (by omega)), if_pos h2]
    · rw [if_neg (dF (by omega)), if_neg h2]
      cases minus
      · rfl
      · simp only [if_true, Option.some.injEq, Prod.mk.injEq, and_true]
        rw [w64 (by omega) (by omega)]; omega
  | c :: r, i, n, h, hn => by
    have h1 := drop_lt h
    rw [L_len] at h1
    rw [lex_Number_l13_eq, if_pos (decide_eq_true (by omega)), if_pos ⟨by omega, by omega⟩, bt_drop h, lex_hex_b]
    simp only [Option.bind_some, digs]
    rcases hexI_cases c with ⟨e1, e2⟩ | ⟨d, e1, e2, e3⟩
    · rw [e1, e2, if_pos (by decide)]
      try rfl
    · rw [e1, e2, if_neg (dF (by omega))]
      simp only
      by_cases hd : d < base
      · rw [if_neg (dF (by omega)), if_pos hd]
        have b1 : base * n ≤ 16 * 9007199254740993 := Nat.mul_le_mul hb hn
        have e4 : IntKind.i64.wrap ((base : Int) * n) = ((base * n : Nat) : Int) := by rw [← Int.natCast_mul, w64 (by omega) (by omega)]
        have e5 : IntKind.i64.wrap (((base * n : Nat) : Int) + d) = ((base * n + d : Nat) : Int) := by rw [w64 (by omega) (by omega)]; omega
        have e6 : IntKind.i64.wrap ((i : Int) + 1) = ((i + 1 : Nat) : Int) := by rw [w64 (by omega) (by omega)]; omega
        rw [e4, e5, e6, show (if (9007199254740993 : Int) < ((base * n + d : Nat) : Int) then (9007199254740993 : Int) else ((base * n + d : Nat) : Int)) = ((min (base * n + d) 9007199254740993 : Nat) : Int) by
          split <;> omega]
        exact lex_Number_loop s hs minus base hb r (i + 1) _ (drop_succ h) (by omega)
      · rw [if_pos (decide_eq_true (by omega)), if_neg hd]
        try rfl

theorem ref05_plain_loop (s : ByteArray) (hs : s.size ≤ 4611686018427387904) (base : Nat) (hb : base ≤ 16) : ∀ (r : List UInt8) (i n : Nat), (L s).drop i = r → n ≤ 9007199254740993 →
    ref05_plain_l7 s base n i = some ((match digs base r n with | some m => ((m : Int), true, ()) | none => (0, false, ())), ())
  | [], i, n, h, hn => by
    have := drop_nil h
    rw [L_len] at this
    rw [ref05_plain_l7_eq, if_neg (dF (by omega))]
    rfl
  | c :: r, i, n, h, hn => by
    have h1 := drop_lt h
    rw [L_len] at h1
    rw [ref05_plain_l7_eq, if_pos (decide_eq_true (by omega)), if_pos ⟨by omega, by omega⟩, bt_drop h, ref05_hexa_b]
    simp only [Option.bind_some, digs]
    rcases hexI_cases c with ⟨e1, e2⟩ | ⟨d, e1, e2, e3⟩
    · rw [e1, e2, if_pos (by decide)]
    · rw [e1, e2, if_neg (dF (by omega))]
      simp only
      by_cases hd : d < base
      · rw [if_neg (dF (by omega)), if_pos hd]
        have b1 : base * n ≤ 16 * 9007199254740993 := Nat.mul_le_mul hb hn
        have e4 : IntKind.i64.wrap ((n : Int) * base) = ((base * n : Nat) : Int) := by rw [show (n : Int) * base = ((base * n : Nat) : Int) by rw [Int.natCast_mul, Int.mul_comm], w64 (by omega) (by omega)]
        have e5 : IntKind.i64.wrap (((base * n : Nat) : Int) + d) = ((base * n + d : Nat) : Int) := by rw [w64 (by omega) (by omega)]; omega
        have e6 : IntKind.i64.wrap ((i : Int) + 1) = ((i + 1 : Nat) : Int) := by rw [w64 (by omega) (by omega)]; omega
        rw [e4, e5, e6]
        by_cases h7 : base * n + d > 9007199254740992
        · rw [if_pos (decide_eq_true (by omega)), show min (base * n + d) 9007199254740993 = 9007199254740993 by omega]
          exact ref05_plain_loop s hs base hb r (i + 1) 9007199254740993 (drop_succ h) (by omega)
        · rw [if_neg (dF (by omega)), show min (base * n + d) 9007199254740993 = base * n + d by omega]
          exact ref05_plain_loop s hs base hb r (i + 1) _ (drop_succ h) (by omega)
      · rw [if_pos (decide_eq_true (by omega)), if_neg hd]

theorem ref05_plain_b (s : ByteArray) (hs : s.size ≤ 4611686018427387904) (base : Nat) (hb : base ≤ 16) : ref05_plain s base = some ((match natV (L s) base with | some m => ((m : Int), true, ()) | none => (0, false, ())), ()) := by
  unfold ref05_plain
  have hl := L_len s
  cases hL : L s with
  | nil =>
    rw [hL] at hl
    simp only [List.length_nil] at hl
    rw [if_pos (by rw [beq_iff_eq]; omega)]
    rfl
  | cons c r =>
    rw [hL] at hl
    simp only [List.length_cons] at hl
    rw [if_neg (eF (by omega))]
    have hc := int_beq c 48
    simp only [natV]
    by_cases h1 : r = []
    · subst h1
      have hl' : s.size = 1 := hl.symm
      rw [if_neg (dF (by omega)), if_neg (by simp)]
      exact ref05_plain_loop s hs base hb [c] 0 0 (by rw [hL]; rfl) (by omega)
    · have : 0 < r.length := List.length_pos_iff.2 h1
      rw [if_pos (decide_eq_true (by omega)), if_pos ⟨by omega, by omega⟩, bt_cons hL]
      by_cases h2 : c = 48
      · rw [if_pos (by rw [h2]; rfl), if_pos ⟨h2, h1⟩]
      · rw [if_neg (by rw [show ((c.toNat : Int) == 48) = _ from hc]; simpa using h2), if_neg (by simp [h2])]
        exact ref05_plain_loop s hs base hb (c :: r) 0 0 (by rw [hL]; rfl) (by omega)

end Go.Proofs.YtejehchbflmofaaGreatDoor
end

section
/-
YtejehchbflmofaaGreatDoor: the plain functions of numbers and quoted strings come to what they should. No condition.
-/
set_option maxRecDepth 100000
open Go Go.AM
namespace Go.Proofs.YtejehchbflmofaaGreatDoor

def l5V (minus : Bool) (base : Nat) (l : List UInt8) : Int × Int := match l with
  | [] => (0, 4)
  | c :: r => if c = 48 ∧ (minus = true ∨ r ≠ []) then (0, 4) else numEnd minus (digs base (c :: r) 0)

theorem lex_Number_l5_b (s : ByteArray) (hs : s.size ≤ 4611686018427387904) (minus : Bool) (base : Nat) (hb : base ≤ 16) : lex_Number_l5 s minus base = some (((l5V minus base (L s)).1, (l5V minus base (L s)).2, ()), ()) := by
  rw [lex_Number_l5_eq]
  cases hL : L s with
  | nil => rw [if_pos (is_nil hL)]; rfl
  | cons c r =>
    have hl := size_of hL
    simp only [List.length_cons] at hl
    rw [if_neg (not_nil hL), if_pos ⟨by omega, by omega⟩, bt_cons hL]
    have loop := lex_Number_loop s hs minus base hb (c :: r) 0 0 (by rw [hL]; rfl) (by omega)
    simp only [l5V]
    by_cases h1 : c = 48
    · subst h1
      rw [if_pos (by decide)]
      cases minus with
      | true => simp
      | false =>
        simp only [Bool.false_eq_true, if_false, false_or, true_and]
        by_cases h2 : r = []
        · subst h2
          simp only [List.length_nil] at hl
          rw [if_neg (dF (by omega)), if_neg (by simp)]
          exact loop
        · have := List.length_pos_iff.2 h2
          rw [if_pos (dT (by omega)), if_pos h2]
    · rw [if_neg (show ¬ ((c.toNat : Int) == 48) = true from byte_ne h1), if_neg (by simp [h1])]
      exact loop

theorem numN_natV (neg : Bool) (base : Nat) (hb : 0 < base) (l : List UInt8) : numN neg (natV l base) = l5V neg base l := by
  cases l with
  | nil => rfl
  | cons c r =>
    simp only [natV, l5V]
    by_cases h1 : c = 48
    · subst h1
      by_cases h2 : r = []
      · subst h2
        have e : digs base [48] 0 = some 0 := by
          have : hexv 48 = some 0 := by decide
          simp [digs, this, hb]
        rw [if_neg (by simp), e]
        cases neg <;> simp [numN, numEnd]
      · rw [if_pos ⟨rfl, h2⟩, if_pos ⟨rfl, .inr h2⟩]
        rfl
    · rw [if_neg (by simp [h1]), if_neg (by simp [h1])]
      cases hd : digs base (c :: r) 0 with
      | none => rfl
      | some m =>
        have := digs_first hb hd h1
        simp only [numN, numEnd]
        rw [if_neg (by omega)]

theorem body_l5 (neg : Bool) (b : List UInt8) : numN neg (bodyV b) = match b with
    | 48 :: 120 :: t => l5V neg 16 t
    | b => l5V neg 10 b := by
  match b with
  | [] => exact numN_natV neg 10 (by omega) []
  | [c] =>
    have : bodyV [c] = natV [c] 10 := by unfold bodyV; split <;> simp_all
    rw [this, numN_natV neg 10 (by omega)]
    split <;> simp_all
  | c :: d :: r =>
    by_cases h : c = 48 ∧ d = 120
    · obtain ⟨rfl, rfl⟩ := h
      cases r with
      | nil =>
        have : bodyV [48, 120] = none := by rfl
        rw [this]; rfl
      | cons e r => exact numN_natV neg 16 (by omega) (e :: r)
    · have : bodyV (c :: d :: r) = natV (c :: d :: r) 10 := by
        unfold bodyV
        split
        · rename_i e; simp only [List.cons.injEq] at e; exact absurd ⟨e.1, e.2.1⟩ h
        · rfl
      rw [this, numN_natV neg 10 (by omega)]
      split
      · rename_i e; simp only [List.cons.injEq] at e; exact absurd ⟨e.1, e.2.1⟩ h
      · rfl

theorem prefix_minus_yes {s : ByteArray} {r : List UInt8} (h : L s = 45 :: r) : strings_HasPrefix s (strB [45]) = some ((true, ()), ()) := by
  rw [hasPrefix_b, L_strB, h]
  simp

theorem prefix_minus_no {s : ByteArray} (h : ∀ r, L s ≠ 45 :: r) : strings_HasPrefix s (strB [45]) = some ((false, ()), ()) := by
  rw [hasPrefix_b, L_strB]
  simp only [Option.some.injEq, Prod.mk.injEq, and_true, decide_eq_false_iff_not]
  exact fun e => h _ e

theorem prefix_hex (s : ByteArray) : strings_HasPrefix s (strB [48, 120]) = some ((match L s with
    | 48 :: 120 :: _ => true
    | _ => false, ()), ()) := by
  rw [hasPrefix_b]
  simp only [Option.some.injEq, Prod.mk.injEq, and_true]
  rw [L_strB]
  match L s with
  | [] => rfl
  | [c] => simp
  | c :: d :: r =>
    simp only [List.length_cons, List.length_nil, List.drop_succ_cons, List.drop_zero, List.cons_append, List.nil_append, List.cons.injEq, and_true]
    by_cases h : c = 48 ∧ d = 120
    · obtain ⟨rfl, rfl⟩ := h; simp
    · rw [decide_eq_false h]
      split
      · rename_i e; cases e; exact absurd ⟨rfl, rfl⟩ h
      · rfl

theorem lex_Number_l2_b (s : ByteArray) (hs : s.size ≤ 4611686018427387904) (minus : Bool) : lex_Number_l2 s minus = some (((numN minus (bodyV (L s))).1, (numN minus (bodyV (L s))).2, ()), ()) := by
  rw [lex_Number_l2_eq, prefix_hex, body_l5]
  simp only [Option.bind_some]
  split
  · rename_i t hL
    have hl := size_of hL
    simp only [List.length_cons] at hl
    rw [if_pos rfl, if_pos ⟨by omega, by omega⟩]
    have := lex_Number_l5_b (s.extract 2 s.size) (by rw [size_drop]; omega) minus 16 (by omega)
    rw [L_ext', hL] at this
    exact this
  · rw [if_neg (by simp)]
    exact lex_Number_l5_b s hs minus 10 (by omega)

theorem lex_Number_b (s : ByteArray) (hs : s.size ≤ 4611686018427387904) : lex_Number s = some (((numV (L s)).1, (numV (L s)).2, ()), ()) := by
  unfold lex_Number
  have no : (∀ r, L s ≠ 45 :: r) → numV (L s) = numN false (bodyV (L s)) → ((strings_HasPrefix s (strB [45])).bind fun y1 =>
      if y1.1.1 = true then
        if 0 ≤ (1 : Int) ∧ 1 ≤ (s.size : Int) then lex_Number_l2 (s.extract 1 s.size) y1.1.1 else none
      else lex_Number_l2 s y1.1.1) = some (((numV (L s)).1, (numV (L s)).2, ()), ()) := by
    intro h e
    rw [prefix_minus_no h, e]
    exact lex_Number_l2_b s hs false
  cases hL : L s with
  | nil =>
    rw [hL] at no
    exact no (fun r e => by cases e) rfl
  | cons c r =>
    by_cases h : c = 45
    · subst h
      have hl := size_of hL
      simp only [List.length_cons] at hl
      rw [prefix_minus_yes hL, numV_minus]
      simp only [Option.bind_some, if_true]
      rw [if_pos ⟨by omega, by omega⟩]
      have := lex_Number_l2_b (s.extract 1 s.size) (by rw [size_drop]; omega) true
      rw [L_ext', hL] at this
      exact this
    · rw [hL] at no
      exact no (fun r e => by cases e; exact h rfl) (numV_other h)

theorem ref05_Number_l7_b (neg : Bool) (o : Option Nat) (ho : ∀ n, o = some n → n ≤ 9007199254740993) : ref05_Number_l7 (if neg = true then -1 else 1) (match o with | some m => (m : Int) | none => 0) (match o with | some _ => true | none => false) = some (((numN neg o).1, (numN neg o).2, ()), ()) := by
  rw [ref05_Number_l7_eq]
  cases o with
  | none => rfl
  | some m =>
    have := ho m rfl
    simp only [Bool.not_true, Bool.false_eq_true, if_false, numN]
    cases neg with
    | true =>
      simp only [if_true, true_and]
      rw [if_pos (dT (by omega))]
      by_cases h1 : m = 0
      · subst h1; rfl
      · rw [if_neg (eF (by omega)), if_neg h1]
        by_cases h2 : m > 9007199254740992
        · rw [if_pos (dT (by omega)), if_pos h2]
        · rw [if_neg (dF (by omega)), if_neg h2, w64 (by omega) (by omega)]
          simp only [Option.some.injEq, Prod.mk.injEq, and_true]; omega
    | false =>
      simp only [Bool.false_eq_true, if_false, false_and]
      rw [if_neg (dF (by omega))]
      by_cases h2 : m > 9007199254740992
      · rw [if_pos (dT (by omega)), if_pos h2]
      · rw [if_neg (dF (by omega)), if_neg h2, w64 (by omega) (by omega)]
        simp only [Option.some.injEq, Prod.mk.injEq, and_true]; omega

theorem ref05_Number_l7_c (neg : Bool) (o : Option Nat) (ho : ∀ n, o = some n → n ≤ 9007199254740993) : ref05_Number_l7 (if neg = true then -1 else 1) (match o with | some m => ((m : Int), true, ()) | none => (0, false, ())).1 (match o with | some m => ((m : Int), true, ()) | none => (0, false, ())).2.1 = some (((numN neg o).1, (numN neg o).2, ()), ()) := by
  rw [← ref05_Number_l7_b neg o ho]
  cases o <;> rfl

theorem natV_le {l : List UInt8} {base n : Nat} (h : natV l base = some n) : n ≤ 9007199254740993 := by
  unfold natV at h
  split at h
  · cases h
  · split at h
    · cases h
    · exact digs_le _ _ _ h (by omega)

theorem bodyV_le {l : List UInt8} {n : Nat} (h : bodyV l = some n) : n ≤ 9007199254740993 := by
  unfold bodyV at h
  split at h <;> exact natV_le h

theorem ref05_Number_l3_b (s : ByteArray) (hs : s.size ≤ 4611686018427387904) (neg : Bool) : ref05_Number_l3 s (if neg = true then -1 else 1) = some (((numN neg (bodyV (L s))).1, (numN neg (bodyV (L s))).2, ()), ()) := by
  rw [ref05_Number_l3_eq]
  have ten : (ref05_plain s 10).bind (fun y3 => ref05_Number_l7 (if neg = true then -1 else 1) y3.1.1 y3.1.2.1) = some (((numN neg (natV (L s) 10)).1, (numN neg (natV (L s) 10)).2, ()), ()) := by
    have := ref05_plain_b s hs 10 (by omega)
    rw [show ref05_plain s 10 = _ from this]
    exact ref05_Number_l7_c neg (natV (L s) 10) (fun n h => natV_le h)
  by_cases h2 : s.size > 2
  · rw [if_pos (dT (by omega)), if_pos ⟨by omega, by omega, by omega⟩]
    match hL : L s with
    | [] => have := size_of hL; simp only [List.length_nil] at this; omega
    | [c] => have := size_of hL; simp only [List.length_cons, List.length_nil] at this; omega
    | [c, d] => have := size_of hL; simp only [List.length_cons, List.length_nil] at this; omega
    | c :: d :: e :: r =>
      by_cases h : c = 48 ∧ d = 120
      · obtain ⟨rfl, rfl⟩ := h
        rw [if_pos (by rw [toL, toL, L_take, hL, L_strB]; rfl), if_pos ⟨by omega, by omega⟩]
        have := ref05_plain_b (s.extract 2 s.size) (by rw [size_drop]; omega) 16 (by omega)
        rw [L_ext', hL] at this
        rw [show ref05_plain (s.extract 2 s.size) 16 = _ from this]
        rw [show bodyV (48 :: 120 :: e :: r) = natV (e :: r) 16 from rfl]
        exact ref05_Number_l7_c neg (natV (e :: r) 16) (fun n h => natV_le h)
      · rw [if_neg (by rw [toL, toL, L_take, hL, L_strB]; simp only [List.take_succ_cons, List.take_zero, beq_iff_eq, List.cons.injEq, and_true]; exact h), ten, hL]
        have : bodyV (c :: d :: e :: r) = natV (c :: d :: e :: r) 10 := by
          unfold bodyV
          split
          · rename_i q; simp only [List.cons.injEq] at q; exact absurd ⟨q.1, q.2.1⟩ h
          · rfl
        rw [this]
  · rw [if_neg (dF (by omega)), ten]
    have : bodyV (L s) = natV (L s) 10 := by
      unfold bodyV
      split
      · rename_i q; have := size_of q; simp only [List.length_cons] at this; omega
      · rfl
    rw [this]

theorem ref05_Number_b (s : ByteArray) (hs : s.size ≤ 4611686018427387904) : ref05_Number s = some (((numV (L s)).1, (numV (L s)).2, ()), ()) := by
  unfold ref05_Number
  cases hL : L s with
  | nil =>
    have hl := size_of hL
    simp only [List.length_nil] at hl
    rw [if_neg (dF (by omega))]
    have := ref05_Number_l3_b s hs false
    rw [hL] at this
    exact this
  | cons c r =>
    have hl := size_of hL
    simp only [List.length_cons] at hl
    rw [if_pos (dT (by omega)), if_pos ⟨by omega, by omega⟩, bt_cons hL]
    by_cases h : c = 45
    · subst h
      rw [if_pos (by decide), if_pos ⟨by omega, by omega⟩, numV_minus]
      have := ref05_Number_l3_b (s.extract 1 s.size) (by rw [size_drop]; omega) true
      rw [L_ext', hL] at this
      exact this
    · rw [if_neg (show ¬ ((c.toNat : Int) == 45) = true from byte_ne h), numV_other h]
      have := ref05_Number_l3_b s hs false
      rw [hL] at this
      exact this

end Go.Proofs.YtejehchbflmofaaGreatDoor
end

section
/-
YtejehchbflmofaaGreatDoor: the plain functions of quoted strings come to what they should. No condition.
-/
set_option maxRecDepth 100000
open Go Go.AM
namespace Go.Proofs.YtejehchbflmofaaGreatDoor

theorem lex_plain_b (c : UInt8) : lex_plain c.toNat = some ((plainB c, ()), ()) := by
  unfold lex_plain plainB
  by_cases h : 32 ≤ c.toNat
  · rw [if_pos (dT (by omega)), decide_eq_true h]
    by_cases h2 : c.toNat ≤ 126
    · rw [if_pos (dT (by omega)), decide_eq_true h2]
      by_cases h3 : c = 34
      · subst h3; rfl
      · rw [if_pos (show ((c.toNat : Int) != 34) = true from byte_bne h3), bne_iff_ne.2 h3]
        by_cases h4 : c = 92
        · subst h4; rfl
        · rw [show ((c.toNat : Int) != 92) = true from byte_bne h4, bne_iff_ne.2 h4]; rfl
    · rw [if_neg (dF (by omega)), decide_eq_false h2]
      simp
  · rw [if_neg (dF (by omega)), decide_eq_false h]
    simp

theorem hex_pair {x y : Nat} (hx : x < 16) (hy : y < 16) : IntKind.u8.wrap (IntKind.i64.wrap (IntKind.i64.wrap (16 * (x : Int)) + y)) = ((UInt8.ofNat (16 * x + y)).toNat : Int) := by
  have e1 : IntKind.i64.wrap (16 * (x : Int)) = 16 * x := w64 (by omega) (by omega)
  have e2 : IntKind.i64.wrap (16 * (x : Int) + y) = 16 * x + y := w64 (by omega) (by omega)
  rw [e1, e2, w8 (by omega) (by omega), UInt8.toNat_ofNat', Nat.mod_eq_of_lt (by omega)]
  omega

theorem hex_pair' {x y : Nat} (hx : x < 16) (hy : y < 16) : IntKind.u8.wrap (IntKind.i64.wrap (IntKind.i64.wrap ((x : Int) * 16) + y)) = ((UInt8.ofNat (16 * x + y)).toNat : Int) := by
  rw [Int.mul_comm]; exact hex_pair hx hy

theorem bt_at {s : ByteArray} {i : Nat} {c : UInt8} {r : List UInt8} (h : (L s).drop i = c :: r) (x : Int) (hx : x = i) : bt s x = (c.toNat : Int) := by
  subst hx; exact bt_drop h

theorem lex_escape_b (s : ByteArray) (c : UInt8) (r : List UInt8) (hL : L s = c :: r) : lex_escape s = some ((match escV r with
    | some (b, n) => ((b.toNat : Int), (n : Int), ())
    | none => (0, 0, ())), ()) := by
  unfold lex_escape
  have hl := size_of hL
  cases r with
  | nil =>
    simp only [List.length_cons, List.length_nil] at hl
    rw [if_pos (dT (by omega))]; rfl
  | cons e r =>
    simp only [List.length_cons] at hl
    have b1 : bt s 1 = (e.toNat : Int) := bt_at (i := 1) (r := r) (by rw [hL]; rfl) 1 rfl
    rw [if_neg (dF (by omega)), if_pos ⟨by omega, by omega⟩, b1]
    have yes : ∀ x, lex_escape_l6 s x true = some (((e.toNat : Int), 2, ()), ()) := fun x => by
      rw [lex_escape_l6_eq, if_pos rfl, if_pos ⟨by omega, by omega⟩, b1]
    by_cases h1 : e = 34
    · subst h1
      rw [if_pos (by decide), yes]; rfl
    · rw [if_neg (show ¬ ((e.toNat : Int) == 34) = true from byte_ne h1)]
      by_cases h2 : e = 92
      · subst h2
        rw [show (((92 : UInt8).toNat : Int) == 92) = true from by decide, yes]; rfl
      · rw [show ((e.toNat : Int) == 92) = false from by simpa using byte_ne h2, lex_escape_l6_eq, if_neg Bool.false_ne_true]
        simp only [escV]
        rw [if_neg (show ¬ (e = 34 ∨ e = 92) by simp [h1, h2])]
        by_cases h3 : e = 110
        · subst h3
          rw [if_pos (by decide), if_pos rfl]; rfl
        · rw [if_neg (show ¬ ((e.toNat : Int) == 110) = true from byte_ne h3), if_neg h3]
          by_cases h4 : e = 120
          · subst h4
            rw [if_pos (by decide), if_pos rfl]
            match r, hl, hL with
            | [], hl, _ => simp only [List.length_nil] at hl; rw [if_pos (dT (by omega))]
            | [a], hl, _ => simp only [List.length_cons, List.length_nil] at hl; rw [if_pos (dT (by omega))]
            | a :: b :: r, hl, hL =>
              simp only [List.length_cons] at hl
              have b2 : bt s 2 = (a.toNat : Int) := bt_at (i := 2) (r := b :: r) (by rw [hL]; rfl) 2 rfl
              have b3 : bt s 3 = (b.toNat : Int) := bt_at (i := 3) (r := r) (by rw [hL]; rfl) 3 rfl
              rw [if_neg (dF (by omega)), if_pos ⟨by omega, by omega⟩, b2, b3, lex_hex_b, lex_hex_b]
              simp only [Option.bind_some]
              rcases hexI_cases a with ⟨e1, e2⟩ | ⟨x, e1, e2, e3⟩
              · rw [e1, e2, if_pos (by decide)]
              · rw [e1, e2, if_neg (dF (by omega)), if_pos ⟨by omega, by omega⟩]
                rcases hexI_cases b with ⟨f1, f2⟩ | ⟨y, f1, f2, f3⟩
                · rw [f1, f2, if_pos (by decide)]
                · rw [f1, f2, if_neg (dF (by omega)), if_pos ⟨by omega, by omega⟩, if_pos ⟨by omega, by omega⟩, hex_pair e3 f3]
                  rfl
          · rw [if_neg (show ¬ ((e.toNat : Int) == 120) = true from byte_ne h4), if_neg h4]

theorem lex_Unquote_loop : ∀ (k : Nat) (s : ByteArray) (acc : List UInt8), (L s).length ≤ k → acc.length + (L s).length ≤ 1099511627776 → lex_Unquote_l7 s (bI acc) = some ((match unqI k (L s) with
    | some o => (strB (acc ++ o), 0, ())
    | none => (strB [], 4, ())), ()) := by
  intro k
  induction k using Nat.strongRecOn with
  | _ k ih =>
    intro s acc hk ha
    rw [lex_Unquote_l7_eq]
    cases hL : L s with
    | nil =>
      rw [if_neg (cond_nil hL), strOf_bI]
      have : unqI k [] = some [] := by cases k <;> rfl
      rw [this]
      simp
    | cons c r =>
      have hl := size_of hL
      rw [hL] at hk ha
      simp only [List.length_cons] at hk ha hl
      obtain ⟨k, rfl⟩ : ∃ j, k = j + 1 := ⟨k - 1, by omega⟩
      rw [if_pos (cond_not_nil hL), if_pos ⟨by omega, by omega⟩, bt_cons hL, w32c, lex_plain_b]
      simp only [Option.bind_some, unqI]
      by_cases hp : plainB c = true
      · rw [if_pos hp, if_pos hp, if_pos ⟨by omega, by omega⟩, if_pos (by rw [bI_len]; omega), if_pos ⟨by omega, by omega⟩, bI_snoc]
        have e := L_ext' s 1
        rw [hL] at e
        rw [ih k (by omega) (s.extract 1 s.size) (acc ++ [c]) (by rw [e]; simpa using by omega) (by rw [e]; simp; omega), e]
        simp only [List.drop_succ_cons, List.drop_zero]
        cases unqI k r <;> simp
      · rw [if_neg hp, if_neg hp, if_pos ⟨by omega, by omega⟩]
        have bad : ∀ x : Int, lex_Unquote_l14 s x 0 (bI acc) = some ((strB [], 4, ()), ()) := fun x => by rw [lex_Unquote_l14_eq, if_pos (eT rfl)]
        by_cases hc : c = 92
        · subst hc
          rw [if_pos (by decide), if_pos rfl, lex_escape_b s 92 r hL]
          simp only [Option.bind_some]
          cases he : escV r with
          | none => exact bad 0
          | some p =>
            obtain ⟨b, n⟩ := p
            have hn := escV_len he
            simp only
            rw [lex_Unquote_l14_eq, if_neg (eF (by omega)), if_pos (by rw [bI_len]; omega), if_pos ⟨by omega, by omega⟩, bI_snoc, Int.toNat_natCast]
            have e := L_ext' s n
            rw [hL, show n = (n - 1) + 1 by omega, List.drop_succ_cons] at e
            rw [show n - 1 + 1 = n by omega] at e
            rw [ih k (by omega) (s.extract n s.size) (acc ++ [b]) (by rw [e, List.length_drop]; omega) (by rw [e, List.length_drop]; simp; omega), e]
            cases unqI k (r.drop (n - 1)) <;> simp
        · rw [if_neg (show ¬ ((c.toNat : Int) == 92) = true from byte_ne hc), if_neg hc]
          exact bad 0

theorem lex_Unquote_b (s : ByteArray) (hs : s.size ≤ 1099511627776) : lex_Unquote s = some ((match unqV (L s) with
    | some o => (strB o, 0, ())
    | none => (strB [], 4, ())), ()) := by
  unfold lex_Unquote
  match hL : L s with
  | [] =>
    have hl := size_of hL
    simp only [List.length_nil] at hl
    rw [if_pos (dT (by omega))]; rfl
  | [c] =>
    have hl := size_of hL
    simp only [List.length_cons, List.length_nil] at hl
    rw [if_pos (dT (by omega))]
    by_cases h : c = 34
    · subst h; rfl
    · have : unqV [c] = none := by
        unfold unqV
        split
        · rename_i e; cases e; exact absurd rfl h
        · rfl
      rw [this]
  | c :: d :: r =>
    have hl := size_of hL
    simp only [List.length_cons] at hl
    rw [if_neg (dF (by omega)), if_pos ⟨by omega, by omega⟩, bt_cons hL]
    by_cases h : c = 34
    · subst h
      rw [if_neg (by decide)]
      have e1 : IntKind.i64.wrap ((s.size : Int) - 1) = ((r.length + 1 : Nat) : Int) := by rw [w64 (by omega) (by omega)]; omega
      rw [e1, if_pos ⟨by omega, by omega⟩]
      obtain ⟨i, z, hi⟩ : ∃ i z, d :: r = i ++ [z] := ⟨(d :: r).dropLast, (d :: r).getLast (by simp), (List.dropLast_concat_getLast (by simp)).symm⟩
      have hil : i.length = r.length := by
        have := congrArg List.length hi
        simp at this
        omega
      have hz : bt s ((r.length + 1 : Nat) : Int) = (z.toNat : Int) := bt_at (i := r.length + 1) (r := []) (by rw [hL, hi, List.drop_succ_cons, ← hil]; simp) _ rfl
      rw [hz]
      unfold unqV
      simp only
      rw [hi, List.getLast?_concat, List.dropLast_concat]
      by_cases h2 : z = 34
      · subst h2
        rw [if_neg (by decide), if_pos rfl, if_pos ⟨by omega, by omega, by omega⟩, Int.toNat_natCast]
        have e2 : L (s.extract 1 (r.length + 1)) = i := by
          rw [L_ext, hL, hi, ← hil]
          simp
        have := lex_Unquote_loop (i ++ [34]).length (s.extract 1 (r.length + 1)) [] (by rw [e2]; simp) (by rw [e2]; simp; omega)
        rw [e2] at this
        simp only [List.nil_append] at this
        exact this
      · rw [if_pos (show ((z.toNat : Int) != 34) = true from byte_bne h2), if_neg (by simpa using h2)]
    · rw [if_pos (show ((c.toNat : Int) != 34) = true from byte_bne h)]
      have : unqV (c :: d :: r) = none := by
        unfold unqV
        split
        · rename_i e; cases e; exact absurd rfl h
        · rfl
      rw [this]

theorem ref05_quoted_loop (s : ByteArray) (hs : s.size ≤ 1099511627776) : ∀ (k : Nat) (r : List UInt8) (i : Nat) (acc : List UInt8), (L s).drop i = r → r.length ≤ k → acc.length ≤ i → i ≤ s.size → ref05_quoted_l7 s i (bI acc) = some ((match unqL k r with
    | some (o, rest) => (strB (acc ++ o), ((s.size - rest.length : Nat) : Int), true, ())
    | none => (strB [], 0, false, ())), ()) := by
  intro k
  induction k using Nat.strongRecOn with
  | _ k ih =>
    intro r i acc hr hk ha hi
    have hrl : r.length = s.size - i := by rw [← hr, List.length_drop, L_len]
    rw [ref05_quoted_l7_eq]
    cases r with
    | nil =>
      simp only [List.length_nil] at hrl
      rw [if_neg (dF (by omega))]
      have : unqL k [] = none := by cases k <;> rfl
      rw [this]
    | cons c r =>
      simp only [List.length_cons] at hk hrl
      obtain ⟨k, rfl⟩ : ∃ j, k = j + 1 := ⟨k - 1, by omega⟩
      rw [if_pos (dT (by omega)), if_pos ⟨by omega, by omega⟩, bt_drop hr]
      have d1 := drop_succ hr
      by_cases h1 : c = 34
      · subst h1
        rw [if_pos (by decide), strOf_bI, w64a i (by omega)]
        simp only [unqL, if_true]
        simp only [List.append_nil, Option.some.injEq, Prod.mk.injEq, and_true, true_and]
        omega
      · rw [if_neg (show ¬ ((c.toNat : Int) == 34) = true from byte_ne h1)]
        rw [unqL, if_neg h1]
        by_cases h2 : c.toNat < 32
        · rw [if_pos (dT (by omega)), if_pos (.inl h2)]
        · rw [if_neg (dF (by omega))]
          by_cases h3 : 126 < c.toNat
          · rw [if_pos (dT (by omega)), if_pos (.inr h3)]
          · rw [if_neg (dF (by omega)), if_neg (show ¬ (c.toNat < 32 ∨ 126 < c.toNat) by omega)]
            by_cases h4 : c = 92
            · subst h4
              rw [if_neg (show ¬ (((92 : UInt8).toNat : Int) != 92) = true by decide), if_neg (show ¬ ((92 : UInt8) ≠ 92) by simp), w64a i (by omega), w64b i (by omega), w64c i (by omega), w64d i (by omega)]
              cases r with
              | nil =>
                simp only [List.length_nil] at hrl
                rw [if_pos (dT (by omega))]; rfl
              | cons e r =>
                simp only [List.length_cons] at hrl hk
                have d2 := drop_succ d1
                rw [if_neg (dF (by omega)), if_pos ⟨by omega, by omega⟩, bt_drop d1]
                have room : ∀ x : List Int, x.length = acc.length → (x.length + 1) * 1 ≤ 140737488355328 ∧ 0 < 1 := fun x hx => by omega
                have two : ∀ b : UInt8, (if ((bI acc).length + 1) * 1 ≤ 140737488355328 ∧ 0 < 1 then ref05_quoted_l7 s ((i + 2 : Nat) : Int) (bI acc ++ [(b.toNat : Int)]) else none) = some ((match (unqL k r).map fun p => (b :: p.1, p.2) with
                    | some (o, rest) => (strB (acc ++ o), ((s.size - rest.length : Nat) : Int), true, ())
                    | none => (strB [], 0, false, ())), ()) := by
                  intro b
                  rw [if_pos (room _ (bI_len _)), bI_snoc, ih k (by omega) r (i + 2) (acc ++ [b]) d2 (by omega) (by simp; omega) (by omega)]
                  cases unqL k r with
                  | none => rfl
                  | some p => simp
                simp only [escV]
                by_cases g1 : e = 34
                · subst g1
                  rw [if_pos (by decide), if_pos (show (34 : UInt8) = 34 ∨ (34 : UInt8) = 92 from .inl rfl)]
                  exact two 34
                · rw [if_neg (show ¬ ((e.toNat : Int) == 34) = true from byte_ne g1)]
                  by_cases g2 : e = 92
                  · subst g2
                    rw [if_pos (by decide), if_pos (show (92 : UInt8) = 34 ∨ (92 : UInt8) = 92 from .inr rfl)]
                    exact two 92
                  · rw [if_neg (show ¬ ((e.toNat : Int) == 92) = true from byte_ne g2), if_neg (show ¬ (e = 34 ∨ e = 92) by simp [g1, g2])]
                    by_cases g3 : e = 110
                    · subst g3
                      rw [if_pos (by decide), if_pos (show (110 : UInt8) = 110 from rfl)]
                      exact two 10
                    · rw [if_neg (show ¬ ((e.toNat : Int) == 110) = true from byte_ne g3), if_neg g3]
                      by_cases g4 : e = 120
                      · subst g4
                        rw [if_pos (by decide), if_pos (show (120 : UInt8) = 120 from rfl)]
                        match r, hrl, hk, d2 with
                        | [], hrl, _, _ => simp only [List.length_nil] at hrl; rw [if_neg (dF (by omega))]
                        | [a], hrl, _, _ => simp only [List.length_cons, List.length_nil] at hrl; rw [if_neg (dF (by omega))]
                        | a :: b :: r, hrl, hk, d2 =>
                          simp only [List.length_cons] at hrl hk
                          have d3 := drop_succ d2
                          have d4 := drop_succ d3
                          rw [if_pos (dT (by omega)), if_pos ⟨by omega, by omega⟩, bt_drop d2, bt_drop d3, ref05_hexa_b, ref05_hexa_b]
                          simp only [Option.bind_some]
                          rcases hexI_cases a with ⟨e1, e2⟩ | ⟨x, e1, e2, e3⟩
                          · rw [e1, e2, if_neg (by decide)]
                          · rw [e1, e2, if_pos (dT (by omega)), if_pos ⟨by omega, by omega⟩]
                            rcases hexI_cases b with ⟨f1, f2⟩ | ⟨y, f1, f2, f3⟩
                            · rw [f1, f2, if_neg (by decide)]
                            · rw [f1, f2, if_pos (dT (by omega)), if_pos ⟨by omega, by omega⟩, if_pos ⟨by omega, by omega⟩, if_pos (room _ (bI_len _)), hex_pair' e3 f3, bI_snoc,
                                ih k (by omega) r (i + 4) _ d4 (by omega) (by simp; omega) (by omega)]
                              simp only [Nat.add_one_sub_one, List.drop_succ_cons, List.drop_zero]
                              cases unqL k r with
                              | none => rfl
                              | some p => simp
                      · rw [if_neg (show ¬ ((e.toNat : Int) == 120) = true from byte_ne g4), if_neg g4]
            · rw [if_pos (show ((c.toNat : Int) != 92) = true from byte_bne h4), if_pos h4, if_pos (by rw [bI_len]; omega), w64a i (by omega), bI_snoc,
                ih k (by omega) r (i + 1) _ d1 (by omega) (by simp; omega) (by omega)]
              cases unqL k r with
              | none => rfl
              | some p => simp

theorem ref05_quoted_b (s : ByteArray) (hs : s.size ≤ 1099511627776) (i : Nat) (r : List UInt8) (h : (L s).drop i = 34 :: r) : ref05_quoted s i = some ((match unqL r.length r with
    | some (o, rest) => (strB o, ((s.size - rest.length : Nat) : Int), true, ())
    | none => (strB [], 0, false, ())), ()) := by
  have h1 := drop_lt h
  rw [L_len] at h1
  unfold ref05_quoted
  rw [if_neg (dF (by omega)), if_pos ⟨by omega, by omega⟩, bt_drop h, if_neg (by decide), w64a i (by omega)]
  exact ref05_quoted_loop s hs r.length r (i + 1) [] (drop_succ h) (Nat.le_refl _) (by simp) (by omega)

theorem ref05_quoted_no (s : ByteArray) (h : ∀ r, L s ≠ 34 :: r) : ref05_quoted s 0 = some ((strB [], 0, false, ()), ()) := by
  unfold ref05_quoted
  cases hL : L s with
  | nil =>
    have hl := size_of hL
    simp only [List.length_nil] at hl
    rw [if_pos (dT (by omega))]
  | cons c r =>
    have hl := size_of hL
    simp only [List.length_cons] at hl
    rw [if_neg (dF (by omega)), if_pos ⟨by omega, by omega⟩, bt_cons hL]
    have hc : c ≠ 34 := fun e => h r (by rw [← e]; exact hL)
    rw [if_pos (show ((c.toNat : Int) != 34) = true from byte_bne hc)]

end Go.Proofs.YtejehchbflmofaaGreatDoor
end

section
/-
YtejehchbflmofaaGreatDoor: the plain functions of tokens come to what they should. No condition.
-/
set_option maxRecDepth 100000
open Go Go.AM
namespace Go.Proofs.YtejehchbflmofaaGreatDoor

theorem lex_words_loop (s : ByteArray) (hs : s.size ≤ 1099511627776) : ∀ (r : List UInt8) (n : Nat), (L s).drop n = r → n ≤ s.size → lex_words_l3 s n = some ((((n + (r.takeWhile wordB).length : Nat) : Int), ()), ())
  | [], n, h, hn => by
    have := drop_nil h
    rw [L_len] at this
    rw [lex_words_l3_eq, if_neg (dF (by omega))]
    rfl
  | c :: r, n, h, hn => by
    have h1 := drop_lt h
    rw [L_len] at h1
    rw [lex_words_l3_eq, if_pos (dT (by omega)), if_pos ⟨by omega, by omega⟩, bt_drop h, w32c, lex_word_b]
    simp only [Option.bind_some, List.takeWhile_cons]
    cases hw : wordB c
    · simp
    · rw [if_pos rfl, w64a n (by omega), lex_words_loop s hs r (n + 1) (drop_succ h) (by omega)]
      simp only [if_true, List.length_cons]
      rw [show n + 1 + (r.takeWhile wordB).length = n + ((r.takeWhile wordB).length + 1) by omega]

theorem lex_words_b (s : ByteArray) (hs : s.size ≤ 1099511627776) : lex_words s = some (((((L s).takeWhile wordB).length : Int), ()), ()) := by
  have := lex_words_loop s hs (L s) 0 rfl (by omega)
  rw [Nat.zero_add] at this
  exact this

theorem ref05_word_loop (s : ByteArray) (hs : s.size ≤ 1099511627776) : ∀ (r : List UInt8) (n : Nat), (L s).drop n = r → n ≤ s.size → ref05_word_l3 s n = some ((((n + (r.takeWhile wordB).length : Nat) : Int), ()), ())
  | [], n, h, hn => by
    have := drop_nil h
    rw [L_len] at this
    rw [ref05_word_l3_eq, if_neg (dF (by omega))]
    rfl
  | c :: r, n, h, hn => by
    have h1 := drop_lt h
    rw [L_len] at h1
    rw [ref05_word_l3_eq, if_pos (dT (by omega)), if_pos ⟨by omega, by omega⟩, bt_drop h, ref05_inner_b]
    simp only [Option.bind_some, List.takeWhile_cons]
    cases hw : wordB c
    · simp
    · rw [if_pos rfl, w64a n (by omega), ref05_word_loop s hs r (n + 1) (drop_succ h) (by omega)]
      simp only [if_true, List.length_cons]
      rw [show n + 1 + (r.takeWhile wordB).length = n + ((r.takeWhile wordB).length + 1) by omega]

theorem ref05_word_b (s : ByteArray) (hs : s.size ≤ 1099511627776) (i : Nat) (c : UInt8) (r : List UInt8) (h : (L s).drop i = c :: r) : ref05_word s i = some ((((i + (1 + (r.takeWhile wordB).length) : Nat) : Int), ()), ()) := by
  have h1 := drop_lt h
  rw [L_len] at h1
  unfold ref05_word
  rw [w64a i (by omega), ref05_word_loop s hs r (i + 1) (drop_succ h) (by omega), Nat.add_assoc]

theorem lex_quoted_loop (s : ByteArray) (hs : s.size ≤ 1099511627776) : ∀ (k : Nat) (r : List UInt8) (i : Nat), (L s).drop i = r → r.length ≤ k → i ≤ s.size + 2 → lex_quoted_l3 s i = some ((match scanQ r with
    | some m => ((i + m + 1 : Nat) : Int)
    | none => 0, ()), ()) := by
  intro k
  induction k using Nat.strongRecOn with
  | _ k ih =>
    intro r i hr hk hi
    rw [lex_quoted_l3_eq]
    cases r with
    | nil =>
      have := drop_nil hr
      rw [L_len] at this
      rw [if_neg (dF (by omega))]; rfl
    | cons c r =>
      have h1 := drop_lt hr
      rw [L_len] at h1
      simp only [List.length_cons] at hk
      rw [if_pos (dT (by omega)), if_pos ⟨by omega, by omega⟩, bt_drop hr, scanQ_cons, w64a i (by omega)]
      have d1 := drop_succ hr
      by_cases g1 : c = 34
      · subst g1
        rw [if_pos (by decide), if_pos rfl]
      · rw [if_neg (show ¬ ((c.toNat : Int) == 34) = true from byte_ne g1), if_neg g1]
        by_cases g2 : c = 92
        · subst g2
          rw [if_pos (by decide), if_pos rfl, w64a (i + 1) (by omega)]
          cases r with
          | nil =>
            have := drop_nil d1
            rw [L_len] at this
            exact ih (k - 1) (by omega) [] (i + 1 + 1) (by rw [List.drop_of_length_le]; rw [L_len]; omega) (by simp) (by omega)
          | cons d r =>
            simp only [List.length_cons] at hk
            dsimp only
            rw [ih (k - 1) (by omega) r (i + 1 + 1) (drop_succ d1) (by omega) (by omega)]
            cases scanQ r with
            | none => rfl
            | some m => simp only [Option.map_some]; rw [show i + 1 + 1 + m + 1 = i + (m + 2) + 1 by omega]
        · rw [if_neg (show ¬ ((c.toNat : Int) == 92) = true from byte_ne g2), if_neg g2, ih (k - 1) (by omega) r (i + 1) d1 (by omega) (by omega)]
          cases scanQ r with
          | none => rfl
          | some m => simp only [Option.map_some]; rw [show i + 1 + m + 1 = i + (m + 1) + 1 by omega]

theorem or_if (b x : Bool) : (if b = true then some ((true, ()), ()) else some ((x, ()), ())) = some ((b || x, ()), ()) := by cases b <;> rfl

theorem lex_mark_b (c : UInt8) : lex_mark c.toNat = some ((markB c, ()), ()) := by
  unfold lex_mark markB marks
  simp only [or_if]
  simp only [show ((c.toNat : Int) == 40) = (c == 40) from int_beq c 40, show ((c.toNat : Int) == 41) = (c == 41) from int_beq c 41, show ((c.toNat : Int) == 91) = (c == 91) from int_beq c 91, show ((c.toNat : Int) == 93) = (c == 93) from int_beq c 93,
    show ((c.toNat : Int) == 123) = (c == 123) from int_beq c 123, show ((c.toNat : Int) == 125) = (c == 125) from int_beq c 125, show ((c.toNat : Int) == 60) = (c == 60) from int_beq c 60, show ((c.toNat : Int) == 62) = (c == 62) from int_beq c 62,
    show ((c.toNat : Int) == 61) = (c == 61) from int_beq c 61, show ((c.toNat : Int) == 44) = (c == 44) from int_beq c 44, show ((c.toNat : Int) == 59) = (c == 59) from int_beq c 59, show ((c.toNat : Int) == 58) = (c == 58) from int_beq c 58,
    show ((c.toNat : Int) == 46) = (c == 46) from int_beq c 46, show ((c.toNat : Int) == 47) = (c == 47) from int_beq c 47, show ((c.toNat : Int) == 42) = (c == 42) from int_beq c 42, show ((c.toNat : Int) == 43) = (c == 43) from int_beq c 43,
    show ((c.toNat : Int) == 33) = (c == 33) from int_beq c 33, show ((c.toNat : Int) == 38) = (c == 38) from int_beq c 38, show ((c.toNat : Int) == 124) = (c == 124) from int_beq c 124, List.contains_cons, List.contains_nil]

theorem ref05_Mark_loop (c : UInt8) (s : ByteArray) (hs : s.size ≤ 1000) : ∀ (r : List UInt8) (n : Nat), (L s).drop n = r → ref05_Mark_l4 c.toNat s n = some ((r.contains c, ()), ())
  | [], n, h => by
    have := drop_nil h
    rw [L_len] at this
    rw [ref05_Mark_l4_eq, if_neg (dF (by omega))]; rfl
  | d :: r, n, h => by
    have h1 := drop_lt h
    rw [L_len] at h1
    rw [ref05_Mark_l4_eq, if_pos (dT (by omega)), if_pos ⟨by omega, by omega⟩, bt_drop h, w64a n (by omega), ref05_Mark_loop c s hs r (n + 1) (drop_succ h), int_beq, or_if, List.contains_cons]
    rw [show (d == c) = (c == d) from by rw [Bool.eq_iff_iff, beq_iff_eq, beq_iff_eq]; exact eq_comm]

theorem ref05_Mark_b (c : UInt8) : ref05_Mark c.toNat = some ((markB c, ()), ()) := ref05_Mark_loop c _ (by decide) marks 0 rfl

theorem takeWhile_le (p : UInt8 → Bool) (l : List UInt8) : (l.takeWhile p).length ≤ l.length := (List.takeWhile_sublist p).length_le

theorem takeV_len {c : UInt8} {r : List UInt8} {t : Int × List UInt8 × Int} {n : Nat} (h : takeV (c :: r) = .ok (t, n)) : 1 ≤ n ∧ n ≤ r.length + 1 := by
  simp only [takeV] at h
  split at h
  · rename_i hc
    split at h
    · cases h
      have hw : wordB c = true := by simp [wordB, hc]
      rw [List.takeWhile_cons, if_pos hw]
      have := takeWhile_le wordB r
      simp only [List.length_cons]
      omega
    · cases h
  · split at h
    · split at h
      · cases h
        have := takeWhile_le wordB r
        omega
      · cases h
    · split at h
      · split at h
        · rename_i o rest hu
          cases h
          rw [unqL_scan _ _ (Nat.le_refl _)] at hu
          split at hu
          · cases hu
          · rename_i m hs
            have := scanQ_lt _ _ (Nat.le_refl _) m hs
            cases hi : unqI r.length (r.take m) with
            | none => rw [hi] at hu; cases hu
            | some o' =>
              rw [hi] at hu
              cases hu
              simp only [List.length_cons, List.length_drop]
              omega
        · cases h
      · split at h
        · cases h; omega
        · cases h

theorem numV_err (l : List UInt8) : (numV l).2 = 0 ∨ (numV l).2 = 4 ∨ (numV l).2 = 2 := by
  have key : ∀ b o, (numN b o).2 = 0 ∨ (numN b o).2 = 4 ∨ (numN b o).2 = 2 := by
    intro b o
    unfold numN
    split
    · simp
    · split
      · simp
      · split <;> simp
  unfold numV
  split <;> exact key _ _

theorem takeV_err {l : List UInt8} {e : Int} (h : takeV l = .error e) : e ≠ 0 := by
  cases l with
  | nil => cases h; decide
  | cons c r =>
    simp only [takeV] at h
    split at h
    · split at h
      · cases h
      · cases h; decide
    · split at h
      · split at h
        · cases h
        · rename_i hv
          cases h
          exact hv
      · split at h
        · split at h
          · cases h
          · cases h; decide
        · split at h
          · cases h
          · cases h; decide

/-- Numbers, as both functions take them. -/
theorem lex_take_num (s : ByteArray) (hs : s.size ≤ 1099511627776) (c : UInt8) (r : List UInt8) (hL : L s = c :: r) : (if 0 ≤ (1 : Int) ∧ 1 ≤ (s.size : Int) then
      (lex_words (s.extract 1 s.size)).bind fun y5 =>
        if 0 ≤ (0 : Int) ∧ (0 : Int) ≤ IntKind.i64.wrap (1 + y5.1.1) ∧ IntKind.i64.wrap (1 + y5.1.1) ≤ (s.size : Int) then
          (lex_Number (s.extract 0 (IntKind.i64.wrap (1 + y5.1.1)).toNat)).bind fun y6 =>
            if 0 ≤ (0 : Int) ∧ (0 : Int) ≤ IntKind.i64.wrap (1 + y5.1.1) ∧ IntKind.i64.wrap (1 + y5.1.1) ≤ (s.size : Int) then
              some ((((2 : Int), s.extract 0 (IntKind.i64.wrap (1 + y5.1.1)).toNat, y6.1.1, (0 : Int)), IntKind.i64.wrap (1 + y5.1.1), y6.1.2.1, ()), ())
            else
              none
        else
          none
    else
      none) = some (((2, strB ((c :: r).take (1 + (r.takeWhile wordB).length)), (numV ((c :: r).take (1 + (r.takeWhile wordB).length))).1, 0), ((1 + (r.takeWhile wordB).length : Nat) : Int), (numV ((c :: r).take (1 + (r.takeWhile wordB).length))).2, ()), ()) := by
  have hl := size_of hL
  simp only [List.length_cons] at hl
  have e := L_ext' s 1
  rw [hL, List.drop_succ_cons, List.drop_zero] at e
  have hw := takeWhile_le wordB r
  rw [if_pos ⟨by omega, by omega⟩, lex_words_b _ (by rw [size_drop]; omega), e]
  simp only [Option.bind_some]
  rw [show (1 : Int) + ((r.takeWhile wordB).length : Int) = (((1 + (r.takeWhile wordB).length : Nat)) : Int) by omega, w64 (by omega) (by omega), Int.toNat_natCast]
  rw [if_pos ⟨by omega, by omega, by omega⟩]
  have e2 : s.extract 0 (1 + (r.takeWhile wordB).length) = strB ((c :: r).take (1 + (r.takeWhile wordB).length)) := L_inj (by rw [L_take, hL, L_strB])
  rw [e2, lex_Number_b _ (by rw [strB_size, List.length_take]; simp only [List.length_cons]; omega), L_strB]
  simp only [Option.bind_some]
  rw [if_pos ⟨by omega, by omega, by omega⟩]

/-- What a function that takes a token comes to. -/
def TakeOk (line : Int) (i : Nat) (o : Option ((TToken × Int × Int × Unit) × Unit)) (v : Except Int ((Int × List UInt8 × Int) × Nat)) : Prop := match v with
  | .ok (t, n) => o = some (((t.1, strB t.2.1, t.2.2, line), ((i + n : Nat) : Int), 0, ()), ())
  | .error e => ∃ x n, o = some ((x, n, e, ()), ())

theorem take_ok {line : Int} {i n : Nat} {t : Int × List UInt8 × Int} {o : Option ((TToken × Int × Int × Unit) × Unit)} (h : o = some (((t.1, strB t.2.1, t.2.2, line), ((i + n : Nat) : Int), 0, ()), ())) : TakeOk line i o (.ok (t, n)) := h
theorem take_err {line : Int} {i : Nat} {e : Int} {x : TToken} {n : Int} : TakeOk line i (some ((x, n, e, ()), ())) (.error e) := ⟨x, n, rfl⟩

theorem lex_take_b (s : ByteArray) (hs : s.size ≤ 1099511627776) (c : UInt8) (r : List UInt8) (hL : L s = c :: r) : TakeOk 0 0 (lex_take s) (takeV (c :: r)) := by
  have hl := size_of hL
  simp only [List.length_cons] at hl
  unfold lex_take
  rw [if_pos ⟨by omega, by omega⟩, bt_cons hL, w32c, lex_letter_b, lex_digit_b]
  simp only [Option.bind_some]
  rw [lex_take_num s hs c r hL]
  simp only [takeV]
  by_cases h1 : letterB c = true
  · rw [if_pos h1, if_pos h1]
    have hw : ((c :: r).takeWhile wordB).length ≤ r.length + 1 := takeWhile_le wordB (c :: r)
    rw [lex_words_b s hs, hL]
    simp only [Option.bind_some, Int.toNat_natCast]
    rw [if_pos ⟨by omega, by omega, by omega⟩, if_pos ⟨by omega, by omega, by omega⟩]
    have e2 : s.extract 0 ((c :: r).takeWhile wordB).length = strB ((c :: r).take ((c :: r).takeWhile wordB).length) := L_inj (by rw [L_take, hL, L_strB])
    rw [e2, lex_Name_b, L_strB]
    simp only [Option.bind_some]
    cases hn : nameB ((c :: r).take ((c :: r).takeWhile wordB).length)
    · exact take_err
    · exact take_ok (by rw [Nat.zero_add]; rfl)
  · rw [if_neg h1, if_neg h1]
    by_cases h2 : digitB c = true ∨ c = 45
    · have e3 : ∀ (x y : Option ((TToken × Int × Int × Unit) × Unit)), (if digitB c = true then x else if ((c.toNat : Int) == 45) = true then x else y) = x := by
        intro x y
        rcases h2 with h2 | h2
        · rw [if_pos h2]
        · subst h2
          rw [if_neg (by decide), if_pos (by decide)]
      rw [e3, if_pos h2]
      by_cases hv : (numV ((c :: r).take (1 + (r.takeWhile wordB).length))).2 = 0
      · rw [if_pos hv, hv]
        exact take_ok (by rw [Nat.zero_add])
      · rw [if_neg hv]
        exact take_err
    · rw [if_neg (fun q => h2 (.inl q)), if_neg (show ¬ ((c.toNat : Int) == 45) = true from byte_ne (fun q => h2 (.inr q))), if_neg h2]
      by_cases h3 : c = 34
      · subst h3
        rw [if_pos (by decide), if_pos rfl]
        have hq := lex_quoted_loop s hs r.length r 1 (by rw [hL]; rfl) (Nat.le_refl _) (by omega)
        unfold lex_quoted
        rw [show (1 : Int) = ((1 : Nat) : Int) from rfl, hq, unqL_scan r.length r (Nat.le_refl _)]
        simp only [Option.bind_some]
        cases hsc : scanQ r with
        | none =>
          simp only
          rw [if_pos ⟨by omega, by omega, by omega⟩, lex_Unquote_b _ (by rw [size_take _ _ (by simp)]; simp), L_take]
          exact take_err
        | some m =>
          have hm := scanQ_lt _ _ (Nat.le_refl _) m hsc
          simp only [Int.toNat_natCast]
          have hm' := hm.1
          rw [if_pos ⟨by omega, by omega, by omega⟩, lex_Unquote_b _ (by rw [size_take _ _ (by omega)]; omega), L_take, hL]
          have e4 : (34 :: r).take (1 + m + 1) = 34 :: (r.take m ++ [34]) := by
            rw [show 1 + m + 1 = (m + 1) + 1 by omega, List.take_succ_cons, List.take_succ_eq_append_getElem hm', (List.getElem?_eq_some_iff.1 hm.2).2]
          rw [e4]
          have e5 : unqV (34 :: (r.take m ++ [34])) = unqI r.length (r.take m) := by
            unfold unqV
            simp only
            rw [List.getLast?_concat, if_pos rfl, List.dropLast_concat, unqI_fuel _ _ (by simp), unqI_fuel r.length _ (by rw [List.length_take]; omega)]
          rw [e5]
          cases hu : unqI r.length (r.take m) with
          | none => exact take_err
          | some o =>
            refine take_ok ?_
            simp only [Option.bind_some, Option.some.injEq, Prod.mk.injEq, and_true, true_and, List.length_cons, List.length_drop]
            omega
      · rw [if_neg (show ¬ ((c.toNat : Int) == 34) = true from byte_ne h3), if_neg h3, lex_mark_b]
        simp only [Option.bind_some]
        by_cases h4 : markB c = true
        · rw [if_pos h4, if_pos ⟨by omega, by omega, by omega⟩, if_pos h4]
          have e6 : s.extract 0 1 = strB [c] := L_inj (by rw [L_take, hL]; rfl)
          rw [e6]
          exact take_ok rfl
        · rw [if_neg h4, if_neg h4]
          exact take_err

theorem ref05_token_b (s : ByteArray) (hs : s.size ≤ 1099511627776) (line : Int) (i : Nat) (c : UInt8) (r : List UInt8) (h : (L s).drop i = c :: r) : TakeOk line i (ref05_token s i line) (takeV (c :: r)) := by
  have hi := drop_lt h
  rw [L_len] at hi
  have hrl : r.length + 1 = s.size - i := by
    have := congrArg List.length h
    rw [List.length_drop, L_len, List.length_cons] at this
    omega
  have hw := takeWhile_le wordB r
  have cut : ∀ n, s.extract i (i + n) = strB ((c :: r).take n) := fun n => L_inj (by rw [L_ext, L_strB, ← h, List.drop_take]; congr 1; omega)
  unfold ref05_token
  rw [if_pos ⟨by omega, by omega⟩, bt_drop h, ref05_letter_b, ref05_digit_b, ref05_word_b s hs i c r h]
  simp only [Option.bind_some, Int.toNat_natCast, takeV]
  rw [cut, ref05_Number_b _ (by rw [strB_size, List.length_take]; simp only [List.length_cons]; omega), L_strB]
  simp only [Option.bind_some]
  by_cases h1 : letterB c = true
  · rw [if_pos h1, if_pos h1]
    have hwc : wordB c = true := by simp [wordB, h1]
    have e1 : ((c :: r).takeWhile wordB).length = 1 + (r.takeWhile wordB).length := by rw [List.takeWhile_cons, if_pos hwc, List.length_cons]; omega
    rw [if_pos ⟨by omega, by omega, by omega⟩, if_pos ⟨by omega, by omega, by omega⟩, ref05_Name_b, L_strB, e1]
    simp only [Option.bind_some]
    cases hn : nameB ((c :: r).take (1 + (r.takeWhile wordB).length))
    · exact take_err
    · exact take_ok rfl
  · rw [if_neg h1, if_neg h1]
    by_cases h2 : digitB c = true ∨ c = 45
    · have e3 : ∀ (x y : Option ((TToken × Int × Int × Unit) × Unit)), (if digitB c = true then x else if ((c.toNat : Int) == 45) = true then x else y) = x := by
        intro x y
        rcases h2 with h2 | h2
        · rw [if_pos h2]
        · subst h2
          rw [if_neg (by decide), if_pos (by decide)]
      rw [e3, if_pos h2, if_pos ⟨by omega, by omega, by omega⟩]
      by_cases hv : (numV ((c :: r).take (1 + (r.takeWhile wordB).length))).2 = 0
      · rw [if_neg (nF hv), if_pos ⟨by omega, by omega, by omega⟩, if_pos hv]
        exact take_ok rfl
      · rw [if_pos (nT hv), if_neg hv]
        exact take_err
    · rw [if_neg (fun q => h2 (.inl q)), if_neg (show ¬ ((c.toNat : Int) == 45) = true from byte_ne (fun q => h2 (.inr q))), if_neg h2]
      by_cases h3 : c = 34
      · subst h3
        rw [if_pos (by decide), if_pos rfl, ref05_quoted_b s hs i r h]
        simp only [Option.bind_some]
        cases hu : unqL r.length r with
        | none => exact take_err
        | some p =>
          obtain ⟨o, rest⟩ := p
          have hrest : rest.length ≤ r.length := by
            rw [unqL_scan _ _ (Nat.le_refl _)] at hu
            split at hu
            · cases hu
            · cases hi' : unqI r.length (r.take _) with
              | none => rw [hi'] at hu; cases hu
              | some o' =>
                rw [hi'] at hu
                cases hu
                rw [List.length_drop]; omega
          refine take_ok ?_
          simp only [Bool.not_true, Bool.false_eq_true, if_false, Option.some.injEq, Prod.mk.injEq, and_true, true_and, List.length_cons]
          omega
      · rw [if_neg (show ¬ ((c.toNat : Int) == 34) = true from byte_ne h3), if_neg h3, ref05_Mark_b]
        simp only [Option.bind_some]
        by_cases h4 : markB c = true
        · rw [if_pos h4, w64a i (by omega), if_pos ⟨by omega, by omega, by omega⟩, if_pos h4, Int.toNat_natCast, cut 1]
          exact take_ok rfl
        · rw [if_neg h4, if_neg h4]
          exact take_err

theorem indexByte_drop : ∀ (l : List UInt8) (c : UInt8), (Lib.indexByte l c = -1 ∧ l.dropWhile (· ≠ c) = []) ∨ ∃ n : Nat, Lib.indexByte l c = n ∧ n ≤ l.length ∧ l.dropWhile (· ≠ c) = l.drop n
  | [], c => .inl ⟨rfl, rfl⟩
  | b :: l, c => by
    simp only [Lib.indexByte]
    by_cases h : b = c
    · subst h
      refine .inr ⟨0, by simp, by simp, by simp⟩
    · rw [if_neg (by simpa using h)]
      have e : (b :: l).dropWhile (· ≠ c) = l.dropWhile (· ≠ c) := by simp [List.dropWhile_cons, h]
      rw [e]
      rcases indexByte_drop l c with ⟨h1, h2⟩ | ⟨n, h1, h2, h3⟩
      · rw [h1]; exact .inl ⟨by decide, h2⟩
      · rw [h1, if_neg (by simp)]
        exact .inr ⟨n + 1, by simp, by simp; omega, by rw [h3]; rfl⟩

/-- What the loops over a text come to. -/
def tokOut (l0 : List TToken) : Except (Int × Int) (List TToken) → (List TToken × Int × Int × Unit)
  | .ok ts => (l0 ++ ts, 0, 0, ())
  | .error e => ([], e.1, e.2, ())

theorem dropWhile_le (p : UInt8 → Bool) (l : List UInt8) : (l.dropWhile p).length ≤ l.length := (List.dropWhile_sublist p).length_le

theorem lex_Tokens_loop : ∀ (k : Nat) (s : ByteArray) (line : Nat) (l0 : List TToken), (L s).length ≤ k → l0.length + (L s).length ≤ 1048576 → line + (L s).length ≤ 2097152 →
    lex_Tokens_l7 s line l0 = some (tokOut l0 (tokF k line (L s)), ()) := by
  intro k
  induction k using Nat.strongRecOn with
  | _ k ih =>
    intro s line l0 hk ha hb
    rw [lex_Tokens_l7_eq]
    cases hL : L s with
    | nil =>
      rw [if_neg (cond_nil hL)]
      have : tokF k line [] = .ok [] := by cases k <;> rfl
      rw [this]
      simp only [tokOut, List.append_nil]
    | cons c r =>
      have hl := size_of hL
      rw [hL] at hk ha hb
      simp only [List.length_cons] at hk ha hb hl
      obtain ⟨k, rfl⟩ : ∃ j, k = j + 1 := ⟨k - 1, by omega⟩
      have e1 := L_ext' s 1
      rw [hL, List.drop_succ_cons, List.drop_zero] at e1
      rw [if_pos (cond_not_nil hL), if_pos ⟨by omega, by omega⟩, bt_cons hL, tokF]
      by_cases h1 : c = 10
      · subst h1
        rw [if_pos (by decide), if_pos rfl, if_pos ⟨by omega, by omega⟩, w64a line (by omega), ih k (by omega) _ (line + 1) l0 (by rw [e1]; omega) (by rw [e1]; omega) (by rw [e1]; omega), e1]
        rfl
      · rw [if_neg (show ¬ ((c.toNat : Int) == 10) = true from byte_ne h1), if_neg h1]
        have blank : ∀ t, lex_Tokens_l15 s line t true l0 = some (tokOut l0 (tokF k line r), ()) := by
          intro t
          rw [lex_Tokens_l15_eq, if_pos rfl, if_pos ⟨by omega, by omega⟩, ih k (by omega) _ line l0 (by rw [e1]; omega) (by rw [e1]; omega) (by rw [e1]; omega), e1]
        by_cases h2 : c = 32
        · subst h2
          rw [if_pos (by decide), if_pos (.inl rfl)]
          exact blank _
        · rw [if_neg (show ¬ ((c.toNat : Int) == 32) = true from byte_ne h2)]
          by_cases h3 : c = 9
          · subst h3
            rw [show (((9 : UInt8).toNat : Int) == 9) = true from by decide, if_pos (.inr rfl)]
            exact blank _
          · rw [show ((c.toNat : Int) == 9) = false from by simpa using byte_ne h3, if_neg (by simp [h2, h3]), lex_Tokens_l15_eq, if_neg Bool.false_ne_true]
            by_cases h4 : c = 35
            · subst h4
              rw [if_pos (by decide), if_pos rfl]
              simp only [strings_IndexByte, Option.bind_some]
              rw [show (10 : Int).toNat.toUInt8 = 10 from rfl, show s.data.toList = L s from rfl, hL]
              have e2 : ((35 : UInt8) :: r).dropWhile (· ≠ 10) = r.dropWhile (· ≠ 10) := by simp [List.dropWhile_cons]
              have hdl := dropWhile_le (· ≠ 10) r
              rcases indexByte_drop (35 :: r) 10 with ⟨f1, f2⟩ | ⟨n, f1, f2, f3⟩
              · rw [f1, if_pos (by decide), if_pos ⟨by omega, by omega⟩, Int.toNat_natCast]
                have e3 := L_ext' s s.size
                rw [List.drop_of_length_le (by rw [L_len]; exact Nat.le_refl _)] at e3
                rw [ih k (by omega) _ line l0 (by rw [e3]; simp) (by rw [e3]; simp; omega) (by rw [e3]; simp; omega), e3, ← e2, f2]
              · simp only [List.length_cons] at f2
                rw [f1, if_neg (dF (by omega)), if_pos ⟨by omega, by omega⟩, Int.toNat_natCast]
                have e3 := L_ext' s n
                rw [hL, ← f3, e2] at e3
                rw [ih k (by omega) _ line l0 (by rw [e3]; omega) (by rw [e3]; omega) (by rw [e3]; omega), e3]
            · rw [if_neg (show ¬ ((c.toNat : Int) == 35) = true from byte_ne h4), if_neg h4]
              have ht := lex_take_b s (by omega) c r hL
              cases hv : takeV (c :: r) with
              | error e =>
                rw [hv] at ht
                obtain ⟨x, n, ht⟩ := ht
                rw [ht]
                simp only [Option.bind_some]
                rw [if_pos (nT (takeV_err hv))]
                rfl
              | ok p =>
                obtain ⟨t, n⟩ := p
                rw [hv] at ht
                have hn := takeV_len hv
                rw [show lex_take s = _ from ht]
                simp only [Option.bind_some]
                have e3 := L_ext' s n
                rw [hL] at e3
                have e4 : (L (s.extract n s.size)).length = r.length + 1 - n := by rw [e3, List.length_drop, List.length_cons]
                rw [if_neg (nF rfl), if_pos ⟨by omega, by omega⟩, if_pos ⟨by omega, by omega⟩, Int.toNat_natCast, Nat.zero_add,
                  ih k (by omega) _ line _ (by rw [e4]; omega) (by rw [e4, List.length_append, List.length_cons, List.length_nil]; omega) (by rw [e4]; omega), e3]
                cases tokF k line ((c :: r).drop n) with
                | error e => rfl
                | ok ts => simp only [tokOut, List.append_assoc, List.cons_append, List.nil_append]

theorem ref05_comment_loop (s : ByteArray) (hs : s.size ≤ 1048576) (line : Int) (l0 : List TToken) : ∀ (r : List UInt8) (i : Nat), (L s).drop i = r → i ≤ s.size → ref05_Tokens_l16 s line i l0 = ref05_Tokens_l8 s line ((s.size - (r.dropWhile (· ≠ 10)).length : Nat) : Int) l0
  | [], i, h, hi => by
    have := drop_nil h
    rw [L_len] at this
    rw [ref05_Tokens_l16_eq, if_neg (dF (by omega)), show i = s.size by omega]
    rfl
  | c :: r, i, h, hi => by
    have h1 := drop_lt h
    rw [L_len] at h1
    rw [ref05_Tokens_l16_eq, if_pos (dT (by omega)), if_pos ⟨by omega, by omega⟩, bt_drop h, w64a i (by omega)]
    by_cases g : c = 10
    · subst g
      rw [if_neg (by decide)]
      have : r.length + 1 = s.size - i := by
        have := congrArg List.length h
        rw [List.length_drop, L_len, List.length_cons] at this
        omega
      have e : ((10 : UInt8) :: r).dropWhile (· ≠ 10) = 10 :: r := by simp [List.dropWhile_cons]
      rw [e, List.length_cons, show s.size - (r.length + 1) = i by omega]
    · rw [if_pos (show ((c.toNat : Int) != 10) = true from byte_bne g), ref05_comment_loop s hs line l0 r (i + 1) (drop_succ h) (by omega)]
      have e : (c :: r).dropWhile (· ≠ 10) = r.dropWhile (· ≠ 10) := by simp [List.dropWhile_cons, g]
      rw [e]

theorem ref05_Tokens_loop (s : ByteArray) (hs : s.size ≤ 1048576) : ∀ (k : Nat) (r : List UInt8) (i line : Nat) (l0 : List TToken), (L s).drop i = r → r.length ≤ k → l0.length ≤ i → i ≤ s.size → line ≤ i + 1 →
    ref05_Tokens_l8 s line i l0 = some (tokOut l0 (tokF k line r), ()) := by
  intro k
  induction k using Nat.strongRecOn with
  | _ k ih =>
    intro r i line l0 hr hk ha hi hb
    rw [ref05_Tokens_l8_eq]
    cases r with
    | nil =>
      have := drop_nil hr
      rw [L_len] at this
      rw [if_neg (dF (by omega))]
      have : tokF k line [] = .ok [] := by cases k <;> rfl
      rw [this]
      simp only [tokOut, List.append_nil]
    | cons c r =>
      have h1 := drop_lt hr
      rw [L_len] at h1
      simp only [List.length_cons] at hk
      obtain ⟨k, rfl⟩ : ∃ j, k = j + 1 := ⟨k - 1, by omega⟩
      have hrl : r.length + 1 = s.size - i := by
        have := congrArg List.length hr
        rw [List.length_drop, L_len, List.length_cons] at this
        omega
      have d1 := drop_succ hr
      rw [if_pos (dT (by omega)), if_pos ⟨by omega, by omega⟩, bt_drop hr, tokF, w64a i (by omega)]
      by_cases g1 : c = 10
      · subst g1
        rw [if_pos (by decide), if_pos rfl, w64a line (by omega), ih k (by omega) r (i + 1) (line + 1) l0 d1 (by omega) (by omega) (by omega) (by omega)]
        rfl
      · rw [if_neg (show ¬ ((c.toNat : Int) == 10) = true from byte_ne g1), if_neg g1]
        by_cases g2 : c = 32
        · subst g2
          rw [if_pos (by decide), if_pos (.inl rfl), ih k (by omega) r (i + 1) line l0 d1 (by omega) (by omega) (by omega) (by omega)]
        · rw [if_neg (show ¬ ((c.toNat : Int) == 32) = true from byte_ne g2)]
          by_cases g3 : c = 9
          · subst g3
            rw [if_pos (by decide), if_pos (.inr rfl), ih k (by omega) r (i + 1) line l0 d1 (by omega) (by omega) (by omega) (by omega)]
          · rw [if_neg (show ¬ ((c.toNat : Int) == 9) = true from byte_ne g3), if_neg (show ¬ (c = 32 ∨ c = 9) by simp [g2, g3])]
            by_cases g4 : c = 35
            · subst g4
              rw [if_pos (by decide), if_pos rfl, ref05_comment_loop s hs line l0 (35 :: r) i hr hi]
              have e2 : ((35 : UInt8) :: r).dropWhile (· ≠ 10) = r.dropWhile (· ≠ 10) := by simp [List.dropWhile_cons]
              have hdl := dropWhile_le (· ≠ 10) r
              rw [e2]
              have e3 : (L s).drop (s.size - (r.dropWhile (· ≠ 10)).length) = r.dropWhile (· ≠ 10) := by
                obtain ⟨t, ht⟩ : ∃ t, t ++ r.dropWhile (· ≠ 10) = r := ⟨_, List.takeWhile_append_dropWhile⟩
                have hlen : t.length + (r.dropWhile (· ≠ 10)).length = r.length := by rw [← List.length_append, ht]
                rw [show s.size - (r.dropWhile (· ≠ 10)).length = (i + 1) + t.length by omega, ← List.drop_drop, d1]
                conv => lhs; rw [← ht]
                rw [List.drop_left]
              rw [ih k (by omega) _ _ line l0 e3 (by omega) (by omega) (by omega) (by omega)]
            · rw [if_neg (show ¬ ((c.toNat : Int) == 35) = true from byte_ne g4), if_neg g4]
              have ht := ref05_token_b s (by omega) line i c r hr
              cases hv : takeV (c :: r) with
              | error e =>
                rw [hv] at ht
                obtain ⟨x, n, ht⟩ := ht
                rw [ht]
                simp only [Option.bind_some]
                rw [if_pos (nT (takeV_err hv))]
                rfl
              | ok p =>
                obtain ⟨t, n⟩ := p
                rw [hv] at ht
                have hn := takeV_len hv
                rw [show ref05_token s i line = _ from ht]
                simp only [Option.bind_some]
                have e3 : (L s).drop (i + n) = (c :: r).drop n := by rw [← hr, List.drop_drop]
                rw [if_neg (nF rfl), if_pos ⟨by omega, by omega⟩,
                  ih k (by omega) _ (i + n) line _ e3 (by rw [List.length_drop, List.length_cons]; omega) (by rw [List.length_append, List.length_cons, List.length_nil]; omega) (by omega) (by omega)]
                cases tokF k line ((c :: r).drop n) with
                | error e => rfl
                | ok ts => simp only [tokOut, List.append_assoc, List.cons_append, List.nil_append]

theorem lex_Tokens_b (s : ByteArray) : lex_Tokens s = some (tokOut [] (tokV (L s)), ()) := by
  unfold lex_Tokens tokV
  rw [L_len]
  by_cases h : s.size > 1048576
  · rw [if_pos (dT (by omega)), if_pos h]; rfl
  · rw [if_neg (dF (by omega)), if_neg h]
    exact lex_Tokens_loop s.size s 1 [] (by rw [L_len]; exact Nat.le_refl _) (by rw [L_len]; simp; omega) (by rw [L_len]; omega)

theorem ref05_Tokens_b (s : ByteArray) : ref05_Tokens s = some (tokOut [] (tokV (L s)), ()) := by
  unfold ref05_Tokens tokV
  rw [L_len]
  by_cases h : s.size > 1048576
  · rw [if_pos (dT (by omega)), if_pos h]; rfl
  · rw [if_neg (dF (by omega)), if_neg h]
    exact ref05_Tokens_loop s (by omega) s.size (L s) 0 1 [] rfl (by rw [L_len]; exact Nat.le_refl _) (by simp) (by omega) (by omega)

end Go.Proofs.YtejehchbflmofaaGreatDoor
end

section
/-
YtejehchbflmofaaGreatDoor: the laws of tokens, numbers and quoted strings, as plain functions, come to true. No condition.
-/
set_option maxRecDepth 100000
open Go Go.AM
namespace Go.Proofs.YtejehchbflmofaaGreatDoor

theorem awake_tokens : tokV [97, 50, 32, 61, 32, 45, 48, 120, 49, 102, 59, 32, 35, 32, 101, 110, 100] = .ok [(1, strB [97, 50], 0, 1), (4, strB [61], 0, 1), (2, strB [45, 48, 120, 49, 102], (-31), 1), (4, strB [59], 0, 1)] := by kernel_rfl

theorem tokF_length : ∀ (k : Nat) (line : Int) (l : List UInt8) (ts : List TToken), tokF k line l = .ok ts → ts.length ≤ l.length := by
  intro k
  induction k with
  | zero => intro line l ts h; cases l <;> cases h <;> simp
  | succ k ih =>
    intro line l ts h
    cases l with
    | nil => cases h; simp
    | cons c r =>
      rw [tokF] at h
      split at h
      · have := ih _ _ _ h; simp only [List.length_cons]; omega
      · split at h
        · have := ih _ _ _ h; simp only [List.length_cons]; omega
        · split at h
          · have := ih _ _ _ h
            have := dropWhile_le (· ≠ 10) r
            simp only [List.length_cons]; omega
          · split at h
            · cases h
            · rename_i t n hv
              have hn := takeV_len hv
              split at h
              · rename_i ts' ht
                cases h
                have := ih _ _ _ ht
                rw [List.length_drop] at this
                simp only [List.length_cons] at this ⊢
                omega
              · cases h

theorem tokOut_length (s : ByteArray) : (tokOut [] (tokV (L s))).1.length ≤ 1048576 := by
  unfold tokV
  split
  · simp [tokOut]
  · cases h : tokF (L s).length 1 (L s) with
    | ok ts =>
      have := tokF_length _ _ _ _ h
      simp only [tokOut, List.nil_append]
      omega
    | error e => simp [tokOut]

end Go.Proofs.YtejehchbflmofaaGreatDoor
end

section
/-
YtejehchbflmofaaGreatDoor: quoting, as plain functions, comes to what the plain law says; quoted strings are read back. No condition.
-/
set_option maxRecDepth 100000
set_option linter.unusedVariables false
open Go Go.AM
namespace Go.Proofs.YtejehchbflmofaaGreatDoor

theorem writeByte_b (c : Int) (l : List Int) (h : l.length ≤ 1099511627776) : strings_Builder_WriteByte c l = some (((), ()), (((), (), ()), (), l ++ [c], ())) := by
  unfold strings_Builder_WriteByte strings_Builder_copyCheck
  simp only [Option.bind_some]
  rw [if_pos ⟨by omega, by decide⟩]

theorem writeString_b (s : ByteArray) (l : List Int) (h : l.length + s.size ≤ 1099511627776) : strings_Builder_WriteString s l = some (((s.size : Int), (), ()), (((), (), ()), (), l ++ bytesOfStr s, ())) := by
  have e : (bytesOfStr s).length = s.size := by unfold bytesOfStr; rw [List.length_map]; exact Array.length_toList
  unfold strings_Builder_WriteString strings_Builder_copyCheck
  simp only [Option.bind_some]
  rw [if_pos ⟨by rw [e]; omega, by decide⟩]

theorem byteL_bI (l : List UInt8) : byteL (bI l) = true := by
  unfold byteL bI
  rw [List.all_eq_true]
  intro x hx
  obtain ⟨c, _, rfl⟩ := List.mem_map.1 hx
  have := c.toNat_lt
  exact decide_eq_true (by omega)

theorem string_b (l : List UInt8) : strings_Builder_String (bI l) = some ((strB l, ()), ((), (), ())) := by
  unfold strings_Builder_String
  rw [if_pos (byteL_bI l), strOf_bI]

theorem lex_Quote_loop (s : ByteArray) (hs : s.size ≤ 4294967296) : ∀ (r : List UInt8) (n : Nat) (acc : List UInt8), (L s).drop n = r → acc.length ≤ 4 * n + 1 → n ≤ s.size → lex_Quote_l5 s s.size n (bI acc) = some ((strB (acc ++ (quoteL r ++ [34])), ()), ())
  | [], n, acc, h, ha, hn => by
    have h1 := drop_nil h
    rw [L_len] at h1
    rw [lex_Quote_l5_eq, if_neg (dF (by omega)), writeByte_b _ _ (by rw [bI_len]; omega)]
    simp only [Option.bind_some]
    rw [show bI acc ++ [34] = bI (acc ++ [34]) from bI_snoc acc 34, string_b]
    rfl
  | c :: r, n, acc, h, ha, hn => by
    have h1 := drop_lt h
    rw [L_len] at h1
    have hc := c.toNat_lt
    have ih : ∀ q : List UInt8, q = quoteC c → lex_Quote_l5 s s.size (n + 1 : Nat) (bI (acc ++ q)) = some ((strB (acc ++ (quoteL (c :: r) ++ [34])), ()), ()) := fun q hq => by
      have hl := quoteC_len c
      rw [lex_Quote_loop s hs r (n + 1) (acc ++ q) (dropS h) (by rw [List.length_append, hq]; omega) (by omega), hq, quoteL_cons]
      simp [List.append_assoc]
    rw [lex_Quote_l5_eq, if_pos (dT (by omega)), if_pos ⟨by omega, by omega⟩, bt_drop h, w32c, lex_plain_b, w64a n (by omega)]
    simp only [Option.bind_some]
    by_cases hp : plainB c = true
    · rw [if_pos hp, writeByte_b _ _ (by rw [bI_len]; omega)]
      simp only [Option.bind_some]
      rw [bI_snoc]
      exact ih [c] (by unfold quoteC; rw [if_pos hp])
    · rw [if_neg hp]
      have two : ∀ k : Nat, k ≤ 4 → (bI acc).length + k ≤ 1099511627776 := fun k hk => by rw [bI_len]; omega
      by_cases h34 : c = 34
      · subst h34
        rw [if_pos (by decide), writeByte_b _ _ (by have := two 0 (by omega); omega)]
        simp only [Option.bind_some]
        rw [writeByte_b _ _ (by rw [List.length_append]; have := two 1 (by omega); simp only [List.length_cons, List.length_nil]; omega)]
        simp only [Option.bind_some]
        have := ih [92, 34] rfl
        rw [← bI_app, show bI [92, 34] = [(92 : Int)] ++ [(34 : Int)] from rfl, ← List.append_assoc] at this
        exact this
      rw [if_neg (show ¬ ((c.toNat : Int) == 34) = true from byte_ne h34)]
      by_cases h92 : c = 92
      · subst h92
        rw [if_pos (by decide), writeByte_b _ _ (by have := two 0 (by omega); omega)]
        simp only [Option.bind_some]
        rw [writeByte_b _ _ (by rw [List.length_append]; have := two 1 (by omega); simp only [List.length_cons, List.length_nil]; omega)]
        simp only [Option.bind_some]
        have := ih [92, 92] rfl
        rw [← bI_app, show bI [92, 92] = [(92 : Int)] ++ [(92 : Int)] from rfl, ← List.append_assoc] at this
        exact this
      rw [if_neg (show ¬ ((c.toNat : Int) == 92) = true from byte_ne h92)]
      by_cases h10 : c = 10
      · subst h10
        rw [if_pos (by decide), writeString_b _ _ (two 2 (by omega))]
        simp only [Option.bind_some]
        have := ih [92, 110] rfl
        rw [← bI_app] at this
        exact this
      rw [if_neg (show ¬ ((c.toNat : Int) == 10) = true from byte_ne h10), writeString_b _ _ (two 2 (by omega))]
      simp only [Option.bind_some]
      obtain ⟨a1, a2, a3⟩ := dig_hi c.toNat hc
      obtain ⟨b1, b2, b3⟩ := dig_lo c.toNat hc
      have e2 : (bytesOfStr (strB [92, 120])) = [92, 120] := rfl
      rw [if_pos ⟨a1, a2⟩, e2, writeByte_b _ _ (by rw [List.length_append]; have := two 2 (by omega); simp only [List.length_cons, List.length_nil]; omega)]
      simp only [Option.bind_some]
      rw [if_pos ⟨b1, b2⟩, writeByte_b _ _ (by simp only [List.length_append, List.length_cons, List.length_nil]; have := two 3 (by omega); omega)]
      simp only [Option.bind_some]
      have := ih [92, 120, hexD (c.toNat / 16), hexD (c.toNat % 16)] (by unfold quoteC; rw [if_neg hp, if_neg (by simp [h34, h92]), if_neg h10])
      rw [← bI_app] at this
      have e3 : bI acc ++ [92, 120] ++ [bt digsB ((c.toNat : Int).fdiv 16)] ++ [bt digsB (IntKind.u8.wrap (BitVec.ofInt 8 (c.toNat : Int) &&& BitVec.ofInt 8 15).toNat)] = bI acc ++ bI [92, 120, hexD (c.toNat / 16), hexD (c.toNat % 16)] := by
        rw [a3, b3]
        simp [bI]
      rw [← e3] at this
      exact this

theorem lex_Quote_b (s : ByteArray) (hs : s.size ≤ 4294967296) : lex_Quote s = some ((strB (quoteV (L s)), ()), ()) := by
  unfold lex_Quote
  rw [writeByte_b _ _ (by simp)]
  simp only [Option.bind_some]
  exact lex_Quote_loop s hs (L s) 0 [34] rfl (by simp) (by omega)

theorem ref05_Quote_loop (s : ByteArray) (hs : s.size ≤ 4294967296) : ∀ (r : List UInt8) (n : Nat) (acc : List UInt8), (L s).drop n = r → acc.length ≤ 4 * n + 1 → n ≤ s.size → ref05_Quote_l5 s digsB n (bI acc) = some ((strB (acc ++ (quoteL r ++ [34])), ()), ())
  | [], n, acc, h, ha, hn => by
    have h1 := drop_nil h
    rw [L_len] at h1
    rw [ref05_Quote_l5_eq, if_neg (dF (by omega)), if_pos ⟨by rw [bI_len]; omega, by decide⟩, show bI acc ++ [34] = bI (acc ++ [34]) from bI_snoc acc 34, strOf_bI]
    rfl
  | c :: r, n, acc, h, ha, hn => by
    have h1 := drop_lt h
    rw [L_len] at h1
    have hc := c.toNat_lt
    have ih : ∀ q : List UInt8, q = quoteC c → ref05_Quote_l5 s digsB (n + 1 : Nat) (bI acc ++ bI q) = some ((strB (acc ++ (quoteL (c :: r) ++ [34])), ()), ()) := fun q hq => by
      have hl := quoteC_len c
      rw [bI_app, ref05_Quote_loop s hs r (n + 1) (acc ++ q) (dropS h) (by rw [List.length_append, hq]; omega) (by omega), hq, quoteL_cons]
      simp [List.append_assoc]
    have np : ∀ x : UInt8, x.toNat < 32 ∨ 126 < x.toNat ∨ x = 34 ∨ x = 92 → plainB x = false := by
      intro x hx
      unfold plainB
      rcases hx with q | q | q | q
      · rw [decide_eq_false (by omega)]; rfl
      · rw [decide_eq_false (show ¬ x.toNat ≤ 126 by omega)]; simp
      · subst q; decide
      · subst q; decide
    rw [ref05_Quote_l5_eq, if_pos (dT (by omega)), if_pos ⟨by omega, by omega⟩, bt_drop h, w64a n (by omega)]
    have two : ∀ k : Nat, k ≤ 4 → ((bI acc).length + k) * 1 ≤ 140737488355328 ∧ 0 < 1 := fun k hk => ⟨by rw [bI_len]; omega, by decide⟩
    by_cases h34 : c = 34
    · subst h34
      rw [if_pos (by decide), if_pos (two 2 (by omega))]
      exact ih [92, 34] rfl
    rw [if_neg (show ¬ ((c.toNat : Int) == 34) = true from byte_ne h34)]
    by_cases h92 : c = 92
    · subst h92
      rw [if_pos (by decide), if_pos (two 2 (by omega))]
      exact ih [92, 92] rfl
    rw [if_neg (show ¬ ((c.toNat : Int) == 92) = true from byte_ne h92)]
    by_cases h10 : c = 10
    · subst h10
      rw [if_pos (by decide), if_pos (two 2 (by omega))]
      exact ih [92, 110] rfl
    rw [if_neg (show ¬ ((c.toNat : Int) == 10) = true from byte_ne h10)]
    obtain ⟨a1, a2, a3⟩ := dig_hi2 c.toNat hc
    obtain ⟨b1, b2, b3⟩ := dig_lo2 c.toNat hc
    have hex : plainB c = false → ref05_Quote_l5 s digsB (n + 1 : Nat) (bI acc ++ [92, 120, bt digsB (IntKind.u8.wrap ((c.toNat : Int).tdiv 16)), bt digsB ((c.toNat : Int).tmod 16)]) = some ((strB (acc ++ (quoteL (c :: r) ++ [34])), ()), ()) := fun hp => by
      have := ih [92, 120, hexD (c.toNat / 16), hexD (c.toNat % 16)] (by unfold quoteC; rw [if_neg (by rw [hp]; simp), if_neg (by simp [h34, h92]), if_neg h10])
      rw [a3, b3]
      exact this
    by_cases h32 : (c.toNat : Int) < 32
    · rw [if_pos (dT h32), if_pos ⟨a1, a2⟩, if_pos ⟨b1, b2⟩, if_pos (two 4 (by omega))]
      exact hex (np c (.inl (by omega)))
    rw [if_neg (dF h32)]
    by_cases h126 : (c.toNat : Int) > 126
    · rw [if_pos (dT h126), if_pos ⟨a1, a2⟩, if_pos ⟨b1, b2⟩, if_pos (two 4 (by omega))]
      exact hex (np c (.inr (.inl (by omega))))
    rw [if_neg (dF h126), if_pos (two 1 (by omega))]
    refine ih [c] ?_
    unfold quoteC
    rw [if_pos]
    unfold plainB
    rw [decide_eq_true (show 32 ≤ c.toNat by omega), decide_eq_true (show c.toNat ≤ 126 by omega)]
    simp [h34, h92]

theorem ref05_Quote_b (s : ByteArray) (hs : s.size ≤ 4294967296) : ref05_Quote s = some ((strB (quoteV (L s)), ()), ()) := by
  unfold ref05_Quote
  exact ref05_Quote_loop s hs (L s) 0 [34] rfl (by simp) (by omega)

end Go.Proofs.YtejehchbflmofaaGreatDoor
end
