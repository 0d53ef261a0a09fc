/-
The plain functions of the program that the law KindsPorts reaches, that the program computes them, and what they come to. No condition.
-/
import Derived.Test.YtjlagiolgpjglaaDoorRows
import Derived.Test.YtjlagiolgpjglaaDoorChecked
import Derived.Shelf.Strings.Fields
import Derived.Lib.LaidTab
import Derived.Shelf.Utf8.RuneCount
import Derived.Shelf.Strconv.Atoi
import Derived.Shelf.Strconv.Itoa0
import Derived.Shelf.Strconv.Itoa1
import Derived.Shelf.LaysM
import Derived.Shelf.Strconv.Itoa2
import Derived.Shelf.Strconv.Itoa3
import Derived.Shelf.Strconv.AtoiErrFast
import Derived.Shelf.Strconv.ParseIntEmpty
import Derived.Shelf.Strconv.Clone
import Derived.Shelf.Strconv.Lower
import Derived.Shelf.Strconv.ParseUint10Empty
import Derived.Shelf.Strconv.ParseUintEmpty
import Derived.Shelf.Strings.Search1
import Derived.Shelf.Strings.Search2
import Derived.Shelf.Strings.Search3
import Derived.Shelf.Strings.Cut
import Derived.Shelf.Strings.Count
import Derived.Shelf.Strings.Shaped
import Derived.Shelf.Strings.Split
import Derived.Shelf.Strings.SplitShaped
import Derived.Shelf.Unicode.Latin
import Derived.Shelf.Unicode.Decode
import Derived.Shelf.Strings.RuneCount
import Derived.Shelf.Strings.Explode
import Derived.Shelf.Unicode.DecodeSlow
import Derived.Shelf.Unicode.DecodeAny
import Derived.Shelf.Unicode.Is16White
import Derived.Shelf.Unicode.IsSpaceAny
import Derived.Shelf.Unicode.Is16Any
import Derived.Shelf.Unicode.Is32Any
import Derived.Shelf.Unicode.ExclAny
import Derived.Test.YtjlagiolgpjglaaDoorProg
import Derived.Lib.SmallJoins
import Derived.Test.YtjlagiolgpjglaaDoorAm1
import Derived.Test.YtjlagiolgpjglaaDoorAm2
import Derived.Test.YtjlagiolgpjglaaDoorAm3
set_option linter.unusedVariables false
set_option linter.unusedSimpArgs false
set_option linter.unusedSectionVars false

section
/-
YtjlagiolgpjglaaDoor: the given measure of what is read is the machine's. No condition.
-/
namespace Go.Proofs.YtjlagiolgpjglaaDoor
open Go

mutual
theorem bulk_eq {H : Type} : ∀ d : DataW H, Rows.uptoBulk d = AM.bulkW d
  | .lit (.string _) => by simp [Rows.uptoBulk, AM.bulkW]
  | .lit (.bool _) => by simp [Rows.uptoBulk, AM.bulkW]
  | .lit (.int _ _) => by simp [Rows.uptoBulk, AM.bulkW]
  | .lit (.float _ _) => by simp [Rows.uptoBulk, AM.bulkW]
  | .lit .nil => by simp [Rows.uptoBulk, AM.bulkW]
  | .nil => by simp [Rows.uptoBulk, AM.bulkW]
  | .ptr d => by simp [Rows.uptoBulk, AM.bulkW, bulk_eq d]
  | .slice a b => by simp [Rows.uptoBulk, AM.bulkW, bulkAll_eq a, bulkAll_eq b]
  | .agg a => by simp [Rows.uptoBulk, AM.bulkW, bulkAll_eq a]
  | .iface _ d => by simp [Rows.uptoBulk, AM.bulkW, bulk_eq d]
  | .map es => by simp [Rows.uptoBulk, AM.bulkW, bulkEntries_eq es]
  | .held _ => by simp [Rows.uptoBulk, AM.bulkW]
theorem bulkAll_eq {H : Type} : ∀ l : List (DataW H), Rows.uptoBulkAll l = AM.bulkAll l
  | [] => by simp [Rows.uptoBulkAll, AM.bulkAll]
  | d :: r => by simp [Rows.uptoBulkAll, AM.bulkAll, bulk_eq d, bulkAll_eq r]
theorem bulkEntries_eq {H : Type} : ∀ l : List (Lit × DataW H), Rows.uptoBulkEntries l = AM.bulkEntries l
  | [] => by simp [Rows.uptoBulkEntries, AM.bulkEntries]
  | x :: r => by simp [Rows.uptoBulkEntries, AM.bulkEntries, bulkEntry_eq x, bulkEntries_eq r]
theorem bulkEntry_eq {H : Type} : ∀ x : Lit × DataW H, Rows.uptoBulkEntry x = AM.bulkEntry x
  | (.string _, d) => by simp [Rows.uptoBulkEntry, AM.bulkEntry, bulk_eq d]
  | (.bool _, d) => by simp [Rows.uptoBulkEntry, AM.bulkEntry, bulk_eq d]
  | (.int _ _, d) => by simp [Rows.uptoBulkEntry, AM.bulkEntry, bulk_eq d]
  | (.float _ _, d) => by simp [Rows.uptoBulkEntry, AM.bulkEntry, bulk_eq d]
  | (.nil, d) => by simp [Rows.uptoBulkEntry, AM.bulkEntry, bulk_eq d]
end

theorem bulk_bound {H : Type} {l : List (DataW H)} (hk : Rows.uptoSmall H l = true) : AM.bulkAll l ≤ 1048576 := by
  rw [← bulkAll_eq]
  exact of_decide_eq_true hk

theorem own : ownKnob Tryd.prog.godebug = none := by kernel_rfl
theorem laidOut : laidOutB Tryd.prog = true := by kernel_rfl

end Go.Proofs.YtjlagiolgpjglaaDoor
end

section
/-
YtjlagiolgpjglaaDoor: the library's table of blanks, as every state holds it. No condition.
-/
open Go Go.AM
namespace Go.Proofs.YtjlagiolgpjglaaDoor
noncomputable section
def spCells : Array Value := (Lib.asciiSpaceTab.map fun z => Value.int .u8 z).toArray
instance zoneI : Inhabited ZMem := ⟨fun b => if b = 0 then some spCells else none⟩

theorem zone_sp : Zone 0 = some spCells := rfl

theorem zone_tab {w : World} (h : HoldsB w 0 spCells) : Lib.TabIs Tryd.prog w "strings.asciiSpace" .u8 Lib.asciiSpaceTab := by
  obtain ⟨t, fr, h⟩ := h
  unfold Lib.TabIs World.var?
  rw [show Tryd.prog.globalNamed "strings.asciiSpace" = some 0 by kernel_rfl]
  simp only [Option.bind_some]
  rw [h]
  rfl

theorem zone_met {w : World} (h : Lib.TabIs Tryd.prog w "strings.asciiSpace" .u8 Lib.asciiSpaceTab) : ∀ (b : Nat) (o : Array Value), Zone b = some o → HoldsB w b o := by
  intro b o hz
  have hz' : (if b = 0 then some spCells else none) = some o := hz
  split at hz'
  · rename_i e
    subst e
    cases hz'
    unfold Lib.TabIs World.var? at h
    rw [show Tryd.prog.globalNamed "strings.asciiSpace" = some 0 by kernel_rfl] at h
    simp only [Option.bind_some] at h
    split at h
    · rename_i cs t fr hq
      cases h
      exact ⟨t, fr, hq⟩
    · cases h
  · cases hz'
end
end Go.Proofs.YtjlagiolgpjglaaDoor
end

section
/-
YtjlagiolgpjglaaDoor: the types that the functions use. No condition.
-/
set_option maxRecDepth 100000
open Go Go.AM
namespace Go.Proofs.YtjlagiolgpjglaaDoor
noncomputable section
abbrev TParam : Type := ByteArray × Int
abbrev uParam : U := (.cons .str (.int .i64))
def dParam : TParam := ((strB []), 0)
abbrev Tspan : Type := Int × Int
abbrev uspan : U := (.cons (.int .i64) (.int .i64))
def dspan : Tspan := (0, 0)
abbrev TSpec : Type := ByteArray × Int × Tspan
abbrev uSpec : U := (.cons .str (.cons (.int .i64) (.cons (.int .i64) (.int .i64))))
def dSpec : TSpec := ((strB []), (0, dspan))
abbrev TacceptRange : Type := Int × Int
abbrev uacceptRange : U := (.cons (.int .u8) (.int .u8))
def dacceptRange : TacceptRange := (0, 0)
def TL : List (Nat × TD) := [
  (3, ⟨.int .i64, 1, 8, [.val (.int .i64 0)], some (.int .i64), false, []⟩),
  (4, ⟨.bool, 1, 1, [.val (.bool false)], some .bool, false, []⟩),
  (5, ⟨.int .u8, 1, 1, [.val (.int .u8 0)], some (.int .u8), false, []⟩),
  (9, ⟨.string, 1, 16, [.val (.string ⟨#[]⟩)], some .str, false, []⟩),
  (21, ⟨.int .i32, 1, 4, [.val (.int .i32 0)], some (.int .i32), false, []⟩),
  (22, ⟨.slice 35, 1, 24, [.val (.slice none 0 0)], some (.sl (.cons .str (.int .i64))), false, []⟩),
  (23, ⟨.int .i64, 1, 8, [.val (.int .i64 0)], some (.int .i64), false, []⟩),
  (30, ⟨.slice 33, 1, 24, [.val (.slice none 0 0)], some (.sl (.cons .str (.cons (.int .i64) (.cons (.int .i64) (.int .i64))))), false, []⟩),
  (33, ⟨(Tryd.t32.desc), 4, 40, [.val (.string ⟨#[]⟩), .val (.int .i64 0), .val (.int .i64 0), .val (.int .i64 0)], some (.cons .str (.cons (.int .i64) (.cons (.int .i64) (.int .i64)))), true, [(0, 1), (1, 1), (2, 1), (3, 1)]⟩),
  (35, ⟨(Tryd.t34.desc), 2, 24, [.val (.string ⟨#[]⟩), .val (.int .i64 0)], some (.cons .str (.int .i64)), false, [(0, 1), (1, 1)]⟩),
  (36, ⟨.slice 9, 1, 24, [.val (.slice none 0 0)], some (.sl .str), false, []⟩),
  (55, ⟨(Tryd.t54.desc), 1, 16, [.val (.nilIface)], some .any, false, []⟩),
  (59, ⟨.array 256 5, 256, 256, [.val (.int .u8 0), .val (.int .u8 0), .val (.int .u8 0), .val (.int .u8 0), .val (.int .u8 0), .val (.int .u8 0), .val (.int .u8 0), .val (.int .u8 0), .val (.int .u8 0), .val (.int .u8 0), .val (.int .u8 0), .val (.int .u8 0), .val (.int .u8 0), .val (.int .u8 0), .val (.int .u8 0), .val (.int .u8 0), .val (.int .u8 0), .val (.int .u8 0), .val (.int .u8 0), .val (.int .u8 0), .val (.int .u8 0), .val (.int .u8 0), .val (.int .u8 0), .val (.int .u8 0), .val (.int .u8 0), .val (.int .u8 0), .val (.int .u8 0), .val (.int .u8 0), .val (.int .u8 0), .val (.int .u8 0), .val (.int .u8 0), .val (.int .u8 0), .val (.int .u8 0), .val (.int .u8 0), .val (.int .u8 0), .val (.int .u8 0), .val (.int .u8 0), .val (.int .u8 0), .val (.int .u8 0), .val (.int .u8 0), .val (.int .u8 0), .val (.int .u8 0), .val (.int .u8 0), .val (.int .u8 0), .val (.int .u8 0), .val (.int .u8 0), .val (.int .u8 0), .val (.int .u8 0), .val (.int .u8 0), .val (.int .u8 0), .val (.int .u8 0), .val (.int .u8 0), .val (.int .u8 0), .val (.int .u8 0), .val (.int .u8 0), .val (.int .u8 0), .val (.int .u8 0), .val (.int .u8 0), .val (.int .u8 0), .val (.int .u8 0), .val (.int .u8 0), .val (.int .u8 0), .val (.int .u8 0), .val (.int .u8 0), .val (.int .u8 0), .val (.int .u8 0), .val (.int .u8 0), .val (.int .u8 0), .val (.int .u8 0), .val (.int .u8 0), .val (.int .u8 0), .val (.int .u8 0), .val (.int .u8 0), .val (.int .u8 0), .val (.int .u8 0), .val (.int .u8 0), .val (.int .u8 0), .val (.int .u8 0), .val (.int .u8 0), .val (.int .u8 0), .val (.int .u8 0), .val (.int .u8 0), .val (.int .u8 0), .val (.int .u8 0), .val (.int .u8 0), .val (.int .u8 0), .val (.int .u8 0), .val (.int .u8 0), .val (.int .u8 0), .val (.int .u8 0), .val (.int .u8 0), .val (.int .u8 0), .val (.int .u8 0), .val (.int .u8 0), .val (.int .u8 0), .val (.int .u8 0), .val (.int .u8 0), .val (.int .u8 0), .val (.int .u8 0), .val (.int .u8 0), .val (.int .u8 0), .val (.int .u8 0), .val (.int .u8 0), .val (.int .u8 0), .val (.int .u8 0), .val (.int .u8 0), .val (.int .u8 0), .val (.int .u8 0), .val (.int .u8 0), .val (.int .u8 0), .val (.int .u8 0), .val (.int .u8 0), .val (.int .u8 0), .val (.int .u8 0), .val (.int .u8 0), .val (.int .u8 0), .val (.int .u8 0), .val (.int .u8 0), .val (.int .u8 0), .val (.int .u8 0), .val (.int .u8 0), .val (.int .u8 0), .val (.int .u8 0), .val (.int .u8 0), .val (.int .u8 0), .val (.int .u8 0), .val (.int .u8 0), .val (.int .u8 0), .val (.int .u8 0), .val (.int .u8 0), .val (.int .u8 0), .val (.int .u8 0), .val (.int .u8 0), .val (.int .u8 0), .val (.int .u8 0), .val (.int .u8 0), .val (.int .u8 0), .val (.int .u8 0), .val (.int .u8 0), .val (.int .u8 0), .val (.int .u8 0), .val (.int .u8 0), .val (.int .u8 0), .val (.int .u8 0), .val (.int .u8 0), .val (.int .u8 0), .val (.int .u8 0), .val (.int .u8 0), .val (.int .u8 0), .val (.int .u8 0), .val (.int .u8 0), .val (.int .u8 0), .val (.int .u8 0), .val (.int .u8 0), .val (.int .u8 0), .val (.int .u8 0), .val (.int .u8 0), .val (.int .u8 0), .val (.int .u8 0), .val (.int .u8 0), .val (.int .u8 0), .val (.int .u8 0), .val (.int .u8 0), .val (.int .u8 0), .val (.int .u8 0), .val (.int .u8 0), .val (.int .u8 0), .val (.int .u8 0), .val (.int .u8 0), .val (.int .u8 0), .val (.int .u8 0), .val (.int .u8 0), .val (.int .u8 0), .val (.int .u8 0), .val (.int .u8 0), .val (.int .u8 0), .val (.int .u8 0), .val (.int .u8 0), .val (.int .u8 0), .val (.int .u8 0), .val (.int .u8 0), .val (.int .u8 0), .val (.int .u8 0), .val (.int .u8 0), .val (.int .u8 0), .val (.int .u8 0), .val (.int .u8 0), .val (.int .u8 0), .val (.int .u8 0), .val (.int .u8 0), .val (.int .u8 0), .val (.int .u8 0), .val (.int .u8 0), .val (.int .u8 0), .val (.int .u8 0), .val (.int .u8 0), .val (.int .u8 0), .val (.int .u8 0), .val (.int .u8 0), .val (.int .u8 0), .val (.int .u8 0), .val (.int .u8 0), .val (.int .u8 0), .val (.int .u8 0), .val (.int .u8 0), .val (.int .u8 0), .val (.int .u8 0), .val (.int .u8 0), .val (.int .u8 0), .val (.int .u8 0), .val (.int .u8 0), .val (.int .u8 0), .val (.int .u8 0), .val (.int .u8 0), .val (.int .u8 0), .val (.int .u8 0), .val (.int .u8 0), .val (.int .u8 0), .val (.int .u8 0), .val (.int .u8 0), .val (.int .u8 0), .val (.int .u8 0), .val (.int .u8 0), .val (.int .u8 0), .val (.int .u8 0), .val (.int .u8 0), .val (.int .u8 0), .val (.int .u8 0), .val (.int .u8 0), .val (.int .u8 0), .val (.int .u8 0), .val (.int .u8 0), .val (.int .u8 0), .val (.int .u8 0), .val (.int .u8 0), .val (.int .u8 0), .val (.int .u8 0), .val (.int .u8 0), .val (.int .u8 0), .val (.int .u8 0), .val (.int .u8 0), .val (.int .u8 0), .val (.int .u8 0), .val (.int .u8 0), .val (.int .u8 0), .val (.int .u8 0), .val (.int .u8 0), .val (.int .u8 0), .val (.int .u8 0), .val (.int .u8 0), .val (.int .u8 0), .val (.int .u8 0), .val (.int .u8 0), .val (.int .u8 0), .val (.int .u8 0), .val (.int .u8 0)], none, false, []⟩),
  (61, ⟨(Tryd.t61.desc), 1, 8, [.val (.nilFunc)], none, false, []⟩),
  (68, ⟨.int .u32, 1, 4, [.val (.int .u32 0)], some (.int .u32), false, []⟩),
  (112, ⟨(Tryd.t111.desc), 2, 2, [.val (.int .u8 0), .val (.int .u8 0)], some (.cons (.int .u8) (.int .u8)), false, [(0, 1), (1, 1)]⟩),
  (113, ⟨.array 16 112, 32, 32, [.val (.int .u8 0), .val (.int .u8 0), .val (.int .u8 0), .val (.int .u8 0), .val (.int .u8 0), .val (.int .u8 0), .val (.int .u8 0), .val (.int .u8 0), .val (.int .u8 0), .val (.int .u8 0), .val (.int .u8 0), .val (.int .u8 0), .val (.int .u8 0), .val (.int .u8 0), .val (.int .u8 0), .val (.int .u8 0), .val (.int .u8 0), .val (.int .u8 0), .val (.int .u8 0), .val (.int .u8 0), .val (.int .u8 0), .val (.int .u8 0), .val (.int .u8 0), .val (.int .u8 0), .val (.int .u8 0), .val (.int .u8 0), .val (.int .u8 0), .val (.int .u8 0), .val (.int .u8 0), .val (.int .u8 0), .val (.int .u8 0), .val (.int .u8 0)], some (.cons (.cons (.int .u8) (.int .u8)) (.cons (.cons (.int .u8) (.int .u8)) (.cons (.cons (.int .u8) (.int .u8)) (.cons (.cons (.int .u8) (.int .u8)) (.cons (.cons (.int .u8) (.int .u8)) (.cons (.cons (.int .u8) (.int .u8)) (.cons (.cons (.int .u8) (.int .u8)) (.cons (.cons (.int .u8) (.int .u8)) (.cons (.cons (.int .u8) (.int .u8)) (.cons (.cons (.int .u8) (.int .u8)) (.cons (.cons (.int .u8) (.int .u8)) (.cons (.cons (.int .u8) (.int .u8)) (.cons (.cons (.int .u8) (.int .u8)) (.cons (.cons (.int .u8) (.int .u8)) (.cons (.cons (.int .u8) (.int .u8)) (.cons (.int .u8) (.int .u8))))))))))))))))), false, []⟩)]
def T : TT := lookT TL
theorem tokAll : AllT Tryd.prog TL := ⟨
  TOk.of Tryd.t3 (.int .i64 0) (by kernel_rfl) (by kernel_rfl) (by kernel_rfl) (by kernel_rfl) (by kernel_rfl) (by kernel_rfl) (fun fs h => nomatch h) (fun h => nomatch h),
  TOk.of Tryd.t4 (.bool false) (by kernel_rfl) (by kernel_rfl) (by kernel_rfl) (by kernel_rfl) (by kernel_rfl) (by kernel_rfl) (fun fs h => nomatch h) (fun h => nomatch h),
  TOk.of Tryd.t5 (.int .u8 0) (by kernel_rfl) (by kernel_rfl) (by kernel_rfl) (by kernel_rfl) (by kernel_rfl) (by kernel_rfl) (fun fs h => nomatch h) (fun h => nomatch h),
  TOk.of Tryd.t9 (.string ⟨#[]⟩) (by kernel_rfl) (by kernel_rfl) (by kernel_rfl) (by kernel_rfl) (by kernel_rfl) (by kernel_rfl) (fun fs h => nomatch h) (fun h => nomatch h),
  TOk.of Tryd.t21 (.int .i32 0) (by kernel_rfl) (by kernel_rfl) (by kernel_rfl) (by kernel_rfl) (by kernel_rfl) (by kernel_rfl) (fun fs h => nomatch h) (fun h => nomatch h),
  TOk.of Tryd.t22 (.slice none 0 0) (by kernel_rfl) (by kernel_rfl) (by kernel_rfl) (by kernel_rfl) (by kernel_rfl) (by kernel_rfl) (fun fs h => nomatch h) (fun h => nomatch h),
  TOk.of Tryd.t23 (.int .i64 0) (by kernel_rfl) (by kernel_rfl) (by kernel_rfl) (by kernel_rfl) (by kernel_rfl) (by kernel_rfl) (fun fs h => nomatch h) (fun h => nomatch h),
  TOk.of Tryd.t30 (.slice none 0 0) (by kernel_rfl) (by kernel_rfl) (by kernel_rfl) (by kernel_rfl) (by kernel_rfl) (by kernel_rfl) (fun fs h => nomatch h) (fun h => nomatch h),
  TOk.of Tryd.t33 (.agg #[.string ⟨#[]⟩, .int .i64 0, .int .i64 0, .int .i64 0]) (by kernel_rfl) (by kernel_rfl) (by kernel_rfl) (by kernel_rfl) (by kernel_rfl) (by kernel_rfl) (fun fs h => by cases h; kernel_rfl) (eq_ok (fs := (Tryd.prog.fieldsOf 33)) rfl (by kernel_rfl) (by kernel_rfl) (by kernel_rfl) (by kernel_rfl)),
  TOk.of Tryd.t35 (.agg #[.string ⟨#[]⟩, .int .i64 0]) (by kernel_rfl) (by kernel_rfl) (by kernel_rfl) (by kernel_rfl) (by kernel_rfl) (by kernel_rfl) (fun fs h => by cases h; kernel_rfl) (fun h => nomatch h),
  TOk.of Tryd.t36 (.slice none 0 0) (by kernel_rfl) (by kernel_rfl) (by kernel_rfl) (by kernel_rfl) (by kernel_rfl) (by kernel_rfl) (fun fs h => nomatch h) (fun h => nomatch h),
  TOk.of Tryd.t55 (.nilIface) (by kernel_rfl) (by kernel_rfl) (by kernel_rfl) (by kernel_rfl) (by kernel_rfl) (by kernel_rfl) (fun fs h => nomatch h) (fun h => nomatch h),
  TOk.of Tryd.t59 (.agg #[.int .u8 0, .int .u8 0, .int .u8 0, .int .u8 0, .int .u8 0, .int .u8 0, .int .u8 0, .int .u8 0, .int .u8 0, .int .u8 0, .int .u8 0, .int .u8 0, .int .u8 0, .int .u8 0, .int .u8 0, .int .u8 0, .int .u8 0, .int .u8 0, .int .u8 0, .int .u8 0, .int .u8 0, .int .u8 0, .int .u8 0, .int .u8 0, .int .u8 0, .int .u8 0, .int .u8 0, .int .u8 0, .int .u8 0, .int .u8 0, .int .u8 0, .int .u8 0, .int .u8 0, .int .u8 0, .int .u8 0, .int .u8 0, .int .u8 0, .int .u8 0, .int .u8 0, .int .u8 0, .int .u8 0, .int .u8 0, .int .u8 0, .int .u8 0, .int .u8 0, .int .u8 0, .int .u8 0, .int .u8 0, .int .u8 0, .int .u8 0, .int .u8 0, .int .u8 0, .int .u8 0, .int .u8 0, .int .u8 0, .int .u8 0, .int .u8 0, .int .u8 0, .int .u8 0, .int .u8 0, .int .u8 0, .int .u8 0, .int .u8 0, .int .u8 0, .int .u8 0, .int .u8 0, .int .u8 0, .int .u8 0, .int .u8 0, .int .u8 0, .int .u8 0, .int .u8 0, .int .u8 0, .int .u8 0, .int .u8 0, .int .u8 0, .int .u8 0, .int .u8 0, .int .u8 0, .int .u8 0, .int .u8 0, .int .u8 0, .int .u8 0, .int .u8 0, .int .u8 0, .int .u8 0, .int .u8 0, .int .u8 0, .int .u8 0, .int .u8 0, .int .u8 0, .int .u8 0, .int .u8 0, .int .u8 0, .int .u8 0, .int .u8 0, .int .u8 0, .int .u8 0, .int .u8 0, .int .u8 0, .int .u8 0, .int .u8 0, .int .u8 0, .int .u8 0, .int .u8 0, .int .u8 0, .int .u8 0, .int .u8 0, .int .u8 0, .int .u8 0, .int .u8 0, .int .u8 0, .int .u8 0, .int .u8 0, .int .u8 0, .int .u8 0, .int .u8 0, .int .u8 0, .int .u8 0, .int .u8 0, .int .u8 0, .int .u8 0, .int .u8 0, .int .u8 0, .int .u8 0, .int .u8 0, .int .u8 0, .int .u8 0, .int .u8 0, .int .u8 0, .int .u8 0, .int .u8 0, .int .u8 0, .int .u8 0, .int .u8 0, .int .u8 0, .int .u8 0, .int .u8 0, .int .u8 0, .int .u8 0, .int .u8 0, .int .u8 0, .int .u8 0, .int .u8 0, .int .u8 0, .int .u8 0, .int .u8 0, .int .u8 0, .int .u8 0, .int .u8 0, .int .u8 0, .int .u8 0, .int .u8 0, .int .u8 0, .int .u8 0, .int .u8 0, .int .u8 0, .int .u8 0, .int .u8 0, .int .u8 0, .int .u8 0, .int .u8 0, .int .u8 0, .int .u8 0, .int .u8 0, .int .u8 0, .int .u8 0, .int .u8 0, .int .u8 0, .int .u8 0, .int .u8 0, .int .u8 0, .int .u8 0, .int .u8 0, .int .u8 0, .int .u8 0, .int .u8 0, .int .u8 0, .int .u8 0, .int .u8 0, .int .u8 0, .int .u8 0, .int .u8 0, .int .u8 0, .int .u8 0, .int .u8 0, .int .u8 0, .int .u8 0, .int .u8 0, .int .u8 0, .int .u8 0, .int .u8 0, .int .u8 0, .int .u8 0, .int .u8 0, .int .u8 0, .int .u8 0, .int .u8 0, .int .u8 0, .int .u8 0, .int .u8 0, .int .u8 0, .int .u8 0, .int .u8 0, .int .u8 0, .int .u8 0, .int .u8 0, .int .u8 0, .int .u8 0, .int .u8 0, .int .u8 0, .int .u8 0, .int .u8 0, .int .u8 0, .int .u8 0, .int .u8 0, .int .u8 0, .int .u8 0, .int .u8 0, .int .u8 0, .int .u8 0, .int .u8 0, .int .u8 0, .int .u8 0, .int .u8 0, .int .u8 0, .int .u8 0, .int .u8 0, .int .u8 0, .int .u8 0, .int .u8 0, .int .u8 0, .int .u8 0, .int .u8 0, .int .u8 0, .int .u8 0, .int .u8 0, .int .u8 0, .int .u8 0, .int .u8 0, .int .u8 0, .int .u8 0, .int .u8 0, .int .u8 0, .int .u8 0, .int .u8 0, .int .u8 0, .int .u8 0, .int .u8 0, .int .u8 0, .int .u8 0, .int .u8 0, .int .u8 0, .int .u8 0, .int .u8 0, .int .u8 0]) (by kernel_rfl) (by kernel_rfl) (by kernel_rfl) (by kernel_rfl) (by kernel_rfl) (by kernel_rfl) (fun fs h => nomatch h) (fun h => nomatch h),
  TOk.of Tryd.t61 (.nilFunc) (by kernel_rfl) (by kernel_rfl) (by kernel_rfl) (by kernel_rfl) (by kernel_rfl) (by kernel_rfl) (fun fs h => nomatch h) (fun h => nomatch h),
  TOk.of Tryd.t68 (.int .u32 0) (by kernel_rfl) (by kernel_rfl) (by kernel_rfl) (by kernel_rfl) (by kernel_rfl) (by kernel_rfl) (fun fs h => nomatch h) (fun h => nomatch h),
  TOk.of Tryd.t112 (.agg #[.int .u8 0, .int .u8 0]) (by kernel_rfl) (by kernel_rfl) (by kernel_rfl) (by kernel_rfl) (by kernel_rfl) (by kernel_rfl) (fun fs h => by cases h; kernel_rfl) (fun h => nomatch h),
  TOk.of Tryd.t113 (.agg #[.int .u8 0, .int .u8 0, .int .u8 0, .int .u8 0, .int .u8 0, .int .u8 0, .int .u8 0, .int .u8 0, .int .u8 0, .int .u8 0, .int .u8 0, .int .u8 0, .int .u8 0, .int .u8 0, .int .u8 0, .int .u8 0, .int .u8 0, .int .u8 0, .int .u8 0, .int .u8 0, .int .u8 0, .int .u8 0, .int .u8 0, .int .u8 0, .int .u8 0, .int .u8 0, .int .u8 0, .int .u8 0, .int .u8 0, .int .u8 0, .int .u8 0, .int .u8 0]) (by kernel_rfl) (by kernel_rfl) (by kernel_rfl) (by kernel_rfl) (by kernel_rfl) (by kernel_rfl) (fun fs h => nomatch h) (fun h => nomatch h),
  trivial⟩
theorem tok : TOK Tryd.prog T := tok_of tokAll
theorem mixed : Tryd.prog.follows .mixedOrders = true := by kernel_rfl
end
end Go.Proofs.YtjlagiolgpjglaaDoor
end

section
/-
YtjlagiolgpjglaaDoor: signalbench.signalbenchref38.bitTime, as one plain function, its equations, its contract. No condition.
-/
set_option maxRecDepth 100000
set_option linter.unusedVariables false
set_option maxHeartbeats 4000000
open Go Go.AM
namespace Go.Proofs.YtjlagiolgpjglaaDoor
noncomputable section
def ref38_bitTime_D : FD := ⟨T, lookC [], [], (Tryd.f32.body.getD .skip), Tryd.f32.results.toList, ⟨[], []⟩, ⟨[.one (.own 0)], [.arr 33 (.cons .str (.cons (.int .i64) (.cons (.int .i64) (.int .i64)))) true]⟩, []⟩
def ref38_bitTime : (Option ((Unit × Unit) × ((List TSpec) × Unit))) :=
  some (((), ()), ([((strB [110, 117, 109]), 1, 1048576, 16), ((strB [100, 101, 110]), 1, 1024, 1)], ()))
def fc32 : FC := ⟨⟨[], []⟩, ⟨[.one (.own 0)], [.arr 33 (.cons .str (.cons (.int .i64) (.cons (.int .i64) (.int .i64)))) true]⟩, fun x => ref38_bitTime⟩
theorem con32 : Contract Tryd.prog 32 fc32 :=
  ref38_bitTime_D.contract tok (cok_of (l := []) trivial) mixed (fn' := Tryd.f32) (by kernel_rfl) (by kernel_rfl) rfl (by kernel_rfl) (fun x => (FD.fn_eq _ _).trans (by kernel_rfl))
end
end Go.Proofs.YtjlagiolgpjglaaDoor
end

section
/-
YtjlagiolgpjglaaDoor: signalbench.signalbenchref38.flag, as one plain function, its equations, its contract. No condition.
-/
set_option maxRecDepth 100000
set_option linter.unusedVariables false
set_option maxHeartbeats 4000000
open Go Go.AM
namespace Go.Proofs.YtjlagiolgpjglaaDoor
noncomputable section
def ref38_flag_D : FD := ⟨T, lookC [], [], (Tryd.f33.body.getD .skip), Tryd.f33.results.toList, ⟨[.one .str, .one (.int .i64)], []⟩, ⟨[.row (.cons .str (.cons (.int .i64) (.cons (.int .i64) (.int .i64))))], []⟩, []⟩
def ref38_flag (name : ByteArray) (value : Int) : (Option ((TSpec × Unit) × Unit)) :=
  some (((name, 0, 1, value), ()), ())
def fc33 : FC := ⟨⟨[.one .str, .one (.int .i64)], []⟩, ⟨[.row (.cons .str (.cons (.int .i64) (.cons (.int .i64) (.int .i64))))], []⟩, fun x => ref38_flag x.1.1 x.1.2.1⟩
theorem con33 : Contract Tryd.prog 33 fc33 :=
  ref38_flag_D.contract tok (cok_of (l := []) trivial) mixed (fn' := Tryd.f33) (by kernel_rfl) (by kernel_rfl) rfl (by kernel_rfl) (fun x => (FD.fn_eq _ _).trans (by kernel_rfl))
end
end Go.Proofs.YtjlagiolgpjglaaDoor
end

section
/-
YtjlagiolgpjglaaDoor: signalbench.signalbenchref38.quarter, as one plain function, its equations, its contract. No condition.
-/
set_option maxRecDepth 100000
set_option linter.unusedVariables false
set_option maxHeartbeats 4000000
open Go Go.AM
namespace Go.Proofs.YtjlagiolgpjglaaDoor
noncomputable section
def ref38_quarter_D : FD := ⟨T, lookC [], [], (Tryd.f34.body.getD .skip), Tryd.f34.results.toList, ⟨[], []⟩, ⟨[.row (.cons .str (.cons (.int .i64) (.cons (.int .i64) (.int .i64))))], []⟩, []⟩
def ref38_quarter : (Option ((TSpec × Unit) × Unit)) :=
  some ((((strB [116]), 1, 65536, 4), ()), ())
def fc34 : FC := ⟨⟨[], []⟩, ⟨[.row (.cons .str (.cons (.int .i64) (.cons (.int .i64) (.int .i64))))], []⟩, fun x => ref38_quarter⟩
theorem con34 : Contract Tryd.prog 34 fc34 :=
  ref38_quarter_D.contract tok (cok_of (l := []) trivial) mixed (fn' := Tryd.f34) (by kernel_rfl) (by kernel_rfl) rfl (by kernel_rfl) (fun x => (FD.fn_eq _ _).trans (by kernel_rfl))
end
end Go.Proofs.YtjlagiolgpjglaaDoor
end

section
/-
YtjlagiolgpjglaaDoor: signalbench.signalbenchref38.upper, as one plain function, its equations, its contract. No condition.
-/
set_option maxRecDepth 100000
set_option linter.unusedVariables false
set_option maxHeartbeats 4000000
open Go Go.AM
namespace Go.Proofs.YtjlagiolgpjglaaDoor
noncomputable section
def ref38_upper_D : FD := ⟨T, lookC [(33, fc33)], [], (Tryd.f35.body.getD .skip), Tryd.f35.results.toList, ⟨[.one .str], []⟩, ⟨[.one (.sl (.cons .str (.cons (.int .i64) (.cons (.int .i64) (.int .i64)))))], []⟩, []⟩
def ref38_upper (kind : ByteArray) : (Option (((List TSpec) × Unit) × Unit)) :=
  if (kind.toList == (strB [108, 105, 110]).toList) = true then
    (ref38_flag (strB [99, 108, 97, 115, 115, 105, 99]) 0).bind fun y1 =>
      some (([y1.1.1], ()), ())
  else
    if (kind.toList == (strB [115, 108, 105, 112]).toList) = true then
      some (([((strB [109, 111, 115, 116]), 1, 4096, 256)], ()), ())
    else
      if (kind.toList == (strB [109, 111, 100, 98, 117, 115]).toList) = true then
        some (([((strB [103, 97, 112]), 0, 1000000, 560)], ()), ())
      else
        if (kind.toList == (strB [101, 101, 112, 114, 111, 109]).toList) = true then
          some (([((strB [97, 100, 100, 114, 101, 115, 115]), 0, 127, 80), ((strB [112, 111, 105, 110, 116, 101, 114]), 1, 2, 1)], ()), ())
        else
          if (kind.toList == (strB [105, 115, 111, 116, 112]).toList) = true then
            some (([((strB [105, 100]), 0, 536870911, 2016)], ()), ())
          else
            if (kind.toList == (strB [112, 97, 105, 114]).toList) = true then
              some (([((strB [116, 105, 109, 101, 111, 117, 116]), 1, 1099511627776, 1048576)], ()), ())
            else
              some (([], ()), ())
def fc35 : FC := ⟨⟨[.one .str], []⟩, ⟨[.one (.sl (.cons .str (.cons (.int .i64) (.cons (.int .i64) (.int .i64)))))], []⟩, fun x => ref38_upper x.1.1⟩
theorem con35 : Contract Tryd.prog 35 fc35 :=
  ref38_upper_D.contract tok (cok_of (l := [(33, fc33)]) ⟨con33, trivial⟩) mixed (fn' := Tryd.f35) (by kernel_rfl) (by kernel_rfl) rfl (by kernel_rfl) (fun x => (FD.fn_eq _ _).trans (by kernel_rfl))
end
end Go.Proofs.YtjlagiolgpjglaaDoor
end

section
/-
YtjlagiolgpjglaaDoor: signalbench.signalbenchref38.Specs, as one plain function, its equations, its contract. No condition.
-/
set_option maxRecDepth 100000
set_option linter.unusedVariables false
set_option maxHeartbeats 4000000
open Go Go.AM
namespace Go.Proofs.YtjlagiolgpjglaaDoor
noncomputable section
def ref38_Specs_D : FD := ⟨T, lookC [(32, fc32), (33, fc33), (34, fc34), (35, fc35)], [], (Tryd.f24.body.getD .skip), Tryd.f24.results.toList, ⟨[.one .str], []⟩, ⟨[.one (.sl (.cons .str (.cons (.int .i64) (.cons (.int .i64) (.int .i64)))))], []⟩, []⟩
def ref38_Specs (kind : ByteArray) : (Option (((List TSpec) × Unit) × Unit)) :=
  if (kind.toList == (strB [115, 97, 109, 112, 108, 101, 114]).toList) = true then
    (ref38_bitTime).bind fun y1 =>
      some ((y1.2.1, ()), ())
  else
    if (kind.toList == (strB [99, 97, 110]).toList) = true then
      (ref38_bitTime).bind fun y2 =>
        some ((y2.2.1, ()), ())
    else
      if (kind.toList == (strB [110, 114, 122, 105]).toList) = true then
        (ref38_flag (strB [122, 101, 114, 111]) 0).bind fun y3 =>
          some (([y3.1.1], ()), ())
      else
        if (kind.toList == (strB [109, 97, 110, 99, 104, 101, 115, 116, 101, 114]).toList) = true then
          (ref38_bitTime).bind fun y4 =>
            (ref38_flag (strB [105, 101, 101, 101]) 0).bind fun y5 =>
              if (y4.2.1.length + 1) * 40 ≤ 140737488355328 ∧ 0 < 40 then
                some ((y4.2.1 ++ [y5.1.1], ()), ())
              else
                none
        else
          if (kind.toList == (strB [99, 111, 100, 101, 103, 114, 111, 117, 112]).toList) = true then
            (ref38_flag (strB [109, 115, 98]) 0).bind fun y6 =>
              some (([y6.1.1], ()), ())
          else
            if (kind.toList == (strB [115, 116, 117, 102, 102]).toList) = true then
              (ref38_flag (strB [111, 110, 101, 115]) 1).bind fun y7 =>
                some (([((strB [114, 117, 110]), 2, 16, 5), y7.1.1], ()), ())
            else
              if (kind.toList == (strB [115, 99, 114, 97, 109, 98, 108, 101]).toList) = true then
                some (([((strB [119, 105, 100, 116, 104]), 2, 31, 7), ((strB [116, 97, 112, 115]), 1, 2147483647, 72)], ()), ())
              else
                if (kind.toList == (strB [115, 121, 110, 99]).toList) = true then
                  (ref38_flag (strB [109, 115, 98]) 1).bind fun y8 =>
                    some (([((strB [119, 111, 114, 100]), 0, 4294967295, 213), ((strB [108, 101, 110, 103, 116, 104]), 8, 32, 8), ((strB [98, 121, 116, 101, 115]), 1, 256, 4), y8.1.1], ()), ())
                else
                  if (kind.toList == (strB [117, 97, 114, 116]).toList) = true then
                    (ref38_bitTime).bind fun y9 =>
                      if (y9.2.1.length + 3) * 40 ≤ 140737488355328 ∧ 0 < 40 then
                        some ((y9.2.1 ++ [((strB [98, 105, 116, 115]), 5, 9, 8), ((strB [112, 97, 114, 105, 116, 121]), 0, 2, 0), ((strB [115, 116, 111, 112]), 1, 2, 1)], ()), ())
                      else
                        none
                  else
                    if (kind.toList == (strB [105, 50, 99]).toList) = true then
                      (ref38_quarter).bind fun y10 =>
                        some (([y10.1.1], ()), ())
                    else
                      if (kind.toList == (strB [111, 110, 101, 119, 105, 114, 101]).toList) = true then
                        (ref38_quarter).bind fun y11 =>
                          some (([y11.1.1], ()), ())
                      else
                        if (kind.toList == (strB [106, 116, 97, 103]).toList) = true then
                          (ref38_quarter).bind fun y12 =>
                            some (([y12.1.1], ()), ())
                        else
                          if (kind.toList == (strB [115, 112, 105]).toList) = true then
                            (ref38_quarter).bind fun y13 =>
                              (ref38_flag (strB [109, 115, 98]) 1).bind fun y14 =>
                                some (([y13.1.1, ((strB [109, 111, 100, 101]), 0, 3, 0), ((strB [98, 105, 116, 115]), 1, 8, 8), y14.1.1], ()), ())
                          else
                            (ref38_upper kind).bind fun y15 =>
                              some ((y15.1.1, ()), ())
def fc24 : FC := ⟨⟨[.one .str], []⟩, ⟨[.one (.sl (.cons .str (.cons (.int .i64) (.cons (.int .i64) (.int .i64)))))], []⟩, fun x => ref38_Specs x.1.1⟩
theorem con24 : Contract Tryd.prog 24 fc24 :=
  ref38_Specs_D.contract tok (cok_of (l := [(32, fc32), (33, fc33), (34, fc34), (35, fc35)]) ⟨con32, con33, con34, con35, trivial⟩) mixed (fn' := Tryd.f24) (by kernel_rfl) (by kernel_rfl) rfl (by kernel_rfl) (fun x => (FD.fn_eq _ _).trans (by kernel_rfl))
end
end Go.Proofs.YtjlagiolgpjglaaDoor
end

section
/-
YtjlagiolgpjglaaDoor: signalbench.signalbenchref38.find, as one plain function, its equations, its contract. No condition.
-/
set_option maxRecDepth 100000
set_option linter.unusedVariables false
set_option maxHeartbeats 4000000
open Go Go.AM
namespace Go.Proofs.YtjlagiolgpjglaaDoor
noncomputable section
def ref38_find_F3 : FSh := ⟨[(0, .one (.sl (.cons .str (.cons (.int .i64) (.cons (.int .i64) (.int .i64)))))), (1, .one .str), (5, .one (.int .i64))], []⟩
def ref38_find_D : FD := ⟨T, lookC [], [], (Tryd.f26.body.getD .skip), Tryd.f26.results.toList, ⟨[.one (.sl (.cons .str (.cons (.int .i64) (.cons (.int .i64) (.int .i64))))), .one .str], []⟩, ⟨[.one (.int .i64)], []⟩, [(3, ref38_find_F3)]⟩
def ref38_find_l3 (l : (List TSpec)) (name : ByteArray) (i : Int) : (Option ((Int × Unit) × Unit)) := ref38_find_D.lab 3 ref38_find_F3 ((l, name, i, ()), ())
theorem ref38_find_l3_eq (l : (List TSpec)) (name : ByteArray) (i : Int) : ref38_find_l3 l name i =
  if (decide (i < (l.length : Int))) = true then
    if 0 ≤ i ∧ i < (l.length : Int) then
      if ((l.getD i.toNat dSpec).1.toList == name.toList) = true then
        some ((i, ()), ())
      else
        ref38_find_l3 l name (IntKind.i64.wrap (i + 1))
    else
      none
  else
    some (((-1), ()), ()) := (FD.lab_eq _ _ _ _).trans (by kernel_rfl)
def ref38_find (l : (List TSpec)) (name : ByteArray) : (Option ((Int × Unit) × Unit)) :=
  ref38_find_l3 l name 0
def fc26 : FC := ⟨⟨[.one (.sl (.cons .str (.cons (.int .i64) (.cons (.int .i64) (.int .i64))))), .one .str], []⟩, ⟨[.one (.int .i64)], []⟩, fun x => ref38_find x.1.1 x.1.2.1⟩
theorem con26 : Contract Tryd.prog 26 fc26 :=
  ref38_find_D.contract tok (cok_of (l := []) trivial) mixed (fn' := Tryd.f26) (by kernel_rfl) (by kernel_rfl) rfl (by kernel_rfl) (fun x => (FD.fn_eq _ _).trans (by kernel_rfl))
end
end Go.Proofs.YtjlagiolgpjglaaDoor
end

section
/-
YtjlagiolgpjglaaDoor: signalbench.signalbenchref38.first, as one plain function, its equations, its contract. No condition.
-/
set_option maxRecDepth 100000
set_option linter.unusedVariables false
set_option maxHeartbeats 4000000
open Go Go.AM
namespace Go.Proofs.YtjlagiolgpjglaaDoor
noncomputable section
def ref38_first_F3 : FSh := ⟨[(0, .one (.sl (.cons .str (.int .i64)))), (1, .one .str), (5, .one (.int .i64))], []⟩
def ref38_first_D : FD := ⟨T, lookC [], [], (Tryd.f27.body.getD .skip), Tryd.f27.results.toList, ⟨[.one (.sl (.cons .str (.int .i64))), .one .str], []⟩, ⟨[.one (.int .i64)], []⟩, [(3, ref38_first_F3)]⟩
def ref38_first_l3 (l : (List TParam)) (name : ByteArray) (i : Int) : (Option ((Int × Unit) × Unit)) := ref38_first_D.lab 3 ref38_first_F3 ((l, name, i, ()), ())
theorem ref38_first_l3_eq (l : (List TParam)) (name : ByteArray) (i : Int) : ref38_first_l3 l name i =
  if (decide (i < (l.length : Int))) = true then
    if 0 ≤ i ∧ i < (l.length : Int) then
      if ((l.getD i.toNat dParam).1.toList == name.toList) = true then
        some ((i, ()), ())
      else
        ref38_first_l3 l name (IntKind.i64.wrap (i + 1))
    else
      none
  else
    some (((-1), ()), ()) := (FD.lab_eq _ _ _ _).trans (by kernel_rfl)
def ref38_first (l : (List TParam)) (name : ByteArray) : (Option ((Int × Unit) × Unit)) :=
  ref38_first_l3 l name 0
def fc27 : FC := ⟨⟨[.one (.sl (.cons .str (.int .i64))), .one .str], []⟩, ⟨[.one (.int .i64)], []⟩, fun x => ref38_first x.1.1 x.1.2.1⟩
theorem con27 : Contract Tryd.prog 27 fc27 :=
  ref38_first_D.contract tok (cok_of (l := []) trivial) mixed (fn' := Tryd.f27) (by kernel_rfl) (by kernel_rfl) rfl (by kernel_rfl) (fun x => (FD.fn_eq _ _).trans (by kernel_rfl))
end
end Go.Proofs.YtjlagiolgpjglaaDoor
end

section
/-
YtjlagiolgpjglaaDoor: signalbench.signalbenchref38.Value, as one plain function, its equations, its contract. No condition.
-/
set_option maxRecDepth 100000
set_option linter.unusedVariables false
set_option maxHeartbeats 4000000
open Go Go.AM
namespace Go.Proofs.YtjlagiolgpjglaaDoor
noncomputable section
def ref38_Value_D : FD := ⟨T, lookC [(24, fc24), (26, fc26), (27, fc27)], [], (Tryd.f10.body.getD .skip), Tryd.f10.results.toList, ⟨[.one .str, .one (.sl (.cons .str (.int .i64))), .one .str], []⟩, ⟨[.one (.int .i64), .one (.int .i64)], []⟩, []⟩
def ref38_Value (kind : ByteArray) (l : (List TParam)) (name : ByteArray) : (Option ((Int × Int × Unit) × Unit)) :=
  (ref38_Specs kind).bind fun y1 =>
    (ref38_find y1.1.1 name).bind fun y2 =>
      if (decide (y2.1.1 < 0)) = true then
        some ((0, 8, ()), ())
      else
        (ref38_first l name).bind fun y3 =>
          if (decide (y3.1.1 < 0)) = true then
            if 0 ≤ y2.1.1 ∧ y2.1.1 < (y1.1.1.length : Int) then
              some (((y1.1.1.getD y2.1.1.toNat dSpec).2.2.2, 0, ()), ())
            else
              none
          else
            if 0 ≤ y3.1.1 ∧ y3.1.1 < (l.length : Int) then
              some (((l.getD y3.1.1.toNat dParam).2, 0, ()), ())
            else
              none
def fc10 : FC := ⟨⟨[.one .str, .one (.sl (.cons .str (.int .i64))), .one .str], []⟩, ⟨[.one (.int .i64), .one (.int .i64)], []⟩, fun x => ref38_Value x.1.1 x.1.2.1 x.1.2.2.1⟩
theorem con10 : Contract Tryd.prog 10 fc10 :=
  ref38_Value_D.contract tok (cok_of (l := [(24, fc24), (26, fc26), (27, fc27)]) ⟨con24, con26, con27, trivial⟩) mixed (fn' := Tryd.f10) (by kernel_rfl) (by kernel_rfl) rfl (by kernel_rfl) (fun x => (FD.fn_eq _ _).trans (by kernel_rfl))
end
end Go.Proofs.YtjlagiolgpjglaaDoor
end

section
/-
YtjlagiolgpjglaaDoor: unicode.utf8.RuneCountInString, as one plain function, its equations, its contract. No condition.
-/
set_option maxRecDepth 100000
set_option linter.unusedVariables false
set_option maxHeartbeats 4000000
open Go Go.AM
namespace Go.Proofs.YtjlagiolgpjglaaDoor
noncomputable section
def utf8_RuneCountInString_D : FD := ⟨T, lookC [], [], (Tryd.f54.body.getD .skip), Tryd.f54.results.toList, ⟨[.one .str], []⟩, ⟨[.one (.int .i64)], []⟩, []⟩
def utf8_RuneCountInString (s : ByteArray) : (Option ((Int × Unit) × Unit)) :=
  none
def fc54 : FC := ⟨⟨[.one .str], []⟩, ⟨[.one (.int .i64)], []⟩, fun x => utf8_RuneCountInString x.1.1⟩
theorem con54 : Contract Tryd.prog 54 fc54 :=
  utf8_RuneCountInString_D.contract tok (cok_of (l := []) trivial) mixed (fn' := Tryd.f54) (by kernel_rfl) (by kernel_rfl) rfl (by kernel_rfl) (fun x => (FD.fn_eq _ _).trans (by kernel_rfl))
end
end Go.Proofs.YtjlagiolgpjglaaDoor
end

section
/-
YtjlagiolgpjglaaDoor: unicode.utf8.decodeRuneInStringSlow, as one plain function, its equations, its contract. No condition.
-/
set_option maxRecDepth 100000
set_option linter.unusedVariables false
set_option maxHeartbeats 4000000
open Go Go.AM
namespace Go.Proofs.YtjlagiolgpjglaaDoor
noncomputable section
def utf8_decodeRuneInStringSlow_D : FD := ⟨T, lookC [], [], (Tryd.f67.body.getD .skip), Tryd.f67.results.toList, ⟨[.one .str], []⟩, ⟨[.one (.int .i32), .one (.int .i64)], []⟩, []⟩
def utf8_decodeRuneInStringSlow (s : ByteArray) : (Option ((Int × Int × Unit) × Unit)) :=
  if (decide ((s.size : Int) < 1)) = true then
    some ((65533, 0, ()), ())
  else
    if 0 ≤ (0 : Int) ∧ 0 < (s.size : Int) then
      none
    else
      none
def fc67 : FC := ⟨⟨[.one .str], []⟩, ⟨[.one (.int .i32), .one (.int .i64)], []⟩, fun x => utf8_decodeRuneInStringSlow x.1.1⟩
theorem con67 : Contract Tryd.prog 67 fc67 :=
  utf8_decodeRuneInStringSlow_D.contract tok (cok_of (l := []) trivial) mixed (fn' := Tryd.f67) (by kernel_rfl) (by kernel_rfl) rfl (by kernel_rfl) (fun x => (FD.fn_eq _ _).trans (by kernel_rfl))
end
end Go.Proofs.YtjlagiolgpjglaaDoor
end

section
/-
YtjlagiolgpjglaaDoor: unicode.utf8.DecodeRuneInString, as one plain function, its equations, its contract. No condition.
-/
set_option maxRecDepth 100000
set_option linter.unusedVariables false
set_option maxHeartbeats 4000000
open Go Go.AM
namespace Go.Proofs.YtjlagiolgpjglaaDoor
noncomputable section
def utf8_DecodeRuneInString_D : FD := ⟨T, lookC [(67, fc67)], [], (Tryd.f55.body.getD .skip), Tryd.f55.results.toList, ⟨[.one .str], []⟩, ⟨[.one (.int .i32), .one (.int .i64)], []⟩, []⟩
def utf8_DecodeRuneInString (s : ByteArray) : (Option ((Int × Int × Unit) × Unit)) :=
  if (!(s.toList == (strB []).toList)) = true then
    if 0 ≤ (0 : Int) ∧ 0 < (s.size : Int) then
      if (decide ((bt s 0) < 128)) = true then
        if 0 ≤ (0 : Int) ∧ 0 < (s.size : Int) then
          some ((IntKind.i32.wrap (bt s 0), 1, ()), ())
        else
          none
      else
        (utf8_decodeRuneInStringSlow s).bind fun y1 =>
          some ((y1.1.1, y1.1.2.1, ()), ())
    else
      none
  else
    (utf8_decodeRuneInStringSlow s).bind fun y2 =>
      some ((y2.1.1, y2.1.2.1, ()), ())
def fc55 : FC := ⟨⟨[.one .str], []⟩, ⟨[.one (.int .i32), .one (.int .i64)], []⟩, fun x => utf8_DecodeRuneInString x.1.1⟩
theorem con55 : Contract Tryd.prog 55 fc55 :=
  utf8_DecodeRuneInString_D.contract tok (cok_of (l := [(67, fc67)]) ⟨con67, trivial⟩) mixed (fn' := Tryd.f55) (by kernel_rfl) (by kernel_rfl) rfl (by kernel_rfl) (fun x => (FD.fn_eq _ _).trans (by kernel_rfl))
end
end Go.Proofs.YtjlagiolgpjglaaDoor
end

section
/-
YtjlagiolgpjglaaDoor: strings.explode, as one plain function, its equations, its contract. No condition.
-/
set_option maxRecDepth 100000
set_option linter.unusedVariables false
set_option maxHeartbeats 4000000
open Go Go.AM
namespace Go.Proofs.YtjlagiolgpjglaaDoor
noncomputable section
def strings_explode_F2 : FSh := ⟨[(0, .one .str), (1, .one (.int .i64))], []⟩
def strings_explode_F7 : FSh := ⟨[(0, .one .str), (1, .one (.int .i64)), (6, .one (.own 0)), (7, .one (.int .i64))], [.arr 9 .str true]⟩
def strings_explode_D : FD := ⟨T, lookC [(54, fc54), (55, fc55)], [2], (Tryd.f44.body.getD .skip), Tryd.f44.results.toList, ⟨[.one .str, .one (.int .i64)], []⟩, ⟨[.one (.sl .str)], []⟩, [(2, strings_explode_F2), (7, strings_explode_F7)]⟩
def strings_explode_l2 (s : ByteArray) (n : Int) : (Option (((List ByteArray) × Unit) × Unit)) := strings_explode_D.lab 2 strings_explode_F2 ((s, n, ()), ())
def strings_explode_l7 (s : ByteArray) (n : Int) (i : Int) (l0 : (List ByteArray)) : (Option (((List ByteArray) × Unit) × Unit)) := strings_explode_D.lab 7 strings_explode_F7 ((s, n, (), i, ()), (l0, ()))
theorem strings_explode_l2_eq (s : ByteArray) (n : Int) : strings_explode_l2 s n =
  if (n = 0 ∨ n = n) ∧ 0 ≤ n ∧ n * 16 ≤ 140737488355328 ∧ 0 < 16 then
    strings_explode_l7 s n 0 (List.replicate n.toNat (strB []))
  else
    none := (FD.lab_eq _ _ _ _).trans (by kernel_rfl)
theorem strings_explode_l7_eq (s : ByteArray) (n : Int) (i : Int) (l0 : (List ByteArray)) : strings_explode_l7 s n i l0 =
  if (decide (i < (IntKind.i64.wrap (n - 1)))) = true then
    (utf8_DecodeRuneInString s).bind fun y1 =>
      if 0 ≤ (0 : Int) ∧ (0 : Int) ≤ y1.1.2.1 ∧ y1.1.2.1 ≤ (s.size : Int) then
        if 0 ≤ i ∧ i < (l0.length : Int) then
          if 0 ≤ y1.1.2.1 ∧ y1.1.2.1 ≤ (s.size : Int) then
            strings_explode_l7 (s.extract y1.1.2.1.toNat s.size) n (IntKind.i64.wrap (i + 1)) (l0.set i.toNat (s.extract 0 y1.1.2.1.toNat))
          else
            none
        else
          none
      else
        none
  else
    if (decide (n > 0)) = true then
      if 0 ≤ IntKind.i64.wrap (n - 1) ∧ IntKind.i64.wrap (n - 1) < (l0.length : Int) then
        some ((l0.set (IntKind.i64.wrap (n - 1)).toNat s, ()), ())
      else
        none
    else
      some ((l0, ()), ()) := (FD.lab_eq _ _ _ _).trans (by kernel_rfl)
def strings_explode (s : ByteArray) (n : Int) : (Option (((List ByteArray) × Unit) × Unit)) :=
  (utf8_RuneCountInString s).bind fun y1 =>
    if (decide (n < 0)) = true then
      strings_explode_l2 s y1.1.1
    else
      if (decide (n > y1.1.1)) = true then
        strings_explode_l2 s y1.1.1
      else
        strings_explode_l2 s n
def fc44 : FC := ⟨⟨[.one .str, .one (.int .i64)], []⟩, ⟨[.one (.sl .str)], []⟩, fun x => strings_explode x.1.1 x.1.2.1⟩
theorem con44 : Contract Tryd.prog 44 fc44 :=
  strings_explode_D.contract tok (cok_of (l := [(54, fc54), (55, fc55)]) ⟨con54, con55, trivial⟩) mixed (fn' := Tryd.f44) (by kernel_rfl) (by kernel_rfl) rfl (by kernel_rfl) (fun x => (FD.fn_eq _ _).trans (by kernel_rfl))
end
end Go.Proofs.YtjlagiolgpjglaaDoor
end

section
/-
YtjlagiolgpjglaaDoor: internal.bytealg.Cutover, as one plain function, its equations, its contract. No condition.
-/
set_option maxRecDepth 100000
set_option linter.unusedVariables false
set_option maxHeartbeats 4000000
open Go Go.AM
namespace Go.Proofs.YtjlagiolgpjglaaDoor
noncomputable section
def bytealg_Cutover_D : FD := ⟨T, lookC [], [], (Tryd.f59.body.getD .skip), Tryd.f59.results.toList, ⟨[.one (.int .i64)], []⟩, ⟨[.one (.int .i64)], []⟩, []⟩
def bytealg_Cutover (n : Int) : (Option ((Int × Unit) × Unit)) :=
  some ((IntKind.i64.wrap ((IntKind.i64.wrap (n + 16)).tdiv 8), ()), ())
def fc59 : FC := ⟨⟨[.one (.int .i64)], []⟩, ⟨[.one (.int .i64)], []⟩, fun x => bytealg_Cutover x.1.1⟩
theorem con59 : Contract Tryd.prog 59 fc59 :=
  bytealg_Cutover_D.contract tok (cok_of (l := []) trivial) mixed (fn' := Tryd.f59) (by kernel_rfl) (by kernel_rfl) rfl (by kernel_rfl) (fun x => (FD.fn_eq _ _).trans (by kernel_rfl))
end
end Go.Proofs.YtjlagiolgpjglaaDoor
end

section
/-
YtjlagiolgpjglaaDoor: internal.bytealg.hashStr[string], as one plain function, its equations, its contract. No condition.
-/
set_option maxRecDepth 100000
set_option linter.unusedVariables false
set_option maxHeartbeats 4000000
open Go Go.AM
namespace Go.Proofs.YtjlagiolgpjglaaDoor
noncomputable section
def bytealg_hashStr_string_F4 : FSh := ⟨[(0, .one .str), (4, .one (.int .u32)), (5, .one (.int .i64))], []⟩
def bytealg_hashStr_string_F11 : FSh := ⟨[(4, .one (.int .u32)), (6, .one (.int .u32)), (7, .one (.int .u32)), (8, .one (.int .i64))], []⟩
def bytealg_hashStr_string_D : FD := ⟨T, lookC [], [], (Tryd.f69.body.getD .skip), Tryd.f69.results.toList, ⟨[.one .str], []⟩, ⟨[.one (.int .u32), .one (.int .u32)], []⟩, [(4, bytealg_hashStr_string_F4), (11, bytealg_hashStr_string_F11)]⟩
def bytealg_hashStr_string_l4 (sep : ByteArray) (hash : Int) (i : Int) : (Option ((Int × Int × Unit) × Unit)) := bytealg_hashStr_string_D.lab 4 bytealg_hashStr_string_F4 ((sep, hash, i, ()), ())
def bytealg_hashStr_string_l11 (hash : Int) (pow : Int) (sq : Int) (i : Int) : (Option ((Int × Int × Unit) × Unit)) := bytealg_hashStr_string_D.lab 11 bytealg_hashStr_string_F11 ((hash, pow, sq, i, ()), ())
theorem bytealg_hashStr_string_l4_eq (sep : ByteArray) (hash : Int) (i : Int) : bytealg_hashStr_string_l4 sep hash i =
  if (decide (i < (sep.size : Int))) = true then
    if 0 ≤ i ∧ i < (sep.size : Int) then
      bytealg_hashStr_string_l4 sep (IntKind.u32.wrap ((IntKind.u32.wrap (hash * 16777619)) + (IntKind.u32.wrap (bt sep i)))) (IntKind.i64.wrap (i + 1))
    else
      none
  else
    bytealg_hashStr_string_l11 hash 1 16777619 (sep.size : Int) := (FD.lab_eq _ _ _ _).trans (by kernel_rfl)
theorem bytealg_hashStr_string_l11_eq (hash : Int) (pow : Int) (sq : Int) (i : Int) : bytealg_hashStr_string_l11 hash pow sq i =
  if (decide (i > 0)) = true then
    if ((IntKind.i64.wrap (BitVec.ofInt 64 i &&& BitVec.ofInt 64 1).toNat) != 0) = true then
      bytealg_hashStr_string_l11 hash (IntKind.u32.wrap (pow * sq)) (IntKind.u32.wrap (sq * sq)) (i.fdiv 2)
    else
      bytealg_hashStr_string_l11 hash pow (IntKind.u32.wrap (sq * sq)) (i.fdiv 2)
  else
    some ((hash, pow, ()), ()) := (FD.lab_eq _ _ _ _).trans (by kernel_rfl)
def bytealg_hashStr_string (sep : ByteArray) : (Option ((Int × Int × Unit) × Unit)) :=
  bytealg_hashStr_string_l4 sep 0 0
def fc69 : FC := ⟨⟨[.one .str], []⟩, ⟨[.one (.int .u32), .one (.int .u32)], []⟩, fun x => bytealg_hashStr_string x.1.1⟩
theorem con69 : Contract Tryd.prog 69 fc69 :=
  bytealg_hashStr_string_D.contract tok (cok_of (l := []) trivial) mixed (fn' := Tryd.f69) (by kernel_rfl) (by kernel_rfl) rfl (by kernel_rfl) (fun x => (FD.fn_eq _ _).trans (by kernel_rfl))
end
end Go.Proofs.YtjlagiolgpjglaaDoor
end

section
/-
YtjlagiolgpjglaaDoor: internal.bytealg.IndexRabinKarp[string], as one plain function, its equations, its contract. No condition.
-/
set_option maxRecDepth 100000
set_option linter.unusedVariables false
set_option maxHeartbeats 4000000
open Go Go.AM
namespace Go.Proofs.YtjlagiolgpjglaaDoor
noncomputable section
def bytealg_IndexRabinKarp_string_F6 : FSh := ⟨[(0, .one .str), (1, .one .str), (5, .one (.int .u32)), (6, .one (.int .u32)), (7, .one (.int .i64)), (8, .one (.int .u32)), (9, .one (.int .i64))], []⟩
def bytealg_IndexRabinKarp_string_F15 : FSh := ⟨[(0, .one .str), (1, .one .str), (5, .one (.int .u32)), (6, .one (.int .u32)), (7, .one (.int .i64)), (8, .one (.int .u32)), (10, .one (.int .i64))], []⟩
def bytealg_IndexRabinKarp_string_D : FD := ⟨T, lookC [(69, fc69)], [], (Tryd.f60.body.getD .skip), Tryd.f60.results.toList, ⟨[.one .str, .one .str], []⟩, ⟨[.one (.int .i64)], []⟩, [(6, bytealg_IndexRabinKarp_string_F6), (15, bytealg_IndexRabinKarp_string_F15)]⟩
def bytealg_IndexRabinKarp_string_l6 (s : ByteArray) (sep : ByteArray) (hashss : Int) (pow : Int) (n : Int) (h : Int) (i : Int) : (Option ((Int × Unit) × Unit)) := bytealg_IndexRabinKarp_string_D.lab 6 bytealg_IndexRabinKarp_string_F6 ((s, sep, hashss, pow, n, h, i, ()), ())
def bytealg_IndexRabinKarp_string_l15 (s : ByteArray) (sep : ByteArray) (hashss : Int) (pow : Int) (n : Int) (h : Int) (i : Int) : (Option ((Int × Unit) × Unit)) := bytealg_IndexRabinKarp_string_D.lab 15 bytealg_IndexRabinKarp_string_F15 ((s, sep, hashss, pow, n, h, i, ()), ())
theorem bytealg_IndexRabinKarp_string_l6_eq (s : ByteArray) (sep : ByteArray) (hashss : Int) (pow : Int) (n : Int) (h : Int) (i : Int) : bytealg_IndexRabinKarp_string_l6 s sep hashss pow n h i =
  if (decide (i < n)) = true then
    if 0 ≤ i ∧ i < (s.size : Int) then
      bytealg_IndexRabinKarp_string_l6 s sep hashss pow n (IntKind.u32.wrap ((IntKind.u32.wrap (h * 16777619)) + (IntKind.u32.wrap (bt s i)))) (IntKind.i64.wrap (i + 1))
    else
      none
  else
    if (h == hashss) = true then
      if 0 ≤ (0 : Int) ∧ (0 : Int) ≤ n ∧ n ≤ (s.size : Int) then
        if ((s.extract 0 n.toNat).toList == sep.toList) = true then
          some ((0, ()), ())
        else
          bytealg_IndexRabinKarp_string_l15 s sep hashss pow n h n
      else
        none
    else
      bytealg_IndexRabinKarp_string_l15 s sep hashss pow n h n := (FD.lab_eq _ _ _ _).trans (by kernel_rfl)
theorem bytealg_IndexRabinKarp_string_l15_eq (s : ByteArray) (sep : ByteArray) (hashss : Int) (pow : Int) (n : Int) (h : Int) (i : Int) : bytealg_IndexRabinKarp_string_l15 s sep hashss pow n h i =
  if (decide (i < (s.size : Int))) = true then
    if 0 ≤ i ∧ i < (s.size : Int) then
      if 0 ≤ IntKind.i64.wrap (i - n) ∧ IntKind.i64.wrap (i - n) < (s.size : Int) then
        if ((IntKind.u32.wrap ((IntKind.u32.wrap ((IntKind.u32.wrap (h * 16777619)) + (IntKind.u32.wrap (bt s i)))) - (IntKind.u32.wrap (pow * (IntKind.u32.wrap (bt s (IntKind.i64.wrap (i - n)))))))) == hashss) = true then
          if 0 ≤ IntKind.i64.wrap ((IntKind.i64.wrap (i + 1)) - n) ∧ IntKind.i64.wrap ((IntKind.i64.wrap (i + 1)) - n) ≤ IntKind.i64.wrap (i + 1) ∧ IntKind.i64.wrap (i + 1) ≤ (s.size : Int) then
            if ((s.extract (IntKind.i64.wrap ((IntKind.i64.wrap (i + 1)) - n)).toNat (IntKind.i64.wrap (i + 1)).toNat).toList == sep.toList) = true then
              some ((IntKind.i64.wrap ((IntKind.i64.wrap (i + 1)) - n), ()), ())
            else
              bytealg_IndexRabinKarp_string_l15 s sep hashss pow n (IntKind.u32.wrap ((IntKind.u32.wrap ((IntKind.u32.wrap (h * 16777619)) + (IntKind.u32.wrap (bt s i)))) - (IntKind.u32.wrap (pow * (IntKind.u32.wrap (bt s (IntKind.i64.wrap (i - n)))))))) (IntKind.i64.wrap (i + 1))
          else
            none
        else
          bytealg_IndexRabinKarp_string_l15 s sep hashss pow n (IntKind.u32.wrap ((IntKind.u32.wrap ((IntKind.u32.wrap (h * 16777619)) + (IntKind.u32.wrap (bt s i)))) - (IntKind.u32.wrap (pow * (IntKind.u32.wrap (bt s (IntKind.i64.wrap (i - n)))))))) (IntKind.i64.wrap (i + 1))
      else
        none
    else
      none
  else
    some (((-1), ()), ()) := (FD.lab_eq _ _ _ _).trans (by kernel_rfl)
def bytealg_IndexRabinKarp_string (s : ByteArray) (sep : ByteArray) : (Option ((Int × Unit) × Unit)) :=
  (bytealg_hashStr_string sep).bind fun y1 =>
    bytealg_IndexRabinKarp_string_l6 s sep y1.1.1 y1.1.2.1 (sep.size : Int) 0 0
def fc60 : FC := ⟨⟨[.one .str, .one .str], []⟩, ⟨[.one (.int .i64)], []⟩, fun x => bytealg_IndexRabinKarp_string x.1.1 x.1.2.1⟩
theorem con60 : Contract Tryd.prog 60 fc60 :=
  bytealg_IndexRabinKarp_string_D.contract tok (cok_of (l := [(69, fc69)]) ⟨con69, trivial⟩) mixed (fn' := Tryd.f60) (by kernel_rfl) (by kernel_rfl) rfl (by kernel_rfl) (fun x => (FD.fn_eq _ _).trans (by kernel_rfl))
end
end Go.Proofs.YtjlagiolgpjglaaDoor
end

section
/-
  DERIVED: THE SHELF's CONTRACTS AT THIS DUMP, IN PLAIN WORDS (tools/lay-plain.mjs out of 'TrydShelf.lean', which tools/lay-shelf.mjs wrote): THE SAME DECLARATIONS UNDER THE SAME NAMES: 'import', 'namespace', 'open', 'def', 'theorem' AND NOTHING ELSE: no command of the shelf's: FOR A HAND-IN. Each laying: the table of numbers ('.._ren') and one theorem, a field a fact of the dump's own or the kernel's comparison; each contract: ONE APPLICATION.
-/
namespace Go.Proofs
open Go.Shelf
def Tryd.lays195_ren : Go.Shelf.Ren := ⟨fun | 195 => 54 | n => n, fun | 9 => 9 | 3 => 3 | 0 => 0 | 4 => 4 | n => n, fun | n => n⟩
theorem Tryd.lays195 : Go.Proofs.Lays.n195 Tryd.prog Tryd.lays195_ren := {
  mixed := by kernel_rfl
  f195 := Tryd.func54.trans (congrArg some (by kernel_rfl))
  t0 := Tryd.underlying0
  a0 := Tryd.isAgg0
  z0 := Tryd.sizeOf0
  v0 := Tryd.zeroValue0
  t3 := Tryd.underlying3
  a3 := Tryd.isAgg3
  z3 := Tryd.sizeOf3
  v3 := Tryd.zeroValue3
  t4 := Tryd.underlying4
  a4 := Tryd.isAgg4
  z4 := Tryd.sizeOf4
  v4 := Tryd.zeroValue4
  t9 := Tryd.underlying9
  a9 := Tryd.isAgg9
  z9 := Tryd.sizeOf9
  v9 := Tryd.zeroValue9 }
open Go.RowKit in
/-- unicode/utf8.RuneCountInString: "RuneCountInString is like RuneCount but its input is a string." ("RuneCount returns the number of runes in p. Erroneous and short encodings are treated as single runes of width 1 byte."): EVERY STRING, valid UTF-8 or not: 'Lib.runeCount s' (plain Lean over the model's own 'Utf8.decode'; 'Lib.runeCount_le': at most len(s); 'Lib.runeCount_ascii': on ASCII: len(s)). THE ONE CONDITION: len(s) below 2^63 - 1 (the counter does not wrap): the form's reach pays it. THE WORLD BEHIND THE CALL: ONE BLOCK MORE: the model's iterator over s, at its end: all else as it was. (LAID: no walk: one application.) -/
theorem Tryd.utf8_RuneCountInString (s : ByteArray) (w : World) (hs : s.size < 9223372036854775807) :
    Calls Tryd.prog 54 #[.string s] w fun e w' => e = .returned (.int .i64 (Lib.runeCount s)) ∧ ∃ pos, w' = w.iter s pos := Any.utf8_RuneCountInString Tryd.lays195 s w hs
def Tryd.lays244_ren : Go.Shelf.Ren := ⟨fun | 244 => 42 | 247 => 49 | 287 => 63 | 321 => 70 | 322 => 71 | n => n, fun | 9 => 9 | 3 => 3 | 75 => 55 | 4 => 4 | 5 => 5 | 167 => 71 | 37 => 72 | 0 => 0 | 85 => 73 | 2 => 2 | 53 => 94 | 175 => 95 | 46 => 82 | 21 => 21 | 80 => 128 | n => n, fun | n => n⟩
theorem Tryd.lays244 : Go.Proofs.Lays.n244 Tryd.prog Tryd.lays244_ren := {
  mixed := by kernel_rfl
  f244 := Tryd.func42.trans (congrArg some (by kernel_rfl))
  f247 := Tryd.func49.trans (congrArg some (by kernel_rfl))
  f287 := Tryd.func63.trans (congrArg some (by kernel_rfl))
  f321 := Tryd.func70.trans (congrArg some (by kernel_rfl))
  f322 := Tryd.func71.trans (congrArg some (by kernel_rfl))
  t0 := Tryd.underlying0
  a0 := Tryd.isAgg0
  z0 := Tryd.sizeOf0
  v0 := Tryd.zeroValue0
  t2 := Tryd.underlying2
  a2 := Tryd.isAgg2
  z2 := Tryd.sizeOf2
  v2 := Tryd.zeroValue2
  t3 := Tryd.underlying3
  a3 := Tryd.isAgg3
  z3 := Tryd.sizeOf3
  v3 := Tryd.zeroValue3
  t4 := Tryd.underlying4
  a4 := Tryd.isAgg4
  z4 := Tryd.sizeOf4
  v4 := Tryd.zeroValue4
  t5 := Tryd.underlying5
  a5 := Tryd.isAgg5
  z5 := Tryd.sizeOf5
  v5 := Tryd.zeroValue5
  t9 := Tryd.underlying9
  a9 := Tryd.isAgg9
  z9 := Tryd.sizeOf9
  v9 := Tryd.zeroValue9
  t21 := Tryd.underlying21
  a21 := Tryd.isAgg21
  z21 := Tryd.sizeOf21
  v21 := Tryd.zeroValue21
  t37 := Tryd.underlying72
  a37 := Tryd.isAgg72
  z37 := Tryd.sizeOf72
  v37 := Tryd.zeroValue72
  t46 := Tryd.underlying82
  a46 := Tryd.isAgg82
  z46 := Tryd.sizeOf82
  v46 := Tryd.zeroValue82
  t53 := Tryd.underlying94
  a53 := Tryd.isAgg94
  z53 := Tryd.sizeOf94
  v53 := Tryd.zeroValue94
  t75 := Tryd.underlying55
  a75 := Tryd.isAgg55
  z75 := Tryd.sizeOf55
  v75 := Tryd.zeroValue55
  t85 := Tryd.underlying73
  a85 := Tryd.isAgg73
  z85 := Tryd.sizeOf73
  v85 := Tryd.zeroValue73
  t167 := Tryd.underlying71
  a167 := Tryd.isAgg71
  z167 := Tryd.sizeOf71
  v167 := Tryd.zeroValue71
  t175 := Tryd.underlying95
  a175 := Tryd.isAgg95
  z175 := Tryd.sizeOf95
  v175 := Tryd.zeroValue95 }
open Go.RowKit in
/-- internal/strconv.Atoi, at a decimal numeral of at most 18 bytes: ITS VALUE, AND NO ERROR. The world behind the call: the one new row that '[]byte(s)' lays. (LAID: no walk: one application.) -/
theorem Tryd.internal_strconv_Atoi (s : ByteArray) (n : Int) (hl : s.size ≤ 18) (h : Lib.atoi s.data.toList = some n) (w : World) :
    Calls Tryd.prog 42 #[.string s] w fun e w' => e = .returned (.tuple #[.int .i64 n, .nilIface]) ∧ ∃ t, w' = Lib.bytesWorld w 5 t := Any.internal_strconv_Atoi Tryd.lays244 s n hl h w
def Tryd.lays172_ren : Go.Shelf.Ren := ⟨fun | 172 => 37 | 244 => 42 | 245 => 43 | 247 => 49 | 279 => 50 | 280 => 51 | 281 => 52 | 282 => 53 | 287 => 63 | 316 => 64 | 171 => 66 | 205 => 65 | 321 => 70 | 322 => 71 | 243 => 72 | 246 => 73 | 283 => 74 | 284 => 75 | 285 => 76 | 286 => 77 | 129 => 79 | 317 => 78 | 318 => 80 | 319 => 81 | 320 => 82 | 337 => 83 | 338 => 84 | n => n, fun | 9 => 9 | 3 => 3 | 75 => 55 | 76 => 56 | 4 => 4 | 5 => 5 | 167 => 71 | 37 => 72 | 0 => 0 | 85 => 73 | 2 => 2 | 168 => 75 | 53 => 94 | 175 => 95 | 46 => 82 | 210 => 99 | 127 => 107 | 145 => 110 | 143 => 108 | 21 => 21 | 171 => 115 | 173 => 118 | 212 => 121 | 51 => 68 | 20 => 20 | 213 => 122 | 232 => 126 | 233 => 127 | 80 => 128 | n => n, fun | 15 => 3 | 16 => 4 | 17 => 7 | 18 => 8 | 19 => 9 | n => n⟩
theorem Tryd.lays172 : Go.Proofs.Lays.n172 Tryd.prog Tryd.lays172_ren := {
  mixed := by kernel_rfl
  f129 := Tryd.func79.trans (congrArg some (by kernel_rfl))
  f171 := Tryd.func66.trans (congrArg some (by kernel_rfl))
  f172 := Tryd.func37.trans (congrArg some (by kernel_rfl))
  f205 := Tryd.func65.trans (congrArg some (by kernel_rfl))
  f243 := Tryd.func72.trans (congrArg some (by kernel_rfl))
  f244 := Tryd.func42.trans (congrArg some (by kernel_rfl))
  f245 := Tryd.func43.trans (congrArg some (by kernel_rfl))
  f246 := Tryd.func73.trans (congrArg some (by kernel_rfl))
  f247 := Tryd.func49.trans (congrArg some (by kernel_rfl))
  f279 := Tryd.func50.trans (congrArg some (by kernel_rfl))
  f280 := Tryd.func51.trans (congrArg some (by kernel_rfl))
  f281 := Tryd.func52.trans (congrArg some (by kernel_rfl))
  f282 := Tryd.func53.trans (congrArg some (by kernel_rfl))
  f283 := Tryd.func74.trans (congrArg some (by kernel_rfl))
  f284 := Tryd.func75.trans (congrArg some (by kernel_rfl))
  f285 := Tryd.func76.trans (congrArg some (by kernel_rfl))
  f286 := Tryd.func77.trans (congrArg some (by kernel_rfl))
  f287 := Tryd.func63.trans (congrArg some (by kernel_rfl))
  f316 := Tryd.func64.trans (congrArg some (by kernel_rfl))
  f317 := Tryd.func78.trans (congrArg some (by kernel_rfl))
  f318 := Tryd.func80.trans (congrArg some (by kernel_rfl))
  f319 := Tryd.func81.trans (congrArg some (by kernel_rfl))
  f320 := Tryd.func82.trans (congrArg some (by kernel_rfl))
  f321 := Tryd.func70.trans (congrArg some (by kernel_rfl))
  f322 := Tryd.func71.trans (congrArg some (by kernel_rfl))
  f337 := Tryd.func83.trans (congrArg some (by kernel_rfl))
  f338 := Tryd.func84.trans (congrArg some (by kernel_rfl))
  t0 := Tryd.underlying0
  a0 := Tryd.isAgg0
  z0 := Tryd.sizeOf0
  v0 := Tryd.zeroValue0
  t2 := Tryd.underlying2
  a2 := Tryd.isAgg2
  z2 := Tryd.sizeOf2
  v2 := Tryd.zeroValue2
  t3 := Tryd.underlying3
  a3 := Tryd.isAgg3
  z3 := Tryd.sizeOf3
  v3 := Tryd.zeroValue3
  t4 := Tryd.underlying4
  a4 := Tryd.isAgg4
  z4 := Tryd.sizeOf4
  v4 := Tryd.zeroValue4
  t5 := Tryd.underlying5
  a5 := Tryd.isAgg5
  z5 := Tryd.sizeOf5
  v5 := Tryd.zeroValue5
  t9 := Tryd.underlying9
  a9 := Tryd.isAgg9
  z9 := Tryd.sizeOf9
  v9 := Tryd.zeroValue9
  t20 := Tryd.underlying20
  a20 := Tryd.isAgg20
  z20 := Tryd.sizeOf20
  v20 := Tryd.zeroValue20
  t21 := Tryd.underlying21
  a21 := Tryd.isAgg21
  z21 := Tryd.sizeOf21
  v21 := Tryd.zeroValue21
  t37 := Tryd.underlying72
  a37 := Tryd.isAgg72
  z37 := Tryd.sizeOf72
  v37 := Tryd.zeroValue72
  t46 := Tryd.underlying82
  a46 := Tryd.isAgg82
  z46 := Tryd.sizeOf82
  v46 := Tryd.zeroValue82
  t51 := Tryd.underlying68
  a51 := Tryd.isAgg68
  z51 := Tryd.sizeOf68
  v51 := Tryd.zeroValue68
  t53 := Tryd.underlying94
  a53 := Tryd.isAgg94
  z53 := Tryd.sizeOf94
  v53 := Tryd.zeroValue94
  t75 := Tryd.underlying55
  a75 := Tryd.isAgg55
  z75 := Tryd.sizeOf55
  v75 := Tryd.zeroValue55
  t76 := Tryd.underlying56
  a76 := Tryd.isAgg56
  z76 := Tryd.sizeOf56
  v76 := Tryd.zeroValue56
  t85 := Tryd.underlying73
  a85 := Tryd.isAgg73
  z85 := Tryd.sizeOf73
  v85 := Tryd.zeroValue73
  t127 := Tryd.underlying107
  a127 := Tryd.isAgg107
  z127 := Tryd.sizeOf107
  v127 := Tryd.zeroValue107
  t143 := Tryd.underlying108
  a143 := Tryd.isAgg108
  z143 := Tryd.sizeOf108
  v143 := Tryd.zeroValue108
  t145 := Tryd.underlying110
  a145 := Tryd.isAgg110
  z145 := Tryd.sizeOf110
  v145 := Tryd.zeroValue110
  t167 := Tryd.underlying71
  a167 := Tryd.isAgg71
  z167 := Tryd.sizeOf71
  v167 := Tryd.zeroValue71
  t168 := Tryd.underlying75
  a168 := Tryd.isAgg75
  z168 := Tryd.sizeOf75
  v168 := Tryd.zeroValue75
  t171 := Tryd.underlying115
  a171 := Tryd.isAgg115
  z171 := Tryd.sizeOf115
  v171 := Tryd.zeroValue115
  t173 := Tryd.underlying118
  a173 := Tryd.isAgg118
  z173 := Tryd.sizeOf118
  v173 := Tryd.zeroValue118
  t175 := Tryd.underlying95
  a175 := Tryd.isAgg95
  z175 := Tryd.sizeOf95
  v175 := Tryd.zeroValue95
  t210 := Tryd.underlying99
  a210 := Tryd.isAgg99
  z210 := Tryd.sizeOf99
  v210 := Tryd.zeroValue99
  t212 := Tryd.underlying121
  a212 := Tryd.isAgg121
  z212 := Tryd.sizeOf121
  v212 := Tryd.zeroValue121
  t213 := Tryd.underlying122
  a213 := Tryd.isAgg122
  z213 := Tryd.sizeOf122
  t232 := Tryd.underlying126
  a232 := Tryd.isAgg126
  z232 := Tryd.sizeOf126
  v232 := Tryd.zeroValue126
  t233 := Tryd.underlying127
  a233 := Tryd.isAgg127
  z233 := Tryd.sizeOf127
  v233 := Tryd.zeroValue127
  g15 := by kernel_rfl
  g16 := by kernel_rfl
  g17 := by kernel_rfl
  g18 := by kernel_rfl
  g19 := by kernel_rfl }
open Go.RowKit in
/-- strconv.Atoi: "Atoi is equivalent to ParseInt(s, 10, 0), converted to type int.": AT A DECIMAL NUMERAL OF AT MOST 18 BYTES: its value, and a nil error. The world behind the call: the one new row that the library's '[]byte(s)' lays. (LAID: no walk: one application.) -/
theorem Tryd.strconv_Atoi (s : ByteArray) (n : Int) (hl : s.size ≤ 18) (h : Lib.atoi s.data.toList = some n) (w : World) :
    Calls Tryd.prog 37 #[.string s] w fun e w' => e = .returned (.tuple #[.int .i64 n, .nilIface]) ∧ ∃ t, w' = Lib.bytesWorld w 5 t := Any.strconv_Atoi Tryd.lays172 s n hl h w
def Tryd.lays129_ren : Go.Shelf.Ren := ⟨fun | 129 => 79 | n => n, fun | 53 => 94 | 3 => 3 | 4 => 4 | 46 => 82 | 5 => 5 | 9 => 9 | n => n, fun | n => n⟩
theorem Tryd.lays129 : Go.Proofs.Lays.n129 Tryd.prog Tryd.lays129_ren := {
  mixed := by kernel_rfl
  f129 := Tryd.func79.trans (congrArg some (by kernel_rfl))
  t3 := Tryd.underlying3
  a3 := Tryd.isAgg3
  z3 := Tryd.sizeOf3
  v3 := Tryd.zeroValue3
  t4 := Tryd.underlying4
  a4 := Tryd.isAgg4
  z4 := Tryd.sizeOf4
  v4 := Tryd.zeroValue4
  t5 := Tryd.underlying5
  a5 := Tryd.isAgg5
  z5 := Tryd.sizeOf5
  v5 := Tryd.zeroValue5
  t9 := Tryd.underlying9
  a9 := Tryd.isAgg9
  z9 := Tryd.sizeOf9
  v9 := Tryd.zeroValue9
  t46 := Tryd.underlying82
  a46 := Tryd.isAgg82
  z46 := Tryd.sizeOf82
  v46 := Tryd.zeroValue82
  t53 := Tryd.underlying94
  a53 := Tryd.isAgg94
  z53 := Tryd.sizeOf94
  v53 := Tryd.zeroValue94 }
/-- bits.Len64: "Len64 returns the minimum number of bits required to represent x; the result is 0 for x == 0.": IT RETURNS 'Lib.bitLen x'; the world is as it was. ('h0', 'h1': x is a uint64.) (LAID: no walk: one application.) -/
theorem Tryd.bits_Len64 (x : Int) (w : World) (h0 : 0 ≤ x) (h1 : x ≤ 18446744073709551615) :
    Calls Tryd.prog 79 #[.int .u64 x] w fun e w' => e = .returned (.int .i64 (Lib.bitLen x.toNat)) ∧ w' = w := Any.bits_Len64 Tryd.lays129 x w h0 h1
def Tryd.lays317_ren : Go.Shelf.Ren := ⟨fun | 317 => 78 | n => n, fun | 3 => 3 | 46 => 82 | n => n, fun | n => n⟩
theorem Tryd.lays317 : Go.Proofs.Lays.n317 Tryd.prog Tryd.lays317_ren := {
  mixed := by kernel_rfl
  f317 := Tryd.func78.trans (congrArg some (by kernel_rfl))
  t3 := Tryd.underlying3
  a3 := Tryd.isAgg3
  z3 := Tryd.sizeOf3
  v3 := Tryd.zeroValue3
  t46 := Tryd.underlying82
  a46 := Tryd.isAgg82
  z46 := Tryd.sizeOf82
  v46 := Tryd.zeroValue82 }
open Go.Lib in
/-- internal/strconv.log10Pow2: "log10Pow2(x) returns ⌊log₁₀ 2**x⌋ = ⌊x * log₁₀ 2⌋.": '(x * 78913) >> 18', at an x up to 64 (a length in bits). The world is as it was. (LAID: no walk: one application.) -/
theorem Tryd.internal_strconv_log10Pow2 (x : Nat) (h : x ≤ 64) (w : World) :
    Calls Tryd.prog 78 #[.int .i64 x] w fun e w' => e = .returned (.int .i64 (Lib.l10 x)) ∧ w' = w := Any.internal_strconv_log10Pow2 Tryd.lays317 x h w
def Tryd.lays318_ren : Go.Shelf.Ren := ⟨fun | 318 => 80 | n => n, fun | 3 => 3 | 4 => 4 | n => n, fun | n => n⟩
theorem Tryd.lays318 : Go.Proofs.Lays.n318 Tryd.prog Tryd.lays318_ren := {
  mixed := by kernel_rfl
  f318 := Tryd.func80.trans (congrArg some (by kernel_rfl))
  t3 := Tryd.underlying3
  a3 := Tryd.isAgg3
  z3 := Tryd.sizeOf3
  v3 := Tryd.zeroValue3
  t4 := Tryd.underlying4
  a4 := Tryd.isAgg4
  z4 := Tryd.sizeOf4
  v4 := Tryd.zeroValue4 }
open Go.Lib in
/-- internal/strconv.bool2: "bool2 converts b to an integer: 1 for true, 0 for false." The world is as it was. (LAID: no walk: one application.) -/
theorem Tryd.internal_strconv_bool2_int (b : Bool) (w : World) :
    Calls Tryd.prog 80 #[.bool b] w fun e w' => e = .returned (.int .i64 (if b then 1 else 0)) ∧ w' = w := Any.internal_strconv_bool2_int Tryd.lays318 b w
def Tryd.lays283_ren : Go.Shelf.Ren := ⟨fun | 283 => 74 | n => n, fun | 3 => 3 | 9 => 9 | 4 => 4 | n => n, fun | n => n⟩
theorem Tryd.lays283 : Go.Proofs.Lays.n283 Tryd.prog Tryd.lays283_ren := {
  mixed := by kernel_rfl
  f283 := Tryd.func74.trans (congrArg some (by kernel_rfl))
  t3 := Tryd.underlying3
  a3 := Tryd.isAgg3
  z3 := Tryd.sizeOf3
  v3 := Tryd.zeroValue3
  t4 := Tryd.underlying4
  a4 := Tryd.isAgg4
  z4 := Tryd.sizeOf4
  v4 := Tryd.zeroValue4
  t9 := Tryd.underlying9
  a9 := Tryd.isAgg9
  z9 := Tryd.sizeOf9
  v9 := Tryd.zeroValue9 }
open Go.Lib in
/-- internal/strconv.small: "small returns the string for an i with 0 <= i < nSmalls.": i's decimal numeral. The world is as it was. (LAID: no walk: one application.) -/
theorem Tryd.internal_strconv_small (i : Nat) (h : i < 100) (w : World) :
    Calls Tryd.prog 74 #[.int .i64 i] w fun e w' => e = .returned (.string ⟨(Lib.decDigits i).toArray⟩) ∧ w' = w := Any.internal_strconv_small Tryd.lays283 i h w
def Tryd.laysM284_ren : Go.Shelf.Ren := ⟨fun | 284 => 75 | 129 => 79 | 317 => 78 | 318 => 80 | n => n, fun | 53 => 94 | 3 => 3 | 212 => 121 | 0 => 0 | 4 => 4 | 46 => 82 | 5 => 5 | 9 => 9 | n => n, fun | 17 => 7 | n => n⟩
theorem Tryd.laysM284 : Go.Proofs.LaysM.n284 Tryd.prog Tryd.laysM284_ren := {
  mixed := by kernel_rfl
  f129 := Tryd.func79.trans (congrArg some (by kernel_rfl))
  f284 := Tryd.func75.trans (congrArg some (by kernel_rfl))
  f317 := Tryd.func78.trans (congrArg some (by kernel_rfl))
  f318 := Tryd.func80.trans (congrArg some (by kernel_rfl))
  t0 := Tryd.underlying0
  a0 := Tryd.isAgg0
  z0 := Tryd.sizeOf0
  v0 := Tryd.zeroValue0
  t3 := Tryd.underlying3
  a3 := Tryd.isAgg3
  z3 := Tryd.sizeOf3
  v3 := Tryd.zeroValue3
  t4 := Tryd.underlying4
  a4 := Tryd.isAgg4
  z4 := Tryd.sizeOf4
  v4 := Tryd.zeroValue4
  t5 := Tryd.underlying5
  a5 := Tryd.isAgg5
  z5 := Tryd.sizeOf5
  v5 := Tryd.zeroValue5
  t9 := Tryd.underlying9
  a9 := Tryd.isAgg9
  z9 := Tryd.sizeOf9
  v9 := Tryd.zeroValue9
  t46 := Tryd.underlying82
  a46 := Tryd.isAgg82
  z46 := Tryd.sizeOf82
  v46 := Tryd.zeroValue82
  t53 := Tryd.underlying94
  a53 := Tryd.isAgg94
  z53 := Tryd.sizeOf94
  v53 := Tryd.zeroValue94
  t212 := Tryd.underlying121
  a212 := Tryd.isAgg121
  z212 := Tryd.sizeOf121
  v212 := Tryd.zeroValue121
  g17 := by kernel_rfl
  i0 := by kernel_rfl
  i3 := by kernel_rfl
  i4 := by kernel_rfl
  i5 := by kernel_rfl
  i9 := by kernel_rfl
  i46 := by kernel_rfl
  i53 := by kernel_rfl
  i212 := by kernel_rfl
  m17 := by kernel_rfl }
open Go.Lib in
/-- internal/strconv.numDigits, at a d that is not 0: THE NUMBER OF d's DECIMAL DIGITS. The world is as it was. (LAID: no walk: one application.) -/
theorem Tryd.internal_strconv_numDigits (u : Nat) (h1 : 1 ≤ u) (h2 : u < 18446744073709551616) (w : World) (htab : Lib.TabIs Tryd.prog w "internal/strconv.uint64pow10" .u64 Lib.pow10Tab) :
    Calls Tryd.prog 75 #[.int .u64 u] w fun e w' => e = .returned (.int .i64 (Lib.nDigits u)) ∧ w' = w := Any.internal_strconv_numDigits Tryd.laysM284 u h1 h2 w htab
def Tryd.lays285_ren : Go.Shelf.Ren := ⟨fun | 285 => 76 | n => n, fun | 37 => 72 | 53 => 94 | 3 => 3 | 4 => 4 | 51 => 68 | 9 => 9 | 5 => 5 | 0 => 0 | n => n, fun | n => n⟩
theorem Tryd.lays285 : Go.Proofs.Lays.n285 Tryd.prog Tryd.lays285_ren := {
  mixed := by kernel_rfl
  f285 := Tryd.func76.trans (congrArg some (by kernel_rfl))
  t0 := Tryd.underlying0
  a0 := Tryd.isAgg0
  z0 := Tryd.sizeOf0
  v0 := Tryd.zeroValue0
  t3 := Tryd.underlying3
  a3 := Tryd.isAgg3
  z3 := Tryd.sizeOf3
  v3 := Tryd.zeroValue3
  t4 := Tryd.underlying4
  a4 := Tryd.isAgg4
  z4 := Tryd.sizeOf4
  v4 := Tryd.zeroValue4
  t5 := Tryd.underlying5
  a5 := Tryd.isAgg5
  z5 := Tryd.sizeOf5
  v5 := Tryd.zeroValue5
  t9 := Tryd.underlying9
  a9 := Tryd.isAgg9
  z9 := Tryd.sizeOf9
  v9 := Tryd.zeroValue9
  t37 := Tryd.underlying72
  a37 := Tryd.isAgg72
  z37 := Tryd.sizeOf72
  v37 := Tryd.zeroValue72
  t51 := Tryd.underlying68
  a51 := Tryd.isAgg68
  z51 := Tryd.sizeOf68
  v51 := Tryd.zeroValue68
  t53 := Tryd.underlying94
  a53 := Tryd.isAgg94
  z53 := Tryd.sizeOf94
  v53 := Tryd.zeroValue94 }
open Go.RowKit Go.Sort Go.Lib in
/-- internal/strconv.formatBase10: "formatBase10 formats the decimal representation of u into a. The caller is responsible for ensuring that a is big enough to hold u. If a is too big, leading zeros will be filled in as needed.": THE ROW HOLDS u's DIGITS ('FmtInv .. 0 ..': every place t holds 'dg u (len - 1 - t)'); all else is as it was but for the count of draws. (LAID: no walk: one application.) -/
theorem Tryd.internal_strconv_formatBase10 (blk off cap : Nat) (u : Nat) (d : Array UInt8) (w : World) (hH : Holds (fun (b : UInt8) => Value.int .u8 (b.toNat : Int)) w blk off d) (hu : u < 10 ^ d.size) (hu64 : u < 18446744073709551616) (hsz : d.size < 4611686018427387904) :
    Calls Tryd.prog 76 #[.slice (some ⟨blk, off, none⟩) d.size cap, .int .u64 u] w fun e w' =>
      e = .returned (.tuple #[]) ∧ ∃ (n v' : Nat) (dk : Array UInt8), w' = (putRow (fun (b : UInt8) => Value.int .u8 (b.toNat : Int)) w blk off dk).drewN n ∧ FmtInv d.size u 0 v' dk := Any.internal_strconv_formatBase10 Tryd.lays285 blk off cap u d w hH hu hu64 hsz
def Tryd.laysM246_ren : Go.Shelf.Ren := ⟨fun | 246 => 73 | 283 => 74 | 284 => 75 | 285 => 76 | 286 => 77 | 129 => 79 | 317 => 78 | 318 => 80 | 319 => 81 | 320 => 82 | 337 => 83 | 338 => 84 | n => n, fun | 2 => 2 | 3 => 3 | 9 => 9 | 4 => 4 | 171 => 115 | 0 => 0 | 53 => 94 | 37 => 72 | 5 => 5 | 173 => 118 | 212 => 121 | 51 => 68 | 20 => 20 | 213 => 122 | 46 => 82 | 232 => 126 | 233 => 127 | n => n, fun | 17 => 7 | 18 => 8 | 19 => 9 | n => n⟩
theorem Tryd.laysM246 : Go.Proofs.LaysM.n246 Tryd.prog Tryd.laysM246_ren := {
  mixed := by kernel_rfl
  f129 := Tryd.func79.trans (congrArg some (by kernel_rfl))
  f246 := Tryd.func73.trans (congrArg some (by kernel_rfl))
  f283 := Tryd.func74.trans (congrArg some (by kernel_rfl))
  f284 := Tryd.func75.trans (congrArg some (by kernel_rfl))
  f285 := Tryd.func76.trans (congrArg some (by kernel_rfl))
  f286 := Tryd.func77.trans (congrArg some (by kernel_rfl))
  f317 := Tryd.func78.trans (congrArg some (by kernel_rfl))
  f318 := Tryd.func80.trans (congrArg some (by kernel_rfl))
  f319 := Tryd.func81.trans (congrArg some (by kernel_rfl))
  f320 := Tryd.func82.trans (congrArg some (by kernel_rfl))
  f337 := Tryd.func83.trans (congrArg some (by kernel_rfl))
  f338 := Tryd.func84.trans (congrArg some (by kernel_rfl))
  t0 := Tryd.underlying0
  a0 := Tryd.isAgg0
  z0 := Tryd.sizeOf0
  v0 := Tryd.zeroValue0
  t2 := Tryd.underlying2
  a2 := Tryd.isAgg2
  z2 := Tryd.sizeOf2
  v2 := Tryd.zeroValue2
  t3 := Tryd.underlying3
  a3 := Tryd.isAgg3
  z3 := Tryd.sizeOf3
  v3 := Tryd.zeroValue3
  t4 := Tryd.underlying4
  a4 := Tryd.isAgg4
  z4 := Tryd.sizeOf4
  v4 := Tryd.zeroValue4
  t5 := Tryd.underlying5
  a5 := Tryd.isAgg5
  z5 := Tryd.sizeOf5
  v5 := Tryd.zeroValue5
  t9 := Tryd.underlying9
  a9 := Tryd.isAgg9
  z9 := Tryd.sizeOf9
  v9 := Tryd.zeroValue9
  t20 := Tryd.underlying20
  a20 := Tryd.isAgg20
  z20 := Tryd.sizeOf20
  v20 := Tryd.zeroValue20
  t37 := Tryd.underlying72
  a37 := Tryd.isAgg72
  z37 := Tryd.sizeOf72
  v37 := Tryd.zeroValue72
  t46 := Tryd.underlying82
  a46 := Tryd.isAgg82
  z46 := Tryd.sizeOf82
  v46 := Tryd.zeroValue82
  t51 := Tryd.underlying68
  a51 := Tryd.isAgg68
  z51 := Tryd.sizeOf68
  v51 := Tryd.zeroValue68
  t53 := Tryd.underlying94
  a53 := Tryd.isAgg94
  z53 := Tryd.sizeOf94
  v53 := Tryd.zeroValue94
  t171 := Tryd.underlying115
  a171 := Tryd.isAgg115
  z171 := Tryd.sizeOf115
  v171 := Tryd.zeroValue115
  t173 := Tryd.underlying118
  a173 := Tryd.isAgg118
  z173 := Tryd.sizeOf118
  v173 := Tryd.zeroValue118
  t212 := Tryd.underlying121
  a212 := Tryd.isAgg121
  z212 := Tryd.sizeOf121
  v212 := Tryd.zeroValue121
  t213 := Tryd.underlying122
  a213 := Tryd.isAgg122
  z213 := Tryd.sizeOf122
  t232 := Tryd.underlying126
  a232 := Tryd.isAgg126
  z232 := Tryd.sizeOf126
  v232 := Tryd.zeroValue126
  t233 := Tryd.underlying127
  a233 := Tryd.isAgg127
  z233 := Tryd.sizeOf127
  v233 := Tryd.zeroValue127
  g17 := by kernel_rfl
  g18 := by kernel_rfl
  g19 := by kernel_rfl
  i0 := by kernel_rfl
  i2 := by kernel_rfl
  i3 := by kernel_rfl
  i4 := by kernel_rfl
  i5 := by kernel_rfl
  i9 := by kernel_rfl
  i20 := by kernel_rfl
  i37 := by kernel_rfl
  i46 := by kernel_rfl
  i51 := by kernel_rfl
  i53 := by kernel_rfl
  i171 := by kernel_rfl
  i173 := by kernel_rfl
  i212 := by kernel_rfl
  i232 := by kernel_rfl
  i233 := by kernel_rfl
  m17 := by kernel_rfl
  m18 := by kernel_rfl
  m19 := by kernel_rfl }
open Go.RowKit Go.Sort Go.Lib in
/-- internal/strconv.FormatInt: "FormatInt returns the string representation of i in the given base": AT BASE 10: i's decimal numeral, for every int64. The world behind the call: the world before it, new blocks behind the heap, draws. (LAID: no walk: one application.) -/
theorem Tryd.internal_strconv_FormatInt_10 (n : Int) (h0 : -9223372036854775808 ≤ n) (h1 : n ≤ 9223372036854775807) (w : World) (htab : Lib.TabIs Tryd.prog w "internal/strconv.uint64pow10" .u64 Lib.pow10Tab) :
    Calls Tryd.prog 73 #[.int .i64 n, .int .i64 10] w fun e w' => e = .returned (.string ⟨(Lib.itoa n).toArray⟩) ∧ ∃ k os, w' = grow (w.drewN k) os := Any.internal_strconv_FormatInt_10 Tryd.laysM246 n h0 h1 w htab
def Tryd.lays246_ren : Go.Shelf.Ren := ⟨fun | 246 => 73 | 283 => 74 | 284 => 75 | 285 => 76 | 286 => 77 | 129 => 79 | 317 => 78 | 318 => 80 | 319 => 81 | 320 => 82 | 337 => 83 | 338 => 84 | n => n, fun | 2 => 2 | 3 => 3 | 9 => 9 | 4 => 4 | 171 => 115 | 0 => 0 | 53 => 94 | 37 => 72 | 5 => 5 | 173 => 118 | 212 => 121 | 51 => 68 | 20 => 20 | 213 => 122 | 46 => 82 | 232 => 126 | 233 => 127 | n => n, fun | 17 => 7 | 18 => 8 | 19 => 9 | n => n⟩
theorem Tryd.lays246 : Go.Proofs.Lays.n246 Tryd.prog Tryd.lays246_ren := {
  mixed := by kernel_rfl
  f129 := Tryd.func79.trans (congrArg some (by kernel_rfl))
  f246 := Tryd.func73.trans (congrArg some (by kernel_rfl))
  f283 := Tryd.func74.trans (congrArg some (by kernel_rfl))
  f284 := Tryd.func75.trans (congrArg some (by kernel_rfl))
  f285 := Tryd.func76.trans (congrArg some (by kernel_rfl))
  f286 := Tryd.func77.trans (congrArg some (by kernel_rfl))
  f317 := Tryd.func78.trans (congrArg some (by kernel_rfl))
  f318 := Tryd.func80.trans (congrArg some (by kernel_rfl))
  f319 := Tryd.func81.trans (congrArg some (by kernel_rfl))
  f320 := Tryd.func82.trans (congrArg some (by kernel_rfl))
  f337 := Tryd.func83.trans (congrArg some (by kernel_rfl))
  f338 := Tryd.func84.trans (congrArg some (by kernel_rfl))
  t0 := Tryd.underlying0
  a0 := Tryd.isAgg0
  z0 := Tryd.sizeOf0
  v0 := Tryd.zeroValue0
  t2 := Tryd.underlying2
  a2 := Tryd.isAgg2
  z2 := Tryd.sizeOf2
  v2 := Tryd.zeroValue2
  t3 := Tryd.underlying3
  a3 := Tryd.isAgg3
  z3 := Tryd.sizeOf3
  v3 := Tryd.zeroValue3
  t4 := Tryd.underlying4
  a4 := Tryd.isAgg4
  z4 := Tryd.sizeOf4
  v4 := Tryd.zeroValue4
  t5 := Tryd.underlying5
  a5 := Tryd.isAgg5
  z5 := Tryd.sizeOf5
  v5 := Tryd.zeroValue5
  t9 := Tryd.underlying9
  a9 := Tryd.isAgg9
  z9 := Tryd.sizeOf9
  v9 := Tryd.zeroValue9
  t20 := Tryd.underlying20
  a20 := Tryd.isAgg20
  z20 := Tryd.sizeOf20
  v20 := Tryd.zeroValue20
  t37 := Tryd.underlying72
  a37 := Tryd.isAgg72
  z37 := Tryd.sizeOf72
  v37 := Tryd.zeroValue72
  t46 := Tryd.underlying82
  a46 := Tryd.isAgg82
  z46 := Tryd.sizeOf82
  v46 := Tryd.zeroValue82
  t51 := Tryd.underlying68
  a51 := Tryd.isAgg68
  z51 := Tryd.sizeOf68
  v51 := Tryd.zeroValue68
  t53 := Tryd.underlying94
  a53 := Tryd.isAgg94
  z53 := Tryd.sizeOf94
  v53 := Tryd.zeroValue94
  t171 := Tryd.underlying115
  a171 := Tryd.isAgg115
  z171 := Tryd.sizeOf115
  v171 := Tryd.zeroValue115
  t173 := Tryd.underlying118
  a173 := Tryd.isAgg118
  z173 := Tryd.sizeOf118
  v173 := Tryd.zeroValue118
  t212 := Tryd.underlying121
  a212 := Tryd.isAgg121
  z212 := Tryd.sizeOf121
  v212 := Tryd.zeroValue121
  t213 := Tryd.underlying122
  a213 := Tryd.isAgg122
  z213 := Tryd.sizeOf122
  t232 := Tryd.underlying126
  a232 := Tryd.isAgg126
  z232 := Tryd.sizeOf126
  v232 := Tryd.zeroValue126
  t233 := Tryd.underlying127
  a233 := Tryd.isAgg127
  z233 := Tryd.sizeOf127
  v233 := Tryd.zeroValue127
  g17 := by kernel_rfl
  g18 := by kernel_rfl
  g19 := by kernel_rfl }
open Go.RowKit Go.Sort Go.Lib in
/-- THE ROAD WITHOUT THE TABLE: 0 <= i < 100: two constants are read, nothing is laid: no premise on the world, and the world is as it was. (LAID: no walk: one application.) -/
theorem Tryd.internal_strconv_FormatInt_10_small (i : Nat) (hi : i < 100) (w : World) :
    Calls Tryd.prog 73 #[.int .i64 i, .int .i64 10] w fun e w' => e = .returned (.string ⟨(Lib.decDigits i).toArray⟩) ∧ w' = w := Any.internal_strconv_FormatInt_10_small Tryd.lays246 i hi w
def Tryd.laysM243_ren : Go.Shelf.Ren := ⟨fun | 243 => 72 | 246 => 73 | 283 => 74 | 284 => 75 | 285 => 76 | 286 => 77 | 129 => 79 | 317 => 78 | 318 => 80 | 319 => 81 | 320 => 82 | 337 => 83 | 338 => 84 | n => n, fun | 3 => 3 | 9 => 9 | 2 => 2 | 4 => 4 | 171 => 115 | 0 => 0 | 53 => 94 | 37 => 72 | 5 => 5 | 173 => 118 | 212 => 121 | 51 => 68 | 20 => 20 | 213 => 122 | 46 => 82 | 232 => 126 | 233 => 127 | n => n, fun | 17 => 7 | 18 => 8 | 19 => 9 | n => n⟩
theorem Tryd.laysM243 : Go.Proofs.LaysM.n243 Tryd.prog Tryd.laysM243_ren := {
  mixed := by kernel_rfl
  f129 := Tryd.func79.trans (congrArg some (by kernel_rfl))
  f243 := Tryd.func72.trans (congrArg some (by kernel_rfl))
  f246 := Tryd.func73.trans (congrArg some (by kernel_rfl))
  f283 := Tryd.func74.trans (congrArg some (by kernel_rfl))
  f284 := Tryd.func75.trans (congrArg some (by kernel_rfl))
  f285 := Tryd.func76.trans (congrArg some (by kernel_rfl))
  f286 := Tryd.func77.trans (congrArg some (by kernel_rfl))
  f317 := Tryd.func78.trans (congrArg some (by kernel_rfl))
  f318 := Tryd.func80.trans (congrArg some (by kernel_rfl))
  f319 := Tryd.func81.trans (congrArg some (by kernel_rfl))
  f320 := Tryd.func82.trans (congrArg some (by kernel_rfl))
  f337 := Tryd.func83.trans (congrArg some (by kernel_rfl))
  f338 := Tryd.func84.trans (congrArg some (by kernel_rfl))
  t0 := Tryd.underlying0
  a0 := Tryd.isAgg0
  z0 := Tryd.sizeOf0
  v0 := Tryd.zeroValue0
  t2 := Tryd.underlying2
  a2 := Tryd.isAgg2
  z2 := Tryd.sizeOf2
  v2 := Tryd.zeroValue2
  t3 := Tryd.underlying3
  a3 := Tryd.isAgg3
  z3 := Tryd.sizeOf3
  v3 := Tryd.zeroValue3
  t4 := Tryd.underlying4
  a4 := Tryd.isAgg4
  z4 := Tryd.sizeOf4
  v4 := Tryd.zeroValue4
  t5 := Tryd.underlying5
  a5 := Tryd.isAgg5
  z5 := Tryd.sizeOf5
  v5 := Tryd.zeroValue5
  t9 := Tryd.underlying9
  a9 := Tryd.isAgg9
  z9 := Tryd.sizeOf9
  v9 := Tryd.zeroValue9
  t20 := Tryd.underlying20
  a20 := Tryd.isAgg20
  z20 := Tryd.sizeOf20
  v20 := Tryd.zeroValue20
  t37 := Tryd.underlying72
  a37 := Tryd.isAgg72
  z37 := Tryd.sizeOf72
  v37 := Tryd.zeroValue72
  t46 := Tryd.underlying82
  a46 := Tryd.isAgg82
  z46 := Tryd.sizeOf82
  v46 := Tryd.zeroValue82
  t51 := Tryd.underlying68
  a51 := Tryd.isAgg68
  z51 := Tryd.sizeOf68
  v51 := Tryd.zeroValue68
  t53 := Tryd.underlying94
  a53 := Tryd.isAgg94
  z53 := Tryd.sizeOf94
  v53 := Tryd.zeroValue94
  t171 := Tryd.underlying115
  a171 := Tryd.isAgg115
  z171 := Tryd.sizeOf115
  v171 := Tryd.zeroValue115
  t173 := Tryd.underlying118
  a173 := Tryd.isAgg118
  z173 := Tryd.sizeOf118
  v173 := Tryd.zeroValue118
  t212 := Tryd.underlying121
  a212 := Tryd.isAgg121
  z212 := Tryd.sizeOf121
  v212 := Tryd.zeroValue121
  t213 := Tryd.underlying122
  a213 := Tryd.isAgg122
  z213 := Tryd.sizeOf122
  t232 := Tryd.underlying126
  a232 := Tryd.isAgg126
  z232 := Tryd.sizeOf126
  v232 := Tryd.zeroValue126
  t233 := Tryd.underlying127
  a233 := Tryd.isAgg127
  z233 := Tryd.sizeOf127
  v233 := Tryd.zeroValue127
  g17 := by kernel_rfl
  g18 := by kernel_rfl
  g19 := by kernel_rfl
  i0 := by kernel_rfl
  i2 := by kernel_rfl
  i3 := by kernel_rfl
  i4 := by kernel_rfl
  i5 := by kernel_rfl
  i9 := by kernel_rfl
  i20 := by kernel_rfl
  i37 := by kernel_rfl
  i46 := by kernel_rfl
  i51 := by kernel_rfl
  i53 := by kernel_rfl
  i171 := by kernel_rfl
  i173 := by kernel_rfl
  i212 := by kernel_rfl
  i232 := by kernel_rfl
  i233 := by kernel_rfl
  m17 := by kernel_rfl
  m18 := by kernel_rfl
  m19 := by kernel_rfl }
open Go.RowKit Go.Sort Go.Lib in
/-- internal/strconv.Itoa: "Itoa is equivalent to FormatInt(int64(i), 10).": i's decimal numeral, for every int. (LAID: no walk: one application.) -/
theorem Tryd.internal_strconv_Itoa (n : Int) (h0 : -9223372036854775808 ≤ n) (h1 : n ≤ 9223372036854775807) (w : World) (htab : Lib.TabIs Tryd.prog w "internal/strconv.uint64pow10" .u64 Lib.pow10Tab) :
    Calls Tryd.prog 72 #[.int .i64 n] w fun e w' => e = .returned (.string ⟨(Lib.itoa n).toArray⟩) ∧ ∃ k os, w' = grow (w.drewN k) os := Any.internal_strconv_Itoa Tryd.laysM243 n h0 h1 w htab
def Tryd.lays243_ren : Go.Shelf.Ren := ⟨fun | 243 => 72 | 246 => 73 | 283 => 74 | 284 => 75 | 285 => 76 | 286 => 77 | 129 => 79 | 317 => 78 | 318 => 80 | 319 => 81 | 320 => 82 | 337 => 83 | 338 => 84 | n => n, fun | 3 => 3 | 9 => 9 | 2 => 2 | 4 => 4 | 171 => 115 | 0 => 0 | 53 => 94 | 37 => 72 | 5 => 5 | 173 => 118 | 212 => 121 | 51 => 68 | 20 => 20 | 213 => 122 | 46 => 82 | 232 => 126 | 233 => 127 | n => n, fun | 17 => 7 | 18 => 8 | 19 => 9 | n => n⟩
theorem Tryd.lays243 : Go.Proofs.Lays.n243 Tryd.prog Tryd.lays243_ren := {
  mixed := by kernel_rfl
  f129 := Tryd.func79.trans (congrArg some (by kernel_rfl))
  f243 := Tryd.func72.trans (congrArg some (by kernel_rfl))
  f246 := Tryd.func73.trans (congrArg some (by kernel_rfl))
  f283 := Tryd.func74.trans (congrArg some (by kernel_rfl))
  f284 := Tryd.func75.trans (congrArg some (by kernel_rfl))
  f285 := Tryd.func76.trans (congrArg some (by kernel_rfl))
  f286 := Tryd.func77.trans (congrArg some (by kernel_rfl))
  f317 := Tryd.func78.trans (congrArg some (by kernel_rfl))
  f318 := Tryd.func80.trans (congrArg some (by kernel_rfl))
  f319 := Tryd.func81.trans (congrArg some (by kernel_rfl))
  f320 := Tryd.func82.trans (congrArg some (by kernel_rfl))
  f337 := Tryd.func83.trans (congrArg some (by kernel_rfl))
  f338 := Tryd.func84.trans (congrArg some (by kernel_rfl))
  t0 := Tryd.underlying0
  a0 := Tryd.isAgg0
  z0 := Tryd.sizeOf0
  v0 := Tryd.zeroValue0
  t2 := Tryd.underlying2
  a2 := Tryd.isAgg2
  z2 := Tryd.sizeOf2
  v2 := Tryd.zeroValue2
  t3 := Tryd.underlying3
  a3 := Tryd.isAgg3
  z3 := Tryd.sizeOf3
  v3 := Tryd.zeroValue3
  t4 := Tryd.underlying4
  a4 := Tryd.isAgg4
  z4 := Tryd.sizeOf4
  v4 := Tryd.zeroValue4
  t5 := Tryd.underlying5
  a5 := Tryd.isAgg5
  z5 := Tryd.sizeOf5
  v5 := Tryd.zeroValue5
  t9 := Tryd.underlying9
  a9 := Tryd.isAgg9
  z9 := Tryd.sizeOf9
  v9 := Tryd.zeroValue9
  t20 := Tryd.underlying20
  a20 := Tryd.isAgg20
  z20 := Tryd.sizeOf20
  v20 := Tryd.zeroValue20
  t37 := Tryd.underlying72
  a37 := Tryd.isAgg72
  z37 := Tryd.sizeOf72
  v37 := Tryd.zeroValue72
  t46 := Tryd.underlying82
  a46 := Tryd.isAgg82
  z46 := Tryd.sizeOf82
  v46 := Tryd.zeroValue82
  t51 := Tryd.underlying68
  a51 := Tryd.isAgg68
  z51 := Tryd.sizeOf68
  v51 := Tryd.zeroValue68
  t53 := Tryd.underlying94
  a53 := Tryd.isAgg94
  z53 := Tryd.sizeOf94
  v53 := Tryd.zeroValue94
  t171 := Tryd.underlying115
  a171 := Tryd.isAgg115
  z171 := Tryd.sizeOf115
  v171 := Tryd.zeroValue115
  t173 := Tryd.underlying118
  a173 := Tryd.isAgg118
  z173 := Tryd.sizeOf118
  v173 := Tryd.zeroValue118
  t212 := Tryd.underlying121
  a212 := Tryd.isAgg121
  z212 := Tryd.sizeOf121
  v212 := Tryd.zeroValue121
  t213 := Tryd.underlying122
  a213 := Tryd.isAgg122
  z213 := Tryd.sizeOf122
  t232 := Tryd.underlying126
  a232 := Tryd.isAgg126
  z232 := Tryd.sizeOf126
  v232 := Tryd.zeroValue126
  t233 := Tryd.underlying127
  a233 := Tryd.isAgg127
  z233 := Tryd.sizeOf127
  v233 := Tryd.zeroValue127
  g17 := by kernel_rfl
  g18 := by kernel_rfl
  g19 := by kernel_rfl }
open Go.RowKit Go.Sort Go.Lib in
/-- THE ROAD WITHOUT THE TABLE: 0 <= i < 100. (LAID: no walk: one application.) -/
theorem Tryd.internal_strconv_Itoa_small (i : Nat) (hi : i < 100) (w : World) :
    Calls Tryd.prog 72 #[.int .i64 i] w fun e w' => e = .returned (.string ⟨(Lib.decDigits i).toArray⟩) ∧ w' = w := Any.internal_strconv_Itoa_small Tryd.lays243 i hi w
def Tryd.laysM171_ren : Go.Shelf.Ren := ⟨fun | 171 => 66 | 243 => 72 | 246 => 73 | 283 => 74 | 284 => 75 | 285 => 76 | 286 => 77 | 129 => 79 | 317 => 78 | 318 => 80 | 319 => 81 | 320 => 82 | 337 => 83 | 338 => 84 | n => n, fun | 3 => 3 | 9 => 9 | 2 => 2 | 4 => 4 | 171 => 115 | 0 => 0 | 53 => 94 | 37 => 72 | 5 => 5 | 173 => 118 | 212 => 121 | 51 => 68 | 20 => 20 | 213 => 122 | 46 => 82 | 232 => 126 | 233 => 127 | n => n, fun | 17 => 7 | 18 => 8 | 19 => 9 | n => n⟩
theorem Tryd.laysM171 : Go.Proofs.LaysM.n171 Tryd.prog Tryd.laysM171_ren := {
  mixed := by kernel_rfl
  f129 := Tryd.func79.trans (congrArg some (by kernel_rfl))
  f171 := Tryd.func66.trans (congrArg some (by kernel_rfl))
  f243 := Tryd.func72.trans (congrArg some (by kernel_rfl))
  f246 := Tryd.func73.trans (congrArg some (by kernel_rfl))
  f283 := Tryd.func74.trans (congrArg some (by kernel_rfl))
  f284 := Tryd.func75.trans (congrArg some (by kernel_rfl))
  f285 := Tryd.func76.trans (congrArg some (by kernel_rfl))
  f286 := Tryd.func77.trans (congrArg some (by kernel_rfl))
  f317 := Tryd.func78.trans (congrArg some (by kernel_rfl))
  f318 := Tryd.func80.trans (congrArg some (by kernel_rfl))
  f319 := Tryd.func81.trans (congrArg some (by kernel_rfl))
  f320 := Tryd.func82.trans (congrArg some (by kernel_rfl))
  f337 := Tryd.func83.trans (congrArg some (by kernel_rfl))
  f338 := Tryd.func84.trans (congrArg some (by kernel_rfl))
  t0 := Tryd.underlying0
  a0 := Tryd.isAgg0
  z0 := Tryd.sizeOf0
  v0 := Tryd.zeroValue0
  t2 := Tryd.underlying2
  a2 := Tryd.isAgg2
  z2 := Tryd.sizeOf2
  v2 := Tryd.zeroValue2
  t3 := Tryd.underlying3
  a3 := Tryd.isAgg3
  z3 := Tryd.sizeOf3
  v3 := Tryd.zeroValue3
  t4 := Tryd.underlying4
  a4 := Tryd.isAgg4
  z4 := Tryd.sizeOf4
  v4 := Tryd.zeroValue4
  t5 := Tryd.underlying5
  a5 := Tryd.isAgg5
  z5 := Tryd.sizeOf5
  v5 := Tryd.zeroValue5
  t9 := Tryd.underlying9
  a9 := Tryd.isAgg9
  z9 := Tryd.sizeOf9
  v9 := Tryd.zeroValue9
  t20 := Tryd.underlying20
  a20 := Tryd.isAgg20
  z20 := Tryd.sizeOf20
  v20 := Tryd.zeroValue20
  t37 := Tryd.underlying72
  a37 := Tryd.isAgg72
  z37 := Tryd.sizeOf72
  v37 := Tryd.zeroValue72
  t46 := Tryd.underlying82
  a46 := Tryd.isAgg82
  z46 := Tryd.sizeOf82
  v46 := Tryd.zeroValue82
  t51 := Tryd.underlying68
  a51 := Tryd.isAgg68
  z51 := Tryd.sizeOf68
  v51 := Tryd.zeroValue68
  t53 := Tryd.underlying94
  a53 := Tryd.isAgg94
  z53 := Tryd.sizeOf94
  v53 := Tryd.zeroValue94
  t171 := Tryd.underlying115
  a171 := Tryd.isAgg115
  z171 := Tryd.sizeOf115
  v171 := Tryd.zeroValue115
  t173 := Tryd.underlying118
  a173 := Tryd.isAgg118
  z173 := Tryd.sizeOf118
  v173 := Tryd.zeroValue118
  t212 := Tryd.underlying121
  a212 := Tryd.isAgg121
  z212 := Tryd.sizeOf121
  v212 := Tryd.zeroValue121
  t213 := Tryd.underlying122
  a213 := Tryd.isAgg122
  z213 := Tryd.sizeOf122
  t232 := Tryd.underlying126
  a232 := Tryd.isAgg126
  z232 := Tryd.sizeOf126
  v232 := Tryd.zeroValue126
  t233 := Tryd.underlying127
  a233 := Tryd.isAgg127
  z233 := Tryd.sizeOf127
  v233 := Tryd.zeroValue127
  g17 := by kernel_rfl
  g18 := by kernel_rfl
  g19 := by kernel_rfl
  i0 := by kernel_rfl
  i2 := by kernel_rfl
  i3 := by kernel_rfl
  i4 := by kernel_rfl
  i5 := by kernel_rfl
  i9 := by kernel_rfl
  i20 := by kernel_rfl
  i37 := by kernel_rfl
  i46 := by kernel_rfl
  i51 := by kernel_rfl
  i53 := by kernel_rfl
  i171 := by kernel_rfl
  i173 := by kernel_rfl
  i212 := by kernel_rfl
  i232 := by kernel_rfl
  i233 := by kernel_rfl
  m17 := by kernel_rfl
  m18 := by kernel_rfl
  m19 := by kernel_rfl }
open Go.RowKit Go.Sort Go.Lib in
/-- strconv.Itoa: "Itoa is equivalent to FormatInt(int64(i), 10).": i's DECIMAL NUMERAL ('Lib.itoa': a '-' where i is negative, then the digits), FOR EVERY int. The world behind the call: the world before it, new blocks behind the heap (the library's 'var a [24]byte'), draws. (LAID: no walk: one application.) -/
theorem Tryd.strconv_Itoa (n : Int) (h0 : -9223372036854775808 ≤ n) (h1 : n ≤ 9223372036854775807) (w : World) (htab : Lib.TabIs Tryd.prog w "internal/strconv.uint64pow10" .u64 Lib.pow10Tab) :
    Calls Tryd.prog 66 #[.int .i64 n] w fun e w' => e = .returned (.string ⟨(Lib.itoa n).toArray⟩) ∧ ∃ k os, w' = grow (w.drewN k) os := Any.strconv_Itoa Tryd.laysM171 n h0 h1 w htab
def Tryd.lays171_ren : Go.Shelf.Ren := ⟨fun | 171 => 66 | 243 => 72 | 246 => 73 | 283 => 74 | 284 => 75 | 285 => 76 | 286 => 77 | 129 => 79 | 317 => 78 | 318 => 80 | 319 => 81 | 320 => 82 | 337 => 83 | 338 => 84 | n => n, fun | 3 => 3 | 9 => 9 | 2 => 2 | 4 => 4 | 171 => 115 | 0 => 0 | 53 => 94 | 37 => 72 | 5 => 5 | 173 => 118 | 212 => 121 | 51 => 68 | 20 => 20 | 213 => 122 | 46 => 82 | 232 => 126 | 233 => 127 | n => n, fun | 17 => 7 | 18 => 8 | 19 => 9 | n => n⟩
theorem Tryd.lays171 : Go.Proofs.Lays.n171 Tryd.prog Tryd.lays171_ren := {
  mixed := by kernel_rfl
  f129 := Tryd.func79.trans (congrArg some (by kernel_rfl))
  f171 := Tryd.func66.trans (congrArg some (by kernel_rfl))
  f243 := Tryd.func72.trans (congrArg some (by kernel_rfl))
  f246 := Tryd.func73.trans (congrArg some (by kernel_rfl))
  f283 := Tryd.func74.trans (congrArg some (by kernel_rfl))
  f284 := Tryd.func75.trans (congrArg some (by kernel_rfl))
  f285 := Tryd.func76.trans (congrArg some (by kernel_rfl))
  f286 := Tryd.func77.trans (congrArg some (by kernel_rfl))
  f317 := Tryd.func78.trans (congrArg some (by kernel_rfl))
  f318 := Tryd.func80.trans (congrArg some (by kernel_rfl))
  f319 := Tryd.func81.trans (congrArg some (by kernel_rfl))
  f320 := Tryd.func82.trans (congrArg some (by kernel_rfl))
  f337 := Tryd.func83.trans (congrArg some (by kernel_rfl))
  f338 := Tryd.func84.trans (congrArg some (by kernel_rfl))
  t0 := Tryd.underlying0
  a0 := Tryd.isAgg0
  z0 := Tryd.sizeOf0
  v0 := Tryd.zeroValue0
  t2 := Tryd.underlying2
  a2 := Tryd.isAgg2
  z2 := Tryd.sizeOf2
  v2 := Tryd.zeroValue2
  t3 := Tryd.underlying3
  a3 := Tryd.isAgg3
  z3 := Tryd.sizeOf3
  v3 := Tryd.zeroValue3
  t4 := Tryd.underlying4
  a4 := Tryd.isAgg4
  z4 := Tryd.sizeOf4
  v4 := Tryd.zeroValue4
  t5 := Tryd.underlying5
  a5 := Tryd.isAgg5
  z5 := Tryd.sizeOf5
  v5 := Tryd.zeroValue5
  t9 := Tryd.underlying9
  a9 := Tryd.isAgg9
  z9 := Tryd.sizeOf9
  v9 := Tryd.zeroValue9
  t20 := Tryd.underlying20
  a20 := Tryd.isAgg20
  z20 := Tryd.sizeOf20
  v20 := Tryd.zeroValue20
  t37 := Tryd.underlying72
  a37 := Tryd.isAgg72
  z37 := Tryd.sizeOf72
  v37 := Tryd.zeroValue72
  t46 := Tryd.underlying82
  a46 := Tryd.isAgg82
  z46 := Tryd.sizeOf82
  v46 := Tryd.zeroValue82
  t51 := Tryd.underlying68
  a51 := Tryd.isAgg68
  z51 := Tryd.sizeOf68
  v51 := Tryd.zeroValue68
  t53 := Tryd.underlying94
  a53 := Tryd.isAgg94
  z53 := Tryd.sizeOf94
  v53 := Tryd.zeroValue94
  t171 := Tryd.underlying115
  a171 := Tryd.isAgg115
  z171 := Tryd.sizeOf115
  v171 := Tryd.zeroValue115
  t173 := Tryd.underlying118
  a173 := Tryd.isAgg118
  z173 := Tryd.sizeOf118
  v173 := Tryd.zeroValue118
  t212 := Tryd.underlying121
  a212 := Tryd.isAgg121
  z212 := Tryd.sizeOf121
  v212 := Tryd.zeroValue121
  t213 := Tryd.underlying122
  a213 := Tryd.isAgg122
  z213 := Tryd.sizeOf122
  t232 := Tryd.underlying126
  a232 := Tryd.isAgg126
  z232 := Tryd.sizeOf126
  v232 := Tryd.zeroValue126
  t233 := Tryd.underlying127
  a233 := Tryd.isAgg127
  z233 := Tryd.sizeOf127
  v233 := Tryd.zeroValue127
  g17 := by kernel_rfl
  g18 := by kernel_rfl
  g19 := by kernel_rfl }
open Go.RowKit Go.Sort Go.Lib in
/-- THE ROAD WITHOUT THE TABLE: 0 <= i < 100: NO PREMISE ON THE WORLD, AND THE WORLD IS AS IT WAS: a row that keeps its argument in that range need list no table ('laid = []'). (LAID: no walk: one application.) -/
theorem Tryd.strconv_Itoa_small (i : Nat) (hi : i < 100) (w : World) :
    Calls Tryd.prog 66 #[.int .i64 i] w fun e w' => e = .returned (.string ⟨(Lib.decDigits i).toArray⟩) ∧ w' = w := Any.strconv_Itoa_small Tryd.lays171 i hi w
open Go.RowKit in
/-- internal/strconv.Atoi, at a string of 1 to 18 bytes THAT IS NO DECIMAL NUMERAL: 0, AND ErrSyntax (the package's own error number 2). The world behind the call: as it was, or with the one new row that '[]byte(s)' lays. (LAID: no walk: one application.) -/
theorem Tryd.internal_strconv_Atoi_err (s : ByteArray) (hl0 : 1 ≤ s.size) (hl : s.size ≤ 18) (h : Lib.atoi s.data.toList = none) (w : World) :
    Calls Tryd.prog 42 #[.string s] w fun e w' => e = .returned (.tuple #[.int .i64 0, (.iface 71 (.int .i64 2))]) ∧ (w' = w ∨ ∃ t, w' = Lib.bytesWorld w 5 t) := Any.internal_strconv_Atoi_err Tryd.lays244 s hl0 hl h w
def Tryd.lays247_ren : Go.Shelf.Ren := ⟨fun | 247 => 49 | 287 => 63 | 321 => 70 | 322 => 71 | n => n, fun | 9 => 9 | 3 => 3 | 2 => 2 | 75 => 55 | 4 => 4 | 167 => 71 | 5 => 5 | 53 => 94 | 175 => 95 | 46 => 82 | 37 => 72 | 0 => 0 | 21 => 21 | 80 => 128 | n => n, fun | n => n⟩
theorem Tryd.lays247 : Go.Proofs.Lays.n247 Tryd.prog Tryd.lays247_ren := {
  mixed := by kernel_rfl
  f247 := Tryd.func49.trans (congrArg some (by kernel_rfl))
  f287 := Tryd.func63.trans (congrArg some (by kernel_rfl))
  f321 := Tryd.func70.trans (congrArg some (by kernel_rfl))
  f322 := Tryd.func71.trans (congrArg some (by kernel_rfl))
  t0 := Tryd.underlying0
  a0 := Tryd.isAgg0
  z0 := Tryd.sizeOf0
  v0 := Tryd.zeroValue0
  t2 := Tryd.underlying2
  a2 := Tryd.isAgg2
  z2 := Tryd.sizeOf2
  v2 := Tryd.zeroValue2
  t3 := Tryd.underlying3
  a3 := Tryd.isAgg3
  z3 := Tryd.sizeOf3
  v3 := Tryd.zeroValue3
  t4 := Tryd.underlying4
  a4 := Tryd.isAgg4
  z4 := Tryd.sizeOf4
  v4 := Tryd.zeroValue4
  t5 := Tryd.underlying5
  a5 := Tryd.isAgg5
  z5 := Tryd.sizeOf5
  v5 := Tryd.zeroValue5
  t9 := Tryd.underlying9
  a9 := Tryd.isAgg9
  z9 := Tryd.sizeOf9
  v9 := Tryd.zeroValue9
  t21 := Tryd.underlying21
  a21 := Tryd.isAgg21
  z21 := Tryd.sizeOf21
  v21 := Tryd.zeroValue21
  t37 := Tryd.underlying72
  a37 := Tryd.isAgg72
  z37 := Tryd.sizeOf72
  v37 := Tryd.zeroValue72
  t46 := Tryd.underlying82
  a46 := Tryd.isAgg82
  z46 := Tryd.sizeOf82
  v46 := Tryd.zeroValue82
  t53 := Tryd.underlying94
  a53 := Tryd.isAgg94
  z53 := Tryd.sizeOf94
  v53 := Tryd.zeroValue94
  t75 := Tryd.underlying55
  a75 := Tryd.isAgg55
  z75 := Tryd.sizeOf55
  v75 := Tryd.zeroValue55
  t167 := Tryd.underlying71
  a167 := Tryd.isAgg71
  z167 := Tryd.sizeOf71
  v167 := Tryd.zeroValue71
  t175 := Tryd.underlying95
  a175 := Tryd.isAgg95
  z175 := Tryd.sizeOf95
  v175 := Tryd.zeroValue95 }
open Go.RowKit in
/-- internal/strconv.ParseInt at "": 'if s == "" { return 0, ErrSyntax }'. The world is as it was. (LAID: no walk: one application.) -/
theorem Tryd.internal_strconv_ParseInt_empty (base bits : Int) (w : World) :
    Calls Tryd.prog 49 #[.string ⟨#[]⟩, .int .i64 base, .int .i64 bits] w fun e w' => e = .returned (.tuple #[.int .i64 0, (.iface 71 (.int .i64 2))]) ∧ w' = w := Any.internal_strconv_ParseInt_empty Tryd.lays247 base bits w
def Tryd.laysM316_ren : Go.Shelf.Ren := ⟨fun | 316 => 64 | n => n, fun | 9 => 9 | 3 => 3 | 4 => 4 | 37 => 72 | 0 => 0 | 127 => 107 | 5 => 5 | n => n, fun | n => n⟩
theorem Tryd.laysM316 : Go.Proofs.LaysM.n316 Tryd.prog Tryd.laysM316_ren := {
  mixed := by kernel_rfl
  f316 := Tryd.func64.trans (congrArg some (by kernel_rfl))
  t0 := Tryd.underlying0
  a0 := Tryd.isAgg0
  z0 := Tryd.sizeOf0
  v0 := Tryd.zeroValue0
  t3 := Tryd.underlying3
  a3 := Tryd.isAgg3
  z3 := Tryd.sizeOf3
  v3 := Tryd.zeroValue3
  t4 := Tryd.underlying4
  a4 := Tryd.isAgg4
  z4 := Tryd.sizeOf4
  v4 := Tryd.zeroValue4
  t9 := Tryd.underlying9
  a9 := Tryd.isAgg9
  z9 := Tryd.sizeOf9
  v9 := Tryd.zeroValue9
  t37 := Tryd.underlying72
  a37 := Tryd.isAgg72
  z37 := Tryd.sizeOf72
  v37 := Tryd.zeroValue72
  t127 := Tryd.underlying107
  a127 := Tryd.isAgg107
  z127 := Tryd.sizeOf107
  v127 := Tryd.zeroValue107
  t5 := Tryd.underlying5
  a5 := Tryd.isAgg5
  z5 := Tryd.sizeOf5
  v5 := Tryd.zeroValue5
  i0 := by kernel_rfl
  i3 := by kernel_rfl
  i4 := by kernel_rfl
  i5 := by kernel_rfl
  i9 := by kernel_rfl
  i37 := by kernel_rfl
  i127 := by kernel_rfl }
open Go.RowKit in
/-- internal/stringslite.Clone (what strings.Clone calls): "Clone returns a fresh copy of s.": THE SAME BYTES. Of what was there nothing has turned (a new row is laid, and frozen, where s is not empty). (LAID: no walk: one application.) -/
theorem Tryd.stringslite_Clone (s : ByteArray) (w : World) (hlim : s.size ≤ 281474976710656) :
    Calls Tryd.prog 64 #[.string s] w fun e w' => e = .returned (.string s) ∧ Below w.heap.size w w' := Any.stringslite_Clone Tryd.laysM316 s w hlim
def Tryd.lays321_ren : Go.Shelf.Ren := ⟨fun | 321 => 70 | n => n, fun | 5 => 5 | n => n, fun | n => n⟩
theorem Tryd.lays321 : Go.Proofs.Lays.n321 Tryd.prog Tryd.lays321_ren := {
  mixed := by kernel_rfl
  f321 := Tryd.func70.trans (congrArg some (by kernel_rfl))
  t5 := Tryd.underlying5
  a5 := Tryd.isAgg5
  z5 := Tryd.sizeOf5
  v5 := Tryd.zeroValue5 }
open Go.RowKit in
/-- internal/strconv.lower: 'c | ('x' - 'X')': the bit 32 set. The world is as it was. (LAID: no walk: one application.) -/
theorem Tryd.internal_strconv_lower (c : Int) (w : World) :
    Calls Tryd.prog 70 #[.int .u8 c] w fun e w' => e = .returned (.int .u8 (bits .or .u8 c 32)) ∧ w' = w := Any.internal_strconv_lower Tryd.lays321 c w
def Tryd.lays287_ren : Go.Shelf.Ren := ⟨fun | 287 => 63 | 321 => 70 | 322 => 71 | n => n, fun | 9 => 9 | 3 => 3 | 53 => 94 | 75 => 55 | 4 => 4 | 167 => 71 | 5 => 5 | 46 => 82 | 37 => 72 | 0 => 0 | 21 => 21 | 80 => 128 | n => n, fun | n => n⟩
theorem Tryd.lays287 : Go.Proofs.Lays.n287 Tryd.prog Tryd.lays287_ren := {
  mixed := by kernel_rfl
  f287 := Tryd.func63.trans (congrArg some (by kernel_rfl))
  f321 := Tryd.func70.trans (congrArg some (by kernel_rfl))
  f322 := Tryd.func71.trans (congrArg some (by kernel_rfl))
  t0 := Tryd.underlying0
  a0 := Tryd.isAgg0
  z0 := Tryd.sizeOf0
  v0 := Tryd.zeroValue0
  t3 := Tryd.underlying3
  a3 := Tryd.isAgg3
  z3 := Tryd.sizeOf3
  v3 := Tryd.zeroValue3
  t4 := Tryd.underlying4
  a4 := Tryd.isAgg4
  z4 := Tryd.sizeOf4
  v4 := Tryd.zeroValue4
  t5 := Tryd.underlying5
  a5 := Tryd.isAgg5
  z5 := Tryd.sizeOf5
  v5 := Tryd.zeroValue5
  t9 := Tryd.underlying9
  a9 := Tryd.isAgg9
  z9 := Tryd.sizeOf9
  v9 := Tryd.zeroValue9
  t21 := Tryd.underlying21
  a21 := Tryd.isAgg21
  z21 := Tryd.sizeOf21
  v21 := Tryd.zeroValue21
  t37 := Tryd.underlying72
  a37 := Tryd.isAgg72
  z37 := Tryd.sizeOf72
  v37 := Tryd.zeroValue72
  t46 := Tryd.underlying82
  a46 := Tryd.isAgg82
  z46 := Tryd.sizeOf82
  v46 := Tryd.zeroValue82
  t53 := Tryd.underlying94
  a53 := Tryd.isAgg94
  z53 := Tryd.sizeOf94
  v53 := Tryd.zeroValue94
  t75 := Tryd.underlying55
  a75 := Tryd.isAgg55
  z75 := Tryd.sizeOf55
  v75 := Tryd.zeroValue55
  t167 := Tryd.underlying71
  a167 := Tryd.isAgg71
  z167 := Tryd.sizeOf71
  v167 := Tryd.zeroValue71 }
open Go.RowKit in
/-- internal/strconv.ParseUint("", 10, 0): (0, ErrSyntax). The world is as it was. (LAID: no walk: one application.) -/
theorem Tryd.internal_strconv_ParseUint_10_empty (w : World) :
    Calls Tryd.prog 63 #[.string ⟨#[]⟩, .int .i64 10, .int .i64 0] w fun e w' => e = .returned (Lib.uintTuple 71 .syntax) ∧ w' = w := Any.internal_strconv_ParseUint_10_empty Tryd.lays287 w
open Go.RowKit in
/-- internal/strconv.ParseUint("", base, bitSize): (0, ErrSyntax): the first test of the text. The world is as it was. (LAID: no walk: one application.) -/
theorem Tryd.internal_strconv_ParseUint_empty (base bits : Int) (w : World) :
    Calls Tryd.prog 63 #[.string ⟨#[]⟩, .int .i64 base, .int .i64 bits] w fun e w' => e = .returned (.tuple #[.int .u64 0, .iface 71 (.int .i64 2)]) ∧ w' = w := Any.internal_strconv_ParseUint_empty Tryd.lays287 base bits w
def Tryd.lays217_ren : Go.Shelf.Ren := ⟨fun | 217 => 57 | 266 => 68 | n => n, fun | 9 => 9 | 5 => 5 | 3 => 3 | n => n, fun | n => n⟩
theorem Tryd.lays217 : Go.Proofs.Lays.n217 Tryd.prog Tryd.lays217_ren := {
  mixed := by kernel_rfl
  f217 := Tryd.func57.trans (congrArg some (by kernel_rfl))
  f266 := Tryd.func68.trans (congrArg some (by kernel_rfl))
  t3 := Tryd.underlying3
  a3 := Tryd.isAgg3
  z3 := Tryd.sizeOf3
  v3 := Tryd.zeroValue3
  t5 := Tryd.underlying5
  a5 := Tryd.isAgg5
  z5 := Tryd.sizeOf5
  v5 := Tryd.zeroValue5
  t9 := Tryd.underlying9
  a9 := Tryd.isAgg9
  z9 := Tryd.sizeOf9
  v9 := Tryd.zeroValue9 }
open Go.RowKit Go.Lib in
/-- internal/stringslite.IndexByte (what strings.IndexByte calls): IT RETURNS 'Lib.indexByte s c'; the world is as it was. (LAID: no walk: one application.) -/
theorem Tryd.stringslite_IndexByte (s : ByteArray) (c : Int) (w : World) :
    Calls Tryd.prog 57 #[.string s, .int .u8 c] w fun e w' => e = .returned (.int .i64 (Lib.indexByte s.data.toList c.toNat.toUInt8)) ∧ w' = w := Any.stringslite_IndexByte Tryd.lays217 s c w
def Tryd.lays224_ren : Go.Shelf.Ren := ⟨fun | 224 => 59 | n => n, fun | 3 => 3 | n => n, fun | n => n⟩
theorem Tryd.lays224 : Go.Proofs.Lays.n224 Tryd.prog Tryd.lays224_ren := {
  mixed := by kernel_rfl
  f224 := Tryd.func59.trans (congrArg some (by kernel_rfl))
  t3 := Tryd.underlying3
  a3 := Tryd.isAgg3
  z3 := Tryd.sizeOf3
  v3 := Tryd.zeroValue3 }
open Go.RowKit Go.Lib in
/-- internal/bytealg.Cutover: "Cutover reports the number of failures of IndexByte we should tolerate before switching over to Index. n is the number of bytes processed so far.": on amd64: (n + 16) / 8. (LAID: no walk: one application.) -/
theorem Tryd.bytealg_Cutover (n : Int) (h0 : 0 ≤ n) (h1 : n < 4611686018427387904) (w : World) :
    Calls Tryd.prog 59 #[.int .i64 n] w fun e w' => e = .returned (.int .i64 ((n + 16) / 8)) ∧ w' = w := Any.bytealg_Cutover Tryd.lays224 n h0 h1 w
def Tryd.lays314_ren : Go.Shelf.Ren := ⟨fun | 314 => 69 | n => n, fun | 9 => 9 | 51 => 68 | 3 => 3 | 4 => 4 | 5 => 5 | 46 => 82 | n => n, fun | n => n⟩
theorem Tryd.lays314 : Go.Proofs.Lays.n314 Tryd.prog Tryd.lays314_ren := {
  mixed := by kernel_rfl
  f314 := Tryd.func69.trans (congrArg some (by kernel_rfl))
  t3 := Tryd.underlying3
  a3 := Tryd.isAgg3
  z3 := Tryd.sizeOf3
  v3 := Tryd.zeroValue3
  t4 := Tryd.underlying4
  a4 := Tryd.isAgg4
  z4 := Tryd.sizeOf4
  v4 := Tryd.zeroValue4
  t5 := Tryd.underlying5
  a5 := Tryd.isAgg5
  z5 := Tryd.sizeOf5
  v5 := Tryd.zeroValue5
  t9 := Tryd.underlying9
  a9 := Tryd.isAgg9
  z9 := Tryd.sizeOf9
  v9 := Tryd.zeroValue9
  t46 := Tryd.underlying82
  a46 := Tryd.isAgg82
  z46 := Tryd.sizeOf82
  v46 := Tryd.zeroValue82
  t51 := Tryd.underlying68
  a51 := Tryd.isAgg68
  z51 := Tryd.sizeOf68
  v51 := Tryd.zeroValue68 }
open Go.RowKit Go.Lib in
/-- hashStr: "returns the hash and the appropriate multiplicative factor for use in Rabin-Karp algorithm": THE HASH OF ALL OF sep, AND 16777619 ^ len(sep), both in uint32. (LAID: no walk: one application.) -/
theorem Tryd.bytealg_hashStr (sep : ByteArray) (hs : sep.size < 4294967281) (w : World) :
    Calls Tryd.prog 69 #[.string sep] w fun e w' => e = .returned (.tuple #[.int .u32 (RK.H sep.data.toList % 4294967296), .int .u32 (16777619 ^ sep.size % 4294967296)]) ∧ w' = w := Any.bytealg_hashStr Tryd.lays314 sep hs w
def Tryd.lays267_ren : Go.Shelf.Ren := ⟨fun | 267 => 60 | 314 => 69 | n => n, fun | 9 => 9 | 3 => 3 | 146 => 102 | 51 => 68 | 4 => 4 | 5 => 5 | 46 => 82 | n => n, fun | n => n⟩
theorem Tryd.lays267 : Go.Proofs.Lays.n267 Tryd.prog Tryd.lays267_ren := {
  mixed := by kernel_rfl
  f267 := Tryd.func60.trans (congrArg some (by kernel_rfl))
  f314 := Tryd.func69.trans (congrArg some (by kernel_rfl))
  t3 := Tryd.underlying3
  a3 := Tryd.isAgg3
  z3 := Tryd.sizeOf3
  v3 := Tryd.zeroValue3
  t4 := Tryd.underlying4
  a4 := Tryd.isAgg4
  z4 := Tryd.sizeOf4
  v4 := Tryd.zeroValue4
  t5 := Tryd.underlying5
  a5 := Tryd.isAgg5
  z5 := Tryd.sizeOf5
  v5 := Tryd.zeroValue5
  t9 := Tryd.underlying9
  a9 := Tryd.isAgg9
  z9 := Tryd.sizeOf9
  v9 := Tryd.zeroValue9
  t46 := Tryd.underlying82
  a46 := Tryd.isAgg82
  z46 := Tryd.sizeOf82
  v46 := Tryd.zeroValue82
  t51 := Tryd.underlying68
  a51 := Tryd.isAgg68
  z51 := Tryd.sizeOf68
  v51 := Tryd.zeroValue68
  t146 := Tryd.underlying102
  a146 := Tryd.isAgg102
  z146 := Tryd.sizeOf102
  v146 := Tryd.zeroValue102 }
open Go.RowKit Go.Lib in
theorem Tryd.bytealg_IndexRabinKarp (s sep : ByteArray) (h1 : 1 ≤ sep.size) (h2 : sep.size ≤ s.size) (hs : s.size < 4294967281) (w : World) :
    Calls Tryd.prog 60 #[.string s, .string sep] w fun e w' => e = .returned (.int .i64 (Lib.index s.data.toList sep.data.toList)) ∧ w' = w := Any.bytealg_IndexRabinKarp Tryd.lays267 s sep h1 h2 hs w
def Tryd.lays219_ren : Go.Shelf.Ren := ⟨fun | 219 => 47 | 217 => 57 | 225 => 58 | 224 => 59 | 267 => 60 | 266 => 68 | 314 => 69 | n => n, fun | 9 => 9 | 3 => 3 | 4 => 4 | 5 => 5 | 46 => 82 | 146 => 102 | 51 => 68 | n => n, fun | 1 => 2 | n => n⟩
theorem Tryd.lays219 : Go.Proofs.Lays.n219 Tryd.prog Tryd.lays219_ren := {
  mixed := by kernel_rfl
  f217 := Tryd.func57.trans (congrArg some (by kernel_rfl))
  f219 := Tryd.func47.trans (congrArg some (by kernel_rfl))
  f224 := Tryd.func59.trans (congrArg some (by kernel_rfl))
  f225 := Tryd.func58.trans (congrArg some (by kernel_rfl))
  f266 := Tryd.func68.trans (congrArg some (by kernel_rfl))
  f267 := Tryd.func60.trans (congrArg some (by kernel_rfl))
  f314 := Tryd.func69.trans (congrArg some (by kernel_rfl))
  t3 := Tryd.underlying3
  a3 := Tryd.isAgg3
  z3 := Tryd.sizeOf3
  v3 := Tryd.zeroValue3
  t4 := Tryd.underlying4
  a4 := Tryd.isAgg4
  z4 := Tryd.sizeOf4
  v4 := Tryd.zeroValue4
  t5 := Tryd.underlying5
  a5 := Tryd.isAgg5
  z5 := Tryd.sizeOf5
  v5 := Tryd.zeroValue5
  t9 := Tryd.underlying9
  a9 := Tryd.isAgg9
  z9 := Tryd.sizeOf9
  v9 := Tryd.zeroValue9
  t46 := Tryd.underlying82
  a46 := Tryd.isAgg82
  z46 := Tryd.sizeOf82
  v46 := Tryd.zeroValue82
  t51 := Tryd.underlying68
  a51 := Tryd.isAgg68
  z51 := Tryd.sizeOf68
  v51 := Tryd.zeroValue68
  t146 := Tryd.underlying102
  a146 := Tryd.isAgg102
  z146 := Tryd.sizeOf102
  v146 := Tryd.zeroValue102
  g1 := by kernel_rfl }
open Go.RowKit Go.Lib in
/-- internal/stringslite.Index (what strings.Index calls) AT A substr OF ONE BYTE c: IT RETURNS 'Lib.indexByte s c'; the world is as it was. (LAID: no walk: one application.) -/
theorem Tryd.stringslite_Index_one (s : ByteArray) (c : UInt8) (w : World) :
    Calls Tryd.prog 47 #[.string s, .string ⟨#[c]⟩] w fun e w' => e = .returned (.int .i64 (Lib.indexByte s.data.toList c)) ∧ w' = w := Any.stringslite_Index_one Tryd.lays219 s c w
open Go.RowKit Go.Lib in
/-- internal/stringslite.Index (what strings.Index calls) AT A substr OF WHATEVER LENGTH: IT RETURNS 'Lib.index s substr'; the world is as it was. 'm': what internal/bytealg.MaxLen holds: whatever. (LAID: no walk: one application.) -/
theorem Tryd.stringslite_Index (s sub : ByteArray) (m : Int) (w : World) (hs : s.size < 4294967281) (hm : w.cell? ⟨2, 0, none⟩ = some (.int .i64 m)) :
    Calls Tryd.prog 47 #[.string s, .string sub] w fun e w' => e = .returned (.int .i64 (Lib.index s.data.toList sub.data.toList)) ∧ w' = w := Any.stringslite_Index Tryd.lays219 s sub m w hs hm
def Tryd.lays143_ren : Go.Shelf.Ren := ⟨fun | 143 => 46 | 219 => 47 | 217 => 57 | 225 => 58 | 224 => 59 | 267 => 60 | 266 => 68 | 314 => 69 | n => n, fun | 9 => 9 | 3 => 3 | 4 => 4 | 5 => 5 | 46 => 82 | 146 => 102 | 51 => 68 | n => n, fun | 1 => 2 | n => n⟩
theorem Tryd.lays143 : Go.Proofs.Lays.n143 Tryd.prog Tryd.lays143_ren := {
  mixed := by kernel_rfl
  f143 := Tryd.func46.trans (congrArg some (by kernel_rfl))
  f217 := Tryd.func57.trans (congrArg some (by kernel_rfl))
  f219 := Tryd.func47.trans (congrArg some (by kernel_rfl))
  f224 := Tryd.func59.trans (congrArg some (by kernel_rfl))
  f225 := Tryd.func58.trans (congrArg some (by kernel_rfl))
  f266 := Tryd.func68.trans (congrArg some (by kernel_rfl))
  f267 := Tryd.func60.trans (congrArg some (by kernel_rfl))
  f314 := Tryd.func69.trans (congrArg some (by kernel_rfl))
  t3 := Tryd.underlying3
  a3 := Tryd.isAgg3
  z3 := Tryd.sizeOf3
  v3 := Tryd.zeroValue3
  t4 := Tryd.underlying4
  a4 := Tryd.isAgg4
  z4 := Tryd.sizeOf4
  v4 := Tryd.zeroValue4
  t5 := Tryd.underlying5
  a5 := Tryd.isAgg5
  z5 := Tryd.sizeOf5
  v5 := Tryd.zeroValue5
  t9 := Tryd.underlying9
  a9 := Tryd.isAgg9
  z9 := Tryd.sizeOf9
  v9 := Tryd.zeroValue9
  t46 := Tryd.underlying82
  a46 := Tryd.isAgg82
  z46 := Tryd.sizeOf82
  v46 := Tryd.zeroValue82
  t51 := Tryd.underlying68
  a51 := Tryd.isAgg68
  z51 := Tryd.sizeOf68
  v51 := Tryd.zeroValue68
  t146 := Tryd.underlying102
  a146 := Tryd.isAgg102
  z146 := Tryd.sizeOf102
  v146 := Tryd.zeroValue102
  g1 := by kernel_rfl }
open Go.RowKit Go.Lib in
/-- strings.Index: "Index returns the index of the first instance of substr in s, or -1 if substr is not present in s.": AT A substr OF ONE BYTE c: IT RETURNS 'Lib.indexByte s c'; the world is as it was. (LAID: no walk: one application.) -/
theorem Tryd.strings_Index_one (s : ByteArray) (c : UInt8) (w : World) :
    Calls Tryd.prog 46 #[.string s, .string ⟨#[c]⟩] w fun e w' => e = .returned (.int .i64 (Lib.indexByte s.data.toList c)) ∧ w' = w := Any.strings_Index_one Tryd.lays143 s c w
open Go.RowKit Go.Lib in
/-- strings.Index: "Index returns the index of the first instance of substr in s, or -1 if substr is not present in s.": IT RETURNS 'Lib.index s substr'; the world is as it was. (LAID: no walk: one application.) -/
theorem Tryd.strings_Index (s sub : ByteArray) (m : Int) (w : World) (hs : s.size < 4294967281) (hm : w.cell? ⟨2, 0, none⟩ = some (.int .i64 m)) :
    Calls Tryd.prog 46 #[.string s, .string sub] w fun e w' => e = .returned (.int .i64 (Lib.index s.data.toList sub.data.toList)) ∧ w' = w := Any.strings_Index Tryd.lays143 s sub m w hs hm
def Tryd.lays220_ren : Go.Shelf.Ren := ⟨fun | 220 => 39 | 219 => 47 | 217 => 57 | 225 => 58 | 224 => 59 | 267 => 60 | 266 => 68 | 314 => 69 | n => n, fun | 9 => 9 | 4 => 4 | 3 => 3 | 5 => 5 | 46 => 82 | 146 => 102 | 51 => 68 | n => n, fun | 1 => 2 | n => n⟩
theorem Tryd.lays220 : Go.Proofs.Lays.n220 Tryd.prog Tryd.lays220_ren := {
  mixed := by kernel_rfl
  f217 := Tryd.func57.trans (congrArg some (by kernel_rfl))
  f219 := Tryd.func47.trans (congrArg some (by kernel_rfl))
  f220 := Tryd.func39.trans (congrArg some (by kernel_rfl))
  f224 := Tryd.func59.trans (congrArg some (by kernel_rfl))
  f225 := Tryd.func58.trans (congrArg some (by kernel_rfl))
  f266 := Tryd.func68.trans (congrArg some (by kernel_rfl))
  f267 := Tryd.func60.trans (congrArg some (by kernel_rfl))
  f314 := Tryd.func69.trans (congrArg some (by kernel_rfl))
  t3 := Tryd.underlying3
  a3 := Tryd.isAgg3
  z3 := Tryd.sizeOf3
  v3 := Tryd.zeroValue3
  t4 := Tryd.underlying4
  a4 := Tryd.isAgg4
  z4 := Tryd.sizeOf4
  v4 := Tryd.zeroValue4
  t5 := Tryd.underlying5
  a5 := Tryd.isAgg5
  z5 := Tryd.sizeOf5
  v5 := Tryd.zeroValue5
  t9 := Tryd.underlying9
  a9 := Tryd.isAgg9
  z9 := Tryd.sizeOf9
  v9 := Tryd.zeroValue9
  t46 := Tryd.underlying82
  a46 := Tryd.isAgg82
  z46 := Tryd.sizeOf82
  v46 := Tryd.zeroValue82
  t51 := Tryd.underlying68
  a51 := Tryd.isAgg68
  z51 := Tryd.sizeOf68
  v51 := Tryd.zeroValue68
  t146 := Tryd.underlying102
  a146 := Tryd.isAgg102
  z146 := Tryd.sizeOf102
  v146 := Tryd.zeroValue102
  g1 := by kernel_rfl }
open Go.RowKit Go.Lib in
/-- internal/stringslite.Cut (what strings.Cut calls): IT RETURNS 'Lib.cut s sep'; the world is as it was but for the count of draws. (LAID: no walk: one application.) -/
theorem Tryd.stringslite_Cut (s sep : ByteArray) (m : Int) (w : World) (hs : s.size < 4294967281) (hm : w.cell? ⟨2, 0, none⟩ = some (.int .i64 m)) :
    Calls Tryd.prog 39 #[.string s, .string sep] w fun e w' => e = .returned (.tuple #[.string ⟨(Lib.cut s.data.toList sep.data.toList).1.toArray⟩, .string ⟨(Lib.cut s.data.toList sep.data.toList).2.1.toArray⟩, .bool (Lib.cut s.data.toList sep.data.toList).2.2]) ∧ ∃ n, w' = w.drewN n := Any.stringslite_Cut Tryd.lays220 s sep m w hs hm
def Tryd.lays145_ren : Go.Shelf.Ren := ⟨fun | 145 => 31 | 220 => 39 | 219 => 47 | 217 => 57 | 225 => 58 | 224 => 59 | 267 => 60 | 266 => 68 | 314 => 69 | n => n, fun | 9 => 9 | 4 => 4 | 59 => 49 | 3 => 3 | 5 => 5 | 46 => 82 | 146 => 102 | 51 => 68 | n => n, fun | 1 => 2 | n => n⟩
theorem Tryd.lays145 : Go.Proofs.Lays.n145 Tryd.prog Tryd.lays145_ren := {
  mixed := by kernel_rfl
  f145 := Tryd.func31.trans (congrArg some (by kernel_rfl))
  f217 := Tryd.func57.trans (congrArg some (by kernel_rfl))
  f219 := Tryd.func47.trans (congrArg some (by kernel_rfl))
  f220 := Tryd.func39.trans (congrArg some (by kernel_rfl))
  f224 := Tryd.func59.trans (congrArg some (by kernel_rfl))
  f225 := Tryd.func58.trans (congrArg some (by kernel_rfl))
  f266 := Tryd.func68.trans (congrArg some (by kernel_rfl))
  f267 := Tryd.func60.trans (congrArg some (by kernel_rfl))
  f314 := Tryd.func69.trans (congrArg some (by kernel_rfl))
  t3 := Tryd.underlying3
  a3 := Tryd.isAgg3
  z3 := Tryd.sizeOf3
  v3 := Tryd.zeroValue3
  t4 := Tryd.underlying4
  a4 := Tryd.isAgg4
  z4 := Tryd.sizeOf4
  v4 := Tryd.zeroValue4
  t5 := Tryd.underlying5
  a5 := Tryd.isAgg5
  z5 := Tryd.sizeOf5
  v5 := Tryd.zeroValue5
  t9 := Tryd.underlying9
  a9 := Tryd.isAgg9
  z9 := Tryd.sizeOf9
  v9 := Tryd.zeroValue9
  t46 := Tryd.underlying82
  a46 := Tryd.isAgg82
  z46 := Tryd.sizeOf82
  v46 := Tryd.zeroValue82
  t51 := Tryd.underlying68
  a51 := Tryd.isAgg68
  z51 := Tryd.sizeOf68
  v51 := Tryd.zeroValue68
  t59 := Tryd.underlying49
  a59 := Tryd.isAgg49
  z59 := Tryd.sizeOf49
  v59 := Tryd.zeroValue49
  t146 := Tryd.underlying102
  a146 := Tryd.isAgg102
  z146 := Tryd.sizeOf102
  v146 := Tryd.zeroValue102
  g1 := by kernel_rfl }
open Go.RowKit Go.Lib in
/-- strings.Cut: "Cut slices s around the first instance of sep, returning the text before and after sep. The found result reports whether sep appears in s. If sep does not appear in s, cut returns s, "", false.": IT RETURNS 'Lib.cut s sep'; the world is as it was but for the count of draws. (LAID: no walk: one application.) -/
theorem Tryd.strings_Cut (s sep : ByteArray) (m : Int) (w : World) (hs : s.size < 4294967281) (hm : w.cell? ⟨2, 0, none⟩ = some (.int .i64 m)) :
    Calls Tryd.prog 31 #[.string s, .string sep] w fun e w' => e = .returned (.tuple #[.string ⟨(Lib.cut s.data.toList sep.data.toList).1.toArray⟩, .string ⟨(Lib.cut s.data.toList sep.data.toList).2.1.toArray⟩, .bool (Lib.cut s.data.toList sep.data.toList).2.2]) ∧ ∃ n, w' = w.drewN n := Any.strings_Cut Tryd.lays145 s sep m w hs hm
def Tryd.lays138_ren : Go.Shelf.Ren := ⟨fun | 138 => 45 | 195 => 54 | 218 => 56 | 143 => 46 | 219 => 47 | 217 => 57 | 225 => 58 | 224 => 59 | 267 => 60 | 266 => 68 | 314 => 69 | n => n, fun | 9 => 9 | 3 => 3 | 4 => 4 | 5 => 5 | 0 => 0 | 46 => 82 | 146 => 102 | 51 => 68 | n => n, fun | 1 => 2 | n => n⟩
theorem Tryd.lays138 : Go.Proofs.Lays.n138 Tryd.prog Tryd.lays138_ren := {
  mixed := by kernel_rfl
  f138 := Tryd.func45.trans (congrArg some (by kernel_rfl))
  f143 := Tryd.func46.trans (congrArg some (by kernel_rfl))
  f195 := Tryd.func54.trans (congrArg some (by kernel_rfl))
  f217 := Tryd.func57.trans (congrArg some (by kernel_rfl))
  f218 := Tryd.func56.trans (congrArg some (by kernel_rfl))
  f219 := Tryd.func47.trans (congrArg some (by kernel_rfl))
  f224 := Tryd.func59.trans (congrArg some (by kernel_rfl))
  f225 := Tryd.func58.trans (congrArg some (by kernel_rfl))
  f266 := Tryd.func68.trans (congrArg some (by kernel_rfl))
  f267 := Tryd.func60.trans (congrArg some (by kernel_rfl))
  f314 := Tryd.func69.trans (congrArg some (by kernel_rfl))
  t0 := Tryd.underlying0
  a0 := Tryd.isAgg0
  z0 := Tryd.sizeOf0
  v0 := Tryd.zeroValue0
  t3 := Tryd.underlying3
  a3 := Tryd.isAgg3
  z3 := Tryd.sizeOf3
  v3 := Tryd.zeroValue3
  t4 := Tryd.underlying4
  a4 := Tryd.isAgg4
  z4 := Tryd.sizeOf4
  v4 := Tryd.zeroValue4
  t5 := Tryd.underlying5
  a5 := Tryd.isAgg5
  z5 := Tryd.sizeOf5
  v5 := Tryd.zeroValue5
  t9 := Tryd.underlying9
  a9 := Tryd.isAgg9
  z9 := Tryd.sizeOf9
  v9 := Tryd.zeroValue9
  t46 := Tryd.underlying82
  a46 := Tryd.isAgg82
  z46 := Tryd.sizeOf82
  v46 := Tryd.zeroValue82
  t51 := Tryd.underlying68
  a51 := Tryd.isAgg68
  z51 := Tryd.sizeOf68
  v51 := Tryd.zeroValue68
  t146 := Tryd.underlying102
  a146 := Tryd.isAgg102
  z146 := Tryd.sizeOf102
  v146 := Tryd.zeroValue102
  g1 := by kernel_rfl }
open Go.RowKit Go.Lib in
/-- strings.Count AT A substr OF ONE BYTE ('hp'): "Count counts the number of non-overlapping instances of substr in s.": IT RETURNS 'Lib.countByte s (that byte)'; the world is as it was. ✋ NO CONTRACT HERE YET at an empty substr (utf8.RuneCountInString) or at a longer one (a loop over strings.Index). (LAID: no walk: one application.) -/
theorem Tryd.strings_Count_one (s : ByteArray) (c : UInt8) (w : World) :
    Calls Tryd.prog 45 #[.string s, .string ⟨#[c]⟩] w fun e w' => e = .returned (.int .i64 (Lib.countByte s.data.toList c)) ∧ w' = w := Any.strings_Count_one Tryd.lays138 s c w
open Go.RowKit Go.Lib in
/-- strings.Count AT A substr OF TWO BYTES OR MORE: "Count counts the number of non-overlapping instances of substr in s.": IT RETURNS 'Lib.count s substr'; the world is as it was. (LAID: no walk: one application.) -/
theorem Tryd.strings_Count (s sub : ByteArray) (m : Int) (w : World) (hs : s.size < 4294967281) (hm : w.cell? ⟨2, 0, none⟩ = some (.int .i64 m)) (h2 : 2 ≤ sub.size) :
    Calls Tryd.prog 45 #[.string s, .string sub] w fun e w' => e = .returned (.int .i64 (Lib.countB s sub)) ∧ w' = w := Any.strings_Count Tryd.lays138 s sub m w hs hm h2
def Tryd.laysM219_ren : Go.Shelf.Ren := ⟨fun | 219 => 47 | 217 => 57 | 225 => 58 | 224 => 59 | 267 => 60 | 266 => 68 | 314 => 69 | n => n, fun | 9 => 9 | 3 => 3 | 4 => 4 | 5 => 5 | 46 => 82 | 146 => 102 | 51 => 68 | n => n, fun | 1 => 2 | n => n⟩
theorem Tryd.laysM219 : Go.Proofs.LaysM.n219 Tryd.prog Tryd.laysM219_ren := {
  mixed := by kernel_rfl
  f217 := Tryd.func57.trans (congrArg some (by kernel_rfl))
  f219 := Tryd.func47.trans (congrArg some (by kernel_rfl))
  f224 := Tryd.func59.trans (congrArg some (by kernel_rfl))
  f225 := Tryd.func58.trans (congrArg some (by kernel_rfl))
  f266 := Tryd.func68.trans (congrArg some (by kernel_rfl))
  f267 := Tryd.func60.trans (congrArg some (by kernel_rfl))
  f314 := Tryd.func69.trans (congrArg some (by kernel_rfl))
  t3 := Tryd.underlying3
  a3 := Tryd.isAgg3
  z3 := Tryd.sizeOf3
  v3 := Tryd.zeroValue3
  t4 := Tryd.underlying4
  a4 := Tryd.isAgg4
  z4 := Tryd.sizeOf4
  v4 := Tryd.zeroValue4
  t5 := Tryd.underlying5
  a5 := Tryd.isAgg5
  z5 := Tryd.sizeOf5
  v5 := Tryd.zeroValue5
  t9 := Tryd.underlying9
  a9 := Tryd.isAgg9
  z9 := Tryd.sizeOf9
  v9 := Tryd.zeroValue9
  t46 := Tryd.underlying82
  a46 := Tryd.isAgg82
  z46 := Tryd.sizeOf82
  v46 := Tryd.zeroValue82
  t51 := Tryd.underlying68
  a51 := Tryd.isAgg68
  z51 := Tryd.sizeOf68
  v51 := Tryd.zeroValue68
  t146 := Tryd.underlying102
  a146 := Tryd.isAgg102
  z146 := Tryd.sizeOf102
  v146 := Tryd.zeroValue102
  g1 := by kernel_rfl
  i3 := by kernel_rfl
  i4 := by kernel_rfl
  i5 := by kernel_rfl
  i9 := by kernel_rfl
  i46 := by kernel_rfl
  i51 := by kernel_rfl
  i146 := by kernel_rfl
  m1 := by kernel_rfl
  s1_3 := fun w h => Go.Proofs.cell_of_shapedOpen_int (zero := #[.int .i64 0]) (t := 3) h (of_decide_eq_true (by kernel_rfl)) (by kernel_rfl) rfl (by kernel_rfl) (by kernel_rfl) Tryd.underlying3 }
open Go.RowKit Go.Lib in
theorem Tryd.stringslite_Index_shaped (s sub : ByteArray) (w : World) (h : w.ShapedOpen Tryd.prog) (hs : s.size < 4294967281) :
    Calls Tryd.prog 47 #[.string s, .string sub] w fun e w' => e = .returned (.int .i64 (Lib.index s.data.toList sub.data.toList)) ∧ w' = w := Any.stringslite_Index_shaped Tryd.laysM219 s sub w h hs
def Tryd.laysM143_ren : Go.Shelf.Ren := ⟨fun | 143 => 46 | 219 => 47 | 217 => 57 | 225 => 58 | 224 => 59 | 267 => 60 | 266 => 68 | 314 => 69 | n => n, fun | 9 => 9 | 3 => 3 | 4 => 4 | 5 => 5 | 46 => 82 | 146 => 102 | 51 => 68 | n => n, fun | 1 => 2 | n => n⟩
theorem Tryd.laysM143 : Go.Proofs.LaysM.n143 Tryd.prog Tryd.laysM143_ren := {
  mixed := by kernel_rfl
  f143 := Tryd.func46.trans (congrArg some (by kernel_rfl))
  f217 := Tryd.func57.trans (congrArg some (by kernel_rfl))
  f219 := Tryd.func47.trans (congrArg some (by kernel_rfl))
  f224 := Tryd.func59.trans (congrArg some (by kernel_rfl))
  f225 := Tryd.func58.trans (congrArg some (by kernel_rfl))
  f266 := Tryd.func68.trans (congrArg some (by kernel_rfl))
  f267 := Tryd.func60.trans (congrArg some (by kernel_rfl))
  f314 := Tryd.func69.trans (congrArg some (by kernel_rfl))
  t3 := Tryd.underlying3
  a3 := Tryd.isAgg3
  z3 := Tryd.sizeOf3
  v3 := Tryd.zeroValue3
  t4 := Tryd.underlying4
  a4 := Tryd.isAgg4
  z4 := Tryd.sizeOf4
  v4 := Tryd.zeroValue4
  t5 := Tryd.underlying5
  a5 := Tryd.isAgg5
  z5 := Tryd.sizeOf5
  v5 := Tryd.zeroValue5
  t9 := Tryd.underlying9
  a9 := Tryd.isAgg9
  z9 := Tryd.sizeOf9
  v9 := Tryd.zeroValue9
  t46 := Tryd.underlying82
  a46 := Tryd.isAgg82
  z46 := Tryd.sizeOf82
  v46 := Tryd.zeroValue82
  t51 := Tryd.underlying68
  a51 := Tryd.isAgg68
  z51 := Tryd.sizeOf68
  v51 := Tryd.zeroValue68
  t146 := Tryd.underlying102
  a146 := Tryd.isAgg102
  z146 := Tryd.sizeOf102
  v146 := Tryd.zeroValue102
  g1 := by kernel_rfl
  i3 := by kernel_rfl
  i4 := by kernel_rfl
  i5 := by kernel_rfl
  i9 := by kernel_rfl
  i46 := by kernel_rfl
  i51 := by kernel_rfl
  i146 := by kernel_rfl
  m1 := by kernel_rfl
  s1_3 := fun w h => Go.Proofs.cell_of_shapedOpen_int (zero := #[.int .i64 0]) (t := 3) h (of_decide_eq_true (by kernel_rfl)) (by kernel_rfl) rfl (by kernel_rfl) (by kernel_rfl) Tryd.underlying3 }
open Go.RowKit Go.Lib in
theorem Tryd.strings_Index_shaped (s sub : ByteArray) (w : World) (h : w.ShapedOpen Tryd.prog) (hs : s.size < 4294967281) :
    Calls Tryd.prog 46 #[.string s, .string sub] w fun e w' => e = .returned (.int .i64 (Lib.index s.data.toList sub.data.toList)) ∧ w' = w := Any.strings_Index_shaped Tryd.laysM143 s sub w h hs
def Tryd.laysM220_ren : Go.Shelf.Ren := ⟨fun | 220 => 39 | 219 => 47 | 217 => 57 | 225 => 58 | 224 => 59 | 267 => 60 | 266 => 68 | 314 => 69 | n => n, fun | 9 => 9 | 4 => 4 | 3 => 3 | 5 => 5 | 46 => 82 | 146 => 102 | 51 => 68 | n => n, fun | 1 => 2 | n => n⟩
theorem Tryd.laysM220 : Go.Proofs.LaysM.n220 Tryd.prog Tryd.laysM220_ren := {
  mixed := by kernel_rfl
  f217 := Tryd.func57.trans (congrArg some (by kernel_rfl))
  f219 := Tryd.func47.trans (congrArg some (by kernel_rfl))
  f220 := Tryd.func39.trans (congrArg some (by kernel_rfl))
  f224 := Tryd.func59.trans (congrArg some (by kernel_rfl))
  f225 := Tryd.func58.trans (congrArg some (by kernel_rfl))
  f266 := Tryd.func68.trans (congrArg some (by kernel_rfl))
  f267 := Tryd.func60.trans (congrArg some (by kernel_rfl))
  f314 := Tryd.func69.trans (congrArg some (by kernel_rfl))
  t3 := Tryd.underlying3
  a3 := Tryd.isAgg3
  z3 := Tryd.sizeOf3
  v3 := Tryd.zeroValue3
  t4 := Tryd.underlying4
  a4 := Tryd.isAgg4
  z4 := Tryd.sizeOf4
  v4 := Tryd.zeroValue4
  t5 := Tryd.underlying5
  a5 := Tryd.isAgg5
  z5 := Tryd.sizeOf5
  v5 := Tryd.zeroValue5
  t9 := Tryd.underlying9
  a9 := Tryd.isAgg9
  z9 := Tryd.sizeOf9
  v9 := Tryd.zeroValue9
  t46 := Tryd.underlying82
  a46 := Tryd.isAgg82
  z46 := Tryd.sizeOf82
  v46 := Tryd.zeroValue82
  t51 := Tryd.underlying68
  a51 := Tryd.isAgg68
  z51 := Tryd.sizeOf68
  v51 := Tryd.zeroValue68
  t146 := Tryd.underlying102
  a146 := Tryd.isAgg102
  z146 := Tryd.sizeOf102
  v146 := Tryd.zeroValue102
  g1 := by kernel_rfl
  i3 := by kernel_rfl
  i4 := by kernel_rfl
  i5 := by kernel_rfl
  i9 := by kernel_rfl
  i46 := by kernel_rfl
  i51 := by kernel_rfl
  i146 := by kernel_rfl
  m1 := by kernel_rfl
  s1_3 := fun w h => Go.Proofs.cell_of_shapedOpen_int (zero := #[.int .i64 0]) (t := 3) h (of_decide_eq_true (by kernel_rfl)) (by kernel_rfl) rfl (by kernel_rfl) (by kernel_rfl) Tryd.underlying3 }
open Go.RowKit Go.Lib in
theorem Tryd.stringslite_Cut_shaped (s sep : ByteArray) (w : World) (h : w.ShapedOpen Tryd.prog) (hs : s.size < 4294967281) :
    Calls Tryd.prog 39 #[.string s, .string sep] w fun e w' => e = .returned (.tuple #[.string ⟨(Lib.cut s.data.toList sep.data.toList).1.toArray⟩, .string ⟨(Lib.cut s.data.toList sep.data.toList).2.1.toArray⟩, .bool (Lib.cut s.data.toList sep.data.toList).2.2]) ∧ ∃ n, w' = w.drewN n := Any.stringslite_Cut_shaped Tryd.laysM220 s sep w h hs
def Tryd.laysM145_ren : Go.Shelf.Ren := ⟨fun | 145 => 31 | 220 => 39 | 219 => 47 | 217 => 57 | 225 => 58 | 224 => 59 | 267 => 60 | 266 => 68 | 314 => 69 | n => n, fun | 9 => 9 | 4 => 4 | 59 => 49 | 3 => 3 | 5 => 5 | 46 => 82 | 146 => 102 | 51 => 68 | n => n, fun | 1 => 2 | n => n⟩
theorem Tryd.laysM145 : Go.Proofs.LaysM.n145 Tryd.prog Tryd.laysM145_ren := {
  mixed := by kernel_rfl
  f145 := Tryd.func31.trans (congrArg some (by kernel_rfl))
  f217 := Tryd.func57.trans (congrArg some (by kernel_rfl))
  f219 := Tryd.func47.trans (congrArg some (by kernel_rfl))
  f220 := Tryd.func39.trans (congrArg some (by kernel_rfl))
  f224 := Tryd.func59.trans (congrArg some (by kernel_rfl))
  f225 := Tryd.func58.trans (congrArg some (by kernel_rfl))
  f266 := Tryd.func68.trans (congrArg some (by kernel_rfl))
  f267 := Tryd.func60.trans (congrArg some (by kernel_rfl))
  f314 := Tryd.func69.trans (congrArg some (by kernel_rfl))
  t3 := Tryd.underlying3
  a3 := Tryd.isAgg3
  z3 := Tryd.sizeOf3
  v3 := Tryd.zeroValue3
  t4 := Tryd.underlying4
  a4 := Tryd.isAgg4
  z4 := Tryd.sizeOf4
  v4 := Tryd.zeroValue4
  t5 := Tryd.underlying5
  a5 := Tryd.isAgg5
  z5 := Tryd.sizeOf5
  v5 := Tryd.zeroValue5
  t9 := Tryd.underlying9
  a9 := Tryd.isAgg9
  z9 := Tryd.sizeOf9
  v9 := Tryd.zeroValue9
  t46 := Tryd.underlying82
  a46 := Tryd.isAgg82
  z46 := Tryd.sizeOf82
  v46 := Tryd.zeroValue82
  t51 := Tryd.underlying68
  a51 := Tryd.isAgg68
  z51 := Tryd.sizeOf68
  v51 := Tryd.zeroValue68
  t59 := Tryd.underlying49
  a59 := Tryd.isAgg49
  z59 := Tryd.sizeOf49
  v59 := Tryd.zeroValue49
  t146 := Tryd.underlying102
  a146 := Tryd.isAgg102
  z146 := Tryd.sizeOf102
  v146 := Tryd.zeroValue102
  g1 := by kernel_rfl
  i3 := by kernel_rfl
  i4 := by kernel_rfl
  i5 := by kernel_rfl
  i9 := by kernel_rfl
  i46 := by kernel_rfl
  i51 := by kernel_rfl
  i59 := by kernel_rfl
  i146 := by kernel_rfl
  m1 := by kernel_rfl
  s1_3 := fun w h => Go.Proofs.cell_of_shapedOpen_int (zero := #[.int .i64 0]) (t := 3) h (of_decide_eq_true (by kernel_rfl)) (by kernel_rfl) rfl (by kernel_rfl) (by kernel_rfl) Tryd.underlying3 }
open Go.RowKit Go.Lib in
theorem Tryd.strings_Cut_shaped (s sep : ByteArray) (w : World) (h : w.ShapedOpen Tryd.prog) (hs : s.size < 4294967281) :
    Calls Tryd.prog 31 #[.string s, .string sep] w fun e w' => e = .returned (.tuple #[.string ⟨(Lib.cut s.data.toList sep.data.toList).1.toArray⟩, .string ⟨(Lib.cut s.data.toList sep.data.toList).2.1.toArray⟩, .bool (Lib.cut s.data.toList sep.data.toList).2.2]) ∧ ∃ n, w' = w.drewN n := Any.strings_Cut_shaped Tryd.laysM145 s sep w h hs
def Tryd.laysM138_ren : Go.Shelf.Ren := ⟨fun | 138 => 45 | 195 => 54 | 218 => 56 | 143 => 46 | 219 => 47 | 217 => 57 | 225 => 58 | 224 => 59 | 267 => 60 | 266 => 68 | 314 => 69 | n => n, fun | 9 => 9 | 3 => 3 | 4 => 4 | 5 => 5 | 0 => 0 | 46 => 82 | 146 => 102 | 51 => 68 | n => n, fun | 1 => 2 | n => n⟩
theorem Tryd.laysM138 : Go.Proofs.LaysM.n138 Tryd.prog Tryd.laysM138_ren := {
  mixed := by kernel_rfl
  f138 := Tryd.func45.trans (congrArg some (by kernel_rfl))
  f143 := Tryd.func46.trans (congrArg some (by kernel_rfl))
  f195 := Tryd.func54.trans (congrArg some (by kernel_rfl))
  f217 := Tryd.func57.trans (congrArg some (by kernel_rfl))
  f218 := Tryd.func56.trans (congrArg some (by kernel_rfl))
  f219 := Tryd.func47.trans (congrArg some (by kernel_rfl))
  f224 := Tryd.func59.trans (congrArg some (by kernel_rfl))
  f225 := Tryd.func58.trans (congrArg some (by kernel_rfl))
  f266 := Tryd.func68.trans (congrArg some (by kernel_rfl))
  f267 := Tryd.func60.trans (congrArg some (by kernel_rfl))
  f314 := Tryd.func69.trans (congrArg some (by kernel_rfl))
  t0 := Tryd.underlying0
  a0 := Tryd.isAgg0
  z0 := Tryd.sizeOf0
  v0 := Tryd.zeroValue0
  t3 := Tryd.underlying3
  a3 := Tryd.isAgg3
  z3 := Tryd.sizeOf3
  v3 := Tryd.zeroValue3
  t4 := Tryd.underlying4
  a4 := Tryd.isAgg4
  z4 := Tryd.sizeOf4
  v4 := Tryd.zeroValue4
  t5 := Tryd.underlying5
  a5 := Tryd.isAgg5
  z5 := Tryd.sizeOf5
  v5 := Tryd.zeroValue5
  t9 := Tryd.underlying9
  a9 := Tryd.isAgg9
  z9 := Tryd.sizeOf9
  v9 := Tryd.zeroValue9
  t46 := Tryd.underlying82
  a46 := Tryd.isAgg82
  z46 := Tryd.sizeOf82
  v46 := Tryd.zeroValue82
  t51 := Tryd.underlying68
  a51 := Tryd.isAgg68
  z51 := Tryd.sizeOf68
  v51 := Tryd.zeroValue68
  t146 := Tryd.underlying102
  a146 := Tryd.isAgg102
  z146 := Tryd.sizeOf102
  v146 := Tryd.zeroValue102
  g1 := by kernel_rfl
  i0 := by kernel_rfl
  i3 := by kernel_rfl
  i4 := by kernel_rfl
  i5 := by kernel_rfl
  i9 := by kernel_rfl
  i46 := by kernel_rfl
  i51 := by kernel_rfl
  i146 := by kernel_rfl
  m1 := by kernel_rfl
  s1_3 := fun w h => Go.Proofs.cell_of_shapedOpen_int (zero := #[.int .i64 0]) (t := 3) h (of_decide_eq_true (by kernel_rfl)) (by kernel_rfl) rfl (by kernel_rfl) (by kernel_rfl) Tryd.underlying3 }
open Go.RowKit Go.Lib in
theorem Tryd.strings_Count_shaped (s sub : ByteArray) (w : World) (h : w.ShapedOpen Tryd.prog) (hs : s.size < 4294967281) (h2 : 2 ≤ sub.size) :
    Calls Tryd.prog 45 #[.string s, .string sub] w fun e w' => e = .returned (.int .i64 (Lib.countB s sub)) ∧ w' = w := Any.strings_Count_shaped Tryd.laysM138 s sub w h hs h2
open Go.RowKit Go.Lib in
/-- strings.Count at whatever sep that is not empty: the two roads under one statement. (LAID: no walk: one application.) -/
theorem Tryd.strings_Count_any (s sep : ByteArray) (m : Int) (w : World) (hs : s.size < 4294967281) (hm : w.cell? ⟨2, 0, none⟩ = some (.int .i64 m)) (h1 : 1 ≤ sep.size) :
    Calls Tryd.prog 45 #[.string s, .string sep] w fun e w' => e = .returned (.int .i64 (Lib.countB s sep)) ∧ w' = w := Any.strings_Count_any Tryd.lays138 s sep m w hs hm h1
def Tryd.lays221_ren : Go.Shelf.Ren := ⟨fun | 221 => 38 | 268 => 44 | 138 => 45 | 143 => 46 | 195 => 54 | 197 => 55 | 218 => 56 | 219 => 47 | 260 => 67 | 217 => 57 | 225 => 58 | 224 => 59 | 267 => 60 | 266 => 68 | 314 => 69 | n => n, fun | 9 => 9 | 3 => 3 | 31 => 36 | 4 => 4 | 0 => 0 | 105 => 78 | 21 => 21 | 5 => 5 | 46 => 82 | 119 => 59 | 139 => 113 | 138 => 112 | 146 => 102 | 51 => 68 | n => n, fun | 1 => 2 | 3 => 5 | 4 => 6 | n => n⟩
theorem Tryd.lays221 : Go.Proofs.Lays.n221 Tryd.prog Tryd.lays221_ren := {
  mixed := by kernel_rfl
  f138 := Tryd.func45.trans (congrArg some (by kernel_rfl))
  f143 := Tryd.func46.trans (congrArg some (by kernel_rfl))
  f195 := Tryd.func54.trans (congrArg some (by kernel_rfl))
  f197 := Tryd.func55.trans (congrArg some (by kernel_rfl))
  f217 := Tryd.func57.trans (congrArg some (by kernel_rfl))
  f218 := Tryd.func56.trans (congrArg some (by kernel_rfl))
  f219 := Tryd.func47.trans (congrArg some (by kernel_rfl))
  f221 := Tryd.func38.trans (congrArg some (by kernel_rfl))
  f224 := Tryd.func59.trans (congrArg some (by kernel_rfl))
  f225 := Tryd.func58.trans (congrArg some (by kernel_rfl))
  f260 := Tryd.func67.trans (congrArg some (by kernel_rfl))
  f266 := Tryd.func68.trans (congrArg some (by kernel_rfl))
  f267 := Tryd.func60.trans (congrArg some (by kernel_rfl))
  f268 := Tryd.func44.trans (congrArg some (by kernel_rfl))
  f314 := Tryd.func69.trans (congrArg some (by kernel_rfl))
  t0 := Tryd.underlying0
  a0 := Tryd.isAgg0
  z0 := Tryd.sizeOf0
  v0 := Tryd.zeroValue0
  t3 := Tryd.underlying3
  a3 := Tryd.isAgg3
  z3 := Tryd.sizeOf3
  v3 := Tryd.zeroValue3
  t4 := Tryd.underlying4
  a4 := Tryd.isAgg4
  z4 := Tryd.sizeOf4
  v4 := Tryd.zeroValue4
  t5 := Tryd.underlying5
  a5 := Tryd.isAgg5
  z5 := Tryd.sizeOf5
  v5 := Tryd.zeroValue5
  t9 := Tryd.underlying9
  a9 := Tryd.isAgg9
  z9 := Tryd.sizeOf9
  v9 := Tryd.zeroValue9
  t21 := Tryd.underlying21
  a21 := Tryd.isAgg21
  z21 := Tryd.sizeOf21
  v21 := Tryd.zeroValue21
  t31 := Tryd.underlying36
  a31 := Tryd.isAgg36
  z31 := Tryd.sizeOf36
  v31 := Tryd.zeroValue36
  t46 := Tryd.underlying82
  a46 := Tryd.isAgg82
  z46 := Tryd.sizeOf82
  v46 := Tryd.zeroValue82
  t51 := Tryd.underlying68
  a51 := Tryd.isAgg68
  z51 := Tryd.sizeOf68
  v51 := Tryd.zeroValue68
  t105 := Tryd.underlying78
  a105 := Tryd.isAgg78
  z105 := Tryd.sizeOf78
  v105 := Tryd.zeroValue78
  t119 := Tryd.underlying59
  a119 := Tryd.isAgg59
  z119 := Tryd.sizeOf59
  t138 := Tryd.underlying112
  a138 := Tryd.isAgg112
  z138 := Tryd.sizeOf112
  v138 := Tryd.zeroValue112
  t139 := Tryd.underlying113
  a139 := Tryd.isAgg113
  z139 := Tryd.sizeOf113
  v139 := Tryd.zeroValue113
  t146 := Tryd.underlying102
  a146 := Tryd.isAgg102
  z146 := Tryd.sizeOf102
  v146 := Tryd.zeroValue102
  g1 := by kernel_rfl
  g3 := by kernel_rfl
  g4 := by kernel_rfl }
open Go.RowKit Go.Lib in
theorem Tryd.strings_genSplit (s sep : ByteArray) (sv : Nat) (n : Int) (N : Nat) (m : Int) (w : World) (hs : s.size < 4294967281) (hm : w.cell? ⟨2, 0, none⟩ = some (.int .i64 m)) (h1 : 1 ≤ sep.size) (hsv : sv ≤ sep.size) (hn0 : n ≠ 0) (hn63 : n ≤ 9223372036854775807) (hN : (N : Int) = min (if n < 0 then (Lib.countB s sep : Int) + 1 else n) ((s.size : Int) + 1)) :
    Calls Tryd.prog 38 #[.string s, .string sep, .int .i64 sv, .int .i64 n] w fun e w' =>
      e = .returned (.slice (some ⟨w.heap.size, 0, none⟩) (Lib.splitB sep sv (N - 1) s).length N) ∧ w' = w.alloc (.cells (Lib.cellsOf (Lib.splitB sep sv (N - 1) s) N) 9) := Any.strings_genSplit Tryd.lays221 (by kernel_rfl) s sep sv n N m w hs hm h1 hsv hn0 hn63 hN
def Tryd.lays146_ren : Go.Shelf.Ren := ⟨fun | 146 => 30 | 221 => 38 | 268 => 44 | 138 => 45 | 143 => 46 | 195 => 54 | 197 => 55 | 218 => 56 | 219 => 47 | 260 => 67 | 217 => 57 | 225 => 58 | 224 => 59 | 267 => 60 | 266 => 68 | 314 => 69 | n => n, fun | 9 => 9 | 31 => 36 | 3 => 3 | 4 => 4 | 0 => 0 | 105 => 78 | 21 => 21 | 5 => 5 | 46 => 82 | 119 => 59 | 139 => 113 | 138 => 112 | 146 => 102 | 51 => 68 | n => n, fun | 1 => 2 | 3 => 5 | 4 => 6 | n => n⟩
theorem Tryd.lays146 : Go.Proofs.Lays.n146 Tryd.prog Tryd.lays146_ren := {
  mixed := by kernel_rfl
  f138 := Tryd.func45.trans (congrArg some (by kernel_rfl))
  f143 := Tryd.func46.trans (congrArg some (by kernel_rfl))
  f146 := Tryd.func30.trans (congrArg some (by kernel_rfl))
  f195 := Tryd.func54.trans (congrArg some (by kernel_rfl))
  f197 := Tryd.func55.trans (congrArg some (by kernel_rfl))
  f217 := Tryd.func57.trans (congrArg some (by kernel_rfl))
  f218 := Tryd.func56.trans (congrArg some (by kernel_rfl))
  f219 := Tryd.func47.trans (congrArg some (by kernel_rfl))
  f221 := Tryd.func38.trans (congrArg some (by kernel_rfl))
  f224 := Tryd.func59.trans (congrArg some (by kernel_rfl))
  f225 := Tryd.func58.trans (congrArg some (by kernel_rfl))
  f260 := Tryd.func67.trans (congrArg some (by kernel_rfl))
  f266 := Tryd.func68.trans (congrArg some (by kernel_rfl))
  f267 := Tryd.func60.trans (congrArg some (by kernel_rfl))
  f268 := Tryd.func44.trans (congrArg some (by kernel_rfl))
  f314 := Tryd.func69.trans (congrArg some (by kernel_rfl))
  t0 := Tryd.underlying0
  a0 := Tryd.isAgg0
  z0 := Tryd.sizeOf0
  v0 := Tryd.zeroValue0
  t3 := Tryd.underlying3
  a3 := Tryd.isAgg3
  z3 := Tryd.sizeOf3
  v3 := Tryd.zeroValue3
  t4 := Tryd.underlying4
  a4 := Tryd.isAgg4
  z4 := Tryd.sizeOf4
  v4 := Tryd.zeroValue4
  t5 := Tryd.underlying5
  a5 := Tryd.isAgg5
  z5 := Tryd.sizeOf5
  v5 := Tryd.zeroValue5
  t9 := Tryd.underlying9
  a9 := Tryd.isAgg9
  z9 := Tryd.sizeOf9
  v9 := Tryd.zeroValue9
  t21 := Tryd.underlying21
  a21 := Tryd.isAgg21
  z21 := Tryd.sizeOf21
  v21 := Tryd.zeroValue21
  t31 := Tryd.underlying36
  a31 := Tryd.isAgg36
  z31 := Tryd.sizeOf36
  v31 := Tryd.zeroValue36
  t46 := Tryd.underlying82
  a46 := Tryd.isAgg82
  z46 := Tryd.sizeOf82
  v46 := Tryd.zeroValue82
  t51 := Tryd.underlying68
  a51 := Tryd.isAgg68
  z51 := Tryd.sizeOf68
  v51 := Tryd.zeroValue68
  t105 := Tryd.underlying78
  a105 := Tryd.isAgg78
  z105 := Tryd.sizeOf78
  v105 := Tryd.zeroValue78
  t119 := Tryd.underlying59
  a119 := Tryd.isAgg59
  z119 := Tryd.sizeOf59
  t138 := Tryd.underlying112
  a138 := Tryd.isAgg112
  z138 := Tryd.sizeOf112
  v138 := Tryd.zeroValue112
  t139 := Tryd.underlying113
  a139 := Tryd.isAgg113
  z139 := Tryd.sizeOf113
  v139 := Tryd.zeroValue113
  t146 := Tryd.underlying102
  a146 := Tryd.isAgg102
  z146 := Tryd.sizeOf102
  v146 := Tryd.zeroValue102
  g1 := by kernel_rfl
  g3 := by kernel_rfl
  g4 := by kernel_rfl }
open Go.RowKit Go.Lib in
/-- strings.Split. (LAID: no walk: one application.) -/
theorem Tryd.strings_Split (s sep : ByteArray) (m : Int) (w : World) (hs : s.size < 4294967281) (hm : w.cell? ⟨2, 0, none⟩ = some (.int .i64 m)) (h1 : 1 ≤ sep.size) :
    Calls Tryd.prog 30 #[.string s, .string sep] w fun e w' =>
      e = .returned (.slice (some ⟨w.heap.size, 0, none⟩) (Lib.countB s sep + 1) (Lib.countB s sep + 1)) ∧ w' = w.alloc (.cells ((Lib.splitB sep 0 (Lib.countB s sep) s).map Value.string).toArray 9) := Any.strings_Split Tryd.lays146 (by kernel_rfl) s sep m w hs hm h1
def Tryd.lays157_ren : Go.Shelf.Ren := ⟨fun | 157 => 36 | 229 => 40 | 199 => 41 | 261 => 48 | 311 => 61 | 312 => 62 | n => n, fun | 9 => 9 | 31 => 36 | 3 => 3 | 5 => 5 | 4 => 4 | 119 => 59 | 0 => 0 | 40 => 61 | 152 => 65 | 21 => 21 | 154 => 67 | 51 => 68 | 141 => 70 | 196 => 86 | 193 => 83 | 198 => 89 | 49 => 87 | 194 => 84 | 201 => 92 | 226 => 104 | 46 => 82 | 227 => 105 | n => n, fun | 0 => 0 | 6 => 1 | n => n⟩
theorem Tryd.lays157 : Go.Proofs.Lays.n157 Tryd.prog Tryd.lays157_ren := {
  mixed := by kernel_rfl
  f157 := Tryd.func36.trans (congrArg some (by kernel_rfl))
  f199 := Tryd.func41.trans (congrArg some (by kernel_rfl))
  f229 := Tryd.func40.trans (congrArg some (by kernel_rfl))
  f261 := Tryd.func48.trans (congrArg some (by kernel_rfl))
  f311 := Tryd.func61.trans (congrArg some (by kernel_rfl))
  f312 := Tryd.func62.trans (congrArg some (by kernel_rfl))
  t0 := Tryd.underlying0
  a0 := Tryd.isAgg0
  z0 := Tryd.sizeOf0
  v0 := Tryd.zeroValue0
  t3 := Tryd.underlying3
  a3 := Tryd.isAgg3
  z3 := Tryd.sizeOf3
  v3 := Tryd.zeroValue3
  t4 := Tryd.underlying4
  a4 := Tryd.isAgg4
  z4 := Tryd.sizeOf4
  v4 := Tryd.zeroValue4
  t5 := Tryd.underlying5
  a5 := Tryd.isAgg5
  z5 := Tryd.sizeOf5
  v5 := Tryd.zeroValue5
  t9 := Tryd.underlying9
  a9 := Tryd.isAgg9
  z9 := Tryd.sizeOf9
  v9 := Tryd.zeroValue9
  t21 := Tryd.underlying21
  a21 := Tryd.isAgg21
  z21 := Tryd.sizeOf21
  v21 := Tryd.zeroValue21
  t31 := Tryd.underlying36
  a31 := Tryd.isAgg36
  z31 := Tryd.sizeOf36
  v31 := Tryd.zeroValue36
  t40 := Tryd.underlying61
  a40 := Tryd.isAgg61
  z40 := Tryd.sizeOf61
  v40 := Tryd.zeroValue61
  t46 := Tryd.underlying82
  a46 := Tryd.isAgg82
  z46 := Tryd.sizeOf82
  v46 := Tryd.zeroValue82
  t49 := Tryd.underlying87
  a49 := Tryd.isAgg87
  z49 := Tryd.sizeOf87
  v49 := Tryd.zeroValue87
  t51 := Tryd.underlying68
  a51 := Tryd.isAgg68
  z51 := Tryd.sizeOf68
  v51 := Tryd.zeroValue68
  t119 := Tryd.underlying59
  a119 := Tryd.isAgg59
  z119 := Tryd.sizeOf59
  t141 := Tryd.underlying70
  a141 := Tryd.isAgg70
  z141 := Tryd.sizeOf70
  v141 := Tryd.zeroValue70
  t152 := Tryd.underlying65
  a152 := Tryd.isAgg65
  z152 := Tryd.sizeOf65
  v152 := Tryd.zeroValue65
  t154 := Tryd.underlying67
  a154 := Tryd.isAgg67
  z154 := Tryd.sizeOf67
  v154 := Tryd.zeroValue67
  t193 := Tryd.underlying83
  a193 := Tryd.isAgg83
  z193 := Tryd.sizeOf83
  v193 := Tryd.zeroValue83
  t194 := Tryd.underlying84
  a194 := Tryd.isAgg84
  z194 := Tryd.sizeOf84
  v194 := Tryd.zeroValue84
  t196 := Tryd.underlying86
  a196 := Tryd.isAgg86
  z196 := Tryd.sizeOf86
  v196 := Tryd.zeroValue86
  t198 := Tryd.underlying89
  a198 := Tryd.isAgg89
  z198 := Tryd.sizeOf89
  v198 := Tryd.zeroValue89
  t201 := Tryd.underlying92
  a201 := Tryd.isAgg92
  z201 := Tryd.sizeOf92
  v201 := Tryd.zeroValue92
  t226 := Tryd.underlying104
  a226 := Tryd.isAgg104
  z226 := Tryd.sizeOf104
  v226 := Tryd.zeroValue104
  t227 := Tryd.underlying105
  a227 := Tryd.isAgg105
  z227 := Tryd.sizeOf105
  v227 := Tryd.zeroValue105
  g0 := by kernel_rfl
  g6 := by kernel_rfl }
open Go.RowKit Go.Lib in
/-- strings.Fields, the table by 'Lib.TabIs' (as strings.TrimSpace's contract). 'hg': the table's number, by its name: at a dump 'by kernel_rfl'. (LAID: no walk: one application.) -/
theorem Tryd.strings_Fields (s : ByteArray) (w : World) (hs : s.size < 4294967281) (hascii : ∀ (j : Nat) b, s.data.toList[j]? = some b → b.toNat < 128) (htab : Lib.TabIs Tryd.prog w "strings.asciiSpace" .u8 Lib.asciiSpaceTab) :
    Calls Tryd.prog 36 #[.string s] w fun e w' =>
      e = .returned (.slice (some ⟨w.heap.size, 0, none⟩) (Lib.fields s.data.toList).length (Lib.fields s.data.toList).length) ∧ w' = w.alloc (.cells ((Lib.fields s.data.toList).map fun l => Value.string ⟨l.toArray⟩).toArray 9) := Any.strings_Fields Tryd.lays157 (by kernel_rfl) (by kernel_rfl) s w hs hascii htab
def Tryd.laysM146_ren : Go.Shelf.Ren := ⟨fun | 146 => 30 | 221 => 38 | 268 => 44 | 138 => 45 | 143 => 46 | 195 => 54 | 197 => 55 | 218 => 56 | 219 => 47 | 260 => 67 | 217 => 57 | 225 => 58 | 224 => 59 | 267 => 60 | 266 => 68 | 314 => 69 | n => n, fun | 9 => 9 | 31 => 36 | 3 => 3 | 4 => 4 | 0 => 0 | 105 => 78 | 21 => 21 | 5 => 5 | 46 => 82 | 119 => 59 | 139 => 113 | 138 => 112 | 146 => 102 | 51 => 68 | n => n, fun | 1 => 2 | 3 => 5 | 4 => 6 | n => n⟩
theorem Tryd.laysM146 : Go.Proofs.LaysM.n146 Tryd.prog Tryd.laysM146_ren := {
  mixed := by kernel_rfl
  f138 := Tryd.func45.trans (congrArg some (by kernel_rfl))
  f143 := Tryd.func46.trans (congrArg some (by kernel_rfl))
  f146 := Tryd.func30.trans (congrArg some (by kernel_rfl))
  f195 := Tryd.func54.trans (congrArg some (by kernel_rfl))
  f197 := Tryd.func55.trans (congrArg some (by kernel_rfl))
  f217 := Tryd.func57.trans (congrArg some (by kernel_rfl))
  f218 := Tryd.func56.trans (congrArg some (by kernel_rfl))
  f219 := Tryd.func47.trans (congrArg some (by kernel_rfl))
  f221 := Tryd.func38.trans (congrArg some (by kernel_rfl))
  f224 := Tryd.func59.trans (congrArg some (by kernel_rfl))
  f225 := Tryd.func58.trans (congrArg some (by kernel_rfl))
  f260 := Tryd.func67.trans (congrArg some (by kernel_rfl))
  f266 := Tryd.func68.trans (congrArg some (by kernel_rfl))
  f267 := Tryd.func60.trans (congrArg some (by kernel_rfl))
  f268 := Tryd.func44.trans (congrArg some (by kernel_rfl))
  f314 := Tryd.func69.trans (congrArg some (by kernel_rfl))
  t0 := Tryd.underlying0
  a0 := Tryd.isAgg0
  z0 := Tryd.sizeOf0
  v0 := Tryd.zeroValue0
  t3 := Tryd.underlying3
  a3 := Tryd.isAgg3
  z3 := Tryd.sizeOf3
  v3 := Tryd.zeroValue3
  t4 := Tryd.underlying4
  a4 := Tryd.isAgg4
  z4 := Tryd.sizeOf4
  v4 := Tryd.zeroValue4
  t5 := Tryd.underlying5
  a5 := Tryd.isAgg5
  z5 := Tryd.sizeOf5
  v5 := Tryd.zeroValue5
  t9 := Tryd.underlying9
  a9 := Tryd.isAgg9
  z9 := Tryd.sizeOf9
  v9 := Tryd.zeroValue9
  t21 := Tryd.underlying21
  a21 := Tryd.isAgg21
  z21 := Tryd.sizeOf21
  v21 := Tryd.zeroValue21
  t31 := Tryd.underlying36
  a31 := Tryd.isAgg36
  z31 := Tryd.sizeOf36
  v31 := Tryd.zeroValue36
  t46 := Tryd.underlying82
  a46 := Tryd.isAgg82
  z46 := Tryd.sizeOf82
  v46 := Tryd.zeroValue82
  t51 := Tryd.underlying68
  a51 := Tryd.isAgg68
  z51 := Tryd.sizeOf68
  v51 := Tryd.zeroValue68
  t105 := Tryd.underlying78
  a105 := Tryd.isAgg78
  z105 := Tryd.sizeOf78
  v105 := Tryd.zeroValue78
  t119 := Tryd.underlying59
  a119 := Tryd.isAgg59
  z119 := Tryd.sizeOf59
  t138 := Tryd.underlying112
  a138 := Tryd.isAgg112
  z138 := Tryd.sizeOf112
  v138 := Tryd.zeroValue112
  t139 := Tryd.underlying113
  a139 := Tryd.isAgg113
  z139 := Tryd.sizeOf113
  v139 := Tryd.zeroValue113
  t146 := Tryd.underlying102
  a146 := Tryd.isAgg102
  z146 := Tryd.sizeOf102
  v146 := Tryd.zeroValue102
  g1 := by kernel_rfl
  g3 := by kernel_rfl
  g4 := by kernel_rfl
  i0 := by kernel_rfl
  i3 := by kernel_rfl
  i4 := by kernel_rfl
  i5 := by kernel_rfl
  i9 := by kernel_rfl
  i21 := by kernel_rfl
  i31 := by kernel_rfl
  i46 := by kernel_rfl
  i51 := by kernel_rfl
  i105 := by kernel_rfl
  i138 := by kernel_rfl
  i139 := by kernel_rfl
  i146 := by kernel_rfl
  m1 := by kernel_rfl
  s1_3 := fun w h => Go.Proofs.cell_of_shapedOpen_int (zero := #[.int .i64 0]) (t := 3) h (of_decide_eq_true (by kernel_rfl)) (by kernel_rfl) rfl (by kernel_rfl) (by kernel_rfl) Tryd.underlying3
  m3 := by kernel_rfl
  m4 := by kernel_rfl }
open Go.RowKit Go.Lib in
/-- strings.Split, sep not empty. (LAID: no walk: one application.) -/
theorem Tryd.strings_Split_shaped (s sep : ByteArray) (w : World) (h : w.ShapedOpen Tryd.prog) (hs : s.size < 4294967281) (h1 : 1 ≤ sep.size) :
    Calls Tryd.prog 30 #[.string s, .string sep] w fun e w' =>
      e = .returned (.slice (some ⟨w.heap.size, 0, none⟩) (Lib.countB s sep + 1) (Lib.countB s sep + 1)) ∧ w' = w.alloc (.cells ((Lib.splitB sep 0 (Lib.countB s sep) s).map Value.string).toArray 9) := Any.strings_Split_shaped Tryd.laysM146 s sep w h hs h1
def Tryd.laysM157_ren : Go.Shelf.Ren := ⟨fun | 157 => 36 | 229 => 40 | 199 => 41 | 261 => 48 | 311 => 61 | 312 => 62 | n => n, fun | 9 => 9 | 31 => 36 | 3 => 3 | 5 => 5 | 4 => 4 | 119 => 59 | 0 => 0 | 40 => 61 | 152 => 65 | 21 => 21 | 154 => 67 | 51 => 68 | 141 => 70 | 196 => 86 | 193 => 83 | 198 => 89 | 49 => 87 | 194 => 84 | 201 => 92 | 226 => 104 | 46 => 82 | 227 => 105 | n => n, fun | 0 => 0 | 6 => 1 | n => n⟩
theorem Tryd.laysM157 : Go.Proofs.LaysM.n157 Tryd.prog Tryd.laysM157_ren := {
  mixed := by kernel_rfl
  f157 := Tryd.func36.trans (congrArg some (by kernel_rfl))
  f199 := Tryd.func41.trans (congrArg some (by kernel_rfl))
  f229 := Tryd.func40.trans (congrArg some (by kernel_rfl))
  f261 := Tryd.func48.trans (congrArg some (by kernel_rfl))
  f311 := Tryd.func61.trans (congrArg some (by kernel_rfl))
  f312 := Tryd.func62.trans (congrArg some (by kernel_rfl))
  t0 := Tryd.underlying0
  a0 := Tryd.isAgg0
  z0 := Tryd.sizeOf0
  v0 := Tryd.zeroValue0
  t3 := Tryd.underlying3
  a3 := Tryd.isAgg3
  z3 := Tryd.sizeOf3
  v3 := Tryd.zeroValue3
  t4 := Tryd.underlying4
  a4 := Tryd.isAgg4
  z4 := Tryd.sizeOf4
  v4 := Tryd.zeroValue4
  t5 := Tryd.underlying5
  a5 := Tryd.isAgg5
  z5 := Tryd.sizeOf5
  v5 := Tryd.zeroValue5
  t9 := Tryd.underlying9
  a9 := Tryd.isAgg9
  z9 := Tryd.sizeOf9
  v9 := Tryd.zeroValue9
  t21 := Tryd.underlying21
  a21 := Tryd.isAgg21
  z21 := Tryd.sizeOf21
  v21 := Tryd.zeroValue21
  t31 := Tryd.underlying36
  a31 := Tryd.isAgg36
  z31 := Tryd.sizeOf36
  v31 := Tryd.zeroValue36
  t40 := Tryd.underlying61
  a40 := Tryd.isAgg61
  z40 := Tryd.sizeOf61
  v40 := Tryd.zeroValue61
  t46 := Tryd.underlying82
  a46 := Tryd.isAgg82
  z46 := Tryd.sizeOf82
  v46 := Tryd.zeroValue82
  t49 := Tryd.underlying87
  a49 := Tryd.isAgg87
  z49 := Tryd.sizeOf87
  v49 := Tryd.zeroValue87
  t51 := Tryd.underlying68
  a51 := Tryd.isAgg68
  z51 := Tryd.sizeOf68
  v51 := Tryd.zeroValue68
  t119 := Tryd.underlying59
  a119 := Tryd.isAgg59
  z119 := Tryd.sizeOf59
  t141 := Tryd.underlying70
  a141 := Tryd.isAgg70
  z141 := Tryd.sizeOf70
  v141 := Tryd.zeroValue70
  t152 := Tryd.underlying65
  a152 := Tryd.isAgg65
  z152 := Tryd.sizeOf65
  v152 := Tryd.zeroValue65
  t154 := Tryd.underlying67
  a154 := Tryd.isAgg67
  z154 := Tryd.sizeOf67
  v154 := Tryd.zeroValue67
  t193 := Tryd.underlying83
  a193 := Tryd.isAgg83
  z193 := Tryd.sizeOf83
  v193 := Tryd.zeroValue83
  t194 := Tryd.underlying84
  a194 := Tryd.isAgg84
  z194 := Tryd.sizeOf84
  v194 := Tryd.zeroValue84
  t196 := Tryd.underlying86
  a196 := Tryd.isAgg86
  z196 := Tryd.sizeOf86
  v196 := Tryd.zeroValue86
  t198 := Tryd.underlying89
  a198 := Tryd.isAgg89
  z198 := Tryd.sizeOf89
  v198 := Tryd.zeroValue89
  t201 := Tryd.underlying92
  a201 := Tryd.isAgg92
  z201 := Tryd.sizeOf92
  v201 := Tryd.zeroValue92
  t226 := Tryd.underlying104
  a226 := Tryd.isAgg104
  z226 := Tryd.sizeOf104
  v226 := Tryd.zeroValue104
  t227 := Tryd.underlying105
  a227 := Tryd.isAgg105
  z227 := Tryd.sizeOf105
  v227 := Tryd.zeroValue105
  g0 := by kernel_rfl
  g6 := by kernel_rfl
  i0 := by kernel_rfl
  i3 := by kernel_rfl
  i4 := by kernel_rfl
  i5 := by kernel_rfl
  i9 := by kernel_rfl
  i21 := by kernel_rfl
  i31 := by kernel_rfl
  i40 := by kernel_rfl
  i46 := by kernel_rfl
  i49 := by kernel_rfl
  i51 := by kernel_rfl
  i141 := by kernel_rfl
  i152 := by kernel_rfl
  i154 := by kernel_rfl
  i193 := by kernel_rfl
  i194 := by kernel_rfl
  i196 := by kernel_rfl
  i198 := by kernel_rfl
  i201 := by kernel_rfl
  i226 := by kernel_rfl
  i227 := by kernel_rfl
  m0 := by kernel_rfl
  m6 := by kernel_rfl }
open Go.RowKit Go.Lib in
/-- strings.Fields on ASCII bytes. (The table: 'Lib.TabIs', as strings.TrimSpace's contract asks it.) (LAID: no walk: one application.) -/
theorem Tryd.strings_Fields_laid (s : ByteArray) (w : World) (hs : s.size < 4294967281) (hascii : ∀ (j : Nat) b, s.data.toList[j]? = some b → b.toNat < 128) (htab : Lib.TabIs Tryd.prog w "strings.asciiSpace" .u8 Lib.asciiSpaceTab) :
    Calls Tryd.prog 36 #[.string s] w fun e w' =>
      e = .returned (.slice (some ⟨w.heap.size, 0, none⟩) (Lib.fields s.data.toList).length (Lib.fields s.data.toList).length) ∧ w' = w.alloc (.cells ((Lib.fields s.data.toList).map fun l => Value.string ⟨l.toArray⟩).toArray 9) := Any.strings_Fields_laid Tryd.laysM157 s w hs hascii htab
def Tryd.lays199_ren : Go.Shelf.Ren := ⟨fun | 199 => 41 | 261 => 48 | 311 => 61 | 312 => 62 | n => n, fun | 21 => 21 | 4 => 4 | 51 => 68 | 141 => 70 | 0 => 0 | 196 => 86 | 193 => 83 | 3 => 3 | 198 => 89 | 49 => 87 | 194 => 84 | 201 => 92 | 226 => 104 | 46 => 82 | 227 => 105 | n => n, fun | 6 => 1 | n => n⟩
theorem Tryd.lays199 : Go.Proofs.Lays.n199 Tryd.prog Tryd.lays199_ren := {
  mixed := by kernel_rfl
  f199 := Tryd.func41.trans (congrArg some (by kernel_rfl))
  f261 := Tryd.func48.trans (congrArg some (by kernel_rfl))
  f311 := Tryd.func61.trans (congrArg some (by kernel_rfl))
  f312 := Tryd.func62.trans (congrArg some (by kernel_rfl))
  t0 := Tryd.underlying0
  a0 := Tryd.isAgg0
  z0 := Tryd.sizeOf0
  v0 := Tryd.zeroValue0
  t3 := Tryd.underlying3
  a3 := Tryd.isAgg3
  z3 := Tryd.sizeOf3
  v3 := Tryd.zeroValue3
  t4 := Tryd.underlying4
  a4 := Tryd.isAgg4
  z4 := Tryd.sizeOf4
  v4 := Tryd.zeroValue4
  t21 := Tryd.underlying21
  a21 := Tryd.isAgg21
  z21 := Tryd.sizeOf21
  v21 := Tryd.zeroValue21
  t46 := Tryd.underlying82
  a46 := Tryd.isAgg82
  z46 := Tryd.sizeOf82
  v46 := Tryd.zeroValue82
  t49 := Tryd.underlying87
  a49 := Tryd.isAgg87
  z49 := Tryd.sizeOf87
  v49 := Tryd.zeroValue87
  t51 := Tryd.underlying68
  a51 := Tryd.isAgg68
  z51 := Tryd.sizeOf68
  v51 := Tryd.zeroValue68
  t141 := Tryd.underlying70
  a141 := Tryd.isAgg70
  z141 := Tryd.sizeOf70
  v141 := Tryd.zeroValue70
  t193 := Tryd.underlying83
  a193 := Tryd.isAgg83
  z193 := Tryd.sizeOf83
  v193 := Tryd.zeroValue83
  t194 := Tryd.underlying84
  a194 := Tryd.isAgg84
  z194 := Tryd.sizeOf84
  v194 := Tryd.zeroValue84
  t196 := Tryd.underlying86
  a196 := Tryd.isAgg86
  z196 := Tryd.sizeOf86
  v196 := Tryd.zeroValue86
  t198 := Tryd.underlying89
  a198 := Tryd.isAgg89
  z198 := Tryd.sizeOf89
  v198 := Tryd.zeroValue89
  t201 := Tryd.underlying92
  a201 := Tryd.isAgg92
  z201 := Tryd.sizeOf92
  v201 := Tryd.zeroValue92
  t226 := Tryd.underlying104
  a226 := Tryd.isAgg104
  z226 := Tryd.sizeOf104
  v226 := Tryd.zeroValue104
  t227 := Tryd.underlying105
  a227 := Tryd.isAgg105
  z227 := Tryd.sizeOf105
  v227 := Tryd.zeroValue105
  g6 := by kernel_rfl }
open Go.RowKit Go.Lib in
theorem Tryd.unicode_IsSpace (r : Int) (w : World) (h0 : 0 ≤ r) (h : r ≤ 255) :
    Calls Tryd.prog 41 #[.int .i32 r] w fun e w' => e = .returned (.bool (Lib.isSpaceL r)) ∧ w' = w := Any.unicode_IsSpace Tryd.lays199 r w h0 h
def Tryd.lays197_ren : Go.Shelf.Ren := ⟨fun | 197 => 55 | 260 => 67 | n => n, fun | 9 => 9 | 21 => 21 | 3 => 3 | 4 => 4 | 5 => 5 | 105 => 78 | 119 => 59 | 0 => 0 | 46 => 82 | 139 => 113 | 138 => 112 | n => n, fun | 3 => 5 | 4 => 6 | n => n⟩
theorem Tryd.lays197 : Go.Proofs.Lays.n197 Tryd.prog Tryd.lays197_ren := {
  mixed := by kernel_rfl
  f197 := Tryd.func55.trans (congrArg some (by kernel_rfl))
  f260 := Tryd.func67.trans (congrArg some (by kernel_rfl))
  t0 := Tryd.underlying0
  a0 := Tryd.isAgg0
  z0 := Tryd.sizeOf0
  v0 := Tryd.zeroValue0
  t3 := Tryd.underlying3
  a3 := Tryd.isAgg3
  z3 := Tryd.sizeOf3
  v3 := Tryd.zeroValue3
  t4 := Tryd.underlying4
  a4 := Tryd.isAgg4
  z4 := Tryd.sizeOf4
  v4 := Tryd.zeroValue4
  t5 := Tryd.underlying5
  a5 := Tryd.isAgg5
  z5 := Tryd.sizeOf5
  v5 := Tryd.zeroValue5
  t9 := Tryd.underlying9
  a9 := Tryd.isAgg9
  z9 := Tryd.sizeOf9
  v9 := Tryd.zeroValue9
  t21 := Tryd.underlying21
  a21 := Tryd.isAgg21
  z21 := Tryd.sizeOf21
  v21 := Tryd.zeroValue21
  t46 := Tryd.underlying82
  a46 := Tryd.isAgg82
  z46 := Tryd.sizeOf82
  v46 := Tryd.zeroValue82
  t105 := Tryd.underlying78
  a105 := Tryd.isAgg78
  z105 := Tryd.sizeOf78
  v105 := Tryd.zeroValue78
  t119 := Tryd.underlying59
  a119 := Tryd.isAgg59
  z119 := Tryd.sizeOf59
  t138 := Tryd.underlying112
  a138 := Tryd.isAgg112
  z138 := Tryd.sizeOf112
  v138 := Tryd.zeroValue112
  t139 := Tryd.underlying113
  a139 := Tryd.isAgg113
  z139 := Tryd.sizeOf113
  v139 := Tryd.zeroValue113
  g3 := by kernel_rfl
  g4 := by kernel_rfl }
open Go.RowKit Go.Lib in
/-- unicode/utf8.DecodeRuneInString: "DecodeRuneInString is like DecodeRune but its input is a string.": ("DecodeRune unpacks the first UTF-8 encoding in p and returns the rune and its width in bytes."): WHERE s BEGINS WITH AN ASCII BYTE x: (x, 1). (LAID: no walk: one application.) -/
theorem Tryd.utf8_DecodeRuneInString_ascii (s : ByteArray) (x : UInt8) (w : World) (h0 : s.data.toList[0]? = some x) (hx : x.toNat < 128) :
    Calls Tryd.prog 55 #[.string s] w fun e w' => e = .returned (.tuple #[.int .i32 x.toNat, .int .i64 1]) ∧ w' = w := Any.utf8_DecodeRuneInString_ascii Tryd.lays197 s x w h0 hx
open Go.RowKit Go.Lib in
theorem Tryd.utf8_RuneCountInString_ascii (s : ByteArray) (w : World) (hs : s.size < 4294967281) (hascii : ∀ (j : Nat) b, s.data.toList[j]? = some b → b.toNat < 128) :
    Calls Tryd.prog 54 #[.string s] w fun e w' => e = .returned (.int .i64 s.size) ∧ w' = w.iter s s.size := Any.utf8_RuneCountInString_ascii Tryd.lays195 s w hs hascii
def Tryd.lays268_ren : Go.Shelf.Ren := ⟨fun | 268 => 44 | 195 => 54 | 197 => 55 | 260 => 67 | n => n, fun | 9 => 9 | 3 => 3 | 31 => 36 | 4 => 4 | 105 => 78 | 21 => 21 | 0 => 0 | 5 => 5 | 119 => 59 | 46 => 82 | 139 => 113 | 138 => 112 | n => n, fun | 3 => 5 | 4 => 6 | n => n⟩
theorem Tryd.lays268 : Go.Proofs.Lays.n268 Tryd.prog Tryd.lays268_ren := {
  mixed := by kernel_rfl
  f195 := Tryd.func54.trans (congrArg some (by kernel_rfl))
  f197 := Tryd.func55.trans (congrArg some (by kernel_rfl))
  f260 := Tryd.func67.trans (congrArg some (by kernel_rfl))
  f268 := Tryd.func44.trans (congrArg some (by kernel_rfl))
  t0 := Tryd.underlying0
  a0 := Tryd.isAgg0
  z0 := Tryd.sizeOf0
  v0 := Tryd.zeroValue0
  t3 := Tryd.underlying3
  a3 := Tryd.isAgg3
  z3 := Tryd.sizeOf3
  v3 := Tryd.zeroValue3
  t4 := Tryd.underlying4
  a4 := Tryd.isAgg4
  z4 := Tryd.sizeOf4
  v4 := Tryd.zeroValue4
  t5 := Tryd.underlying5
  a5 := Tryd.isAgg5
  z5 := Tryd.sizeOf5
  v5 := Tryd.zeroValue5
  t9 := Tryd.underlying9
  a9 := Tryd.isAgg9
  z9 := Tryd.sizeOf9
  v9 := Tryd.zeroValue9
  t21 := Tryd.underlying21
  a21 := Tryd.isAgg21
  z21 := Tryd.sizeOf21
  v21 := Tryd.zeroValue21
  t31 := Tryd.underlying36
  a31 := Tryd.isAgg36
  z31 := Tryd.sizeOf36
  v31 := Tryd.zeroValue36
  t46 := Tryd.underlying82
  a46 := Tryd.isAgg82
  z46 := Tryd.sizeOf82
  v46 := Tryd.zeroValue82
  t105 := Tryd.underlying78
  a105 := Tryd.isAgg78
  z105 := Tryd.sizeOf78
  v105 := Tryd.zeroValue78
  t119 := Tryd.underlying59
  a119 := Tryd.isAgg59
  z119 := Tryd.sizeOf59
  t138 := Tryd.underlying112
  a138 := Tryd.isAgg112
  z138 := Tryd.sizeOf112
  v138 := Tryd.zeroValue112
  t139 := Tryd.underlying113
  a139 := Tryd.isAgg113
  z139 := Tryd.sizeOf113
  v139 := Tryd.zeroValue113
  g3 := by kernel_rfl
  g4 := by kernel_rfl }
open Go.RowKit Go.Lib in
theorem Tryd.strings_explode_all (s : ByteArray) (n : Int) (w : World) (hn : n < 0) (hs : s.size < 4294967281) (hascii : ∀ (j : Nat) b, s.data.toList[j]? = some b → b.toNat < 128) :
    Calls Tryd.prog 44 #[.string s, .int .i64 n] w fun e w' =>
      e = .returned (.slice (some ⟨(w.iter s s.size).heap.size, 0, none⟩) s.size s.size) ∧ w' = (w.iter s s.size).alloc (.cells ((Lib.charsB s).map Value.string).toArray 9) := Any.strings_explode_all Tryd.lays268 (by kernel_rfl) s n w hn hs hascii
open Go.RowKit Go.Lib in
/-- strings.genSplit at sep == "", n < 0: 'return explode(s, n)'. (LAID: no walk: one application.) -/
theorem Tryd.strings_genSplit_chars (s sep : ByteArray) (sv n : Int) (w : World) (h0 : sep.size = 0) (hn : n < 0) (hs : s.size < 4294967281) (hascii : ∀ (j : Nat) b, s.data.toList[j]? = some b → b.toNat < 128) :
    Calls Tryd.prog 38 #[.string s, .string sep, .int .i64 sv, .int .i64 n] w fun e w' =>
      e = .returned (.slice (some ⟨(w.iter s s.size).heap.size, 0, none⟩) s.size s.size) ∧ w' = (w.iter s s.size).alloc (.cells ((Lib.charsB s).map Value.string).toArray 9) := Any.strings_genSplit_chars Tryd.lays221 (by kernel_rfl) s sep sv n w h0 hn hs hascii
open Go.RowKit Go.Lib in
/-- strings.Split(s, ""), s ASCII: a piece a byte. (LAID: no walk: one application.) -/
theorem Tryd.strings_Split_chars (s sep : ByteArray) (w : World) (h0 : sep.size = 0) (hs : s.size < 4294967281) (hascii : ∀ (j : Nat) b, s.data.toList[j]? = some b → b.toNat < 128) :
    Calls Tryd.prog 30 #[.string s, .string sep] w fun e w' =>
      e = .returned (.slice (some ⟨(w.iter s s.size).heap.size, 0, none⟩) s.size s.size) ∧ w' = (w.iter s s.size).alloc (.cells ((Lib.charsB s).map Value.string).toArray 9) := Any.strings_Split_chars Tryd.lays146 (by kernel_rfl) s sep w h0 hs hascii
def Tryd.lays260_ren : Go.Shelf.Ren := ⟨fun | 260 => 67 | n => n, fun | 9 => 9 | 21 => 21 | 3 => 3 | 4 => 4 | 5 => 5 | 119 => 59 | 0 => 0 | 46 => 82 | 139 => 113 | 138 => 112 | n => n, fun | 3 => 5 | 4 => 6 | n => n⟩
theorem Tryd.lays260 : Go.Proofs.Lays.n260 Tryd.prog Tryd.lays260_ren := {
  mixed := by kernel_rfl
  f260 := Tryd.func67.trans (congrArg some (by kernel_rfl))
  t0 := Tryd.underlying0
  a0 := Tryd.isAgg0
  z0 := Tryd.sizeOf0
  v0 := Tryd.zeroValue0
  t3 := Tryd.underlying3
  a3 := Tryd.isAgg3
  z3 := Tryd.sizeOf3
  v3 := Tryd.zeroValue3
  t4 := Tryd.underlying4
  a4 := Tryd.isAgg4
  z4 := Tryd.sizeOf4
  v4 := Tryd.zeroValue4
  t5 := Tryd.underlying5
  a5 := Tryd.isAgg5
  z5 := Tryd.sizeOf5
  v5 := Tryd.zeroValue5
  t9 := Tryd.underlying9
  a9 := Tryd.isAgg9
  z9 := Tryd.sizeOf9
  v9 := Tryd.zeroValue9
  t21 := Tryd.underlying21
  a21 := Tryd.isAgg21
  z21 := Tryd.sizeOf21
  v21 := Tryd.zeroValue21
  t46 := Tryd.underlying82
  a46 := Tryd.isAgg82
  z46 := Tryd.sizeOf82
  v46 := Tryd.zeroValue82
  t119 := Tryd.underlying59
  a119 := Tryd.isAgg59
  z119 := Tryd.sizeOf59
  t138 := Tryd.underlying112
  a138 := Tryd.isAgg112
  z138 := Tryd.sizeOf112
  v138 := Tryd.zeroValue112
  t139 := Tryd.underlying113
  a139 := Tryd.isAgg113
  z139 := Tryd.sizeOf113
  v139 := Tryd.zeroValue113
  g3 := by kernel_rfl
  g4 := by kernel_rfl }
open Go.RowKit Go.Lib in
theorem Tryd.utf8_decodeRuneInStringSlow (s : ByteArray) (w : World) (hT : Lib.Utf8Tabs 5 6 w) :
    Calls Tryd.prog 67 #[.string s] w fun e w' => e = .returned (.tuple #[.int .i32 (Lib.decodeGo s).1, .int .i64 (Lib.decodeGo s).2]) ∧ Below w.heap.size w w' := Any.utf8_decodeRuneInStringSlow Tryd.lays260 s w hT
open Go.RowKit Go.Lib in
/-- **unicode/utf8.DecodeRuneInString AT EVERY STRING.** (LAID: no walk: one application.) -/
theorem Tryd.utf8_DecodeRuneInString (s : ByteArray) (w : World) (hT : Lib.Utf8Tabs 5 6 w) :
    Calls Tryd.prog 55 #[.string s] w fun e w' => e = .returned (.tuple #[.int .i32 (Lib.decodeGo s).1, .int .i64 (Lib.decodeGo s).2]) ∧ Below w.heap.size w w' := Any.utf8_DecodeRuneInString Tryd.lays197 s w hT
def Tryd.lays311_ren : Go.Shelf.Ren := ⟨fun | 311 => 61 | n => n, fun | 193 => 83 | 49 => 87 | 4 => 4 | 3 => 3 | 0 => 0 | 226 => 104 | 198 => 89 | 46 => 82 | n => n, fun | n => n⟩
theorem Tryd.lays311 : Go.Proofs.Lays.n311 Tryd.prog Tryd.lays311_ren := {
  mixed := by kernel_rfl
  f311 := Tryd.func61.trans (congrArg some (by kernel_rfl))
  t0 := Tryd.underlying0
  a0 := Tryd.isAgg0
  z0 := Tryd.sizeOf0
  v0 := Tryd.zeroValue0
  t3 := Tryd.underlying3
  a3 := Tryd.isAgg3
  z3 := Tryd.sizeOf3
  v3 := Tryd.zeroValue3
  t4 := Tryd.underlying4
  a4 := Tryd.isAgg4
  z4 := Tryd.sizeOf4
  v4 := Tryd.zeroValue4
  t46 := Tryd.underlying82
  a46 := Tryd.isAgg82
  z46 := Tryd.sizeOf82
  v46 := Tryd.zeroValue82
  t49 := Tryd.underlying87
  a49 := Tryd.isAgg87
  z49 := Tryd.sizeOf87
  v49 := Tryd.zeroValue87
  t193 := Tryd.underlying83
  a193 := Tryd.isAgg83
  z193 := Tryd.sizeOf83
  v193 := Tryd.zeroValue83
  t198 := Tryd.underlying89
  a198 := Tryd.isAgg89
  z198 := Tryd.sizeOf89
  v198 := Tryd.zeroValue89
  t226 := Tryd.underlying104
  a226 := Tryd.isAgg104
  z226 := Tryd.sizeOf104
  v226 := Tryd.zeroValue104 }
open Go.RowKit Go.Lib in
theorem Tryd.unicode_is16_white (R oR : Nat) (z : Nat) (w : World) (hz : z < 65536) (hz0 : 255 < z) (c6 : w.cell? ⟨R, oR + 6, none⟩ = some (.int .u16 160)) (c7 : w.cell? ⟨R, oR + 7, none⟩ = some (.int .u16 5760)) (c8 : w.cell? ⟨R, oR + 8, none⟩ = some (.int .u16 5600)) (c9 : w.cell? ⟨R, oR + 9, none⟩ = some (.int .u16 8192)) (c10 : w.cell? ⟨R, oR + 10, none⟩ = some (.int .u16 8202)) (c11 : w.cell? ⟨R, oR + 11, none⟩ = some (.int .u16 1)) (c12 : w.cell? ⟨R, oR + 12, none⟩ = some (.int .u16 8232)) (c13 : w.cell? ⟨R, oR + 13, none⟩ = some (.int .u16 8233)) (c14 : w.cell? ⟨R, oR + 14, none⟩ = some (.int .u16 1)) (c15 : w.cell? ⟨R, oR + 15, none⟩ = some (.int .u16 8239)) (c16 : w.cell? ⟨R, oR + 16, none⟩ = some (.int .u16 8287)) (c17 : w.cell? ⟨R, oR + 17, none⟩ = some (.int .u16 48)) (c18 : w.cell? ⟨R, oR + 18, none⟩ = some (.int .u16 12288)) (c19 : w.cell? ⟨R, oR + 19, none⟩ = some (.int .u16 12288)) (c20 : w.cell? ⟨R, oR + 20, none⟩ = some (.int .u16 1)) :
    Calls Tryd.prog 61 #[.slice (some ⟨R, oR + 6, none⟩) 5 5, .int .u16 z] w fun e w' => e = .returned (.bool (Lib.isSpaceR z)) ∧ Below w.heap.size w w' := Any.unicode_is16_white Tryd.lays311 R oR z w hz hz0 c6 c7 c8 c9 c10 c11 c12 c13 c14 c15 c16 c17 c18 c19 c20
def Tryd.lays261_ren : Go.Shelf.Ren := ⟨fun | 261 => 48 | 311 => 61 | 312 => 62 | n => n, fun | 141 => 70 | 21 => 21 | 4 => 4 | 0 => 0 | 196 => 86 | 193 => 83 | 3 => 3 | 51 => 68 | 198 => 89 | 49 => 87 | 194 => 84 | 201 => 92 | 226 => 104 | 46 => 82 | 227 => 105 | n => n, fun | n => n⟩
theorem Tryd.lays261 : Go.Proofs.Lays.n261 Tryd.prog Tryd.lays261_ren := {
  mixed := by kernel_rfl
  f261 := Tryd.func48.trans (congrArg some (by kernel_rfl))
  f311 := Tryd.func61.trans (congrArg some (by kernel_rfl))
  f312 := Tryd.func62.trans (congrArg some (by kernel_rfl))
  t0 := Tryd.underlying0
  a0 := Tryd.isAgg0
  z0 := Tryd.sizeOf0
  v0 := Tryd.zeroValue0
  t3 := Tryd.underlying3
  a3 := Tryd.isAgg3
  z3 := Tryd.sizeOf3
  v3 := Tryd.zeroValue3
  t4 := Tryd.underlying4
  a4 := Tryd.isAgg4
  z4 := Tryd.sizeOf4
  v4 := Tryd.zeroValue4
  t21 := Tryd.underlying21
  a21 := Tryd.isAgg21
  z21 := Tryd.sizeOf21
  v21 := Tryd.zeroValue21
  t46 := Tryd.underlying82
  a46 := Tryd.isAgg82
  z46 := Tryd.sizeOf82
  v46 := Tryd.zeroValue82
  t49 := Tryd.underlying87
  a49 := Tryd.isAgg87
  z49 := Tryd.sizeOf87
  v49 := Tryd.zeroValue87
  t51 := Tryd.underlying68
  a51 := Tryd.isAgg68
  z51 := Tryd.sizeOf68
  v51 := Tryd.zeroValue68
  t141 := Tryd.underlying70
  a141 := Tryd.isAgg70
  z141 := Tryd.sizeOf70
  v141 := Tryd.zeroValue70
  t193 := Tryd.underlying83
  a193 := Tryd.isAgg83
  z193 := Tryd.sizeOf83
  v193 := Tryd.zeroValue83
  t194 := Tryd.underlying84
  a194 := Tryd.isAgg84
  z194 := Tryd.sizeOf84
  v194 := Tryd.zeroValue84
  t196 := Tryd.underlying86
  a196 := Tryd.isAgg86
  z196 := Tryd.sizeOf86
  v196 := Tryd.zeroValue86
  t198 := Tryd.underlying89
  a198 := Tryd.isAgg89
  z198 := Tryd.sizeOf89
  v198 := Tryd.zeroValue89
  t201 := Tryd.underlying92
  a201 := Tryd.isAgg92
  z201 := Tryd.sizeOf92
  v201 := Tryd.zeroValue92
  t226 := Tryd.underlying104
  a226 := Tryd.isAgg104
  z226 := Tryd.sizeOf104
  v226 := Tryd.zeroValue104
  t227 := Tryd.underlying105
  a227 := Tryd.isAgg105
  z227 := Tryd.sizeOf105
  v227 := Tryd.zeroValue105 }
open Go.RowKit Go.Lib in
/-- unicode.isExcludingLatin(White_Space, r), r beyond U+00FF or negative. (LAID: no walk: one application.) -/
theorem Tryd.unicode_isExcludingLatin_white (T oT R oR : Nat) (r : Int) (w : World) (hlo : -2147483648 ≤ r) (hhi : r ≤ 2147483647) (hr : r < 0 ∨ 255 < r) (h2 : w.cell? ⟨T, oT, none⟩ = some (.slice (some ⟨R, oR, none⟩) 7 7)) (h3 : w.cell? ⟨T, oT + 1, none⟩ = some (.slice none 0 0)) (h4 : w.cell? ⟨T, oT + 2, none⟩ = some (.int .i64 2)) (h5 : ∀ i, i < 21 → w.cell? ⟨R, oR + i, none⟩ = some (.int .u16 (whiteT.getD i 0))) :
    Calls Tryd.prog 48 #[.pointer (some ⟨T, oT, none⟩), .int .i32 r] w fun e w' => e = .returned (.bool (Lib.isSpaceZ r)) ∧ Below w.heap.size w w' := Any.unicode_isExcludingLatin_white Tryd.lays261 T oT R oR r w hlo hhi hr h2 h3 h4 h5
open Go.RowKit Go.Lib in
/-- **unicode.IsSpace AT EVERY int32.** (LAID: no walk: one application.) -/
theorem Tryd.unicode_IsSpace_any (r : Int) (w : World) (hlo : -2147483648 ≤ r) (hhi : r ≤ 2147483647) (hW : Lib.WhiteTab 1 w) :
    Calls Tryd.prog 41 #[.int .i32 r] w fun e w' => e = .returned (.bool (Lib.isSpaceZ r)) ∧ Below w.heap.size w w' := Any.unicode_IsSpace_any Tryd.lays199 r w hlo hhi hW
open Go.RowKit Go.Lib in
theorem Tryd.unicode_is16_any (T : Array Rg) (R oR cap : Nat) (z : Nat) (w : World) (hz : z < 65536) (hT : RgTab .u16 R oR T w) (hok : RgOk 65536 T) (hn : T.size ≤ 1000000000) :
    Calls Tryd.prog 61 #[.slice (some ⟨R, oR, none⟩) T.size cap, .int .u16 z] w fun e w' => e = .returned (.bool (is16Go T z)) ∧ ∃ q, w' = w.drewN q := Any.unicode_is16_any Tryd.lays311 T R oR cap z w hz hT hok hn
def Tryd.lays312_ren : Go.Shelf.Ren := ⟨fun | 312 => 62 | n => n, fun | 194 => 84 | 51 => 68 | 4 => 4 | 3 => 3 | 0 => 0 | 227 => 105 | 201 => 92 | 46 => 82 | n => n, fun | n => n⟩
theorem Tryd.lays312 : Go.Proofs.Lays.n312 Tryd.prog Tryd.lays312_ren := {
  mixed := by kernel_rfl
  f312 := Tryd.func62.trans (congrArg some (by kernel_rfl))
  t0 := Tryd.underlying0
  a0 := Tryd.isAgg0
  z0 := Tryd.sizeOf0
  v0 := Tryd.zeroValue0
  t3 := Tryd.underlying3
  a3 := Tryd.isAgg3
  z3 := Tryd.sizeOf3
  v3 := Tryd.zeroValue3
  t4 := Tryd.underlying4
  a4 := Tryd.isAgg4
  z4 := Tryd.sizeOf4
  v4 := Tryd.zeroValue4
  t46 := Tryd.underlying82
  a46 := Tryd.isAgg82
  z46 := Tryd.sizeOf82
  v46 := Tryd.zeroValue82
  t51 := Tryd.underlying68
  a51 := Tryd.isAgg68
  z51 := Tryd.sizeOf68
  v51 := Tryd.zeroValue68
  t194 := Tryd.underlying84
  a194 := Tryd.isAgg84
  z194 := Tryd.sizeOf84
  v194 := Tryd.zeroValue84
  t201 := Tryd.underlying92
  a201 := Tryd.isAgg92
  z201 := Tryd.sizeOf92
  v201 := Tryd.zeroValue92
  t227 := Tryd.underlying105
  a227 := Tryd.isAgg105
  z227 := Tryd.sizeOf105
  v227 := Tryd.zeroValue105 }
open Go.RowKit Go.Lib in
theorem Tryd.unicode_is32_any (T : Array Rg) (R oR cap : Nat) (z : Nat) (w : World) (hz : z < 4294967296) (hT : RgTab .u32 R oR T w) (hok : RgOk 4294967296 T) (hn : T.size ≤ 1000000000) :
    Calls Tryd.prog 62 #[.slice (some ⟨R, oR, none⟩) T.size cap, .int .u32 z] w fun e w' => e = .returned (.bool (is32Go T z)) ∧ Below w.heap.size w w' := Any.unicode_is32_any Tryd.lays312 T R oR cap z w hz hT hok hn
open Go.RowKit Go.Lib in
theorem Tryd.unicode_isExcludingLatin_any (Tb oT : Nat) (T : RTab) (r : Int) (w : World) (hlo : -2147483648 ≤ r) (hhi : r ≤ 2147483647) (hA : RTabAt Tb oT T w) (hok : RTabOk T) :
    Calls Tryd.prog 48 #[.pointer (some ⟨Tb, oT, none⟩), .int .i32 r] w fun e w' => e = .returned (.bool (exclGo T r)) ∧ Below w.heap.size w w' := Any.unicode_isExcludingLatin_any Tryd.lays261 Tb oT T r w hlo hhi hA hok
end Go.Proofs
end

section
/-
YtjlagiolgpjglaaDoor: functions of strings and strconv by the shelf: finding a byte, counting a byte, fields, numbers. No condition.
-/
open Go Go.AM
namespace Go.Proofs.YtjlagiolgpjglaaDoor
noncomputable section
def stringslite_IndexByte (s : ByteArray) (c : Int) : Option ((Int × Unit) × Unit) := some ((Lib.indexByte s.data.toList c.toNat.toUInt8, ()), ())
def fc57 : FC := ⟨⟨[.one .str, .one (.int .u8)], []⟩, ⟨[.one (.int .i64)], []⟩, fun x => stringslite_IndexByte x.1.1 x.1.2.1⟩
theorem con57 : Contract Tryd.prog 57 fc57 :=
  Contract.still (P := Tryd.prog) (f := 57) (sa := [.one .str, .one (.int .u8)]) (sr := [.one (.int .i64)]) (fn := Tryd.f57) (c := Tryd.f57.body.getD .skip) (by kernel_rfl) (by kernel_rfl) (by kernel_rfl) (g := fun x => some (Lib.indexByte x.1.data.toList x.2.1.toNat.toUInt8, ())) (fun w M G x y vals hI hv hg => by
    obtain ⟨s, c, u⟩ := x
    obtain ⟨vs⟩ := vals
    match vs, hv with
    | [v1, v2], hv =>
      obtain ⟨⟨rfl, _⟩, ⟨rfl, _⟩, _⟩ := hv
      cases hg
      refine (Tryd.stringslite_IndexByte s c w).mono ?_
      rintro e w' ⟨rfl, rfl⟩
      exact ⟨_, rfl, rfl, rfl, rfl⟩)

def countG (s sub : ByteArray) : Option (Int × Unit) := if sub.size = 1 then some ((Lib.countByte s.data.toList (sub.data.toList.headD 0) : Nat), ()) else none
def strings_Count (s sub : ByteArray) : Option ((Int × Unit) × Unit) := (countG s sub).bind fun y => some (y, ())
def fc45 : FC := ⟨⟨[.one .str, .one .str], []⟩, ⟨[.one (.int .i64)], []⟩, fun x => strings_Count x.1.1 x.1.2.1⟩
theorem con45 : Contract Tryd.prog 45 fc45 :=
  Contract.still (P := Tryd.prog) (f := 45) (sa := [.one .str, .one .str]) (sr := [.one (.int .i64)]) (fn := Tryd.f45) (c := Tryd.f45.body.getD .skip) (by kernel_rfl) (by kernel_rfl) (by kernel_rfl) (g := fun x => countG x.1 x.2.1) (fun w M G x y vals hI hv hg => by
    obtain ⟨s, sub, u⟩ := x
    obtain ⟨vs⟩ := vals
    match vs, hv with
    | [v1, v2], hv =>
      obtain ⟨⟨rfl, _⟩, ⟨rfl, _⟩, _⟩ := hv
      have hg' : countG s sub = some y := hg
      unfold countG at hg'
      split at hg'
      · rename_i h1
        cases hg'
        obtain ⟨c, rfl⟩ := Lib.one_byte sub h1
        refine (Tryd.strings_Count_one s c w).mono ?_
        rintro e w' ⟨rfl, rfl⟩
        exact ⟨_, rfl, rfl, rfl, rfl⟩
      · cases hg')

def fieldsG (s : ByteArray) : Option (List ByteArray) := if s.size < 4294967281 ∧ (s.data.toList.all fun b => decide (b.toNat < 128)) = true ∧ (Lib.fields s.data.toList).length ≤ 1000000 then some ((Lib.fields s.data.toList).map fun l => ⟨l.toArray⟩) else none
def strings_Fields (s : ByteArray) : Option ((Unit × Unit) × (List ByteArray) × Unit) := (fieldsG s).bind fun y => some (((), ()), (y, ()))
def fc36 : FC := ⟨⟨[.one .str], []⟩, ⟨[.one (.own 0)], [.arr 9 .str true]⟩, fun x => strings_Fields x.1.1⟩
theorem con36 : Contract Tryd.prog 36 fc36 :=
  Contract.made (P := Tryd.prog) (f := 36) (sa := [.one .str]) (te := 9) (fn := Tryd.f36) (c := Tryd.f36.body.getD .skip) (by kernel_rfl) (by kernel_rfl) (by kernel_rfl) (g := fun x => fieldsG x.1) (fun x y hg => by
    unfold fieldsG at hg
    split at hg
    · rename_i h
      cases hg
      rw [List.length_map]
      exact Nat.le_trans h.2.2 (by decide)
    · cases hg) (fun w M G x y vals hI hv hg => by
    obtain ⟨s, u⟩ := x
    obtain ⟨vs⟩ := vals
    match vs, hv with
    | [v1], hv =>
      obtain ⟨⟨rfl, _⟩, _⟩ := hv
      have hg' : fieldsG s = some y := hg
      unfold fieldsG at hg'
      split at hg'
      · rename_i h
        cases hg'
        refine (Tryd.strings_Fields s w h.1 (fun j b hb => by
          have := List.all_eq_true.1 h.2.1 b (List.mem_of_getElem? hb)
          simpa using this) (zone_tab (hI.zone _ _ zone_sp))).mono ?_
        rintro e w' ⟨rfl, rfl⟩
        rw [List.length_map, List.map_map]
        exact ⟨rfl, rfl⟩
      · cases hg'
    | [], hv => exact hv.elim
    | _ :: _ :: _, hv => exact hv.2.elim)

def atoiG (s : ByteArray) : Option (Int × Unit × Unit) := if s.size ≤ 18 then (Lib.atoi s.data.toList).bind fun n => some (n, (), ()) else none
def strconv_Atoi (s : ByteArray) : Option ((Int × Unit × Unit) × Unit) := (atoiG s).bind fun y => some (y, ())
def fc37 : FC := ⟨⟨[.one .str], []⟩, ⟨[.one (.int .i64), .one .inil], []⟩, fun x => strconv_Atoi x.1.1⟩
theorem con37 : Contract Tryd.prog 37 fc37 :=
  Contract.below (P := Tryd.prog) (f := 37) (sa := [.one .str]) (sr := [.one (.int .i64), .one .inil]) (fn := Tryd.f37) (c := Tryd.f37.body.getD .skip) (by kernel_rfl) (by kernel_rfl) (by kernel_rfl) (g := fun x => atoiG x.1) (fun w M G x y vals hI hv hg => by
    obtain ⟨s, u⟩ := x
    obtain ⟨vs⟩ := vals
    match vs, hv with
    | [v1], hv =>
      obtain ⟨⟨rfl, _⟩, _⟩ := hv
      have hg' : atoiG s = some y := hg
      unfold atoiG at hg'
      split at hg'
      · rename_i h
        cases hn : Lib.atoi s.data.toList with
        | none => rw [hn] at hg'; cases hg'
        | some n =>
          rw [hn] at hg'
          cases hg'
          refine (Tryd.strconv_Atoi s n h hn w).mono ?_
          rintro e w' ⟨rfl, t, rfl⟩
          exact ⟨_, rfl, Joins.below_bytesWorld _ _ _ _ (Nat.le_refl _), _, rfl, ⟨rfl, rfl⟩, ⟨rfl, rfl⟩, trivial⟩
      · cases hg'
    | [], hv => exact hv.elim
    | _ :: _ :: _, hv => exact hv.2.elim)
end
end Go.Proofs.YtjlagiolgpjglaaDoor
end

section
/-
YtjlagiolgpjglaaDoor: internal.stringslite.Index, as one plain function, its equations, its contract. No condition.
-/
set_option maxRecDepth 100000
set_option linter.unusedVariables false
set_option maxHeartbeats 4000000
open Go Go.AM
namespace Go.Proofs.YtjlagiolgpjglaaDoor
noncomputable section
def stringslite_Index_D : FD := ⟨T, lookC [(57, fc57), (59, fc59), (60, fc60)], [20], (Tryd.f47.body.getD .skip), Tryd.f47.results.toList, ⟨[.one .str, .one .str], []⟩, ⟨[.one (.int .i64)], []⟩, []⟩
def stringslite_Index (s : ByteArray) (substr : ByteArray) : (Option ((Int × Unit) × Unit)) :=
  if ((substr.size : Int) == 0) = true then
    some ((0, ()), ())
  else
    if (substr.toList == s.toList) = true then
      some ((0, ()), ())
    else
      if ((substr.size : Int) == 1) = true then
        if 0 ≤ (0 : Int) ∧ 0 < (substr.size : Int) then
          (stringslite_IndexByte s (bt substr 0)).bind fun y1 =>
            some ((y1.1.1, ()), ())
        else
          none
      else
        if (decide ((substr.size : Int) ≥ (s.size : Int))) = true then
          some (((-1), ()), ())
        else
          none
def fc47 : FC := ⟨⟨[.one .str, .one .str], []⟩, ⟨[.one (.int .i64)], []⟩, fun x => stringslite_Index x.1.1 x.1.2.1⟩
theorem con47 : Contract Tryd.prog 47 fc47 :=
  stringslite_Index_D.contract tok (cok_of (l := [(57, fc57), (59, fc59), (60, fc60)]) ⟨con57, con59, con60, trivial⟩) mixed (fn' := Tryd.f47) (by kernel_rfl) (by kernel_rfl) rfl (by kernel_rfl) (fun x => (FD.fn_eq _ _).trans (by kernel_rfl))
end
end Go.Proofs.YtjlagiolgpjglaaDoor
end

section
/-
YtjlagiolgpjglaaDoor: strings.Index, as one plain function, its equations, its contract. No condition.
-/
set_option maxRecDepth 100000
set_option linter.unusedVariables false
set_option maxHeartbeats 4000000
open Go Go.AM
namespace Go.Proofs.YtjlagiolgpjglaaDoor
noncomputable section
def strings_Index_D : FD := ⟨T, lookC [(47, fc47)], [], (Tryd.f46.body.getD .skip), Tryd.f46.results.toList, ⟨[.one .str, .one .str], []⟩, ⟨[.one (.int .i64)], []⟩, []⟩
def strings_Index (s : ByteArray) (substr : ByteArray) : (Option ((Int × Unit) × Unit)) :=
  (stringslite_Index s substr).bind fun y1 =>
    some ((y1.1.1, ()), ())
def fc46 : FC := ⟨⟨[.one .str, .one .str], []⟩, ⟨[.one (.int .i64)], []⟩, fun x => strings_Index x.1.1 x.1.2.1⟩
theorem con46 : Contract Tryd.prog 46 fc46 :=
  strings_Index_D.contract tok (cok_of (l := [(47, fc47)]) ⟨con47, trivial⟩) mixed (fn' := Tryd.f46) (by kernel_rfl) (by kernel_rfl) rfl (by kernel_rfl) (fun x => (FD.fn_eq _ _).trans (by kernel_rfl))
end
end Go.Proofs.YtjlagiolgpjglaaDoor
end

section
/-
YtjlagiolgpjglaaDoor: strings.genSplit, as one plain function, its equations, its contract. No condition.
-/
set_option maxRecDepth 100000
set_option linter.unusedVariables false
set_option maxHeartbeats 4000000
open Go Go.AM
namespace Go.Proofs.YtjlagiolgpjglaaDoor
noncomputable section
def strings_genSplit_F7 : FSh := ⟨[(0, .one .str), (1, .one .str), (2, .one (.int .i64)), (3, .one (.int .i64))], []⟩
def strings_genSplit_F13 : FSh := ⟨[(0, .one .str), (9, .one (.own 0)), (10, .one (.int .i64))], [.arr 9 .str true]⟩
def strings_genSplit_F14 : FSh := ⟨[(0, .one .str), (1, .one .str), (2, .one (.int .i64)), (3, .one (.int .i64)), (9, .one (.own 0)), (10, .one (.int .i64))], [.arr 9 .str true]⟩
def strings_genSplit_D : FD := ⟨T, lookC [(44, fc44), (45, fc45), (46, fc46)], [13, 7], (Tryd.f38.body.getD .skip), Tryd.f38.results.toList, ⟨[.one .str, .one .str, .one (.int .i64), .one (.int .i64)], []⟩, ⟨[.one (.sl .str)], []⟩, [(7, strings_genSplit_F7), (13, strings_genSplit_F13), (14, strings_genSplit_F14)]⟩
def strings_genSplit_l7 (s : ByteArray) (sep : ByteArray) (sepSave : Int) (n : Int) : (Option (((List ByteArray) × Unit) × Unit)) := strings_genSplit_D.lab 7 strings_genSplit_F7 ((s, sep, sepSave, n, ()), ())
def strings_genSplit_l13 (s : ByteArray) (i : Int) (l0 : (List ByteArray)) : (Option (((List ByteArray) × Unit) × Unit)) := strings_genSplit_D.lab 13 strings_genSplit_F13 ((s, (), i, ()), (l0, ()))
def strings_genSplit_l14 (s : ByteArray) (sep : ByteArray) (sepSave : Int) (n : Int) (i : Int) (l0 : (List ByteArray)) : (Option (((List ByteArray) × Unit) × Unit)) := strings_genSplit_D.lab 14 strings_genSplit_F14 ((s, sep, sepSave, n, (), i, ()), (l0, ()))
theorem strings_genSplit_l7_eq (s : ByteArray) (sep : ByteArray) (sepSave : Int) (n : Int) : strings_genSplit_l7 s sep sepSave n =
  if ((if IntKind.i64.wrap ((s.size : Int) + 1) < n then IntKind.i64.wrap ((s.size : Int) + 1) else n) = 0 ∨ (if IntKind.i64.wrap ((s.size : Int) + 1) < n then IntKind.i64.wrap ((s.size : Int) + 1) else n) = (if IntKind.i64.wrap ((s.size : Int) + 1) < n then IntKind.i64.wrap ((s.size : Int) + 1) else n)) ∧ 0 ≤ (if IntKind.i64.wrap ((s.size : Int) + 1) < n then IntKind.i64.wrap ((s.size : Int) + 1) else n) ∧ ((if IntKind.i64.wrap ((s.size : Int) + 1) < n then IntKind.i64.wrap ((s.size : Int) + 1) else n)) * 16 ≤ 140737488355328 ∧ 0 < 16 then
    strings_genSplit_l14 s sep sepSave (IntKind.i64.wrap (((if IntKind.i64.wrap ((s.size : Int) + 1) < n then IntKind.i64.wrap ((s.size : Int) + 1) else n)) - 1)) 0 (List.replicate ((if IntKind.i64.wrap ((s.size : Int) + 1) < n then IntKind.i64.wrap ((s.size : Int) + 1) else n)).toNat (strB []))
  else
    none := (FD.lab_eq _ _ _ _).trans (by kernel_rfl)
theorem strings_genSplit_l13_eq (s : ByteArray) (i : Int) (l0 : (List ByteArray)) : strings_genSplit_l13 s i l0 =
  if 0 ≤ i ∧ i < (l0.length : Int) then
    if 0 ≤ (0 : Int) ∧ (0 : Int) ≤ IntKind.i64.wrap (i + 1) ∧ IntKind.i64.wrap (i + 1) ≤ ((l0.set i.toNat s).length : Int) then
      some (((l0.set i.toNat s).take (IntKind.i64.wrap (i + 1)).toNat, ()), ())
    else
      none
  else
    none := (FD.lab_eq _ _ _ _).trans (by kernel_rfl)
theorem strings_genSplit_l14_eq (s : ByteArray) (sep : ByteArray) (sepSave : Int) (n : Int) (i : Int) (l0 : (List ByteArray)) : strings_genSplit_l14 s sep sepSave n i l0 =
  if (decide (i < n)) = true then
    (strings_Index s sep).bind fun y1 =>
      if (decide (y1.1.1 < 0)) = true then
        strings_genSplit_l13 s i l0
      else
        if 0 ≤ (0 : Int) ∧ (0 : Int) ≤ IntKind.i64.wrap (y1.1.1 + sepSave) ∧ IntKind.i64.wrap (y1.1.1 + sepSave) ≤ (s.size : Int) then
          if 0 ≤ i ∧ i < (l0.length : Int) then
            if 0 ≤ IntKind.i64.wrap (y1.1.1 + (sep.size : Int)) ∧ IntKind.i64.wrap (y1.1.1 + (sep.size : Int)) ≤ (s.size : Int) then
              strings_genSplit_l14 (s.extract (IntKind.i64.wrap (y1.1.1 + (sep.size : Int))).toNat s.size) sep sepSave n (IntKind.i64.wrap (i + 1)) (l0.set i.toNat (s.extract 0 (IntKind.i64.wrap (y1.1.1 + sepSave)).toNat))
            else
              none
          else
            none
        else
          none
  else
    strings_genSplit_l13 s i l0 := (FD.lab_eq _ _ _ _).trans (by kernel_rfl)
def strings_genSplit (s : ByteArray) (sep : ByteArray) (sepSave : Int) (n : Int) : (Option (((List ByteArray) × Unit) × Unit)) :=
  if (n == 0) = true then
    some (([], ()), ())
  else
    if (sep.toList == (strB []).toList) = true then
      (strings_explode s n).bind fun y1 =>
        some ((y1.1.1, ()), ())
    else
      if (decide (n < 0)) = true then
        (strings_Count s sep).bind fun y2 =>
          strings_genSplit_l7 s sep sepSave (IntKind.i64.wrap (y2.1.1 + 1))
      else
        strings_genSplit_l7 s sep sepSave n
def fc38 : FC := ⟨⟨[.one .str, .one .str, .one (.int .i64), .one (.int .i64)], []⟩, ⟨[.one (.sl .str)], []⟩, fun x => strings_genSplit x.1.1 x.1.2.1 x.1.2.2.1 x.1.2.2.2.1⟩
theorem con38 : Contract Tryd.prog 38 fc38 :=
  strings_genSplit_D.contract tok (cok_of (l := [(44, fc44), (45, fc45), (46, fc46)]) ⟨con44, con45, con46, trivial⟩) mixed (fn' := Tryd.f38) (by kernel_rfl) (by kernel_rfl) rfl (by kernel_rfl) (fun x => (FD.fn_eq _ _).trans (by kernel_rfl))
end
end Go.Proofs.YtjlagiolgpjglaaDoor
end

section
/-
YtjlagiolgpjglaaDoor: strings.Split, as one plain function, its equations, its contract. No condition.
-/
set_option maxRecDepth 100000
set_option linter.unusedVariables false
set_option maxHeartbeats 4000000
open Go Go.AM
namespace Go.Proofs.YtjlagiolgpjglaaDoor
noncomputable section
def strings_Split_D : FD := ⟨T, lookC [(38, fc38)], [], (Tryd.f30.body.getD .skip), Tryd.f30.results.toList, ⟨[.one .str, .one .str], []⟩, ⟨[.one (.sl .str)], []⟩, []⟩
def strings_Split (s : ByteArray) (sep : ByteArray) : (Option (((List ByteArray) × Unit) × Unit)) :=
  (strings_genSplit s sep 0 (-1)).bind fun y1 =>
    some ((y1.1.1, ()), ())
def fc30 : FC := ⟨⟨[.one .str, .one .str], []⟩, ⟨[.one (.sl .str)], []⟩, fun x => strings_Split x.1.1 x.1.2.1⟩
theorem con30 : Contract Tryd.prog 30 fc30 :=
  strings_Split_D.contract tok (cok_of (l := [(38, fc38)]) ⟨con38, trivial⟩) mixed (fn' := Tryd.f30) (by kernel_rfl) (by kernel_rfl) rfl (by kernel_rfl) (fun x => (FD.fn_eq _ _).trans (by kernel_rfl))
end
end Go.Proofs.YtjlagiolgpjglaaDoor
end

section
/-
YtjlagiolgpjglaaDoor: internal.stringslite.Cut, as one plain function, its equations, its contract. No condition.
-/
set_option maxRecDepth 100000
set_option linter.unusedVariables false
set_option maxHeartbeats 4000000
open Go Go.AM
namespace Go.Proofs.YtjlagiolgpjglaaDoor
noncomputable section
def stringslite_Cut_D : FD := ⟨T, lookC [(47, fc47)], [], (Tryd.f39.body.getD .skip), Tryd.f39.results.toList, ⟨[.one .str, .one .str], []⟩, ⟨[.one .str, .one .str, .one .bool], []⟩, []⟩
def stringslite_Cut (s : ByteArray) (sep : ByteArray) : (Option ((ByteArray × ByteArray × Bool × Unit) × Unit)) :=
  (stringslite_Index s sep).bind fun y1 =>
    if (decide (y1.1.1 ≥ 0)) = true then
      if 0 ≤ (0 : Int) ∧ (0 : Int) ≤ y1.1.1 ∧ y1.1.1 ≤ (s.size : Int) then
        if 0 ≤ IntKind.i64.wrap (y1.1.1 + (sep.size : Int)) ∧ IntKind.i64.wrap (y1.1.1 + (sep.size : Int)) ≤ (s.size : Int) then
          some ((s.extract 0 y1.1.1.toNat, s.extract (IntKind.i64.wrap (y1.1.1 + (sep.size : Int))).toNat s.size, true, ()), ())
        else
          none
      else
        none
    else
      some ((s, (strB []), false, ()), ())
def fc39 : FC := ⟨⟨[.one .str, .one .str], []⟩, ⟨[.one .str, .one .str, .one .bool], []⟩, fun x => stringslite_Cut x.1.1 x.1.2.1⟩
theorem con39 : Contract Tryd.prog 39 fc39 :=
  stringslite_Cut_D.contract tok (cok_of (l := [(47, fc47)]) ⟨con47, trivial⟩) mixed (fn' := Tryd.f39) (by kernel_rfl) (by kernel_rfl) rfl (by kernel_rfl) (fun x => (FD.fn_eq _ _).trans (by kernel_rfl))
end
end Go.Proofs.YtjlagiolgpjglaaDoor
end

section
/-
YtjlagiolgpjglaaDoor: strings.Cut, as one plain function, its equations, its contract. No condition.
-/
set_option maxRecDepth 100000
set_option linter.unusedVariables false
set_option maxHeartbeats 4000000
open Go Go.AM
namespace Go.Proofs.YtjlagiolgpjglaaDoor
noncomputable section
def strings_Cut_D : FD := ⟨T, lookC [(39, fc39)], [], (Tryd.f31.body.getD .skip), Tryd.f31.results.toList, ⟨[.one .str, .one .str], []⟩, ⟨[.one .str, .one .str, .one .bool], []⟩, []⟩
def strings_Cut (s : ByteArray) (sep : ByteArray) : (Option ((ByteArray × ByteArray × Bool × Unit) × Unit)) :=
  (stringslite_Cut s sep).bind fun y1 =>
    some ((y1.1.1, y1.1.2.1, y1.1.2.2.1, ()), ())
def fc31 : FC := ⟨⟨[.one .str, .one .str], []⟩, ⟨[.one .str, .one .str, .one .bool], []⟩, fun x => strings_Cut x.1.1 x.1.2.1⟩
theorem con31 : Contract Tryd.prog 31 fc31 :=
  strings_Cut_D.contract tok (cok_of (l := [(39, fc39)]) ⟨con39, trivial⟩) mixed (fn' := Tryd.f31) (by kernel_rfl) (by kernel_rfl) rfl (by kernel_rfl) (fun x => (FD.fn_eq _ _).trans (by kernel_rfl))
end
end Go.Proofs.YtjlagiolgpjglaaDoor
end

section
/-
YtjlagiolgpjglaaDoor: signalbench.kinds.words, as one plain function, its equations, its contract. No condition.
-/
set_option maxRecDepth 100000
set_option linter.unusedVariables false
set_option maxHeartbeats 4000000
open Go Go.AM
namespace Go.Proofs.YtjlagiolgpjglaaDoor
noncomputable section
def kinds_words_F3 : FSh := ⟨[(0, .one .str), (8, .one (.sl .str)), (9, .one (.int .i64)), (10, .one (.int .i64))], []⟩
def kinds_words_D : FD := ⟨T, lookC [(30, fc30), (31, fc31), (36, fc36)], [], (Tryd.f28.body.getD .skip), Tryd.f28.results.toList, ⟨[.one .str], []⟩, ⟨[.one (.sl .str)], []⟩, [(3, kinds_words_F3)]⟩
def kinds_words_l3 (kind : ByteArray) (t8 : (List ByteArray)) (t9 : Int) (t10 : Int) : (Option (((List ByteArray) × Unit) × Unit)) := kinds_words_D.lab 3 kinds_words_F3 ((kind, t8, t9, t10, ()), ())
theorem kinds_words_l3_eq (kind : ByteArray) (t8 : (List ByteArray)) (t9 : Int) (t10 : Int) : kinds_words_l3 kind t8 t9 t10 =
  if (decide (t10 < t9)) = true then
    if 0 ≤ t10 ∧ t10 < (t8.length : Int) then
      (strings_Cut (t8.getD t10.toNat (strB [])) (strB [32])).bind fun y1 =>
        if (y1.1.1.toList == kind.toList) = true then
          (strings_Fields y1.1.2.1).bind fun y2 =>
            some ((y2.2.1, ()), ())
        else
          kinds_words_l3 kind t8 t9 (IntKind.i64.wrap (t10 + 1))
    else
      none
  else
    some (([], ()), ()) := (FD.lab_eq _ _ _ _).trans (by kernel_rfl)
def kinds_words (kind : ByteArray) : (Option (((List ByteArray) × Unit) × Unit)) :=
  (strings_Split (strB [115, 97, 109, 112, 108, 101, 114, 32, 49, 32, 50, 32, 49, 32, 110, 117, 109, 32, 49, 32, 49, 48, 52, 56, 53, 55, 54, 32, 49, 54, 32, 100, 101, 110, 32, 49, 32, 49, 48, 50, 52, 32, 49, 10, 110, 114, 122, 105, 32, 50, 32, 50, 32, 48, 32, 122, 101, 114, 111, 32, 48, 32, 49, 32, 48, 10, 109, 97, 110, 99, 104, 101, 115, 116, 101, 114, 32, 49, 32, 50, 32, 49, 32, 110, 117, 109, 32, 49, 32, 49, 48, 52, 56, 53, 55, 54, 32, 49, 54, 32, 100, 101, 110, 32, 49, 32, 49, 48, 50, 52, 32, 49, 32, 105, 101, 101, 101, 32, 48, 32, 49, 32, 48, 10, 99, 111, 100, 101, 103, 114, 111, 117, 112, 32, 50, 32, 51, 32, 48, 32, 109, 115, 98, 32, 48, 32, 49, 32, 48, 10, 115, 116, 117, 102, 102, 32, 50, 32, 50, 32, 48, 32, 114, 117, 110, 32, 50, 32, 49, 54, 32, 53, 32, 111, 110, 101, 115, 32, 48, 32, 49, 32, 49, 10, 115, 99, 114, 97, 109, 98, 108, 101, 32, 50, 32, 50, 32, 48, 32, 119, 105, 100, 116, 104, 32, 50, 32, 51, 49, 32, 55, 32, 116, 97, 112, 115, 32, 49, 32, 50, 49, 52, 55, 52, 56, 51, 54, 52, 55, 32, 55, 50, 10, 115, 121, 110, 99, 32, 50, 32, 53, 32, 48, 32, 119, 111, 114, 100, 32, 48, 32, 52, 50, 57, 52, 57, 54, 55, 50, 57, 53, 32, 50, 49, 51, 32, 108, 101, 110, 103, 116, 104, 32, 56, 32, 51, 50, 32, 56, 32, 98, 121, 116, 101, 115, 32, 49, 32, 50, 53, 54, 32, 52, 32, 109, 115, 98, 32, 48, 32, 49, 32, 49, 10, 117, 97, 114, 116, 32, 49, 32, 51, 32, 49, 32, 110, 117, 109, 32, 49, 32, 49, 48, 52, 56, 53, 55, 54, 32, 49, 54, 32, 100, 101, 110, 32, 49, 32, 49, 48, 50, 52, 32, 49, 32, 98, 105, 116, 115, 32, 53, 32, 57, 32, 56, 32, 112, 97, 114, 105, 116, 121, 32, 48, 32, 50, 32, 48, 32, 115, 116, 111, 112, 32, 49, 32, 50, 32, 49, 10, 105, 50, 99, 32, 49, 32, 53, 32, 50, 32, 116, 32, 49, 32, 54, 53, 53, 51, 54, 32, 52, 10, 115, 112, 105, 32, 49, 32, 53, 32, 51, 32, 116, 32, 49, 32, 54, 53, 53, 51, 54, 32, 52, 32, 109, 111, 100, 101, 32, 48, 32, 51, 32, 48, 32, 98, 105, 116, 115, 32, 49, 32, 56, 32, 56, 32, 109, 115, 98, 32, 48, 32, 49, 32, 49, 10, 111, 110, 101, 119, 105, 114, 101, 32, 49, 32, 51, 32, 49, 32, 116, 32, 49, 32, 54, 53, 53, 51, 54, 32, 52, 10, 99, 97, 110, 32, 49, 32, 53, 32, 49, 32, 110, 117, 109, 32, 49, 32, 49, 48, 52, 56, 53, 55, 54, 32, 49, 54, 32, 100, 101, 110, 32, 49, 32, 49, 48, 50, 52, 32, 49, 10, 108, 105, 110, 32, 51, 32, 53, 32, 48, 32, 99, 108, 97, 115, 115, 105, 99, 32, 48, 32, 49, 32, 48, 10, 106, 116, 97, 103, 32, 49, 32, 53, 32, 52, 32, 116, 32, 49, 32, 54, 53, 53, 51, 54, 32, 52, 10, 115, 108, 105, 112, 32, 51, 32, 54, 32, 48, 32, 109, 111, 115, 116, 32, 49, 32, 52, 48, 57, 54, 32, 50, 53, 54, 10, 109, 111, 100, 98, 117, 115, 32, 51, 32, 53, 32, 48, 32, 103, 97, 112, 32, 48, 32, 49, 48, 48, 48, 48, 48, 48, 32, 53, 54, 48, 10, 101, 101, 112, 114, 111, 109, 32, 53, 32, 55, 32, 48, 32, 97, 100, 100, 114, 101, 115, 115, 32, 48, 32, 49, 50, 55, 32, 56, 48, 32, 112, 111, 105, 110, 116, 101, 114, 32, 49, 32, 50, 32, 49, 10, 105, 115, 111, 116, 112, 32, 53, 32, 54, 32, 48, 32, 105, 100, 32, 48, 32, 53, 51, 54, 56, 55, 48, 57, 49, 49, 32, 50, 48, 49, 54, 10, 112, 97, 105, 114, 32, 54, 32, 56, 32, 48, 32, 116, 105, 109, 101, 111, 117, 116, 32, 49, 32, 49, 48, 57, 57, 53, 49, 49, 54, 50, 55, 55, 55, 54, 32, 49, 48, 52, 56, 53, 55, 54]) (strB [10])).bind fun y1 =>
    kinds_words_l3 kind y1.1.1 (y1.1.1.length : Int) 0
def fc28 : FC := ⟨⟨[.one .str], []⟩, ⟨[.one (.sl .str)], []⟩, fun x => kinds_words x.1.1⟩
theorem con28 : Contract Tryd.prog 28 fc28 :=
  kinds_words_D.contract tok (cok_of (l := [(30, fc30), (31, fc31), (36, fc36)]) ⟨con30, con31, con36, trivial⟩) mixed (fn' := Tryd.f28) (by kernel_rfl) (by kernel_rfl) rfl (by kernel_rfl) (fun x => (FD.fn_eq _ _).trans (by kernel_rfl))
end
end Go.Proofs.YtjlagiolgpjglaaDoor
end

section
/-
YtjlagiolgpjglaaDoor: signalbench.kinds.number, as one plain function, its equations, its contract. No condition.
-/
set_option maxRecDepth 100000
set_option linter.unusedVariables false
set_option maxHeartbeats 4000000
open Go Go.AM
namespace Go.Proofs.YtjlagiolgpjglaaDoor
noncomputable section
def kinds_number_D : FD := ⟨T, lookC [(37, fc37)], [], (Tryd.f29.body.getD .skip), Tryd.f29.results.toList, ⟨[.one (.sl .str), .one (.int .i64)], []⟩, ⟨[.one (.int .i64)], []⟩, []⟩
def kinds_number (l : (List ByteArray)) (at_ : Int) : (Option ((Int × Unit) × Unit)) :=
  if (decide (at_ ≥ (l.length : Int))) = true then
    some ((0, ()), ())
  else
    if 0 ≤ at_ ∧ at_ < (l.length : Int) then
      (strconv_Atoi (l.getD at_.toNat (strB []))).bind fun y1 =>
        some ((y1.1.1, ()), ())
    else
      none
def fc29 : FC := ⟨⟨[.one (.sl .str), .one (.int .i64)], []⟩, ⟨[.one (.int .i64)], []⟩, fun x => kinds_number x.1.1 x.1.2.1⟩
theorem con29 : Contract Tryd.prog 29 fc29 :=
  kinds_number_D.contract tok (cok_of (l := [(37, fc37)]) ⟨con37, trivial⟩) mixed (fn' := Tryd.f29) (by kernel_rfl) (by kernel_rfl) rfl (by kernel_rfl) (fun x => (FD.fn_eq _ _).trans (by kernel_rfl))
end
end Go.Proofs.YtjlagiolgpjglaaDoor
end

section
/-
YtjlagiolgpjglaaDoor: signalbench.kinds.Input, as one plain function, its equations, its contract. No condition.
-/
set_option maxRecDepth 100000
set_option linter.unusedVariables false
set_option maxHeartbeats 4000000
open Go Go.AM
namespace Go.Proofs.YtjlagiolgpjglaaDoor
noncomputable section
def kinds_Input_D : FD := ⟨T, lookC [(28, fc28), (29, fc29)], [], (Tryd.f17.body.getD .skip), Tryd.f17.results.toList, ⟨[.one .str], []⟩, ⟨[.one (.int .i64)], []⟩, []⟩
def kinds_Input (kind : ByteArray) : (Option ((Int × Unit) × Unit)) :=
  (kinds_words kind).bind fun y1 =>
    (kinds_number y1.1.1 0).bind fun y2 =>
      some ((y2.1.1, ()), ())
def fc17 : FC := ⟨⟨[.one .str], []⟩, ⟨[.one (.int .i64)], []⟩, fun x => kinds_Input x.1.1⟩
theorem con17 : Contract Tryd.prog 17 fc17 :=
  kinds_Input_D.contract tok (cok_of (l := [(28, fc28), (29, fc29)]) ⟨con28, con29, trivial⟩) mixed (fn' := Tryd.f17) (by kernel_rfl) (by kernel_rfl) rfl (by kernel_rfl) (fun x => (FD.fn_eq _ _).trans (by kernel_rfl))
end
end Go.Proofs.YtjlagiolgpjglaaDoor
end

section
/-
YtjlagiolgpjglaaDoor: signalbench.kinds.Specs, as one plain function, its equations, its contract. No condition.
-/
set_option maxRecDepth 100000
set_option linter.unusedVariables false
set_option maxHeartbeats 4000000
open Go Go.AM
namespace Go.Proofs.YtjlagiolgpjglaaDoor
noncomputable section
def kinds_Specs_F5 : FSh := ⟨[(3, .one (.sl .str)), (4, .one (.own 0)), (5, .one (.int .i64))], [.arr 33 (.cons .str (.cons (.int .i64) (.cons (.int .i64) (.int .i64)))) true]⟩
def kinds_Specs_D : FD := ⟨T, lookC [(28, fc28), (29, fc29)], [], (Tryd.f14.body.getD .skip), Tryd.f14.results.toList, ⟨[.one .str], []⟩, ⟨[.one (.sl (.cons .str (.cons (.int .i64) (.cons (.int .i64) (.int .i64)))))], []⟩, [(5, kinds_Specs_F5)]⟩
def kinds_Specs_l5 (l : (List ByteArray)) (i : Int) (l0 : (List TSpec)) : (Option (((List TSpec) × Unit) × Unit)) := kinds_Specs_D.lab 5 kinds_Specs_F5 ((l, (), i, ()), (l0, ()))
theorem kinds_Specs_l5_eq (l : (List ByteArray)) (i : Int) (l0 : (List TSpec)) : kinds_Specs_l5 l i l0 =
  if (decide ((IntKind.i64.wrap (i + 3)) < (l.length : Int))) = true then
    if 0 ≤ i ∧ i < (l.length : Int) then
      (kinds_number l (IntKind.i64.wrap (i + 1))).bind fun y1 =>
        (kinds_number l (IntKind.i64.wrap (i + 2))).bind fun y2 =>
          (kinds_number l (IntKind.i64.wrap (i + 3))).bind fun y3 =>
            if (l0.length + 1) * 40 ≤ 140737488355328 ∧ 0 < 40 then
              kinds_Specs_l5 l (IntKind.i64.wrap (i + 4)) (l0 ++ [(l.getD i.toNat (strB []), y1.1.1, y2.1.1, y3.1.1)])
            else
              none
    else
      none
  else
    some ((l0, ()), ()) := (FD.lab_eq _ _ _ _).trans (by kernel_rfl)
def kinds_Specs (kind : ByteArray) : (Option (((List TSpec) × Unit) × Unit)) :=
  (kinds_words kind).bind fun y1 =>
    kinds_Specs_l5 y1.1.1 3 []
def fc14 : FC := ⟨⟨[.one .str], []⟩, ⟨[.one (.sl (.cons .str (.cons (.int .i64) (.cons (.int .i64) (.int .i64)))))], []⟩, fun x => kinds_Specs x.1.1⟩
theorem con14 : Contract Tryd.prog 14 fc14 :=
  kinds_Specs_D.contract tok (cok_of (l := [(28, fc28), (29, fc29)]) ⟨con28, con29, trivial⟩) mixed (fn' := Tryd.f14) (by kernel_rfl) (by kernel_rfl) rfl (by kernel_rfl) (fun x => (FD.fn_eq _ _).trans (by kernel_rfl))
end
end Go.Proofs.YtjlagiolgpjglaaDoor
end

section
/-
YtjlagiolgpjglaaDoor: signalbench.kinds.spec, as one plain function, its equations, its contract. No condition.
-/
set_option maxRecDepth 100000
set_option linter.unusedVariables false
set_option maxHeartbeats 4000000
open Go Go.AM
namespace Go.Proofs.YtjlagiolgpjglaaDoor
noncomputable section
def kinds_spec_F3 : FSh := ⟨[(1, .one .str), (4, .one (.ptr 0 0)), (9, .one (.sl (.cons .str (.cons (.int .i64) (.cons (.int .i64) (.int .i64)))))), (10, .one (.int .i64)), (11, .one (.int .i64))], [.boxr 33 (.cons .str (.cons (.int .i64) (.cons (.int .i64) (.int .i64))))]⟩
def kinds_spec_D : FD := ⟨T, lookC [(14, fc14)], [], (Tryd.f25.body.getD .skip), Tryd.f25.results.toList, ⟨[.one .str, .one .str], []⟩, ⟨[.row (.cons .str (.cons (.int .i64) (.cons (.int .i64) (.int .i64)))), .one .bool], []⟩, [(3, kinds_spec_F3)]⟩
def kinds_spec_l3 (name : ByteArray) (t9 : (List TSpec)) (t10 : Int) (t11 : Int) (h0 : TSpec) : (Option ((TSpec × Bool × Unit) × Unit)) := kinds_spec_D.lab 3 kinds_spec_F3 ((name, (), t9, t10, t11, ()), (h0, ()))
theorem kinds_spec_l3_eq (name : ByteArray) (t9 : (List TSpec)) (t10 : Int) (t11 : Int) (h0 : TSpec) : kinds_spec_l3 name t9 t10 t11 h0 =
  if (decide (t11 < t10)) = true then
    if 0 ≤ t11 ∧ t11 < (t9.length : Int) then
      if ((t9.getD t11.toNat dSpec).1.toList == name.toList) = true then
        some (((t9.getD t11.toNat dSpec), true, ()), ())
      else
        kinds_spec_l3 name t9 t10 (IntKind.i64.wrap (t11 + 1)) h0
    else
      none
  else
    some ((((strB []), 0, 0, 0), false, ()), ()) := (FD.lab_eq _ _ _ _).trans (by kernel_rfl)
def kinds_spec (kind : ByteArray) (name : ByteArray) : (Option ((TSpec × Bool × Unit) × Unit)) :=
  (kinds_Specs kind).bind fun y1 =>
    kinds_spec_l3 name y1.1.1 (y1.1.1.length : Int) 0 ((strB []), 0, 0, 0)
def fc25 : FC := ⟨⟨[.one .str, .one .str], []⟩, ⟨[.row (.cons .str (.cons (.int .i64) (.cons (.int .i64) (.int .i64)))), .one .bool], []⟩, fun x => kinds_spec x.1.1 x.1.2.1⟩
theorem con25 : Contract Tryd.prog 25 fc25 :=
  kinds_spec_D.contract tok (cok_of (l := [(14, fc14)]) ⟨con14, trivial⟩) mixed (fn' := Tryd.f25) (by kernel_rfl) (by kernel_rfl) rfl (by kernel_rfl) (fun x => (FD.fn_eq _ _).trans (by kernel_rfl))
end
end Go.Proofs.YtjlagiolgpjglaaDoor
end

section
/-
YtjlagiolgpjglaaDoor: signalbench.kinds.Check, as one plain function, its equations, its contract. No condition.
-/
set_option maxRecDepth 100000
set_option linter.unusedVariables false
set_option maxHeartbeats 4000000
open Go Go.AM
namespace Go.Proofs.YtjlagiolgpjglaaDoor
noncomputable section
def kinds_Check_F6 : FSh := ⟨[(0, .one .str), (1, .one (.sl (.cons .str (.int .i64)))), (14, .one (.sl (.cons .str (.int .i64)))), (15, .one (.int .i64)), (16, .one (.int .i64))], []⟩
def kinds_Check_F17 : FSh := ⟨[(0, .one .str), (1, .one (.sl (.cons .str (.int .i64)))), (6, .one (.ptr 0 0)), (7, .one (.ptr 1 0)), (14, .one (.sl (.cons .str (.int .i64)))), (15, .one (.int .i64)), (16, .one (.int .i64)), (32, .one (.sl (.cons .str (.int .i64)))), (33, .one (.int .i64)), (34, .one (.int .i64))], [.boxr 35 (.cons .str (.int .i64)), .boxr 33 (.cons .str (.cons (.int .i64) (.cons (.int .i64) (.int .i64))))]⟩
def kinds_Check_D : FD := ⟨T, lookC [(17, fc17), (25, fc25)], [], (Tryd.f12.body.getD .skip), Tryd.f12.results.toList, ⟨[.one .str, .one (.sl (.cons .str (.int .i64)))], []⟩, ⟨[.one (.int .i64)], []⟩, [(6, kinds_Check_F6), (17, kinds_Check_F17)]⟩
def kinds_Check_l6 (kind : ByteArray) (l : (List TParam)) (t14 : (List TParam)) (t15 : Int) (t16 : Int) : (Option ((Int × Unit) × Unit)) := kinds_Check_D.lab 6 kinds_Check_F6 ((kind, l, t14, t15, t16, ()), ())
def kinds_Check_l17 (kind : ByteArray) (l : (List TParam)) (t14 : (List TParam)) (t15 : Int) (t16 : Int) (t32 : (List TParam)) (t33 : Int) (t34 : Int) (h0 : TParam) (h1 : TSpec) : (Option ((Int × Unit) × Unit)) := kinds_Check_D.lab 17 kinds_Check_F17 ((kind, l, (), (), t14, t15, t16, t32, t33, t34, ()), (h0, h1, ()))
theorem kinds_Check_l6_eq (kind : ByteArray) (l : (List TParam)) (t14 : (List TParam)) (t15 : Int) (t16 : Int) : kinds_Check_l6 kind l t14 t15 t16 =
  if (decide (t16 < t15)) = true then
    if 0 ≤ t16 ∧ t16 < (t14.length : Int) then
      (kinds_spec kind (t14.getD t16.toNat dParam).1).bind fun y1 =>
        if (!y1.1.2.1) = true then
          some ((8, ()), ())
        else
          if 0 ≤ (0 : Int) ∧ (0 : Int) ≤ t16 ∧ t16 ≤ (l.length : Int) then
            kinds_Check_l17 kind l t14 t15 t16 (l.take t16.toNat) ((l.take t16.toNat).length : Int) 0 (t14.getD t16.toNat dParam) y1.1.1
          else
            none
    else
      none
  else
    some ((0, ()), ()) := (FD.lab_eq _ _ _ _).trans (by kernel_rfl)
theorem kinds_Check_l17_eq (kind : ByteArray) (l : (List TParam)) (t14 : (List TParam)) (t15 : Int) (t16 : Int) (t32 : (List TParam)) (t33 : Int) (t34 : Int) (h0 : TParam) (h1 : TSpec) : kinds_Check_l17 kind l t14 t15 t16 t32 t33 t34 h0 h1 =
  if (decide (t34 < t33)) = true then
    if 0 ≤ t34 ∧ t34 < (t32.length : Int) then
      if ((t32.getD t34.toNat dParam).1.toList == h0.1.toList) = true then
        some ((9, ()), ())
      else
        kinds_Check_l17 kind l t14 t15 t16 t32 t33 (IntKind.i64.wrap (t34 + 1)) h0 h1
    else
      none
  else
    if (decide (h0.2 < h1.2.1)) = true then
      some ((2, ()), ())
    else
      if (decide (h0.2 > h1.2.2.1)) = true then
        some ((2, ()), ())
      else
        kinds_Check_l6 kind l t14 t15 (IntKind.i64.wrap (t16 + 1)) := (FD.lab_eq _ _ _ _).trans (by kernel_rfl)
def kinds_Check (kind : ByteArray) (l : (List TParam)) : (Option ((Int × Unit) × Unit)) :=
  (kinds_Input kind).bind fun y1 =>
    if (y1.1.1 == 0) = true then
      some ((8, ()), ())
    else
      kinds_Check_l6 kind l l (l.length : Int) 0
def fc12 : FC := ⟨⟨[.one .str, .one (.sl (.cons .str (.int .i64)))], []⟩, ⟨[.one (.int .i64)], []⟩, fun x => kinds_Check x.1.1 x.1.2.1⟩
theorem con12 : Contract Tryd.prog 12 fc12 :=
  kinds_Check_D.contract tok (cok_of (l := [(17, fc17), (25, fc25)]) ⟨con17, con25, trivial⟩) mixed (fn' := Tryd.f12) (by kernel_rfl) (by kernel_rfl) rfl (by kernel_rfl) (fun x => (FD.fn_eq _ _).trans (by kernel_rfl))
end
end Go.Proofs.YtjlagiolgpjglaaDoor
end

section
/-
YtjlagiolgpjglaaDoor: signalbench.kinds.Output, as one plain function, its equations, its contract. No condition.
-/
set_option maxRecDepth 100000
set_option linter.unusedVariables false
set_option maxHeartbeats 4000000
open Go Go.AM
namespace Go.Proofs.YtjlagiolgpjglaaDoor
noncomputable section
def kinds_Output_D : FD := ⟨T, lookC [(28, fc28), (29, fc29)], [], (Tryd.f19.body.getD .skip), Tryd.f19.results.toList, ⟨[.one .str], []⟩, ⟨[.one (.int .i64)], []⟩, []⟩
def kinds_Output (kind : ByteArray) : (Option ((Int × Unit) × Unit)) :=
  (kinds_words kind).bind fun y1 =>
    (kinds_number y1.1.1 1).bind fun y2 =>
      some ((y2.1.1, ()), ())
def fc19 : FC := ⟨⟨[.one .str], []⟩, ⟨[.one (.int .i64)], []⟩, fun x => kinds_Output x.1.1⟩
theorem con19 : Contract Tryd.prog 19 fc19 :=
  kinds_Output_D.contract tok (cok_of (l := [(28, fc28), (29, fc29)]) ⟨con28, con29, trivial⟩) mixed (fn' := Tryd.f19) (by kernel_rfl) (by kernel_rfl) rfl (by kernel_rfl) (fun x => (FD.fn_eq _ _).trans (by kernel_rfl))
end
end Go.Proofs.YtjlagiolgpjglaaDoor
end

section
/-
YtjlagiolgpjglaaDoor: signalbench.kinds.Channels, as one plain function, its equations, its contract. No condition.
-/
set_option maxRecDepth 100000
set_option linter.unusedVariables false
set_option maxHeartbeats 4000000
open Go Go.AM
namespace Go.Proofs.YtjlagiolgpjglaaDoor
noncomputable section
def kinds_Channels_D : FD := ⟨T, lookC [(28, fc28), (29, fc29)], [], (Tryd.f21.body.getD .skip), Tryd.f21.results.toList, ⟨[.one .str], []⟩, ⟨[.one (.int .i64)], []⟩, []⟩
def kinds_Channels (kind : ByteArray) : (Option ((Int × Unit) × Unit)) :=
  (kinds_words kind).bind fun y1 =>
    (kinds_number y1.1.1 2).bind fun y2 =>
      some ((y2.1.1, ()), ())
def fc21 : FC := ⟨⟨[.one .str], []⟩, ⟨[.one (.int .i64)], []⟩, fun x => kinds_Channels x.1.1⟩
theorem con21 : Contract Tryd.prog 21 fc21 :=
  kinds_Channels_D.contract tok (cok_of (l := [(28, fc28), (29, fc29)]) ⟨con28, con29, trivial⟩) mixed (fn' := Tryd.f21) (by kernel_rfl) (by kernel_rfl) rfl (by kernel_rfl) (fun x => (FD.fn_eq _ _).trans (by kernel_rfl))
end
end Go.Proofs.YtjlagiolgpjglaaDoor
end

section
/-
YtjlagiolgpjglaaDoor: signalbench.kinds.Value, as one plain function, its equations, its contract. No condition.
-/
set_option maxRecDepth 100000
set_option linter.unusedVariables false
set_option maxHeartbeats 4000000
open Go Go.AM
namespace Go.Proofs.YtjlagiolgpjglaaDoor
noncomputable section
def kinds_Value_F7 : FSh := ⟨[(2, .one .str), (8, .one (.ptr 0 0)), (20, .one (.sl (.cons .str (.int .i64)))), (21, .one (.int .i64)), (22, .one (.int .i64))], [.boxr 33 (.cons .str (.cons (.int .i64) (.cons (.int .i64) (.int .i64))))]⟩
def kinds_Value_D : FD := ⟨T, lookC [(25, fc25)], [], (Tryd.f9.body.getD .skip), Tryd.f9.results.toList, ⟨[.one .str, .one (.sl (.cons .str (.int .i64))), .one .str], []⟩, ⟨[.one (.int .i64), .one (.int .i64)], []⟩, [(7, kinds_Value_F7)]⟩
def kinds_Value_l7 (name : ByteArray) (t20 : (List TParam)) (t21 : Int) (t22 : Int) (h0 : TSpec) : (Option ((Int × Int × Unit) × Unit)) := kinds_Value_D.lab 7 kinds_Value_F7 ((name, (), t20, t21, t22, ()), (h0, ()))
theorem kinds_Value_l7_eq (name : ByteArray) (t20 : (List TParam)) (t21 : Int) (t22 : Int) (h0 : TSpec) : kinds_Value_l7 name t20 t21 t22 h0 =
  if (decide (t22 < t21)) = true then
    if 0 ≤ t22 ∧ t22 < (t20.length : Int) then
      if ((t20.getD t22.toNat dParam).1.toList == name.toList) = true then
        some (((t20.getD t22.toNat dParam).2, 0, ()), ())
      else
        kinds_Value_l7 name t20 t21 (IntKind.i64.wrap (t22 + 1)) h0
    else
      none
  else
    some ((h0.2.2.2, 0, ()), ()) := (FD.lab_eq _ _ _ _).trans (by kernel_rfl)
def kinds_Value (kind : ByteArray) (l : (List TParam)) (name : ByteArray) : (Option ((Int × Int × Unit) × Unit)) :=
  (kinds_spec kind name).bind fun y1 =>
    if (!y1.1.2.1) = true then
      some ((0, 8, ()), ())
    else
      kinds_Value_l7 name l (l.length : Int) 0 y1.1.1
def fc9 : FC := ⟨⟨[.one .str, .one (.sl (.cons .str (.int .i64))), .one .str], []⟩, ⟨[.one (.int .i64), .one (.int .i64)], []⟩, fun x => kinds_Value x.1.1 x.1.2.1 x.1.2.2.1⟩
theorem con9 : Contract Tryd.prog 9 fc9 :=
  kinds_Value_D.contract tok (cok_of (l := [(25, fc25)]) ⟨con25, trivial⟩) mixed (fn' := Tryd.f9) (by kernel_rfl) (by kernel_rfl) rfl (by kernel_rfl) (fun x => (FD.fn_eq _ _).trans (by kernel_rfl))
end
end Go.Proofs.YtjlagiolgpjglaaDoor
end

section
/-
YtjlagiolgpjglaaDoor: signalbench.signalbenchlaw38.awake, as one plain function, its equations, its contract. No condition.
-/
set_option maxRecDepth 100000
set_option linter.unusedVariables false
set_option maxHeartbeats 4000000
open Go Go.AM
namespace Go.Proofs.YtjlagiolgpjglaaDoor
noncomputable section
def law38_awake_D : FD := ⟨T, lookC [(9, fc9), (12, fc12), (17, fc17), (19, fc19), (21, fc21)], [], (Tryd.f11.body.getD .skip), Tryd.f11.results.toList, ⟨[], []⟩, ⟨[.one .bool], []⟩, []⟩
def law38_awake : (Option ((Bool × Unit) × Unit)) :=
  (kinds_Value (strB [117, 97, 114, 116]) [] (strB [98, 105, 116, 115])).bind fun y1 =>
    (kinds_Value (strB [117, 97, 114, 116]) [((strB [98, 105, 116, 115]), 7)] (strB [98, 105, 116, 115])).bind fun y2 =>
      if (y1.1.1 == 8) = true then
        if (y1.1.2.1 == 0) = true then
          if (y2.1.1 == 7) = true then
            if (y2.1.2.1 == 0) = true then
              (kinds_Input (strB [117, 97, 114, 116])).bind fun y3 =>
                if (y3.1.1 == 1) = true then
                  (kinds_Output (strB [117, 97, 114, 116])).bind fun y4 =>
                    if (y4.1.1 == 3) = true then
                      (kinds_Channels (strB [115, 112, 105])).bind fun y5 =>
                        if (y5.1.1 == 3) = true then
                          (kinds_Input (strB [117, 115, 98])).bind fun y6 =>
                            if (y6.1.1 == 0) = true then
                              (kinds_Check (strB [117, 97, 114, 116]) [((strB [98, 105, 116, 115]), 10)]).bind fun y7 =>
                                some ((y7.1.1 == 2, ()), ())
                            else
                              some ((false, ()), ())
                        else
                          some ((false, ()), ())
                    else
                      some ((false, ()), ())
                else
                  some ((false, ()), ())
            else
              some ((false, ()), ())
          else
            some ((false, ()), ())
        else
          some ((false, ()), ())
      else
        some ((false, ()), ())
def fc11 : FC := ⟨⟨[], []⟩, ⟨[.one .bool], []⟩, fun x => law38_awake⟩
theorem con11 : Contract Tryd.prog 11 fc11 :=
  law38_awake_D.contract tok (cok_of (l := [(9, fc9), (12, fc12), (17, fc17), (19, fc19), (21, fc21)]) ⟨con9, con12, con17, con19, con21, trivial⟩) mixed (fn' := Tryd.f11) (by kernel_rfl) (by kernel_rfl) rfl (by kernel_rfl) (fun x => (FD.fn_eq _ _).trans (by kernel_rfl))
end
end Go.Proofs.YtjlagiolgpjglaaDoor
end

section
/-
YtjlagiolgpjglaaDoor: signalbench.signalbenchref38.Input, as one plain function, its equations, its contract. No condition.
-/
set_option maxRecDepth 100000
set_option linter.unusedVariables false
set_option maxHeartbeats 4000000
open Go Go.AM
namespace Go.Proofs.YtjlagiolgpjglaaDoor
noncomputable section
def ref38_Input_D : FD := ⟨T, lookC [], [], (Tryd.f18.body.getD .skip), Tryd.f18.results.toList, ⟨[.one .str], []⟩, ⟨[.one (.int .i64)], []⟩, []⟩
def ref38_Input (kind : ByteArray) : (Option ((Int × Unit) × Unit)) :=
  if (kind.toList == (strB [115, 97, 109, 112, 108, 101, 114]).toList) = true then
    some ((1, ()), ())
  else
    if (kind.toList == (strB [109, 97, 110, 99, 104, 101, 115, 116, 101, 114]).toList) = true then
      some ((1, ()), ())
    else
      if (kind.toList == (strB [117, 97, 114, 116]).toList) = true then
        some ((1, ()), ())
      else
        if (kind.toList == (strB [105, 50, 99]).toList) = true then
          some ((1, ()), ())
        else
          if (kind.toList == (strB [115, 112, 105]).toList) = true then
            some ((1, ()), ())
          else
            if (kind.toList == (strB [111, 110, 101, 119, 105, 114, 101]).toList) = true then
              some ((1, ()), ())
            else
              if (kind.toList == (strB [99, 97, 110]).toList) = true then
                some ((1, ()), ())
              else
                if (kind.toList == (strB [106, 116, 97, 103]).toList) = true then
                  some ((1, ()), ())
                else
                  if (kind.toList == (strB [110, 114, 122, 105]).toList) = true then
                    some ((2, ()), ())
                  else
                    if (kind.toList == (strB [99, 111, 100, 101, 103, 114, 111, 117, 112]).toList) = true then
                      some ((2, ()), ())
                    else
                      if (kind.toList == (strB [115, 116, 117, 102, 102]).toList) = true then
                        some ((2, ()), ())
                      else
                        if (kind.toList == (strB [115, 99, 114, 97, 109, 98, 108, 101]).toList) = true then
                          some ((2, ()), ())
                        else
                          if (kind.toList == (strB [115, 121, 110, 99]).toList) = true then
                            some ((2, ()), ())
                          else
                            if (kind.toList == (strB [108, 105, 110]).toList) = true then
                              some ((3, ()), ())
                            else
                              if (kind.toList == (strB [115, 108, 105, 112]).toList) = true then
                                some ((3, ()), ())
                              else
                                if (kind.toList == (strB [109, 111, 100, 98, 117, 115]).toList) = true then
                                  some ((3, ()), ())
                                else
                                  if (kind.toList == (strB [101, 101, 112, 114, 111, 109]).toList) = true then
                                    some ((5, ()), ())
                                  else
                                    if (kind.toList == (strB [105, 115, 111, 116, 112]).toList) = true then
                                      some ((5, ()), ())
                                    else
                                      if (kind.toList == (strB [112, 97, 105, 114]).toList) = true then
                                        some ((6, ()), ())
                                      else
                                        some ((0, ()), ())
def fc18 : FC := ⟨⟨[.one .str], []⟩, ⟨[.one (.int .i64)], []⟩, fun x => ref38_Input x.1.1⟩
theorem con18 : Contract Tryd.prog 18 fc18 :=
  ref38_Input_D.contract tok (cok_of (l := []) trivial) mixed (fn' := Tryd.f18) (by kernel_rfl) (by kernel_rfl) rfl (by kernel_rfl) (fun x => (FD.fn_eq _ _).trans (by kernel_rfl))
end
end Go.Proofs.YtjlagiolgpjglaaDoor
end

section
/-
YtjlagiolgpjglaaDoor: signalbench.signalbenchref38.Check, as one plain function, its equations, its contract. No condition.
-/
set_option maxRecDepth 100000
set_option linter.unusedVariables false
set_option maxHeartbeats 4000000
open Go Go.AM
namespace Go.Proofs.YtjlagiolgpjglaaDoor
noncomputable section
def ref38_Check_F7 : FSh := ⟨[(1, .one (.sl (.cons .str (.int .i64)))), (5, .one (.sl (.cons .str (.cons (.int .i64) (.cons (.int .i64) (.int .i64)))))), (6, .one (.int .i64))], []⟩
def ref38_Check_D : FD := ⟨T, lookC [(18, fc18), (24, fc24), (26, fc26), (27, fc27)], [], (Tryd.f13.body.getD .skip), Tryd.f13.results.toList, ⟨[.one .str, .one (.sl (.cons .str (.int .i64)))], []⟩, ⟨[.one (.int .i64)], []⟩, [(7, ref38_Check_F7)]⟩
def ref38_Check_l7 (l : (List TParam)) (specs : (List TSpec)) (i : Int) : (Option ((Int × Unit) × Unit)) := ref38_Check_D.lab 7 ref38_Check_F7 ((l, specs, i, ()), ())
theorem ref38_Check_l7_eq (l : (List TParam)) (specs : (List TSpec)) (i : Int) : ref38_Check_l7 l specs i =
  if (decide (i < (l.length : Int))) = true then
    if 0 ≤ i ∧ i < (l.length : Int) then
      (ref38_find specs (l.getD i.toNat dParam).1).bind fun y1 =>
        if (decide (y1.1.1 < 0)) = true then
          some ((8, ()), ())
        else
          if 0 ≤ i ∧ i < (l.length : Int) then
            (ref38_first l (l.getD i.toNat dParam).1).bind fun y2 =>
              if (decide (y2.1.1 < i)) = true then
                some ((9, ()), ())
              else
                if 0 ≤ i ∧ i < (l.length : Int) then
                  if 0 ≤ y1.1.1 ∧ y1.1.1 < (specs.length : Int) then
                    if (decide ((l.getD i.toNat dParam).2 < (specs.getD y1.1.1.toNat dSpec).2.1)) = true then
                      some ((2, ()), ())
                    else
                      if 0 ≤ i ∧ i < (l.length : Int) then
                        if 0 ≤ y1.1.1 ∧ y1.1.1 < (specs.length : Int) then
                          if (decide ((l.getD i.toNat dParam).2 > (specs.getD y1.1.1.toNat dSpec).2.2.1)) = true then
                            some ((2, ()), ())
                          else
                            ref38_Check_l7 l specs (IntKind.i64.wrap (i + 1))
                        else
                          none
                      else
                        none
                  else
                    none
                else
                  none
          else
            none
    else
      none
  else
    some ((0, ()), ()) := (FD.lab_eq _ _ _ _).trans (by kernel_rfl)
def ref38_Check (kind : ByteArray) (l : (List TParam)) : (Option ((Int × Unit) × Unit)) :=
  (ref38_Input kind).bind fun y1 =>
    if (y1.1.1 == 0) = true then
      some ((8, ()), ())
    else
      (ref38_Specs kind).bind fun y2 =>
        ref38_Check_l7 l y2.1.1 0
def fc13 : FC := ⟨⟨[.one .str, .one (.sl (.cons .str (.int .i64)))], []⟩, ⟨[.one (.int .i64)], []⟩, fun x => ref38_Check x.1.1 x.1.2.1⟩
theorem con13 : Contract Tryd.prog 13 fc13 :=
  ref38_Check_D.contract tok (cok_of (l := [(18, fc18), (24, fc24), (26, fc26), (27, fc27)]) ⟨con18, con24, con26, con27, trivial⟩) mixed (fn' := Tryd.f13) (by kernel_rfl) (by kernel_rfl) rfl (by kernel_rfl) (fun x => (FD.fn_eq _ _).trans (by kernel_rfl))
end
end Go.Proofs.YtjlagiolgpjglaaDoor
end

section
/-
YtjlagiolgpjglaaDoor: signalbench.kinds.Kinds, as one plain function, its equations, its contract. No condition.
-/
set_option maxRecDepth 100000
set_option linter.unusedVariables false
set_option maxHeartbeats 4000000
open Go Go.AM
namespace Go.Proofs.YtjlagiolgpjglaaDoor
noncomputable section
def kinds_Kinds_F4 : FSh := ⟨[(1, .one (.own 0)), (7, .one (.sl .str)), (8, .one (.int .i64)), (9, .one (.int .i64))], [.arr 9 .str true]⟩
def kinds_Kinds_D : FD := ⟨T, lookC [(30, fc30), (31, fc31)], [], (Tryd.f15.body.getD .skip), Tryd.f15.results.toList, ⟨[], []⟩, ⟨[.one (.sl .str)], []⟩, [(4, kinds_Kinds_F4)]⟩
def kinds_Kinds_l4 (t7 : (List ByteArray)) (t8 : Int) (t9 : Int) (l0 : (List ByteArray)) : (Option (((List ByteArray) × Unit) × Unit)) := kinds_Kinds_D.lab 4 kinds_Kinds_F4 (((), t7, t8, t9, ()), (l0, ()))
theorem kinds_Kinds_l4_eq (t7 : (List ByteArray)) (t8 : Int) (t9 : Int) (l0 : (List ByteArray)) : kinds_Kinds_l4 t7 t8 t9 l0 =
  if (decide (t9 < t8)) = true then
    if 0 ≤ t9 ∧ t9 < (t7.length : Int) then
      (strings_Cut (t7.getD t9.toNat (strB [])) (strB [32])).bind fun y1 =>
        if (l0.length + 1) * 16 ≤ 140737488355328 ∧ 0 < 16 then
          kinds_Kinds_l4 t7 t8 (IntKind.i64.wrap (t9 + 1)) (l0 ++ [y1.1.1])
        else
          none
    else
      none
  else
    some ((l0, ()), ()) := (FD.lab_eq _ _ _ _).trans (by kernel_rfl)
def kinds_Kinds : (Option (((List ByteArray) × Unit) × Unit)) :=
  (strings_Split (strB [115, 97, 109, 112, 108, 101, 114, 32, 49, 32, 50, 32, 49, 32, 110, 117, 109, 32, 49, 32, 49, 48, 52, 56, 53, 55, 54, 32, 49, 54, 32, 100, 101, 110, 32, 49, 32, 49, 48, 50, 52, 32, 49, 10, 110, 114, 122, 105, 32, 50, 32, 50, 32, 48, 32, 122, 101, 114, 111, 32, 48, 32, 49, 32, 48, 10, 109, 97, 110, 99, 104, 101, 115, 116, 101, 114, 32, 49, 32, 50, 32, 49, 32, 110, 117, 109, 32, 49, 32, 49, 48, 52, 56, 53, 55, 54, 32, 49, 54, 32, 100, 101, 110, 32, 49, 32, 49, 48, 50, 52, 32, 49, 32, 105, 101, 101, 101, 32, 48, 32, 49, 32, 48, 10, 99, 111, 100, 101, 103, 114, 111, 117, 112, 32, 50, 32, 51, 32, 48, 32, 109, 115, 98, 32, 48, 32, 49, 32, 48, 10, 115, 116, 117, 102, 102, 32, 50, 32, 50, 32, 48, 32, 114, 117, 110, 32, 50, 32, 49, 54, 32, 53, 32, 111, 110, 101, 115, 32, 48, 32, 49, 32, 49, 10, 115, 99, 114, 97, 109, 98, 108, 101, 32, 50, 32, 50, 32, 48, 32, 119, 105, 100, 116, 104, 32, 50, 32, 51, 49, 32, 55, 32, 116, 97, 112, 115, 32, 49, 32, 50, 49, 52, 55, 52, 56, 51, 54, 52, 55, 32, 55, 50, 10, 115, 121, 110, 99, 32, 50, 32, 53, 32, 48, 32, 119, 111, 114, 100, 32, 48, 32, 52, 50, 57, 52, 57, 54, 55, 50, 57, 53, 32, 50, 49, 51, 32, 108, 101, 110, 103, 116, 104, 32, 56, 32, 51, 50, 32, 56, 32, 98, 121, 116, 101, 115, 32, 49, 32, 50, 53, 54, 32, 52, 32, 109, 115, 98, 32, 48, 32, 49, 32, 49, 10, 117, 97, 114, 116, 32, 49, 32, 51, 32, 49, 32, 110, 117, 109, 32, 49, 32, 49, 48, 52, 56, 53, 55, 54, 32, 49, 54, 32, 100, 101, 110, 32, 49, 32, 49, 48, 50, 52, 32, 49, 32, 98, 105, 116, 115, 32, 53, 32, 57, 32, 56, 32, 112, 97, 114, 105, 116, 121, 32, 48, 32, 50, 32, 48, 32, 115, 116, 111, 112, 32, 49, 32, 50, 32, 49, 10, 105, 50, 99, 32, 49, 32, 53, 32, 50, 32, 116, 32, 49, 32, 54, 53, 53, 51, 54, 32, 52, 10, 115, 112, 105, 32, 49, 32, 53, 32, 51, 32, 116, 32, 49, 32, 54, 53, 53, 51, 54, 32, 52, 32, 109, 111, 100, 101, 32, 48, 32, 51, 32, 48, 32, 98, 105, 116, 115, 32, 49, 32, 56, 32, 56, 32, 109, 115, 98, 32, 48, 32, 49, 32, 49, 10, 111, 110, 101, 119, 105, 114, 101, 32, 49, 32, 51, 32, 49, 32, 116, 32, 49, 32, 54, 53, 53, 51, 54, 32, 52, 10, 99, 97, 110, 32, 49, 32, 53, 32, 49, 32, 110, 117, 109, 32, 49, 32, 49, 48, 52, 56, 53, 55, 54, 32, 49, 54, 32, 100, 101, 110, 32, 49, 32, 49, 48, 50, 52, 32, 49, 10, 108, 105, 110, 32, 51, 32, 53, 32, 48, 32, 99, 108, 97, 115, 115, 105, 99, 32, 48, 32, 49, 32, 48, 10, 106, 116, 97, 103, 32, 49, 32, 53, 32, 52, 32, 116, 32, 49, 32, 54, 53, 53, 51, 54, 32, 52, 10, 115, 108, 105, 112, 32, 51, 32, 54, 32, 48, 32, 109, 111, 115, 116, 32, 49, 32, 52, 48, 57, 54, 32, 50, 53, 54, 10, 109, 111, 100, 98, 117, 115, 32, 51, 32, 53, 32, 48, 32, 103, 97, 112, 32, 48, 32, 49, 48, 48, 48, 48, 48, 48, 32, 53, 54, 48, 10, 101, 101, 112, 114, 111, 109, 32, 53, 32, 55, 32, 48, 32, 97, 100, 100, 114, 101, 115, 115, 32, 48, 32, 49, 50, 55, 32, 56, 48, 32, 112, 111, 105, 110, 116, 101, 114, 32, 49, 32, 50, 32, 49, 10, 105, 115, 111, 116, 112, 32, 53, 32, 54, 32, 48, 32, 105, 100, 32, 48, 32, 53, 51, 54, 56, 55, 48, 57, 49, 49, 32, 50, 48, 49, 54, 10, 112, 97, 105, 114, 32, 54, 32, 56, 32, 48, 32, 116, 105, 109, 101, 111, 117, 116, 32, 49, 32, 49, 48, 57, 57, 53, 49, 49, 54, 50, 55, 55, 55, 54, 32, 49, 48, 52, 56, 53, 55, 54]) (strB [10])).bind fun y1 =>
    kinds_Kinds_l4 y1.1.1 (y1.1.1.length : Int) 0 []
def fc15 : FC := ⟨⟨[], []⟩, ⟨[.one (.sl .str)], []⟩, fun x => kinds_Kinds⟩
theorem con15 : Contract Tryd.prog 15 fc15 :=
  kinds_Kinds_D.contract tok (cok_of (l := [(30, fc30), (31, fc31)]) ⟨con30, con31, trivial⟩) mixed (fn' := Tryd.f15) (by kernel_rfl) (by kernel_rfl) rfl (by kernel_rfl) (fun x => (FD.fn_eq _ _).trans (by kernel_rfl))
end
end Go.Proofs.YtjlagiolgpjglaaDoor
end

section
/-
YtjlagiolgpjglaaDoor: signalbench.signalbenchref38.Kinds, as one plain function, its equations, its contract. No condition.
-/
set_option maxRecDepth 100000
set_option linter.unusedVariables false
set_option maxHeartbeats 4000000
open Go Go.AM
namespace Go.Proofs.YtjlagiolgpjglaaDoor
noncomputable section
def ref38_Kinds_D : FD := ⟨T, lookC [], [], (Tryd.f16.body.getD .skip), Tryd.f16.results.toList, ⟨[], []⟩, ⟨[.one (.sl .str)], []⟩, []⟩
def ref38_Kinds : (Option (((List ByteArray) × Unit) × Unit)) :=
  some (([(strB [115, 97, 109, 112, 108, 101, 114]), (strB [110, 114, 122, 105]), (strB [109, 97, 110, 99, 104, 101, 115, 116, 101, 114]), (strB [99, 111, 100, 101, 103, 114, 111, 117, 112]), (strB [115, 116, 117, 102, 102]), (strB [115, 99, 114, 97, 109, 98, 108, 101]), (strB [115, 121, 110, 99]), (strB [117, 97, 114, 116]), (strB [105, 50, 99]), (strB [115, 112, 105]), (strB [111, 110, 101, 119, 105, 114, 101]), (strB [99, 97, 110]), (strB [108, 105, 110]), (strB [106, 116, 97, 103]), (strB [115, 108, 105, 112]), (strB [109, 111, 100, 98, 117, 115]), (strB [101, 101, 112, 114, 111, 109]), (strB [105, 115, 111, 116, 112]), (strB [112, 97, 105, 114])], ()), ())
def fc16 : FC := ⟨⟨[], []⟩, ⟨[.one (.sl .str)], []⟩, fun x => ref38_Kinds⟩
theorem con16 : Contract Tryd.prog 16 fc16 :=
  ref38_Kinds_D.contract tok (cok_of (l := []) trivial) mixed (fn' := Tryd.f16) (by kernel_rfl) (by kernel_rfl) rfl (by kernel_rfl) (fun x => (FD.fn_eq _ _).trans (by kernel_rfl))
end
end Go.Proofs.YtjlagiolgpjglaaDoor
end

section
/-
YtjlagiolgpjglaaDoor: signalbench.signalbenchref38.Output, as one plain function, its equations, its contract. No condition.
-/
set_option maxRecDepth 100000
set_option linter.unusedVariables false
set_option maxHeartbeats 4000000
open Go Go.AM
namespace Go.Proofs.YtjlagiolgpjglaaDoor
noncomputable section
def ref38_Output_D : FD := ⟨T, lookC [], [], (Tryd.f20.body.getD .skip), Tryd.f20.results.toList, ⟨[.one .str], []⟩, ⟨[.one (.int .i64)], []⟩, []⟩
def ref38_Output (kind : ByteArray) : (Option ((Int × Unit) × Unit)) :=
  if (kind.toList == (strB [115, 97, 109, 112, 108, 101, 114]).toList) = true then
    some ((2, ()), ())
  else
    if (kind.toList == (strB [110, 114, 122, 105]).toList) = true then
      some ((2, ()), ())
    else
      if (kind.toList == (strB [109, 97, 110, 99, 104, 101, 115, 116, 101, 114]).toList) = true then
        some ((2, ()), ())
      else
        if (kind.toList == (strB [115, 116, 117, 102, 102]).toList) = true then
          some ((2, ()), ())
        else
          if (kind.toList == (strB [115, 99, 114, 97, 109, 98, 108, 101]).toList) = true then
            some ((2, ()), ())
          else
            if (kind.toList == (strB [99, 111, 100, 101, 103, 114, 111, 117, 112]).toList) = true then
              some ((3, ()), ())
            else
              if (kind.toList == (strB [117, 97, 114, 116]).toList) = true then
                some ((3, ()), ())
              else
                if (kind.toList == (strB [111, 110, 101, 119, 105, 114, 101]).toList) = true then
                  some ((3, ()), ())
                else
                  if (kind.toList == (strB [115, 121, 110, 99]).toList) = true then
                    some ((5, ()), ())
                  else
                    if (kind.toList == (strB [105, 50, 99]).toList) = true then
                      some ((5, ()), ())
                    else
                      if (kind.toList == (strB [115, 112, 105]).toList) = true then
                        some ((5, ()), ())
                      else
                        if (kind.toList == (strB [99, 97, 110]).toList) = true then
                          some ((5, ()), ())
                        else
                          if (kind.toList == (strB [108, 105, 110]).toList) = true then
                            some ((5, ()), ())
                          else
                            if (kind.toList == (strB [106, 116, 97, 103]).toList) = true then
                              some ((5, ()), ())
                            else
                              if (kind.toList == (strB [109, 111, 100, 98, 117, 115]).toList) = true then
                                some ((5, ()), ())
                              else
                                if (kind.toList == (strB [115, 108, 105, 112]).toList) = true then
                                  some ((6, ()), ())
                                else
                                  if (kind.toList == (strB [105, 115, 111, 116, 112]).toList) = true then
                                    some ((6, ()), ())
                                  else
                                    if (kind.toList == (strB [101, 101, 112, 114, 111, 109]).toList) = true then
                                      some ((7, ()), ())
                                    else
                                      if (kind.toList == (strB [112, 97, 105, 114]).toList) = true then
                                        some ((8, ()), ())
                                      else
                                        some ((0, ()), ())
def fc20 : FC := ⟨⟨[.one .str], []⟩, ⟨[.one (.int .i64)], []⟩, fun x => ref38_Output x.1.1⟩
theorem con20 : Contract Tryd.prog 20 fc20 :=
  ref38_Output_D.contract tok (cok_of (l := []) trivial) mixed (fn' := Tryd.f20) (by kernel_rfl) (by kernel_rfl) rfl (by kernel_rfl) (fun x => (FD.fn_eq _ _).trans (by kernel_rfl))
end
end Go.Proofs.YtjlagiolgpjglaaDoor
end

section
/-
YtjlagiolgpjglaaDoor: signalbench.signalbenchref38.Channels, as one plain function, its equations, its contract. No condition.
-/
set_option maxRecDepth 100000
set_option linter.unusedVariables false
set_option maxHeartbeats 4000000
open Go Go.AM
namespace Go.Proofs.YtjlagiolgpjglaaDoor
noncomputable section
def ref38_Channels_D : FD := ⟨T, lookC [], [], (Tryd.f22.body.getD .skip), Tryd.f22.results.toList, ⟨[.one .str], []⟩, ⟨[.one (.int .i64)], []⟩, []⟩
def ref38_Channels (kind : ByteArray) : (Option ((Int × Unit) × Unit)) :=
  if (kind.toList == (strB [115, 97, 109, 112, 108, 101, 114]).toList) = true then
    some ((1, ()), ())
  else
    if (kind.toList == (strB [109, 97, 110, 99, 104, 101, 115, 116, 101, 114]).toList) = true then
      some ((1, ()), ())
    else
      if (kind.toList == (strB [117, 97, 114, 116]).toList) = true then
        some ((1, ()), ())
      else
        if (kind.toList == (strB [111, 110, 101, 119, 105, 114, 101]).toList) = true then
          some ((1, ()), ())
        else
          if (kind.toList == (strB [99, 97, 110]).toList) = true then
            some ((1, ()), ())
          else
            if (kind.toList == (strB [105, 50, 99]).toList) = true then
              some ((2, ()), ())
            else
              if (kind.toList == (strB [115, 112, 105]).toList) = true then
                some ((3, ()), ())
              else
                if (kind.toList == (strB [106, 116, 97, 103]).toList) = true then
                  some ((4, ()), ())
                else
                  some ((0, ()), ())
def fc22 : FC := ⟨⟨[.one .str], []⟩, ⟨[.one (.int .i64)], []⟩, fun x => ref38_Channels x.1.1⟩
theorem con22 : Contract Tryd.prog 22 fc22 :=
  ref38_Channels_D.contract tok (cok_of (l := []) trivial) mixed (fn' := Tryd.f22) (by kernel_rfl) (by kernel_rfl) rfl (by kernel_rfl) (fun x => (FD.fn_eq _ _).trans (by kernel_rfl))
end
end Go.Proofs.YtjlagiolgpjglaaDoor
end

section
/-
YtjlagiolgpjglaaDoor: signalbench.signalbenchlaw38.specs, as one plain function, its equations, its contract. No condition.
-/
set_option maxRecDepth 100000
set_option linter.unusedVariables false
set_option maxHeartbeats 4000000
open Go Go.AM
namespace Go.Proofs.YtjlagiolgpjglaaDoor
noncomputable section
def law38_specs_F6 : FSh := ⟨[(0, .one (.sl (.cons .str (.cons (.int .i64) (.cons (.int .i64) (.int .i64)))))), (1, .one (.sl (.cons .str (.cons (.int .i64) (.cons (.int .i64) (.int .i64)))))), (5, .one (.int .i64))], []⟩
def law38_specs_D : FD := ⟨T, lookC [], [], (Tryd.f23.body.getD .skip), Tryd.f23.results.toList, ⟨[.one (.sl (.cons .str (.cons (.int .i64) (.cons (.int .i64) (.int .i64))))), .one (.sl (.cons .str (.cons (.int .i64) (.cons (.int .i64) (.int .i64)))))], []⟩, ⟨[.one .bool], []⟩, [(6, law38_specs_F6)]⟩
def law38_specs_l6 (a : (List TSpec)) (b : (List TSpec)) (i : Int) : (Option ((Bool × Unit) × Unit)) := law38_specs_D.lab 6 law38_specs_F6 ((a, b, i, ()), ())
theorem law38_specs_l6_eq (a : (List TSpec)) (b : (List TSpec)) (i : Int) : law38_specs_l6 a b i =
  if (decide (i < (a.length : Int))) = true then
    if 0 ≤ i ∧ i < (a.length : Int) then
      if 0 ≤ i ∧ i < (b.length : Int) then
        if (!(eqU uSpec (a.getD i.toNat dSpec) (b.getD i.toNat dSpec))) = true then
          some ((false, ()), ())
        else
          law38_specs_l6 a b (IntKind.i64.wrap (i + 1))
      else
        none
    else
      none
  else
    some ((true, ()), ()) := (FD.lab_eq _ _ _ _).trans (by kernel_rfl)
def law38_specs (a : (List TSpec)) (b : (List TSpec)) : (Option ((Bool × Unit) × Unit)) :=
  if ((a.length : Int) != (b.length : Int)) = true then
    some ((false, ()), ())
  else
    law38_specs_l6 a b 0
def fc23 : FC := ⟨⟨[.one (.sl (.cons .str (.cons (.int .i64) (.cons (.int .i64) (.int .i64))))), .one (.sl (.cons .str (.cons (.int .i64) (.cons (.int .i64) (.int .i64)))))], []⟩, ⟨[.one .bool], []⟩, fun x => law38_specs x.1.1 x.1.2.1⟩
theorem con23 : Contract Tryd.prog 23 fc23 :=
  law38_specs_D.contract tok (cok_of (l := []) trivial) mixed (fn' := Tryd.f23) (by kernel_rfl) (by kernel_rfl) rfl (by kernel_rfl) (fun x => (FD.fn_eq _ _).trans (by kernel_rfl))
end
end Go.Proofs.YtjlagiolgpjglaaDoor
end

section
/-
YtjlagiolgpjglaaDoor: signalbench.signalbenchlaw38.KindsValues, as one plain function, its equations, its contract. No condition.
-/
set_option maxRecDepth 100000
set_option linter.unusedVariables false
set_option maxHeartbeats 4000000
open Go Go.AM
namespace Go.Proofs.YtjlagiolgpjglaaDoor
noncomputable section
def law38_KindsValues_D : FD := ⟨T, lookC [(9, fc9), (10, fc10), (11, fc11)], [], (Tryd.f3.body.getD .skip), Tryd.f3.results.toList, ⟨[.one .str, .one (.sl (.cons .str (.int .i64))), .one .str], []⟩, ⟨[.one .bool], []⟩, []⟩
def law38_KindsValues (kind : ByteArray) (l : (List TParam)) (name : ByteArray) : (Option ((Bool × Unit) × Unit)) :=
  (kinds_Value kind l name).bind fun y1 =>
    (ref38_Value kind l name).bind fun y2 =>
      if (y1.1.1 == y2.1.1) = true then
        if (y1.1.2.1 == y2.1.2.1) = true then
          (law38_awake).bind fun y3 =>
            some ((y3.1.1, ()), ())
        else
          some ((false, ()), ())
      else
        some ((false, ()), ())
def fc3 : FC := ⟨⟨[.one .str, .one (.sl (.cons .str (.int .i64))), .one .str], []⟩, ⟨[.one .bool], []⟩, fun x => law38_KindsValues x.1.1 x.1.2.1 x.1.2.2.1⟩
theorem con3 : Contract Tryd.prog 3 fc3 :=
  law38_KindsValues_D.contract tok (cok_of (l := [(9, fc9), (10, fc10), (11, fc11)]) ⟨con9, con10, con11, trivial⟩) mixed (fn' := Tryd.f3) (by kernel_rfl) (by kernel_rfl) rfl (by kernel_rfl) (fun x => (FD.fn_eq _ _).trans (by kernel_rfl))
end
end Go.Proofs.YtjlagiolgpjglaaDoor
end

section
/-
YtjlagiolgpjglaaDoor: signalbench.signalbenchlaw38.KindsChecks, as one plain function, its equations, its contract. No condition.
-/
set_option maxRecDepth 100000
set_option linter.unusedVariables false
set_option maxHeartbeats 4000000
open Go Go.AM
namespace Go.Proofs.YtjlagiolgpjglaaDoor
noncomputable section
def law38_KindsChecks_D : FD := ⟨T, lookC [(11, fc11), (12, fc12), (13, fc13)], [], (Tryd.f4.body.getD .skip), Tryd.f4.results.toList, ⟨[.one .str, .one (.sl (.cons .str (.int .i64)))], []⟩, ⟨[.one .bool], []⟩, []⟩
def law38_KindsChecks (kind : ByteArray) (l : (List TParam)) : (Option ((Bool × Unit) × Unit)) :=
  if (decide ((l.length : Int) > 500)) = true then
    (law38_awake).bind fun y1 =>
      some ((y1.1.1, ()), ())
  else
    (kinds_Check kind l).bind fun y2 =>
      (ref38_Check kind l).bind fun y3 =>
        if (y2.1.1 == y3.1.1) = true then
          (law38_awake).bind fun y4 =>
            some ((y4.1.1, ()), ())
        else
          some ((false, ()), ())
def fc4 : FC := ⟨⟨[.one .str, .one (.sl (.cons .str (.int .i64)))], []⟩, ⟨[.one .bool], []⟩, fun x => law38_KindsChecks x.1.1 x.1.2.1⟩
theorem con4 : Contract Tryd.prog 4 fc4 :=
  law38_KindsChecks_D.contract tok (cok_of (l := [(11, fc11), (12, fc12), (13, fc13)]) ⟨con11, con12, con13, trivial⟩) mixed (fn' := Tryd.f4) (by kernel_rfl) (by kernel_rfl) rfl (by kernel_rfl) (fun x => (FD.fn_eq _ _).trans (by kernel_rfl))
end
end Go.Proofs.YtjlagiolgpjglaaDoor
end

section
/-
YtjlagiolgpjglaaDoor: signalbench.signalbenchlaw38.KindsInside, as one plain function, its equations, its contract. No condition.
-/
set_option maxRecDepth 100000
set_option linter.unusedVariables false
set_option maxHeartbeats 4000000
open Go Go.AM
namespace Go.Proofs.YtjlagiolgpjglaaDoor
noncomputable section
def law38_KindsInside_F7 : FSh := ⟨[(0, .one .str), (1, .one (.sl (.cons .str (.int .i64)))), (5, .one (.sl (.cons .str (.cons (.int .i64) (.cons (.int .i64) (.int .i64)))))), (6, .one (.int .i64))], []⟩
def law38_KindsInside_D : FD := ⟨T, lookC [(9, fc9), (11, fc11), (12, fc12), (14, fc14)], [], (Tryd.f5.body.getD .skip), Tryd.f5.results.toList, ⟨[.one .str, .one (.sl (.cons .str (.int .i64)))], []⟩, ⟨[.one .bool], []⟩, [(7, law38_KindsInside_F7)]⟩
def law38_KindsInside_l7 (kind : ByteArray) (l : (List TParam)) (s : (List TSpec)) (i : Int) : (Option ((Bool × Unit) × Unit)) := law38_KindsInside_D.lab 7 law38_KindsInside_F7 ((kind, l, s, i, ()), ())
theorem law38_KindsInside_l7_eq (kind : ByteArray) (l : (List TParam)) (s : (List TSpec)) (i : Int) : law38_KindsInside_l7 kind l s i =
  if (decide (i < (s.length : Int))) = true then
    if 0 ≤ i ∧ i < (s.length : Int) then
      (kinds_Value kind l (s.getD i.toNat dSpec).1).bind fun y1 =>
        if (y1.1.2.1 != 0) = true then
          some ((false, ()), ())
        else
          if 0 ≤ i ∧ i < (s.length : Int) then
            if (decide (y1.1.1 < (s.getD i.toNat dSpec).2.1)) = true then
              some ((false, ()), ())
            else
              if 0 ≤ i ∧ i < (s.length : Int) then
                if (decide (y1.1.1 > (s.getD i.toNat dSpec).2.2.1)) = true then
                  some ((false, ()), ())
                else
                  if 0 ≤ i ∧ i < (s.length : Int) then
                    if 0 ≤ i ∧ i < (s.length : Int) then
                      if (decide ((s.getD i.toNat dSpec).2.2.2 < (s.getD i.toNat dSpec).2.1)) = true then
                        some ((false, ()), ())
                      else
                        if 0 ≤ i ∧ i < (s.length : Int) then
                          if 0 ≤ i ∧ i < (s.length : Int) then
                            if (decide ((s.getD i.toNat dSpec).2.2.2 > (s.getD i.toNat dSpec).2.2.1)) = true then
                              some ((false, ()), ())
                            else
                              if 0 ≤ i ∧ i < (s.length : Int) then
                                (kinds_Value kind [] (s.getD i.toNat dSpec).1).bind fun y2 =>
                                  if (y2.1.2.1 != 0) = true then
                                    some ((false, ()), ())
                                  else
                                    if 0 ≤ i ∧ i < (s.length : Int) then
                                      if (y2.1.1 != (s.getD i.toNat dSpec).2.2.2) = true then
                                        some ((false, ()), ())
                                      else
                                        law38_KindsInside_l7 kind l s (IntKind.i64.wrap (i + 1))
                                    else
                                      none
                              else
                                none
                          else
                            none
                        else
                          none
                    else
                      none
                  else
                    none
              else
                none
          else
            none
    else
      none
  else
    if (decide ((l.length : Int) ≤ (s.length : Int))) = true then
      (kinds_Check kind []).bind fun y3 =>
        if (y3.1.1 == 0) = true then
          (law38_awake).bind fun y4 =>
            some ((y4.1.1, ()), ())
        else
          some ((false, ()), ())
    else
      some ((false, ()), ()) := (FD.lab_eq _ _ _ _).trans (by kernel_rfl)
def law38_KindsInside (kind : ByteArray) (l : (List TParam)) : (Option ((Bool × Unit) × Unit)) :=
  if (decide ((l.length : Int) > 500)) = true then
    (law38_awake).bind fun y1 =>
      some ((y1.1.1, ()), ())
  else
    (kinds_Check kind l).bind fun y2 =>
      if (y2.1.1 != 0) = true then
        (law38_awake).bind fun y3 =>
          some ((y3.1.1, ()), ())
      else
        (kinds_Specs kind).bind fun y4 =>
          law38_KindsInside_l7 kind l y4.1.1 0
def fc5 : FC := ⟨⟨[.one .str, .one (.sl (.cons .str (.int .i64)))], []⟩, ⟨[.one .bool], []⟩, fun x => law38_KindsInside x.1.1 x.1.2.1⟩
theorem con5 : Contract Tryd.prog 5 fc5 :=
  law38_KindsInside_D.contract tok (cok_of (l := [(9, fc9), (11, fc11), (12, fc12), (14, fc14)]) ⟨con9, con11, con12, con14, trivial⟩) mixed (fn' := Tryd.f5) (by kernel_rfl) (by kernel_rfl) rfl (by kernel_rfl) (fun x => (FD.fn_eq _ _).trans (by kernel_rfl))
end
end Go.Proofs.YtjlagiolgpjglaaDoor
end

section
/-
YtjlagiolgpjglaaDoor: signalbench.signalbenchlaw38.KindsOrder, as one plain function, its equations, its contract. No condition.
-/
set_option maxRecDepth 100000
set_option linter.unusedVariables false
set_option maxHeartbeats 4000000
open Go Go.AM
namespace Go.Proofs.YtjlagiolgpjglaaDoor
noncomputable section
def law38_KindsOrder_F7 : FSh := ⟨[(0, .one .str), (1, .one (.sl (.cons .str (.int .i64)))), (2, .one .str), (7, .one (.own 0)), (8, .one (.int .i64))], [.arr 35 (.cons .str (.int .i64)) true]⟩
def law38_KindsOrder_D : FD := ⟨T, lookC [(9, fc9), (11, fc11), (12, fc12)], [], (Tryd.f6.body.getD .skip), Tryd.f6.results.toList, ⟨[.one .str, .one (.sl (.cons .str (.int .i64))), .one .str], []⟩, ⟨[.one .bool], []⟩, [(7, law38_KindsOrder_F7)]⟩
def law38_KindsOrder_l7 (kind : ByteArray) (l : (List TParam)) (name : ByteArray) (i : Int) (l0 : (List TParam)) : (Option ((Bool × Unit) × Unit)) := law38_KindsOrder_D.lab 7 law38_KindsOrder_F7 ((kind, l, name, (), i, ()), (l0, ()))
theorem law38_KindsOrder_l7_eq (kind : ByteArray) (l : (List TParam)) (name : ByteArray) (i : Int) (l0 : (List TParam)) : law38_KindsOrder_l7 kind l name i l0 =
  if (decide (i ≥ 0)) = true then
    if 0 ≤ i ∧ i < (l.length : Int) then
      if (l0.length + 1) * 24 ≤ 140737488355328 ∧ 0 < 24 then
        law38_KindsOrder_l7 kind l name (IntKind.i64.wrap (i - 1)) (l0 ++ [(l.getD i.toNat dParam)])
      else
        none
    else
      none
  else
    (kinds_Value kind l name).bind fun y1 =>
      (kinds_Value kind l0 name).bind fun y2 =>
        (kinds_Check kind l0).bind fun y3 =>
          if (y3.1.1 == 0) = true then
            if (y1.1.1 == y2.1.1) = true then
              if (y1.1.2.1 == y2.1.2.1) = true then
                (law38_awake).bind fun y4 =>
                  some ((y4.1.1, ()), ())
              else
                some ((false, ()), ())
            else
              some ((false, ()), ())
          else
            some ((false, ()), ()) := (FD.lab_eq _ _ _ _).trans (by kernel_rfl)
def law38_KindsOrder (kind : ByteArray) (l : (List TParam)) (name : ByteArray) : (Option ((Bool × Unit) × Unit)) :=
  if (decide ((l.length : Int) > 500)) = true then
    (law38_awake).bind fun y1 =>
      some ((y1.1.1, ()), ())
  else
    (kinds_Check kind l).bind fun y2 =>
      if (y2.1.1 != 0) = true then
        (law38_awake).bind fun y3 =>
          some ((y3.1.1, ()), ())
      else
        if ((0 : Int) = 0 ∨ 0 = (l.length : Int)) ∧ 0 ≤ (l.length : Int) ∧ (l.length : Int) * 24 ≤ 140737488355328 ∧ 0 < 24 then
          law38_KindsOrder_l7 kind l name (IntKind.i64.wrap ((l.length : Int) - 1)) []
        else
          none
def fc6 : FC := ⟨⟨[.one .str, .one (.sl (.cons .str (.int .i64))), .one .str], []⟩, ⟨[.one .bool], []⟩, fun x => law38_KindsOrder x.1.1 x.1.2.1 x.1.2.2.1⟩
theorem con6 : Contract Tryd.prog 6 fc6 :=
  law38_KindsOrder_D.contract tok (cok_of (l := [(9, fc9), (11, fc11), (12, fc12)]) ⟨con9, con11, con12, trivial⟩) mixed (fn' := Tryd.f6) (by kernel_rfl) (by kernel_rfl) rfl (by kernel_rfl) (fun x => (FD.fn_eq _ _).trans (by kernel_rfl))
end
end Go.Proofs.YtjlagiolgpjglaaDoor
end

section
/-
YtjlagiolgpjglaaDoor: signalbench.signalbenchlaw38.KindsTables, as one plain function, its equations, its contract. No condition.
-/
set_option maxRecDepth 100000
set_option linter.unusedVariables false
set_option maxHeartbeats 4000000
open Go Go.AM
namespace Go.Proofs.YtjlagiolgpjglaaDoor
noncomputable section
def law38_KindsTables_F8 : FSh := ⟨[(0, .one .str), (3, .one (.sl .str)), (4, .one (.sl .str)), (5, .one (.int .i64))], []⟩
def law38_KindsTables_D : FD := ⟨T, lookC [(11, fc11), (14, fc14), (15, fc15), (16, fc16), (17, fc17), (18, fc18), (19, fc19), (20, fc20), (21, fc21), (22, fc22), (23, fc23), (24, fc24)], [], (Tryd.f7.body.getD .skip), Tryd.f7.results.toList, ⟨[.one .str], []⟩, ⟨[.one .bool], []⟩, [(8, law38_KindsTables_F8)]⟩
def law38_KindsTables_l8 (kind : ByteArray) (l : (List ByteArray)) (want : (List ByteArray)) (i : Int) : (Option ((Bool × Unit) × Unit)) := law38_KindsTables_D.lab 8 law38_KindsTables_F8 ((kind, l, want, i, ()), ())
theorem law38_KindsTables_l8_eq (kind : ByteArray) (l : (List ByteArray)) (want : (List ByteArray)) (i : Int) : law38_KindsTables_l8 kind l want i =
  if (decide (i < (l.length : Int))) = true then
    if 0 ≤ i ∧ i < (l.length : Int) then
      if 0 ≤ i ∧ i < (want.length : Int) then
        if (!((l.getD i.toNat (strB [])).toList == (want.getD i.toNat (strB [])).toList)) = true then
          some ((false, ()), ())
        else
          if 0 ≤ i ∧ i < (l.length : Int) then
            (kinds_Input (l.getD i.toNat (strB []))).bind fun y1 =>
              if 0 ≤ i ∧ i < (l.length : Int) then
                (ref38_Input (l.getD i.toNat (strB []))).bind fun y2 =>
                  if (y1.1.1 != y2.1.1) = true then
                    some ((false, ()), ())
                  else
                    if 0 ≤ i ∧ i < (l.length : Int) then
                      (kinds_Output (l.getD i.toNat (strB []))).bind fun y3 =>
                        if 0 ≤ i ∧ i < (l.length : Int) then
                          (ref38_Output (l.getD i.toNat (strB []))).bind fun y4 =>
                            if (y3.1.1 != y4.1.1) = true then
                              some ((false, ()), ())
                            else
                              if 0 ≤ i ∧ i < (l.length : Int) then
                                (kinds_Channels (l.getD i.toNat (strB []))).bind fun y5 =>
                                  if 0 ≤ i ∧ i < (l.length : Int) then
                                    (ref38_Channels (l.getD i.toNat (strB []))).bind fun y6 =>
                                      if (y5.1.1 != y6.1.1) = true then
                                        some ((false, ()), ())
                                      else
                                        if 0 ≤ i ∧ i < (l.length : Int) then
                                          (kinds_Specs (l.getD i.toNat (strB []))).bind fun y7 =>
                                            if 0 ≤ i ∧ i < (l.length : Int) then
                                              (ref38_Specs (l.getD i.toNat (strB []))).bind fun y8 =>
                                                (law38_specs y7.1.1 y8.1.1).bind fun y9 =>
                                                  if (!y9.1.1) = true then
                                                    some ((false, ()), ())
                                                  else
                                                    law38_KindsTables_l8 kind l want (IntKind.i64.wrap (i + 1))
                                            else
                                              none
                                        else
                                          none
                                  else
                                    none
                              else
                                none
                        else
                          none
                    else
                      none
              else
                none
          else
            none
      else
        none
    else
      none
  else
    (kinds_Input kind).bind fun y10 =>
      (ref38_Input kind).bind fun y11 =>
        if (y10.1.1 == y11.1.1) = true then
          (kinds_Output kind).bind fun y12 =>
            (ref38_Output kind).bind fun y13 =>
              if (y12.1.1 == y13.1.1) = true then
                (kinds_Channels kind).bind fun y14 =>
                  (ref38_Channels kind).bind fun y15 =>
                    if (y14.1.1 == y15.1.1) = true then
                      (kinds_Specs kind).bind fun y16 =>
                        (ref38_Specs kind).bind fun y17 =>
                          (law38_specs y16.1.1 y17.1.1).bind fun y18 =>
                            if y18.1.1 = true then
                              (law38_awake).bind fun y19 =>
                                some ((y19.1.1, ()), ())
                            else
                              some ((false, ()), ())
                    else
                      some ((false, ()), ())
              else
                some ((false, ()), ())
        else
          some ((false, ()), ()) := (FD.lab_eq _ _ _ _).trans (by kernel_rfl)
def law38_KindsTables (kind : ByteArray) : (Option ((Bool × Unit) × Unit)) :=
  (kinds_Kinds).bind fun y1 =>
    (ref38_Kinds).bind fun y2 =>
      if ((y1.1.1.length : Int) != (y2.1.1.length : Int)) = true then
        some ((false, ()), ())
      else
        law38_KindsTables_l8 kind y1.1.1 y2.1.1 0
def fc7 : FC := ⟨⟨[.one .str], []⟩, ⟨[.one .bool], []⟩, fun x => law38_KindsTables x.1.1⟩
theorem con7 : Contract Tryd.prog 7 fc7 :=
  law38_KindsTables_D.contract tok (cok_of (l := [(11, fc11), (14, fc14), (15, fc15), (16, fc16), (17, fc17), (18, fc18), (19, fc19), (20, fc20), (21, fc21), (22, fc22), (23, fc23), (24, fc24)]) ⟨con11, con14, con15, con16, con17, con18, con19, con20, con21, con22, con23, con24, trivial⟩) mixed (fn' := Tryd.f7) (by kernel_rfl) (by kernel_rfl) rfl (by kernel_rfl) (fun x => (FD.fn_eq _ _).trans (by kernel_rfl))
end
end Go.Proofs.YtjlagiolgpjglaaDoor
end

section
/-
YtjlagiolgpjglaaDoor: signalbench.signalbenchlaw38.KindsPorts, as one plain function, its equations, its contract. No condition.
-/
set_option maxRecDepth 100000
set_option linter.unusedVariables false
set_option maxHeartbeats 4000000
open Go Go.AM
namespace Go.Proofs.YtjlagiolgpjglaaDoor
noncomputable section
def law38_KindsPorts_F15 : FSh := ⟨[(8, .one (.sl (.cons .str (.cons (.int .i64) (.cons (.int .i64) (.int .i64)))))), (9, .one (.int .i64))], []⟩
def law38_KindsPorts_F20 : FSh := ⟨[(8, .one (.sl (.cons .str (.cons (.int .i64) (.cons (.int .i64) (.int .i64)))))), (9, .one (.int .i64)), (10, .one (.int .i64))], []⟩
def law38_KindsPorts_D : FD := ⟨T, lookC [(11, fc11), (14, fc14), (15, fc15), (17, fc17), (19, fc19), (21, fc21)], [], (Tryd.f8.body.getD .skip), Tryd.f8.results.toList, ⟨[.one (.int .i64), .one (.int .i64)], []⟩, ⟨[.one .bool], []⟩, [(15, law38_KindsPorts_F15), (20, law38_KindsPorts_F20)]⟩
def law38_KindsPorts_l15 (s : (List TSpec)) (a : Int) : (Option ((Bool × Unit) × Unit)) := law38_KindsPorts_D.lab 15 law38_KindsPorts_F15 ((s, a, ()), ())
def law38_KindsPorts_l20 (s : (List TSpec)) (a : Int) (b : Int) : (Option ((Bool × Unit) × Unit)) := law38_KindsPorts_D.lab 20 law38_KindsPorts_F20 ((s, a, b, ()), ())
theorem law38_KindsPorts_l15_eq (s : (List TSpec)) (a : Int) : law38_KindsPorts_l15 s a =
  if (decide (a < (s.length : Int))) = true then
    law38_KindsPorts_l20 s a 0
  else
    if (decide ((s.length : Int) > 0)) = true then
      (law38_awake).bind fun y1 =>
        some ((y1.1.1, ()), ())
    else
      some ((false, ()), ()) := (FD.lab_eq _ _ _ _).trans (by kernel_rfl)
theorem law38_KindsPorts_l20_eq (s : (List TSpec)) (a : Int) (b : Int) : law38_KindsPorts_l20 s a b =
  if (decide (b < a)) = true then
    if 0 ≤ a ∧ a < (s.length : Int) then
      if 0 ≤ b ∧ b < (s.length : Int) then
        if ((s.getD a.toNat dSpec).1.toList == (s.getD b.toNat dSpec).1.toList) = true then
          some ((false, ()), ())
        else
          law38_KindsPorts_l20 s a (IntKind.i64.wrap (b + 1))
      else
        none
    else
      none
  else
    law38_KindsPorts_l15 s (IntKind.i64.wrap (a + 1)) := (FD.lab_eq _ _ _ _).trans (by kernel_rfl)
def law38_KindsPorts (i : Int) (j : Int) : (Option ((Bool × Unit) × Unit)) :=
  (kinds_Kinds).bind fun y1 =>
    if (decide (i < 0)) = true then
      if ((y1.1.1.length : Int) == 19) = true then
        (law38_awake).bind fun y2 =>
          some ((y2.1.1, ()), ())
      else
        some ((false, ()), ())
    else
      if (decide (j < 0)) = true then
        if ((y1.1.1.length : Int) == 19) = true then
          (law38_awake).bind fun y3 =>
            some ((y3.1.1, ()), ())
        else
          some ((false, ()), ())
      else
        if (decide (i ≥ (y1.1.1.length : Int))) = true then
          if ((y1.1.1.length : Int) == 19) = true then
            (law38_awake).bind fun y4 =>
              some ((y4.1.1, ()), ())
          else
            some ((false, ()), ())
        else
          if (decide (j ≥ (y1.1.1.length : Int))) = true then
            if ((y1.1.1.length : Int) == 19) = true then
              (law38_awake).bind fun y5 =>
                some ((y5.1.1, ()), ())
            else
              some ((false, ()), ())
          else
            if 0 ≤ i ∧ i < (y1.1.1.length : Int) then
              if 0 ≤ j ∧ j < (y1.1.1.length : Int) then
                if (!(((y1.1.1.getD i.toNat (strB [])).toList == (y1.1.1.getD j.toNat (strB [])).toList) == (i == j))) = true then
                  some ((false, ()), ())
                else
                  if 0 ≤ i ∧ i < (y1.1.1.length : Int) then
                    (kinds_Input (y1.1.1.getD i.toNat (strB []))).bind fun y6 =>
                      if 0 ≤ i ∧ i < (y1.1.1.length : Int) then
                        (kinds_Output (y1.1.1.getD i.toNat (strB []))).bind fun y7 =>
                          if 0 ≤ i ∧ i < (y1.1.1.length : Int) then
                            (kinds_Channels (y1.1.1.getD i.toNat (strB []))).bind fun y8 =>
                              if (!((y6.1.1 == 1) == (decide (y8.1.1 > 0)))) = true then
                                some ((false, ()), ())
                              else
                                if (decide (y6.1.1 < 1)) = true then
                                  some ((false, ()), ())
                                else
                                  if (y6.1.1 == 4) = true then
                                    some ((false, ()), ())
                                  else
                                    if (decide (y7.1.1 ≤ 1)) = true then
                                      some ((false, ()), ())
                                    else
                                      if (y7.1.1 == 4) = true then
                                        some ((false, ()), ())
                                      else
                                        if (decide (y7.1.1 > 8)) = true then
                                          some ((false, ()), ())
                                        else
                                          if (decide (y6.1.1 > y7.1.1)) = true then
                                            some ((false, ()), ())
                                          else
                                            if 0 ≤ i ∧ i < (y1.1.1.length : Int) then
                                              (kinds_Specs (y1.1.1.getD i.toNat (strB []))).bind fun y9 =>
                                                law38_KindsPorts_l15 y9.1.1 0
                                            else
                                              none
                          else
                            none
                      else
                        none
                  else
                    none
              else
                none
            else
              none
def fc8 : FC := ⟨⟨[.one (.int .i64), .one (.int .i64)], []⟩, ⟨[.one .bool], []⟩, fun x => law38_KindsPorts x.1.1 x.1.2.1⟩
theorem con8 : Contract Tryd.prog 8 fc8 :=
  law38_KindsPorts_D.contract tok (cok_of (l := [(11, fc11), (14, fc14), (15, fc15), (17, fc17), (19, fc19), (21, fc21)]) ⟨con11, con14, con15, con17, con19, con21, trivial⟩) mixed (fn' := Tryd.f8) (by kernel_rfl) (by kernel_rfl) rfl (by kernel_rfl) (fun x => (FD.fn_eq _ _).trans (by kernel_rfl))
end
end Go.Proofs.YtjlagiolgpjglaaDoor
end
