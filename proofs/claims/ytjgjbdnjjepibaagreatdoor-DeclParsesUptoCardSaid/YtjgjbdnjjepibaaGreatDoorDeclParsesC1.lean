/-
The plain functions of the program that the law DeclParses reaches, that the program computes them, and what they come to. No condition.
-/
import Derived.Test.YtjgjbdnjjepibaaGreatDoorRows
import Derived.Test.YtjgjbdnjjepibaaGreatDoorChecked
import Derived.Lib.ItoaNum
import Derived.Lib.LaidTab
import Derived.WalkKit
import Derived.Laws.RangeString
import Derived.Laws.RangeAny
import Derived.LoopTactic
import Derived.Below
import Derived.Shelf.Strings.Builder1
import Derived.Shelf.Small.Strs
import Derived.Shelf.Strings.BuilderF
import Derived.Shelf.Strings.BuilderK
import Derived.Shelf.Strconv.Itoa0
import Derived.Shelf.Strconv.Itoa1
import Derived.Shelf.LaysM
import Derived.Shelf.Strconv.Itoa2
import Derived.Shelf.Strconv.Itoa3
import Derived.Shelf.Strings.Search1
import Derived.Shelf.Strings.BuilderCap
import Derived.Test.YtjgjbdnjjepibaaGreatDoorProg
import Derived.Lib.Builder
import Derived.Lib.UnsafeStr
import Derived.Lib.Walk
import Derived.Laws.Externs
import Derived.Test.YtjgjbdnjjepibaaGreatDoorAm1
import Derived.Test.YtjgjbdnjjepibaaGreatDoorAm2
import Derived.Test.YtjgjbdnjjepibaaGreatDoorAm3
set_option linter.unusedVariables false
set_option linter.unusedSimpArgs false
set_option linter.unusedSectionVars false

section
/-
YtjgjbdnjjepibaaGreatDoor: the given measure of what is read is the machine's. No condition.
-/
namespace Go.Proofs.YtjgjbdnjjepibaaGreatDoor
open Go

mutual
theorem bulk_eq {H : Type} : ∀ d : DataW H, Rows.uptoBulk d = AM.bulkW d
  | .lit (.string _) => by simp [Rows.uptoBulk, AM.bulkW]
  | .lit (.bool _) => by simp [Rows.uptoBulk, AM.bulkW]
  | .lit (.int _ _) => by simp [Rows.uptoBulk, AM.bulkW]
  | .lit (.float _ _) => by simp [Rows.uptoBulk, AM.bulkW]
  | .lit .nil => by simp [Rows.uptoBulk, AM.bulkW]
  | .nil => by simp [Rows.uptoBulk, AM.bulkW]
  | .ptr d => by simp [Rows.uptoBulk, AM.bulkW, bulk_eq d]
  | .slice a b => by simp [Rows.uptoBulk, AM.bulkW, bulkAll_eq a, bulkAll_eq b]
  | .agg a => by simp [Rows.uptoBulk, AM.bulkW, bulkAll_eq a]
  | .iface _ d => by simp [Rows.uptoBulk, AM.bulkW, bulk_eq d]
  | .map es => by simp [Rows.uptoBulk, AM.bulkW, bulkEntries_eq es]
  | .held _ => by simp [Rows.uptoBulk, AM.bulkW]
theorem bulkAll_eq {H : Type} : ∀ l : List (DataW H), Rows.uptoBulkAll l = AM.bulkAll l
  | [] => by simp [Rows.uptoBulkAll, AM.bulkAll]
  | d :: r => by simp [Rows.uptoBulkAll, AM.bulkAll, bulk_eq d, bulkAll_eq r]
theorem bulkEntries_eq {H : Type} : ∀ l : List (Lit × DataW H), Rows.uptoBulkEntries l = AM.bulkEntries l
  | [] => by simp [Rows.uptoBulkEntries, AM.bulkEntries]
  | x :: r => by simp [Rows.uptoBulkEntries, AM.bulkEntries, bulkEntry_eq x, bulkEntries_eq r]
theorem bulkEntry_eq {H : Type} : ∀ x : Lit × DataW H, Rows.uptoBulkEntry x = AM.bulkEntry x
  | (.string _, d) => by simp [Rows.uptoBulkEntry, AM.bulkEntry, bulk_eq d]
  | (.bool _, d) => by simp [Rows.uptoBulkEntry, AM.bulkEntry, bulk_eq d]
  | (.int _ _, d) => by simp [Rows.uptoBulkEntry, AM.bulkEntry, bulk_eq d]
  | (.float _ _, d) => by simp [Rows.uptoBulkEntry, AM.bulkEntry, bulk_eq d]
  | (.nil, d) => by simp [Rows.uptoBulkEntry, AM.bulkEntry, bulk_eq d]
end

theorem bulk_bound {H : Type} {l : List (DataW H)} (hk : Rows.uptoSmall H l = true) : AM.bulkAll l ≤ 1048576 := by
  rw [← bulkAll_eq]
  exact of_decide_eq_true hk

theorem own : ownKnob Tryz.prog.godebug = none := by kernel_rfl
theorem laidOut : laidOutB Tryz.prog = true := by kernel_rfl

end Go.Proofs.YtjgjbdnjjepibaaGreatDoor
end

section
/-
YtjgjbdnjjepibaaGreatDoor: the library's table that the row lists, as every state holds it. No condition.
-/
open Go Go.AM
namespace Go.Proofs.YtjgjbdnjjepibaaGreatDoor
noncomputable section
def powCells : Array Value := (Lib.pow10Tab.map fun z => Value.int .u64 z).toArray
instance zoneI : Inhabited ZMem := ⟨fun b => if b = 1 then some powCells else none⟩

theorem zone_pow : Zone 1 = some powCells := rfl

theorem zone_tab {w : World} (h : HoldsB w 1 powCells) : Lib.TabIs Tryz.prog w "internal/strconv.uint64pow10" .u64 Lib.pow10Tab := by
  obtain ⟨t, fr, h⟩ := h
  unfold Lib.TabIs World.var?
  rw [show Tryz.prog.globalNamed "internal/strconv.uint64pow10" = some 1 by kernel_rfl]
  simp only [Option.bind_some]
  rw [h]
  rfl

theorem zone_met {w : World} (h : Lib.TabIs Tryz.prog w "internal/strconv.uint64pow10" .u64 Lib.pow10Tab) : ∀ (b : Nat) (o : Array Value), Zone b = some o → HoldsB w b o := by
  intro b o hz
  have hz' : (if b = 1 then some powCells else none) = some o := hz
  split at hz'
  · rename_i e
    subst e
    cases hz'
    unfold Lib.TabIs World.var? at h
    rw [show Tryz.prog.globalNamed "internal/strconv.uint64pow10" = some 1 by kernel_rfl] at h
    simp only [Option.bind_some] at h
    split at h
    · rename_i cs t fr hq
      cases h
      exact ⟨t, fr, hq⟩
    · cases h
  · cases hz'
end
end Go.Proofs.YtjgjbdnjjepibaaGreatDoor
end

section
/-
YtjgjbdnjjepibaaGreatDoor: the types that the functions use. No condition.
-/
set_option maxRecDepth 100000
open Go Go.AM
namespace Go.Proofs.YtjgjbdnjjepibaaGreatDoor
noncomputable section
abbrev TAct : Type := Int × Int
abbrev uAct : U := (.cons (.int .i64) (.int .i64))
def dAct : TAct := (0, 0)
abbrev TRule : Type := Int × Int × ByteArray × Bool × (List TAct)
abbrev uRule : U := (.cons (.int .i64) (.cons (.int .i64) (.cons .str (.cons .bool (.sl (.cons (.int .i64) (.int .i64)))))))
def dRule : TRule := (0, (0, ((strB []), (false, []))))
abbrev TDeclState : Type := ByteArray × (List TRule) × Bool × TRule
abbrev uDeclState : U := (.cons .str (.cons (.sl (.cons (.int .i64) (.cons (.int .i64) (.cons .str (.cons .bool (.sl (.cons (.int .i64) (.int .i64)))))))) (.cons .bool (.cons (.int .i64) (.cons (.int .i64) (.cons .str (.cons .bool (.sl (.cons (.int .i64) (.int .i64))))))))))
def dDeclState : TDeclState := ((strB []), ([], (false, dRule)))
abbrev TDecl : Type := ByteArray × Int × Int × (List TDeclState)
abbrev uDecl : U := (.cons .str (.cons (.int .i64) (.cons (.int .i64) (.sl (.cons .str (.cons (.sl (.cons (.int .i64) (.cons (.int .i64) (.cons .str (.cons .bool (.sl (.cons (.int .i64) (.int .i64)))))))) (.cons .bool (.cons (.int .i64) (.cons (.int .i64) (.cons .str (.cons .bool (.sl (.cons (.int .i64) (.int .i64))))))))))))))
def dDecl : TDecl := ((strB []), (0, (0, [])))
abbrev TToken : Type := Int × ByteArray × TAct
abbrev uToken : U := (.cons (.int .i64) (.cons .str (.cons (.int .i64) (.int .i64))))
def dToken : TToken := (0, ((strB []), dAct))
abbrev Treader : Type := (List TToken) × TAct
abbrev ureader : U := (.cons (.sl (.cons (.int .i64) (.cons .str (.cons (.int .i64) (.int .i64))))) (.cons (.int .i64) (.int .i64)))
def dreader : Treader := ([], dAct)
def TL : List (Nat × TD) := [
  (3, ⟨.int .i64, 1, 8, [.val (.int .i64 0)], some (.int .i64), false, []⟩),
  (4, ⟨.bool, 1, 1, [.val (.bool false)], some .bool, false, []⟩),
  (5, ⟨.int .u8, 1, 1, [.val (.int .u8 0)], some (.int .u8), false, []⟩),
  (9, ⟨.string, 1, 16, [.val (.string ⟨#[]⟩)], some .str, false, []⟩),
  (21, ⟨.int .i32, 1, 4, [.val (.int .i32 0)], some (.int .i32), false, []⟩),
  (22, ⟨.slice 39, 1, 24, [.val (.slice none 0 0)], some (.sl (.cons .str (.cons (.sl (.cons (.int .i64) (.cons (.int .i64) (.cons .str (.cons .bool (.sl (.cons (.int .i64) (.int .i64)))))))) (.cons .bool (.cons (.int .i64) (.cons (.int .i64) (.cons .str (.cons .bool (.sl (.cons (.int .i64) (.int .i64))))))))))), false, []⟩),
  (24, ⟨(Tryz.t23.desc), 4, 56, [.val (.string ⟨#[]⟩), .val (.int .i64 0), .val (.int .i64 0), .val (.slice none 0 0)], some (.cons .str (.cons (.int .i64) (.cons (.int .i64) (.sl (.cons .str (.cons (.sl (.cons (.int .i64) (.cons (.int .i64) (.cons .str (.cons .bool (.sl (.cons (.int .i64) (.int .i64)))))))) (.cons .bool (.cons (.int .i64) (.cons (.int .i64) (.cons .str (.cons .bool (.sl (.cons (.int .i64) (.int .i64)))))))))))))), false, [(0, 1), (1, 1), (2, 1), (3, 1)]⟩),
  (27, ⟨.int .i64, 1, 8, [.val (.int .i64 0)], some (.int .i64), false, []⟩),
  (34, ⟨.slice 37, 1, 24, [.val (.slice none 0 0)], some (.sl (.cons (.int .i64) (.cons (.int .i64) (.cons .str (.cons .bool (.sl (.cons (.int .i64) (.int .i64)))))))), false, []⟩),
  (35, ⟨.slice 73, 1, 24, [.val (.slice none 0 0)], some (.sl (.cons (.int .i64) (.int .i64))), false, []⟩),
  (37, ⟨(Tryz.t36.desc), 5, 64, [.val (.int .i64 0), .val (.int .i64 0), .val (.string ⟨#[]⟩), .val (.bool false), .val (.slice none 0 0)], some (.cons (.int .i64) (.cons (.int .i64) (.cons .str (.cons .bool (.sl (.cons (.int .i64) (.int .i64))))))), false, [(0, 1), (1, 1), (2, 1), (3, 1), (4, 1)]⟩),
  (39, ⟨(Tryz.t38.desc), 8, 112, [.val (.string ⟨#[]⟩), .val (.slice none 0 0), .val (.bool false), .val (.int .i64 0), .val (.int .i64 0), .val (.string ⟨#[]⟩), .val (.bool false), .val (.slice none 0 0)], some (.cons .str (.cons (.sl (.cons (.int .i64) (.cons (.int .i64) (.cons .str (.cons .bool (.sl (.cons (.int .i64) (.int .i64)))))))) (.cons .bool (.cons (.int .i64) (.cons (.int .i64) (.cons .str (.cons .bool (.sl (.cons (.int .i64) (.int .i64)))))))))), false, [(0, 1), (1, 1), (2, 1), (3, 5)]⟩),
  (46, ⟨.pointer 49, 1, 8, [.val (.pointer none)], none, false, []⟩),
  (47, ⟨.slice 62, 1, 24, [.val (.slice none 0 0)], some (.sl (.cons (.int .i64) (.cons .str (.cons (.int .i64) (.int .i64))))), false, []⟩),
  (49, ⟨(Tryz.t48.desc), 1, 24, [.val (.slice none 0 0)], some (.sl (.cons (.int .i64) (.cons .str (.cons (.int .i64) (.int .i64))))), false, [(0, 1)]⟩),
  (58, ⟨.pointer 60, 1, 8, [.val (.pointer none)], none, false, []⟩),
  (60, ⟨(Tryz.t59.desc), 3, 40, [.val (.slice none 0 0), .val (.int .i64 0), .val (.int .i64 0)], some (.cons (.sl (.cons (.int .i64) (.cons .str (.cons (.int .i64) (.int .i64))))) (.cons (.int .i64) (.int .i64))), false, [(0, 1), (1, 1), (2, 1)]⟩),
  (62, ⟨(Tryz.t61.desc), 4, 40, [.val (.int .i64 0), .val (.string ⟨#[]⟩), .val (.int .i64 0), .val (.int .i64 0)], some (.cons (.int .i64) (.cons .str (.cons (.int .i64) (.int .i64)))), false, [(0, 1), (1, 1), (2, 1), (3, 1)]⟩),
  (73, ⟨(Tryz.t72.desc), 2, 16, [.val (.int .i64 0), .val (.int .i64 0)], some (.cons (.int .i64) (.int .i64)), true, [(0, 1), (1, 1)]⟩),
  (76, ⟨.slice 9, 1, 24, [.val (.slice none 0 0)], some (.sl .str), false, []⟩),
  (78, ⟨.pointer 81, 1, 8, [.val (.pointer none)], none, false, []⟩),
  (79, ⟨.slice 5, 1, 24, [.val (.slice none 0 0)], some (.sl (.int .u8)), false, []⟩),
  (81, ⟨(Tryz.t80.desc), 2, 32, [.val (.pointer none), .val (.slice none 0 0)], none, false, [(0, 1), (1, 1)]⟩),
  (108, ⟨.array 7 9, 7, 112, [.val (.string ⟨#[]⟩), .val (.string ⟨#[]⟩), .val (.string ⟨#[]⟩), .val (.string ⟨#[]⟩), .val (.string ⟨#[]⟩), .val (.string ⟨#[]⟩), .val (.string ⟨#[]⟩)], some (.cons .str (.cons .str (.cons .str (.cons .str (.cons .str (.cons .str .str)))))), false, []⟩),
  (113, ⟨.pointer 5, 1, 8, [.val (.pointer none)], none, false, []⟩)]
def T : TT := lookT TL
theorem tokAll : AllT Tryz.prog TL := ⟨
  TOk.of Tryz.t3 (.int .i64 0) (by kernel_rfl) (by kernel_rfl) (by kernel_rfl) (by kernel_rfl) (by kernel_rfl) (by kernel_rfl) (fun fs h => nomatch h) (fun h => nomatch h),
  TOk.of Tryz.t4 (.bool false) (by kernel_rfl) (by kernel_rfl) (by kernel_rfl) (by kernel_rfl) (by kernel_rfl) (by kernel_rfl) (fun fs h => nomatch h) (fun h => nomatch h),
  TOk.of Tryz.t5 (.int .u8 0) (by kernel_rfl) (by kernel_rfl) (by kernel_rfl) (by kernel_rfl) (by kernel_rfl) (by kernel_rfl) (fun fs h => nomatch h) (fun h => nomatch h),
  TOk.of Tryz.t9 (.string ⟨#[]⟩) (by kernel_rfl) (by kernel_rfl) (by kernel_rfl) (by kernel_rfl) (by kernel_rfl) (by kernel_rfl) (fun fs h => nomatch h) (fun h => nomatch h),
  TOk.of Tryz.t21 (.int .i32 0) (by kernel_rfl) (by kernel_rfl) (by kernel_rfl) (by kernel_rfl) (by kernel_rfl) (by kernel_rfl) (fun fs h => nomatch h) (fun h => nomatch h),
  TOk.of Tryz.t22 (.slice none 0 0) (by kernel_rfl) (by kernel_rfl) (by kernel_rfl) (by kernel_rfl) (by kernel_rfl) (by kernel_rfl) (fun fs h => nomatch h) (fun h => nomatch h),
  TOk.of Tryz.t24 (.agg #[.string ⟨#[]⟩, .int .i64 0, .int .i64 0, .slice none 0 0]) (by kernel_rfl) (by kernel_rfl) (by kernel_rfl) (by kernel_rfl) (by kernel_rfl) (by kernel_rfl) (fun fs h => by cases h; kernel_rfl) (fun h => nomatch h),
  TOk.of Tryz.t27 (.int .i64 0) (by kernel_rfl) (by kernel_rfl) (by kernel_rfl) (by kernel_rfl) (by kernel_rfl) (by kernel_rfl) (fun fs h => nomatch h) (fun h => nomatch h),
  TOk.of Tryz.t34 (.slice none 0 0) (by kernel_rfl) (by kernel_rfl) (by kernel_rfl) (by kernel_rfl) (by kernel_rfl) (by kernel_rfl) (fun fs h => nomatch h) (fun h => nomatch h),
  TOk.of Tryz.t35 (.slice none 0 0) (by kernel_rfl) (by kernel_rfl) (by kernel_rfl) (by kernel_rfl) (by kernel_rfl) (by kernel_rfl) (fun fs h => nomatch h) (fun h => nomatch h),
  TOk.of Tryz.t37 (.agg #[.int .i64 0, .int .i64 0, .string ⟨#[]⟩, .bool false, .slice none 0 0]) (by kernel_rfl) (by kernel_rfl) (by kernel_rfl) (by kernel_rfl) (by kernel_rfl) (by kernel_rfl) (fun fs h => by cases h; kernel_rfl) (fun h => nomatch h),
  TOk.of Tryz.t39 (.agg #[.string ⟨#[]⟩, .slice none 0 0, .bool false, .int .i64 0, .int .i64 0, .string ⟨#[]⟩, .bool false, .slice none 0 0]) (by kernel_rfl) (by kernel_rfl) (by kernel_rfl) (by kernel_rfl) (by kernel_rfl) (by kernel_rfl) (fun fs h => by cases h; kernel_rfl) (fun h => nomatch h),
  TOk.of Tryz.t46 (.pointer none) (by kernel_rfl) (by kernel_rfl) (by kernel_rfl) (by kernel_rfl) (by kernel_rfl) (by kernel_rfl) (fun fs h => nomatch h) (fun h => nomatch h),
  TOk.of Tryz.t47 (.slice none 0 0) (by kernel_rfl) (by kernel_rfl) (by kernel_rfl) (by kernel_rfl) (by kernel_rfl) (by kernel_rfl) (fun fs h => nomatch h) (fun h => nomatch h),
  TOk.of Tryz.t49 (.agg #[.slice none 0 0]) (by kernel_rfl) (by kernel_rfl) (by kernel_rfl) (by kernel_rfl) (by kernel_rfl) (by kernel_rfl) (fun fs h => by cases h; kernel_rfl) (fun h => nomatch h),
  TOk.of Tryz.t58 (.pointer none) (by kernel_rfl) (by kernel_rfl) (by kernel_rfl) (by kernel_rfl) (by kernel_rfl) (by kernel_rfl) (fun fs h => nomatch h) (fun h => nomatch h),
  TOk.of Tryz.t60 (.agg #[.slice none 0 0, .int .i64 0, .int .i64 0]) (by kernel_rfl) (by kernel_rfl) (by kernel_rfl) (by kernel_rfl) (by kernel_rfl) (by kernel_rfl) (fun fs h => by cases h; kernel_rfl) (fun h => nomatch h),
  TOk.of Tryz.t62 (.agg #[.int .i64 0, .string ⟨#[]⟩, .int .i64 0, .int .i64 0]) (by kernel_rfl) (by kernel_rfl) (by kernel_rfl) (by kernel_rfl) (by kernel_rfl) (by kernel_rfl) (fun fs h => by cases h; kernel_rfl) (fun h => nomatch h),
  TOk.of Tryz.t73 (.agg #[.int .i64 0, .int .i64 0]) (by kernel_rfl) (by kernel_rfl) (by kernel_rfl) (by kernel_rfl) (by kernel_rfl) (by kernel_rfl) (fun fs h => by cases h; kernel_rfl) (eq_ok (fs := (Tryz.prog.fieldsOf 73)) rfl (by kernel_rfl) (by kernel_rfl) (by kernel_rfl) (by kernel_rfl)),
  TOk.of Tryz.t76 (.slice none 0 0) (by kernel_rfl) (by kernel_rfl) (by kernel_rfl) (by kernel_rfl) (by kernel_rfl) (by kernel_rfl) (fun fs h => nomatch h) (fun h => nomatch h),
  TOk.of Tryz.t78 (.pointer none) (by kernel_rfl) (by kernel_rfl) (by kernel_rfl) (by kernel_rfl) (by kernel_rfl) (by kernel_rfl) (fun fs h => nomatch h) (fun h => nomatch h),
  TOk.of Tryz.t79 (.slice none 0 0) (by kernel_rfl) (by kernel_rfl) (by kernel_rfl) (by kernel_rfl) (by kernel_rfl) (by kernel_rfl) (fun fs h => nomatch h) (fun h => nomatch h),
  TOk.of Tryz.t81 (.agg #[.pointer none, .slice none 0 0]) (by kernel_rfl) (by kernel_rfl) (by kernel_rfl) (by kernel_rfl) (by kernel_rfl) (by kernel_rfl) (fun fs h => by cases h; kernel_rfl) (fun h => nomatch h),
  TOk.of Tryz.t108 (.agg #[.string ⟨#[]⟩, .string ⟨#[]⟩, .string ⟨#[]⟩, .string ⟨#[]⟩, .string ⟨#[]⟩, .string ⟨#[]⟩, .string ⟨#[]⟩]) (by kernel_rfl) (by kernel_rfl) (by kernel_rfl) (by kernel_rfl) (by kernel_rfl) (by kernel_rfl) (fun fs h => nomatch h) (fun h => nomatch h),
  TOk.of Tryz.t113 (.pointer none) (by kernel_rfl) (by kernel_rfl) (by kernel_rfl) (by kernel_rfl) (by kernel_rfl) (by kernel_rfl) (fun fs h => nomatch h) (fun h => nomatch h),
  trivial⟩
theorem tok : TOK Tryz.prog T := tok_of tokAll
theorem mixed : Tryz.prog.follows .mixedOrders = true := by kernel_rfl
end
end Go.Proofs.YtjgjbdnjjepibaaGreatDoor
end

section
/-
YtjgjbdnjjepibaaGreatDoor: signalbench.signalbenchref05.letter, as one plain function, its equations, its contract. No condition.
-/
set_option maxRecDepth 100000
set_option linter.unusedVariables false
set_option maxHeartbeats 4000000
open Go Go.AM
namespace Go.Proofs.YtjgjbdnjjepibaaGreatDoor
noncomputable section
def ref05_letter_D : FD := ⟨T, lookC [], [], (Tryz.f70.body.getD .skip), Tryz.f70.results.toList, ⟨[.one (.int .u8)], []⟩, ⟨[.one .bool], []⟩, []⟩
def ref05_letter (c : Int) : (Option ((Bool × Unit) × Unit)) :=
  if (decide (c ≥ 97)) = true then
    some ((decide (c ≤ 122), ()), ())
  else
    some ((false, ()), ())
def fc70 : FC := ⟨⟨[.one (.int .u8)], []⟩, ⟨[.one .bool], []⟩, fun x => ref05_letter x.1.1⟩
theorem con70 : Contract Tryz.prog 70 fc70 :=
  ref05_letter_D.contract tok (cok_of (l := []) trivial) mixed (fn' := Tryz.f70) (by kernel_rfl) (by kernel_rfl) rfl (by kernel_rfl) (fun x => (FD.fn_eq _ _).trans (by kernel_rfl))
end
end Go.Proofs.YtjgjbdnjjepibaaGreatDoor
end

section
/-
YtjgjbdnjjepibaaGreatDoor: signalbench.signalbenchref05.digit, as one plain function, its equations, its contract. No condition.
-/
set_option maxRecDepth 100000
set_option linter.unusedVariables false
set_option maxHeartbeats 4000000
open Go Go.AM
namespace Go.Proofs.YtjgjbdnjjepibaaGreatDoor
noncomputable section
def ref05_digit_D : FD := ⟨T, lookC [], [], (Tryz.f89.body.getD .skip), Tryz.f89.results.toList, ⟨[.one (.int .u8)], []⟩, ⟨[.one .bool], []⟩, []⟩
def ref05_digit (c : Int) : (Option ((Bool × Unit) × Unit)) :=
  if (decide (c ≥ 48)) = true then
    some ((decide (c ≤ 57), ()), ())
  else
    some ((false, ()), ())
def fc89 : FC := ⟨⟨[.one (.int .u8)], []⟩, ⟨[.one .bool], []⟩, fun x => ref05_digit x.1.1⟩
theorem con89 : Contract Tryz.prog 89 fc89 :=
  ref05_digit_D.contract tok (cok_of (l := []) trivial) mixed (fn' := Tryz.f89) (by kernel_rfl) (by kernel_rfl) rfl (by kernel_rfl) (fun x => (FD.fn_eq _ _).trans (by kernel_rfl))
end
end Go.Proofs.YtjgjbdnjjepibaaGreatDoor
end

section
/-
YtjgjbdnjjepibaaGreatDoor: signalbench.signalbenchref05.inner, as one plain function, its equations, its contract. No condition.
-/
set_option maxRecDepth 100000
set_option linter.unusedVariables false
set_option maxHeartbeats 4000000
open Go Go.AM
namespace Go.Proofs.YtjgjbdnjjepibaaGreatDoor
noncomputable section
def ref05_inner_D : FD := ⟨T, lookC [(70, fc70), (89, fc89)], [], (Tryz.f71.body.getD .skip), Tryz.f71.results.toList, ⟨[.one (.int .u8)], []⟩, ⟨[.one .bool], []⟩, []⟩
def ref05_inner (c : Int) : (Option ((Bool × Unit) × Unit)) :=
  (ref05_letter c).bind fun y1 =>
    if y1.1.1 = true then
      some ((true, ()), ())
    else
      (ref05_digit c).bind fun y2 =>
        if y2.1.1 = true then
          some ((true, ()), ())
        else
          some ((c == 95, ()), ())
def fc71 : FC := ⟨⟨[.one (.int .u8)], []⟩, ⟨[.one .bool], []⟩, fun x => ref05_inner x.1.1⟩
theorem con71 : Contract Tryz.prog 71 fc71 :=
  ref05_inner_D.contract tok (cok_of (l := [(70, fc70), (89, fc89)]) ⟨con70, con89, trivial⟩) mixed (fn' := Tryz.f71) (by kernel_rfl) (by kernel_rfl) rfl (by kernel_rfl) (fun x => (FD.fn_eq _ _).trans (by kernel_rfl))
end
end Go.Proofs.YtjgjbdnjjepibaaGreatDoor
end

section
/-
YtjgjbdnjjepibaaGreatDoor: signalbench.signalbenchref05.Name, as one plain function, its equations, its contract. No condition.
-/
set_option maxRecDepth 100000
set_option linter.unusedVariables false
set_option maxHeartbeats 4000000
open Go Go.AM
namespace Go.Proofs.YtjgjbdnjjepibaaGreatDoor
noncomputable section
def ref05_Name_F6 : FSh := ⟨[(0, .one .str), (3, .one (.int .i64))], []⟩
def ref05_Name_D : FD := ⟨T, lookC [(70, fc70), (71, fc71)], [], (Tryz.f46.body.getD .skip), Tryz.f46.results.toList, ⟨[.one .str], []⟩, ⟨[.one .bool], []⟩, [(6, ref05_Name_F6)]⟩
def ref05_Name_l6 (s : ByteArray) (i : Int) : (Option ((Bool × Unit) × Unit)) := ref05_Name_D.lab 6 ref05_Name_F6 ((s, i, ()), ())
theorem ref05_Name_l6_eq (s : ByteArray) (i : Int) : ref05_Name_l6 s i =
  if (decide (i < (s.size : Int))) = true then
    if 0 ≤ i ∧ i < (s.size : Int) then
      (ref05_inner (bt s i)).bind fun y1 =>
        if (!y1.1.1) = true then
          some ((false, ()), ())
        else
          ref05_Name_l6 s (IntKind.i64.wrap (i + 1))
    else
      none
  else
    some ((true, ()), ()) := (FD.lab_eq _ _ _ _).trans (by kernel_rfl)
def ref05_Name (s : ByteArray) : (Option ((Bool × Unit) × Unit)) :=
  if (decide ((s.size : Int) < 1)) = true then
    some ((false, ()), ())
  else
    if (decide ((s.size : Int) > 16)) = true then
      some ((false, ()), ())
    else
      if 0 ≤ (0 : Int) ∧ 0 < (s.size : Int) then
        (ref05_letter (bt s 0)).bind fun y1 =>
          if (!y1.1.1) = true then
            some ((false, ()), ())
          else
            ref05_Name_l6 s 0
      else
        none
def fc46 : FC := ⟨⟨[.one .str], []⟩, ⟨[.one .bool], []⟩, fun x => ref05_Name x.1.1⟩
theorem con46 : Contract Tryz.prog 46 fc46 :=
  ref05_Name_D.contract tok (cok_of (l := [(70, fc70), (71, fc71)]) ⟨con70, con71, trivial⟩) mixed (fn' := Tryz.f46) (by kernel_rfl) (by kernel_rfl) rfl (by kernel_rfl) (fun x => (FD.fn_eq _ _).trans (by kernel_rfl))
end
end Go.Proofs.YtjgjbdnjjepibaaGreatDoor
end

section
/-
YtjgjbdnjjepibaaGreatDoor: signalbench.signalbenchref34.Find, as one plain function, its equations, its contract. No condition.
-/
set_option maxRecDepth 100000
set_option linter.unusedVariables false
set_option maxHeartbeats 4000000
open Go Go.AM
namespace Go.Proofs.YtjgjbdnjjepibaaGreatDoor
noncomputable section
def ref34_Find_F3 : FSh := ⟨[(1, .one .str), (2, .one (.ptr 0 0)), (5, .one (.int .i64))], [.boxr 24 (.cons .str (.cons (.int .i64) (.cons (.int .i64) (.sl (.cons .str (.cons (.sl (.cons (.int .i64) (.cons (.int .i64) (.cons .str (.cons .bool (.sl (.cons (.int .i64) (.int .i64)))))))) (.cons .bool (.cons (.int .i64) (.cons (.int .i64) (.cons .str (.cons .bool (.sl (.cons (.int .i64) (.int .i64))))))))))))))]⟩
def ref34_Find_D : FD := ⟨T, lookC [], [], (Tryz.f72.body.getD .skip), Tryz.f72.results.toList, ⟨[.row (.cons .str (.cons (.int .i64) (.cons (.int .i64) (.sl (.cons .str (.cons (.sl (.cons (.int .i64) (.cons (.int .i64) (.cons .str (.cons .bool (.sl (.cons (.int .i64) (.int .i64)))))))) (.cons .bool (.cons (.int .i64) (.cons (.int .i64) (.cons .str (.cons .bool (.sl (.cons (.int .i64) (.int .i64)))))))))))))), .one .str], []⟩, ⟨[.one (.int .i64)], []⟩, [(3, ref34_Find_F3)]⟩
def ref34_Find_l3 (name : ByteArray) (k0 : Int) (h0 : TDecl) : (Option ((Int × Unit) × Unit)) := ref34_Find_D.lab 3 ref34_Find_F3 ((name, (), k0, ()), (h0, ()))
theorem ref34_Find_l3_eq (name : ByteArray) (k0 : Int) (h0 : TDecl) : ref34_Find_l3 name k0 h0 =
  if (decide (k0 < (h0.2.2.2.length : Int))) = true then
    if 0 ≤ k0 ∧ k0 < (h0.2.2.2.length : Int) then
      if ((h0.2.2.2.getD k0.toNat dDeclState).1.toList == name.toList) = true then
        some ((k0, ()), ())
      else
        ref34_Find_l3 name (IntKind.i64.wrap (k0 + 1)) h0
    else
      none
  else
    some (((-1), ()), ()) := (FD.lab_eq _ _ _ _).trans (by kernel_rfl)
def ref34_Find (d : TDecl) (name : ByteArray) : (Option ((Int × Unit) × Unit)) :=
  ref34_Find_l3 name 0 d
def fc72 : FC := ⟨⟨[.row (.cons .str (.cons (.int .i64) (.cons (.int .i64) (.sl (.cons .str (.cons (.sl (.cons (.int .i64) (.cons (.int .i64) (.cons .str (.cons .bool (.sl (.cons (.int .i64) (.int .i64)))))))) (.cons .bool (.cons (.int .i64) (.cons (.int .i64) (.cons .str (.cons .bool (.sl (.cons (.int .i64) (.int .i64)))))))))))))), .one .str], []⟩, ⟨[.one (.int .i64)], []⟩, fun x => ref34_Find x.1.1 x.1.2.1⟩
theorem con72 : Contract Tryz.prog 72 fc72 :=
  ref34_Find_D.contract tok (cok_of (l := []) trivial) mixed (fn' := Tryz.f72) (by kernel_rfl) (by kernel_rfl) rfl (by kernel_rfl) (fun x => (FD.fn_eq _ _).trans (by kernel_rfl))
end
end Go.Proofs.YtjgjbdnjjepibaaGreatDoor
end

section
/-
YtjgjbdnjjepibaaGreatDoor: signalbench.signalbenchref34.wrongAct, as one plain function, its equations, its contract. No condition.
-/
set_option maxRecDepth 100000
set_option linter.unusedVariables false
set_option maxHeartbeats 4000000
open Go Go.AM
namespace Go.Proofs.YtjgjbdnjjepibaaGreatDoor
noncomputable section
def ref34_wrongAct_D : FD := ⟨T, lookC [], [], (Tryz.f100.body.getD .skip), Tryz.f100.results.toList, ⟨[.row (.cons (.int .i64) (.int .i64))], []⟩, ⟨[.one (.int .i64)], []⟩, []⟩
def ref34_wrongAct (a : TAct) : (Option ((Int × Unit) × Unit)) :=
  if (decide (a.1 < 1)) = true then
    some ((1, ()), ())
  else
    if (decide (a.1 > 6)) = true then
      some ((1, ()), ())
    else
      if (decide (a.1 ≤ 2)) = true then
        if (a.2 != 0) = true then
          some ((1, ()), ())
        else
          if (decide (a.1 ≥ 3)) = true then
            if (decide (a.1 ≤ 5)) = true then
              if (decide (a.2 < 0)) = true then
                some ((2, ()), ())
              else
                if (decide (a.2 > 255)) = true then
                  some ((2, ()), ())
                else
                  if (a.1 == 6) = true then
                    if (decide (a.2 < 1)) = true then
                      some ((2, ()), ())
                    else
                      if (decide (a.2 > 12)) = true then
                        some ((2, ()), ())
                      else
                        some ((0, ()), ())
                  else
                    some ((0, ()), ())
            else
              if (a.1 == 6) = true then
                if (decide (a.2 < 1)) = true then
                  some ((2, ()), ())
                else
                  if (decide (a.2 > 12)) = true then
                    some ((2, ()), ())
                  else
                    some ((0, ()), ())
              else
                some ((0, ()), ())
          else
            if (a.1 == 6) = true then
              if (decide (a.2 < 1)) = true then
                some ((2, ()), ())
              else
                if (decide (a.2 > 12)) = true then
                  some ((2, ()), ())
                else
                  some ((0, ()), ())
            else
              some ((0, ()), ())
      else
        if (decide (a.1 ≥ 3)) = true then
          if (decide (a.1 ≤ 5)) = true then
            if (decide (a.2 < 0)) = true then
              some ((2, ()), ())
            else
              if (decide (a.2 > 255)) = true then
                some ((2, ()), ())
              else
                if (a.1 == 6) = true then
                  if (decide (a.2 < 1)) = true then
                    some ((2, ()), ())
                  else
                    if (decide (a.2 > 12)) = true then
                      some ((2, ()), ())
                    else
                      some ((0, ()), ())
                else
                  some ((0, ()), ())
          else
            if (a.1 == 6) = true then
              if (decide (a.2 < 1)) = true then
                some ((2, ()), ())
              else
                if (decide (a.2 > 12)) = true then
                  some ((2, ()), ())
                else
                  some ((0, ()), ())
            else
              some ((0, ()), ())
        else
          if (a.1 == 6) = true then
            if (decide (a.2 < 1)) = true then
              some ((2, ()), ())
            else
              if (decide (a.2 > 12)) = true then
                some ((2, ()), ())
              else
                some ((0, ()), ())
          else
            some ((0, ()), ())
def fc100 : FC := ⟨⟨[.row (.cons (.int .i64) (.int .i64))], []⟩, ⟨[.one (.int .i64)], []⟩, fun x => ref34_wrongAct x.1.1⟩
theorem con100 : Contract Tryz.prog 100 fc100 :=
  ref34_wrongAct_D.contract tok (cok_of (l := []) trivial) mixed (fn' := Tryz.f100) (by kernel_rfl) (by kernel_rfl) rfl (by kernel_rfl) (fun x => (FD.fn_eq _ _).trans (by kernel_rfl))
end
end Go.Proofs.YtjgjbdnjjepibaaGreatDoor
end

section
/-
YtjgjbdnjjepibaaGreatDoor: signalbench.signalbenchref34.wrongTarget, as one plain function, its equations, its contract. No condition.
-/
set_option maxRecDepth 100000
set_option linter.unusedVariables false
set_option maxHeartbeats 4000000
open Go Go.AM
namespace Go.Proofs.YtjgjbdnjjepibaaGreatDoor
noncomputable section
def ref34_wrongTarget_F9 : FSh := ⟨[(3, .one (.ptr 0 0)), (5, .one (.int .i64))], [.boxr 37 (.cons (.int .i64) (.cons (.int .i64) (.cons .str (.cons .bool (.sl (.cons (.int .i64) (.int .i64)))))))]⟩
def ref34_wrongTarget_D : FD := ⟨T, lookC [(72, fc72), (100, fc100)], [], (Tryz.f73.body.getD .skip), Tryz.f73.results.toList, ⟨[.row (.cons .str (.cons (.int .i64) (.cons (.int .i64) (.sl (.cons .str (.cons (.sl (.cons (.int .i64) (.cons (.int .i64) (.cons .str (.cons .bool (.sl (.cons (.int .i64) (.int .i64)))))))) (.cons .bool (.cons (.int .i64) (.cons (.int .i64) (.cons .str (.cons .bool (.sl (.cons (.int .i64) (.int .i64)))))))))))))), .row (.cons (.int .i64) (.cons (.int .i64) (.cons .str (.cons .bool (.sl (.cons (.int .i64) (.int .i64)))))))], []⟩, ⟨[.one (.int .i64)], []⟩, [(9, ref34_wrongTarget_F9)]⟩
def ref34_wrongTarget_l9 (i : Int) (h0 : TRule) : (Option ((Int × Unit) × Unit)) := ref34_wrongTarget_D.lab 9 ref34_wrongTarget_F9 (((), i, ()), (h0, ()))
theorem ref34_wrongTarget_l9_eq (i : Int) (h0 : TRule) : ref34_wrongTarget_l9 i h0 =
  if (decide (i < (h0.2.2.2.2.length : Int))) = true then
    if 0 ≤ i ∧ i < (h0.2.2.2.2.length : Int) then
      (ref34_wrongAct (h0.2.2.2.2.getD i.toNat dAct)).bind fun y1 =>
        if (y1.1.1 != 0) = true then
          some ((y1.1.1, ()), ())
        else
          ref34_wrongTarget_l9 (IntKind.i64.wrap (i + 1)) h0
    else
      none
  else
    some ((0, ()), ()) := (FD.lab_eq _ _ _ _).trans (by kernel_rfl)
def ref34_wrongTarget (d : TDecl) (r : TRule) : (Option ((Int × Unit) × Unit)) :=
  (ref34_Find d r.2.2.1).bind fun y1 =>
    if (decide (y1.1.1 < 0)) = true then
      some ((8, ()), ())
    else
      if (decide ((r.2.2.2.2.length : Int) > 8)) = true then
        some ((6, ()), ())
      else
        ref34_wrongTarget_l9 0 r
def fc73 : FC := ⟨⟨[.row (.cons .str (.cons (.int .i64) (.cons (.int .i64) (.sl (.cons .str (.cons (.sl (.cons (.int .i64) (.cons (.int .i64) (.cons .str (.cons .bool (.sl (.cons (.int .i64) (.int .i64)))))))) (.cons .bool (.cons (.int .i64) (.cons (.int .i64) (.cons .str (.cons .bool (.sl (.cons (.int .i64) (.int .i64)))))))))))))), .row (.cons (.int .i64) (.cons (.int .i64) (.cons .str (.cons .bool (.sl (.cons (.int .i64) (.int .i64)))))))], []⟩, ⟨[.one (.int .i64)], []⟩, fun x => ref34_wrongTarget x.1.1 x.1.2.1⟩
theorem con73 : Contract Tryz.prog 73 fc73 :=
  ref34_wrongTarget_D.contract tok (cok_of (l := [(72, fc72), (100, fc100)]) ⟨con72, con100, trivial⟩) mixed (fn' := Tryz.f73) (by kernel_rfl) (by kernel_rfl) rfl (by kernel_rfl) (fun x => (FD.fn_eq _ _).trans (by kernel_rfl))
end
end Go.Proofs.YtjgjbdnjjepibaaGreatDoor
end

section
/-
YtjgjbdnjjepibaaGreatDoor: signalbench.signalbenchref34.wrongElse, as one plain function, its equations, its contract. No condition.
-/
set_option maxRecDepth 100000
set_option linter.unusedVariables false
set_option maxHeartbeats 4000000
open Go Go.AM
namespace Go.Proofs.YtjgjbdnjjepibaaGreatDoor
noncomputable section
def ref34_wrongElse_D : FD := ⟨T, lookC [(73, fc73)], [], (Tryz.f74.body.getD .skip), Tryz.f74.results.toList, ⟨[.row (.cons .str (.cons (.int .i64) (.cons (.int .i64) (.sl (.cons .str (.cons (.sl (.cons (.int .i64) (.cons (.int .i64) (.cons .str (.cons .bool (.sl (.cons (.int .i64) (.int .i64)))))))) (.cons .bool (.cons (.int .i64) (.cons (.int .i64) (.cons .str (.cons .bool (.sl (.cons (.int .i64) (.int .i64)))))))))))))), .row (.cons .str (.cons (.sl (.cons (.int .i64) (.cons (.int .i64) (.cons .str (.cons .bool (.sl (.cons (.int .i64) (.int .i64)))))))) (.cons .bool (.cons (.int .i64) (.cons (.int .i64) (.cons .str (.cons .bool (.sl (.cons (.int .i64) (.int .i64))))))))))], []⟩, ⟨[.one (.int .i64)], []⟩, []⟩
def ref34_wrongElse (d : TDecl) (s : TDeclState) : (Option ((Int × Unit) × Unit)) :=
  if (!s.2.2.1) = true then
    if (s.2.2.2.1 != 0) = true then
      some ((1, ()), ())
    else
      if (s.2.2.2.2.1 != 0) = true then
        some ((1, ()), ())
      else
        if (!(s.2.2.2.2.2.1.toList == (strB []).toList)) = true then
          some ((1, ()), ())
        else
          if s.2.2.2.2.2.2.1 = true then
            some ((1, ()), ())
          else
            if (decide ((s.2.2.2.2.2.2.2.length : Int) > 0)) = true then
              some ((1, ()), ())
            else
              some ((0, ()), ())
  else
    if (s.2.2.2.1 != 0) = true then
      some ((1, ()), ())
    else
      if (s.2.2.2.2.1 != 0) = true then
        some ((1, ()), ())
      else
        (ref34_wrongTarget d s.2.2.2).bind fun y1 =>
          some ((y1.1.1, ()), ())
def fc74 : FC := ⟨⟨[.row (.cons .str (.cons (.int .i64) (.cons (.int .i64) (.sl (.cons .str (.cons (.sl (.cons (.int .i64) (.cons (.int .i64) (.cons .str (.cons .bool (.sl (.cons (.int .i64) (.int .i64)))))))) (.cons .bool (.cons (.int .i64) (.cons (.int .i64) (.cons .str (.cons .bool (.sl (.cons (.int .i64) (.int .i64)))))))))))))), .row (.cons .str (.cons (.sl (.cons (.int .i64) (.cons (.int .i64) (.cons .str (.cons .bool (.sl (.cons (.int .i64) (.int .i64)))))))) (.cons .bool (.cons (.int .i64) (.cons (.int .i64) (.cons .str (.cons .bool (.sl (.cons (.int .i64) (.int .i64))))))))))], []⟩, ⟨[.one (.int .i64)], []⟩, fun x => ref34_wrongElse x.1.1 x.1.2.1⟩
theorem con74 : Contract Tryz.prog 74 fc74 :=
  ref34_wrongElse_D.contract tok (cok_of (l := [(73, fc73)]) ⟨con73, trivial⟩) mixed (fn' := Tryz.f74) (by kernel_rfl) (by kernel_rfl) rfl (by kernel_rfl) (fun x => (FD.fn_eq _ _).trans (by kernel_rfl))
end
end Go.Proofs.YtjgjbdnjjepibaaGreatDoor
end

section
/-
YtjgjbdnjjepibaaGreatDoor: signalbench.signalbenchref34.wrongState, as one plain function, its equations, its contract. No condition.
-/
set_option maxRecDepth 100000
set_option linter.unusedVariables false
set_option maxHeartbeats 4000000
open Go Go.AM
namespace Go.Proofs.YtjgjbdnjjepibaaGreatDoor
noncomputable section
def ref34_wrongState_F12 : FSh := ⟨[(2, .one (.ptr 0 0)), (5, .one (.ptr 1 0)), (6, .one (.int .i64))], [.boxr 24 (.cons .str (.cons (.int .i64) (.cons (.int .i64) (.sl (.cons .str (.cons (.sl (.cons (.int .i64) (.cons (.int .i64) (.cons .str (.cons .bool (.sl (.cons (.int .i64) (.int .i64)))))))) (.cons .bool (.cons (.int .i64) (.cons (.int .i64) (.cons .str (.cons .bool (.sl (.cons (.int .i64) (.int .i64)))))))))))))), .boxr 39 (.cons .str (.cons (.sl (.cons (.int .i64) (.cons (.int .i64) (.cons .str (.cons .bool (.sl (.cons (.int .i64) (.int .i64)))))))) (.cons .bool (.cons (.int .i64) (.cons (.int .i64) (.cons .str (.cons .bool (.sl (.cons (.int .i64) (.int .i64))))))))))]⟩
def ref34_wrongState_F16 : FSh := ⟨[(2, .one (.ptr 0 0)), (5, .one (.ptr 1 0)), (6, .one (.int .i64)), (7, .one (.int .i64))], [.boxr 24 (.cons .str (.cons (.int .i64) (.cons (.int .i64) (.sl (.cons .str (.cons (.sl (.cons (.int .i64) (.cons (.int .i64) (.cons .str (.cons .bool (.sl (.cons (.int .i64) (.int .i64)))))))) (.cons .bool (.cons (.int .i64) (.cons (.int .i64) (.cons .str (.cons .bool (.sl (.cons (.int .i64) (.int .i64)))))))))))))), .boxr 39 (.cons .str (.cons (.sl (.cons (.int .i64) (.cons (.int .i64) (.cons .str (.cons .bool (.sl (.cons (.int .i64) (.int .i64)))))))) (.cons .bool (.cons (.int .i64) (.cons (.int .i64) (.cons .str (.cons .bool (.sl (.cons (.int .i64) (.int .i64))))))))))]⟩
def ref34_wrongState_D : FD := ⟨T, lookC [(46, fc46), (72, fc72), (73, fc73), (74, fc74)], [12], (Tryz.f47.body.getD .skip), Tryz.f47.results.toList, ⟨[.row (.cons .str (.cons (.int .i64) (.cons (.int .i64) (.sl (.cons .str (.cons (.sl (.cons (.int .i64) (.cons (.int .i64) (.cons .str (.cons .bool (.sl (.cons (.int .i64) (.int .i64)))))))) (.cons .bool (.cons (.int .i64) (.cons (.int .i64) (.cons .str (.cons .bool (.sl (.cons (.int .i64) (.int .i64)))))))))))))), .one (.int .i64)], []⟩, ⟨[.one (.int .i64)], []⟩, [(12, ref34_wrongState_F12), (16, ref34_wrongState_F16)]⟩
def ref34_wrongState_l12 (most : Int) (h0 : TDecl) (h1 : TDeclState) : (Option ((Int × Unit) × Unit)) := ref34_wrongState_D.lab 12 ref34_wrongState_F12 (((), (), most, ()), (h0, h1, ()))
def ref34_wrongState_l16 (most : Int) (i : Int) (h0 : TDecl) (h1 : TDeclState) : (Option ((Int × Unit) × Unit)) := ref34_wrongState_D.lab 16 ref34_wrongState_F16 (((), (), most, i, ()), (h0, h1, ()))
theorem ref34_wrongState_l12_eq (most : Int) (h0 : TDecl) (h1 : TDeclState) : ref34_wrongState_l12 most h0 h1 =
  ref34_wrongState_l16 most 0 h0 h1 := (FD.lab_eq _ _ _ _).trans (by kernel_rfl)
theorem ref34_wrongState_l16_eq (most : Int) (i : Int) (h0 : TDecl) (h1 : TDeclState) : ref34_wrongState_l16 most i h0 h1 =
  if (decide (i < (h1.2.1.length : Int))) = true then
    if 0 ≤ i ∧ i < (h1.2.1.length : Int) then
      if (decide ((h1.2.1.getD i.toNat dRule).1 < 0)) = true then
        some ((2, ()), ())
      else
        if (decide ((h1.2.1.getD i.toNat dRule).1 > (h1.2.1.getD i.toNat dRule).2.1)) = true then
          some ((2, ()), ())
        else
          if (decide ((h1.2.1.getD i.toNat dRule).2.1 > most)) = true then
            some ((2, ()), ())
          else
            (ref34_wrongTarget h0 (h1.2.1.getD i.toNat dRule)).bind fun y1 =>
              if (y1.1.1 != 0) = true then
                some ((y1.1.1, ()), ())
              else
                ref34_wrongState_l16 most (IntKind.i64.wrap (i + 1)) h0 h1
    else
      none
  else
    (ref34_wrongElse h0 h1).bind fun y2 =>
      some ((y2.1.1, ()), ()) := (FD.lab_eq _ _ _ _).trans (by kernel_rfl)
def ref34_wrongState (d : TDecl) (k0 : Int) : (Option ((Int × Unit) × Unit)) :=
  if 0 ≤ k0 ∧ k0 < (d.2.2.2.length : Int) then
    (ref05_Name (d.2.2.2.getD k0.toNat dDeclState).1).bind fun y1 =>
      if (!y1.1.1) = true then
        some ((4, ()), ())
      else
        (ref34_Find d (d.2.2.2.getD k0.toNat dDeclState).1).bind fun y2 =>
          if (decide (y2.1.1 < k0)) = true then
            some ((9, ()), ())
          else
            if (decide (((d.2.2.2.getD k0.toNat dDeclState).2.1.length : Int) > 64)) = true then
              some ((6, ()), ())
            else
              if (d.2.1 == 2) = true then
                ref34_wrongState_l12 1 d (d.2.2.2.getD k0.toNat dDeclState)
              else
                ref34_wrongState_l12 255 d (d.2.2.2.getD k0.toNat dDeclState)
  else
    none
def fc47 : FC := ⟨⟨[.row (.cons .str (.cons (.int .i64) (.cons (.int .i64) (.sl (.cons .str (.cons (.sl (.cons (.int .i64) (.cons (.int .i64) (.cons .str (.cons .bool (.sl (.cons (.int .i64) (.int .i64)))))))) (.cons .bool (.cons (.int .i64) (.cons (.int .i64) (.cons .str (.cons .bool (.sl (.cons (.int .i64) (.int .i64)))))))))))))), .one (.int .i64)], []⟩, ⟨[.one (.int .i64)], []⟩, fun x => ref34_wrongState x.1.1 x.1.2.1⟩
theorem con47 : Contract Tryz.prog 47 fc47 :=
  ref34_wrongState_D.contract tok (cok_of (l := [(46, fc46), (72, fc72), (73, fc73), (74, fc74)]) ⟨con46, con72, con73, con74, trivial⟩) mixed (fn' := Tryz.f47) (by kernel_rfl) (by kernel_rfl) rfl (by kernel_rfl) (fun x => (FD.fn_eq _ _).trans (by kernel_rfl))
end
end Go.Proofs.YtjgjbdnjjepibaaGreatDoor
end

section
/-
YtjgjbdnjjepibaaGreatDoor: signalbench.signalbenchref34.Check, as one plain function, its equations, its contract. No condition.
-/
set_option maxRecDepth 100000
set_option linter.unusedVariables false
set_option maxHeartbeats 4000000
open Go Go.AM
namespace Go.Proofs.YtjgjbdnjjepibaaGreatDoor
noncomputable section
def ref34_Check_F12 : FSh := ⟨[(1, .one (.ptr 0 0)), (3, .one (.int .i64))], [.boxr 24 (.cons .str (.cons (.int .i64) (.cons (.int .i64) (.sl (.cons .str (.cons (.sl (.cons (.int .i64) (.cons (.int .i64) (.cons .str (.cons .bool (.sl (.cons (.int .i64) (.int .i64)))))))) (.cons .bool (.cons (.int .i64) (.cons (.int .i64) (.cons .str (.cons .bool (.sl (.cons (.int .i64) (.int .i64))))))))))))))]⟩
def ref34_Check_D : FD := ⟨T, lookC [(46, fc46), (47, fc47)], [], (Tryz.f23.body.getD .skip), Tryz.f23.results.toList, ⟨[.row (.cons .str (.cons (.int .i64) (.cons (.int .i64) (.sl (.cons .str (.cons (.sl (.cons (.int .i64) (.cons (.int .i64) (.cons .str (.cons .bool (.sl (.cons (.int .i64) (.int .i64)))))))) (.cons .bool (.cons (.int .i64) (.cons (.int .i64) (.cons .str (.cons .bool (.sl (.cons (.int .i64) (.int .i64))))))))))))))], []⟩, ⟨[.one (.int .i64)], []⟩, [(12, ref34_Check_F12)]⟩
def ref34_Check_l12 (k0 : Int) (h0 : TDecl) : (Option ((Int × Unit) × Unit)) := ref34_Check_D.lab 12 ref34_Check_F12 (((), k0, ()), (h0, ()))
theorem ref34_Check_l12_eq (k0 : Int) (h0 : TDecl) : ref34_Check_l12 k0 h0 =
  if (decide (k0 < (h0.2.2.2.length : Int))) = true then
    (ref34_wrongState h0 k0).bind fun y1 =>
      if (y1.1.1 != 0) = true then
        some ((y1.1.1, ()), ())
      else
        ref34_Check_l12 (IntKind.i64.wrap (k0 + 1)) h0
  else
    some ((0, ()), ()) := (FD.lab_eq _ _ _ _).trans (by kernel_rfl)
def ref34_Check (d : TDecl) : (Option ((Int × Unit) × Unit)) :=
  (ref05_Name d.1).bind fun y1 =>
    if (!y1.1.1) = true then
      some ((4, ()), ())
    else
      if (d.2.1 != 2) = true then
        if (d.2.1 != 3) = true then
          some ((1, ()), ())
        else
          if (d.2.2.1 != 5) = true then
            if (d.2.2.1 != 6) = true then
              some ((1, ()), ())
            else
              if ((d.2.2.2.length : Int) == 0) = true then
                some ((1, ()), ())
              else
                if (decide ((d.2.2.2.length : Int) > 32)) = true then
                  some ((6, ()), ())
                else
                  ref34_Check_l12 0 d
          else
            if ((d.2.2.2.length : Int) == 0) = true then
              some ((1, ()), ())
            else
              if (decide ((d.2.2.2.length : Int) > 32)) = true then
                some ((6, ()), ())
              else
                ref34_Check_l12 0 d
      else
        if (d.2.2.1 != 5) = true then
          if (d.2.2.1 != 6) = true then
            some ((1, ()), ())
          else
            if ((d.2.2.2.length : Int) == 0) = true then
              some ((1, ()), ())
            else
              if (decide ((d.2.2.2.length : Int) > 32)) = true then
                some ((6, ()), ())
              else
                ref34_Check_l12 0 d
        else
          if ((d.2.2.2.length : Int) == 0) = true then
            some ((1, ()), ())
          else
            if (decide ((d.2.2.2.length : Int) > 32)) = true then
              some ((6, ()), ())
            else
              ref34_Check_l12 0 d
def fc23 : FC := ⟨⟨[.row (.cons .str (.cons (.int .i64) (.cons (.int .i64) (.sl (.cons .str (.cons (.sl (.cons (.int .i64) (.cons (.int .i64) (.cons .str (.cons .bool (.sl (.cons (.int .i64) (.int .i64)))))))) (.cons .bool (.cons (.int .i64) (.cons (.int .i64) (.cons .str (.cons .bool (.sl (.cons (.int .i64) (.int .i64))))))))))))))], []⟩, ⟨[.one (.int .i64)], []⟩, fun x => ref34_Check x.1.1⟩
theorem con23 : Contract Tryz.prog 23 fc23 :=
  ref34_Check_D.contract tok (cok_of (l := [(46, fc46), (47, fc47)]) ⟨con46, con47, trivial⟩) mixed (fn' := Tryz.f23) (by kernel_rfl) (by kernel_rfl) rfl (by kernel_rfl) (fun x => (FD.fn_eq _ _).trans (by kernel_rfl))
end
end Go.Proofs.YtjgjbdnjjepibaaGreatDoor
end

section
/-
YtjgjbdnjjepibaaGreatDoor: signalbench.signalbenchref05.hexa, as one plain function, its equations, its contract. No condition.
-/
set_option maxRecDepth 100000
set_option linter.unusedVariables false
set_option maxHeartbeats 4000000
open Go Go.AM
namespace Go.Proofs.YtjgjbdnjjepibaaGreatDoor
noncomputable section
def ref05_hexa_D : FD := ⟨T, lookC [(89, fc89)], [], (Tryz.f106.body.getD .skip), Tryz.f106.results.toList, ⟨[.one (.int .u8)], []⟩, ⟨[.one (.int .i64)], []⟩, []⟩
def ref05_hexa (c : Int) : (Option ((Int × Unit) × Unit)) :=
  (ref05_digit c).bind fun y1 =>
    if y1.1.1 = true then
      some ((IntKind.i64.wrap ((IntKind.i64.wrap c) - 48), ()), ())
    else
      if (decide (c ≥ 97)) = true then
        if (decide (c ≤ 102)) = true then
          some ((IntKind.i64.wrap ((IntKind.i64.wrap ((IntKind.i64.wrap c) - 97)) + 10), ()), ())
        else
          some (((-1), ()), ())
      else
        some (((-1), ()), ())
def fc106 : FC := ⟨⟨[.one (.int .u8)], []⟩, ⟨[.one (.int .i64)], []⟩, fun x => ref05_hexa x.1.1⟩
theorem con106 : Contract Tryz.prog 106 fc106 :=
  ref05_hexa_D.contract tok (cok_of (l := [(89, fc89)]) ⟨con89, trivial⟩) mixed (fn' := Tryz.f106) (by kernel_rfl) (by kernel_rfl) rfl (by kernel_rfl) (fun x => (FD.fn_eq _ _).trans (by kernel_rfl))
end
end Go.Proofs.YtjgjbdnjjepibaaGreatDoor
end

section
/-
YtjgjbdnjjepibaaGreatDoor: signalbench.signalbenchref05.plain, as one plain function, its equations, its contract. No condition.
-/
set_option maxRecDepth 100000
set_option linter.unusedVariables false
set_option maxHeartbeats 4000000
open Go Go.AM
namespace Go.Proofs.YtjgjbdnjjepibaaGreatDoor
noncomputable section
def ref05_plain_F7 : FSh := ⟨[(0, .one .str), (1, .one (.int .i64)), (6, .one (.int .i64)), (7, .one (.int .i64))], []⟩
def ref05_plain_D : FD := ⟨T, lookC [(106, fc106)], [], (Tryz.f101.body.getD .skip), Tryz.f101.results.toList, ⟨[.one .str, .one (.int .i64)], []⟩, ⟨[.one (.int .i64), .one .bool], []⟩, [(7, ref05_plain_F7)]⟩
def ref05_plain_l7 (s : ByteArray) (base : Int) (n : Int) (i : Int) : (Option ((Int × Bool × Unit) × Unit)) := ref05_plain_D.lab 7 ref05_plain_F7 ((s, base, n, i, ()), ())
theorem ref05_plain_l7_eq (s : ByteArray) (base : Int) (n : Int) (i : Int) : ref05_plain_l7 s base n i =
  if (decide (i < (s.size : Int))) = true then
    if 0 ≤ i ∧ i < (s.size : Int) then
      (ref05_hexa (bt s i)).bind fun y1 =>
        if (decide (y1.1.1 < 0)) = true then
          some ((0, false, ()), ())
        else
          if (decide (y1.1.1 ≥ base)) = true then
            some ((0, false, ()), ())
          else
            if (decide ((IntKind.i64.wrap ((IntKind.i64.wrap (n * base)) + y1.1.1)) > 9007199254740992)) = true then
              ref05_plain_l7 s base 9007199254740993 (IntKind.i64.wrap (i + 1))
            else
              ref05_plain_l7 s base (IntKind.i64.wrap ((IntKind.i64.wrap (n * base)) + y1.1.1)) (IntKind.i64.wrap (i + 1))
    else
      none
  else
    some ((n, true, ()), ()) := (FD.lab_eq _ _ _ _).trans (by kernel_rfl)
def ref05_plain (s : ByteArray) (base : Int) : (Option ((Int × Bool × Unit) × Unit)) :=
  if ((s.size : Int) == 0) = true then
    some ((0, false, ()), ())
  else
    if (decide ((s.size : Int) > 1)) = true then
      if 0 ≤ (0 : Int) ∧ 0 < (s.size : Int) then
        if ((bt s 0) == 48) = true then
          some ((0, false, ()), ())
        else
          ref05_plain_l7 s base 0 0
      else
        none
    else
      ref05_plain_l7 s base 0 0
def fc101 : FC := ⟨⟨[.one .str, .one (.int .i64)], []⟩, ⟨[.one (.int .i64), .one .bool], []⟩, fun x => ref05_plain x.1.1 x.1.2.1⟩
theorem con101 : Contract Tryz.prog 101 fc101 :=
  ref05_plain_D.contract tok (cok_of (l := [(106, fc106)]) ⟨con106, trivial⟩) mixed (fn' := Tryz.f101) (by kernel_rfl) (by kernel_rfl) rfl (by kernel_rfl) (fun x => (FD.fn_eq _ _).trans (by kernel_rfl))
end
end Go.Proofs.YtjgjbdnjjepibaaGreatDoor
end

section
/-
YtjgjbdnjjepibaaGreatDoor: signalbench.signalbenchref05.Number, as one plain function, its equations, its contract. No condition.
-/
set_option maxRecDepth 100000
set_option linter.unusedVariables false
set_option maxHeartbeats 4000000
open Go Go.AM
namespace Go.Proofs.YtjgjbdnjjepibaaGreatDoor
noncomputable section
def ref05_Number_F3 : FSh := ⟨[(4, .one .str), (5, .one (.int .i64))], []⟩
def ref05_Number_F7 : FSh := ⟨[(5, .one (.int .i64)), (6, .one (.int .i64)), (7, .one .bool)], []⟩
def ref05_Number_D : FD := ⟨T, lookC [(101, fc101)], [7, 3], (Tryz.f75.body.getD .skip), Tryz.f75.results.toList, ⟨[.one .str], []⟩, ⟨[.one (.int .i64), .one (.int .i64)], []⟩, [(3, ref05_Number_F3), (7, ref05_Number_F7)]⟩
def ref05_Number_l3 (body : ByteArray) (sign : Int) : (Option ((Int × Int × Unit) × Unit)) := ref05_Number_D.lab 3 ref05_Number_F3 ((body, sign, ()), ())
def ref05_Number_l7 (sign : Int) (n : Int) (ok : Bool) : (Option ((Int × Int × Unit) × Unit)) := ref05_Number_D.lab 7 ref05_Number_F7 ((sign, n, ok, ()), ())
theorem ref05_Number_l3_eq (body : ByteArray) (sign : Int) : ref05_Number_l3 body sign =
  if (decide ((body.size : Int) > 2)) = true then
    if 0 ≤ (0 : Int) ∧ (0 : Int) ≤ 2 ∧ 2 ≤ (body.size : Int) then
      if ((body.extract 0 2).toList == (strB [48, 120]).toList) = true then
        if 0 ≤ (2 : Int) ∧ 2 ≤ (body.size : Int) then
          (ref05_plain (body.extract 2 body.size) 16).bind fun y1 =>
            ref05_Number_l7 sign y1.1.1 y1.1.2.1
        else
          none
      else
        (ref05_plain body 10).bind fun y2 =>
          ref05_Number_l7 sign y2.1.1 y2.1.2.1
    else
      none
  else
    (ref05_plain body 10).bind fun y3 =>
      ref05_Number_l7 sign y3.1.1 y3.1.2.1 := (FD.lab_eq _ _ _ _).trans (by kernel_rfl)
theorem ref05_Number_l7_eq (sign : Int) (n : Int) (ok : Bool) : ref05_Number_l7 sign n ok =
  if (!ok) = true then
    some ((0, 4, ()), ())
  else
    if (decide (sign < 0)) = true then
      if (n == 0) = true then
        some ((0, 4, ()), ())
      else
        if (decide (n > 9007199254740992)) = true then
          some ((0, 2, ()), ())
        else
          some ((IntKind.i64.wrap (sign * n), 0, ()), ())
    else
      if (decide (n > 9007199254740992)) = true then
        some ((0, 2, ()), ())
      else
        some ((IntKind.i64.wrap (sign * n), 0, ()), ()) := (FD.lab_eq _ _ _ _).trans (by kernel_rfl)
def ref05_Number (s : ByteArray) : (Option ((Int × Int × Unit) × Unit)) :=
  if (decide ((s.size : Int) > 0)) = true then
    if 0 ≤ (0 : Int) ∧ 0 < (s.size : Int) then
      if ((bt s 0) == 45) = true then
        if 0 ≤ (1 : Int) ∧ 1 ≤ (s.size : Int) then
          ref05_Number_l3 (s.extract 1 s.size) (-1)
        else
          none
      else
        ref05_Number_l3 s 1
    else
      none
  else
    ref05_Number_l3 s 1
def fc75 : FC := ⟨⟨[.one .str], []⟩, ⟨[.one (.int .i64), .one (.int .i64)], []⟩, fun x => ref05_Number x.1.1⟩
theorem con75 : Contract Tryz.prog 75 fc75 :=
  ref05_Number_D.contract tok (cok_of (l := [(101, fc101)]) ⟨con101, trivial⟩) mixed (fn' := Tryz.f75) (by kernel_rfl) (by kernel_rfl) rfl (by kernel_rfl) (fun x => (FD.fn_eq _ _).trans (by kernel_rfl))
end
end Go.Proofs.YtjgjbdnjjepibaaGreatDoor
end

section
/-
YtjgjbdnjjepibaaGreatDoor: signalbench.signalbenchref05.Mark, as one plain function, its equations, its contract. No condition.
-/
set_option maxRecDepth 100000
set_option linter.unusedVariables false
set_option maxHeartbeats 4000000
open Go Go.AM
namespace Go.Proofs.YtjgjbdnjjepibaaGreatDoor
noncomputable section
def ref05_Mark_F4 : FSh := ⟨[(0, .one (.int .u8)), (3, .one .str), (4, .one (.int .i64))], []⟩
def ref05_Mark_D : FD := ⟨T, lookC [], [], (Tryz.f76.body.getD .skip), Tryz.f76.results.toList, ⟨[.one (.int .u8)], []⟩, ⟨[.one .bool], []⟩, [(4, ref05_Mark_F4)]⟩
def ref05_Mark_l4 (c : Int) (marks : ByteArray) (i : Int) : (Option ((Bool × Unit) × Unit)) := ref05_Mark_D.lab 4 ref05_Mark_F4 ((c, marks, i, ()), ())
theorem ref05_Mark_l4_eq (c : Int) (marks : ByteArray) (i : Int) : ref05_Mark_l4 c marks i =
  if (decide (i < (marks.size : Int))) = true then
    if 0 ≤ i ∧ i < (marks.size : Int) then
      if ((bt marks i) == c) = true then
        some ((true, ()), ())
      else
        ref05_Mark_l4 c marks (IntKind.i64.wrap (i + 1))
    else
      none
  else
    some ((false, ()), ()) := (FD.lab_eq _ _ _ _).trans (by kernel_rfl)
def ref05_Mark (c : Int) : (Option ((Bool × Unit) × Unit)) :=
  ref05_Mark_l4 c (strB [40, 41, 91, 93, 123, 125, 60, 62, 61, 44, 59, 58, 46, 47, 42, 43, 33, 38, 124]) 0
def fc76 : FC := ⟨⟨[.one (.int .u8)], []⟩, ⟨[.one .bool], []⟩, fun x => ref05_Mark x.1.1⟩
theorem con76 : Contract Tryz.prog 76 fc76 :=
  ref05_Mark_D.contract tok (cok_of (l := []) trivial) mixed (fn' := Tryz.f76) (by kernel_rfl) (by kernel_rfl) rfl (by kernel_rfl) (fun x => (FD.fn_eq _ _).trans (by kernel_rfl))
end
end Go.Proofs.YtjgjbdnjjepibaaGreatDoor
end

section
/-
YtjgjbdnjjepibaaGreatDoor: signalbench.signalbenchref05.word, as one plain function, its equations, its contract. No condition.
-/
set_option maxRecDepth 100000
set_option linter.unusedVariables false
set_option maxHeartbeats 4000000
open Go Go.AM
namespace Go.Proofs.YtjgjbdnjjepibaaGreatDoor
noncomputable section
def ref05_word_F3 : FSh := ⟨[(0, .one .str), (5, .one (.int .i64))], []⟩
def ref05_word_D : FD := ⟨T, lookC [(71, fc71)], [], (Tryz.f88.body.getD .skip), Tryz.f88.results.toList, ⟨[.one .str, .one (.int .i64)], []⟩, ⟨[.one (.int .i64)], []⟩, [(3, ref05_word_F3)]⟩
def ref05_word_l3 (s : ByteArray) (i : Int) : (Option ((Int × Unit) × Unit)) := ref05_word_D.lab 3 ref05_word_F3 ((s, i, ()), ())
theorem ref05_word_l3_eq (s : ByteArray) (i : Int) : ref05_word_l3 s i =
  if (decide (i < (s.size : Int))) = true then
    if 0 ≤ i ∧ i < (s.size : Int) then
      (ref05_inner (bt s i)).bind fun y1 =>
        if y1.1.1 = true then
          ref05_word_l3 s (IntKind.i64.wrap (i + 1))
        else
          some ((i, ()), ())
    else
      none
  else
    some ((i, ()), ()) := (FD.lab_eq _ _ _ _).trans (by kernel_rfl)
def ref05_word (s : ByteArray) (at_ : Int) : (Option ((Int × Unit) × Unit)) :=
  ref05_word_l3 s (IntKind.i64.wrap (at_ + 1))
def fc88 : FC := ⟨⟨[.one .str, .one (.int .i64)], []⟩, ⟨[.one (.int .i64)], []⟩, fun x => ref05_word x.1.1 x.1.2.1⟩
theorem con88 : Contract Tryz.prog 88 fc88 :=
  ref05_word_D.contract tok (cok_of (l := [(71, fc71)]) ⟨con71, trivial⟩) mixed (fn' := Tryz.f88) (by kernel_rfl) (by kernel_rfl) rfl (by kernel_rfl) (fun x => (FD.fn_eq _ _).trans (by kernel_rfl))
end
end Go.Proofs.YtjgjbdnjjepibaaGreatDoor
end

section
/-
YtjgjbdnjjepibaaGreatDoor: signalbench.signalbenchref05.quoted, as one plain function, its equations, its contract. No condition.
-/
set_option maxRecDepth 100000
set_option linter.unusedVariables false
set_option maxHeartbeats 4000000
open Go Go.AM
namespace Go.Proofs.YtjgjbdnjjepibaaGreatDoor
noncomputable section
def ref05_quoted_F7 : FSh := ⟨[(0, .one .str), (7, .one (.own 0)), (8, .one (.int .i64))], [.arr 5 (.int .u8) true]⟩
def ref05_quoted_D : FD := ⟨T, lookC [(106, fc106)], [], (Tryz.f90.body.getD .skip), Tryz.f90.results.toList, ⟨[.one .str, .one (.int .i64)], []⟩, ⟨[.one .str, .one (.int .i64), .one .bool], []⟩, [(7, ref05_quoted_F7)]⟩
def ref05_quoted_l7 (s : ByteArray) (i : Int) (l0 : (List Int)) : (Option ((ByteArray × Int × Bool × Unit) × Unit)) := ref05_quoted_D.lab 7 ref05_quoted_F7 ((s, (), i, ()), (l0, ()))
theorem ref05_quoted_l7_eq (s : ByteArray) (i : Int) (l0 : (List Int)) : ref05_quoted_l7 s i l0 =
  if (decide (i < (s.size : Int))) = true then
    if 0 ≤ i ∧ i < (s.size : Int) then
      if ((bt s i) == 34) = true then
        some ((strOfBytes l0, IntKind.i64.wrap (i + 1), true, ()), ())
      else
        if (decide ((bt s i) < 32)) = true then
          some (((strB []), 0, false, ()), ())
        else
          if (decide ((bt s i) > 126)) = true then
            some (((strB []), 0, false, ()), ())
          else
            if ((bt s i) != 92) = true then
              if (l0.length + 1) * 1 ≤ 140737488355328 ∧ 0 < 1 then
                ref05_quoted_l7 s (IntKind.i64.wrap (i + 1)) (l0 ++ [bt s i])
              else
                none
            else
              if (decide ((IntKind.i64.wrap (i + 1)) ≥ (s.size : Int))) = true then
                some (((strB []), 0, false, ()), ())
              else
                if 0 ≤ IntKind.i64.wrap (i + 1) ∧ IntKind.i64.wrap (i + 1) < (s.size : Int) then
                  if ((bt s (IntKind.i64.wrap (i + 1))) == 34) = true then
                    if (l0.length + 1) * 1 ≤ 140737488355328 ∧ 0 < 1 then
                      ref05_quoted_l7 s (IntKind.i64.wrap (i + 2)) (l0 ++ [bt s (IntKind.i64.wrap (i + 1))])
                    else
                      none
                  else
                    if ((bt s (IntKind.i64.wrap (i + 1))) == 92) = true then
                      if (l0.length + 1) * 1 ≤ 140737488355328 ∧ 0 < 1 then
                        ref05_quoted_l7 s (IntKind.i64.wrap (i + 2)) (l0 ++ [bt s (IntKind.i64.wrap (i + 1))])
                      else
                        none
                    else
                      if ((bt s (IntKind.i64.wrap (i + 1))) == 110) = true then
                        if (l0.length + 1) * 1 ≤ 140737488355328 ∧ 0 < 1 then
                          ref05_quoted_l7 s (IntKind.i64.wrap (i + 2)) (l0 ++ [10])
                        else
                          none
                      else
                        if ((bt s (IntKind.i64.wrap (i + 1))) == 120) = true then
                          if (decide ((IntKind.i64.wrap (i + 3)) < (s.size : Int))) = true then
                            if 0 ≤ IntKind.i64.wrap (i + 2) ∧ IntKind.i64.wrap (i + 2) < (s.size : Int) then
                              (ref05_hexa (bt s (IntKind.i64.wrap (i + 2)))).bind fun y1 =>
                                if (decide (y1.1.1 ≥ 0)) = true then
                                  if 0 ≤ IntKind.i64.wrap (i + 3) ∧ IntKind.i64.wrap (i + 3) < (s.size : Int) then
                                    (ref05_hexa (bt s (IntKind.i64.wrap (i + 3)))).bind fun y2 =>
                                      if (decide (y2.1.1 ≥ 0)) = true then
                                        if 0 ≤ IntKind.i64.wrap (i + 2) ∧ IntKind.i64.wrap (i + 2) < (s.size : Int) then
                                          (ref05_hexa (bt s (IntKind.i64.wrap (i + 2)))).bind fun y3 =>
                                            if 0 ≤ IntKind.i64.wrap (i + 3) ∧ IntKind.i64.wrap (i + 3) < (s.size : Int) then
                                              (ref05_hexa (bt s (IntKind.i64.wrap (i + 3)))).bind fun y4 =>
                                                if (l0.length + 1) * 1 ≤ 140737488355328 ∧ 0 < 1 then
                                                  ref05_quoted_l7 s (IntKind.i64.wrap (i + 4)) (l0 ++ [IntKind.u8.wrap (IntKind.i64.wrap ((IntKind.i64.wrap (y3.1.1 * 16)) + y4.1.1))])
                                                else
                                                  none
                                            else
                                              none
                                        else
                                          none
                                      else
                                        some (((strB []), 0, false, ()), ())
                                  else
                                    none
                                else
                                  some (((strB []), 0, false, ()), ())
                            else
                              none
                          else
                            some (((strB []), 0, false, ()), ())
                        else
                          some (((strB []), 0, false, ()), ())
                else
                  none
    else
      none
  else
    some (((strB []), 0, false, ()), ()) := (FD.lab_eq _ _ _ _).trans (by kernel_rfl)
def ref05_quoted (s : ByteArray) (at_ : Int) : (Option ((ByteArray × Int × Bool × Unit) × Unit)) :=
  if (decide (at_ ≥ (s.size : Int))) = true then
    some (((strB []), 0, false, ()), ())
  else
    if 0 ≤ at_ ∧ at_ < (s.size : Int) then
      if ((bt s at_) != 34) = true then
        some (((strB []), 0, false, ()), ())
      else
        ref05_quoted_l7 s (IntKind.i64.wrap (at_ + 1)) []
    else
      none
def fc90 : FC := ⟨⟨[.one .str, .one (.int .i64)], []⟩, ⟨[.one .str, .one (.int .i64), .one .bool], []⟩, fun x => ref05_quoted x.1.1 x.1.2.1⟩
theorem con90 : Contract Tryz.prog 90 fc90 :=
  ref05_quoted_D.contract tok (cok_of (l := [(106, fc106)]) ⟨con106, trivial⟩) mixed (fn' := Tryz.f90) (by kernel_rfl) (by kernel_rfl) rfl (by kernel_rfl) (fun x => (FD.fn_eq _ _).trans (by kernel_rfl))
end
end Go.Proofs.YtjgjbdnjjepibaaGreatDoor
end

section
/-
YtjgjbdnjjepibaaGreatDoor: signalbench.signalbenchref05.token, as one plain function, its equations, its contract. No condition.
-/
set_option maxRecDepth 100000
set_option linter.unusedVariables false
set_option maxHeartbeats 4000000
open Go Go.AM
namespace Go.Proofs.YtjgjbdnjjepibaaGreatDoor
noncomputable section
def ref05_token_D : FD := ⟨T, lookC [(46, fc46), (70, fc70), (75, fc75), (76, fc76), (88, fc88), (89, fc89), (90, fc90)], [], (Tryz.f57.body.getD .skip), Tryz.f57.results.toList, ⟨[.one .str, .one (.int .i64), .one (.int .i64)], []⟩, ⟨[.row (.cons (.int .i64) (.cons .str (.cons (.int .i64) (.int .i64)))), .one (.int .i64), .one (.int .i64)], []⟩, []⟩
def ref05_token (s : ByteArray) (at_ : Int) (line : Int) : (Option ((TToken × Int × Int × Unit) × Unit)) :=
  if 0 ≤ at_ ∧ at_ < (s.size : Int) then
    (ref05_letter (bt s at_)).bind fun y1 =>
      if y1.1.1 = true then
        (ref05_word s at_).bind fun y2 =>
          if 0 ≤ at_ ∧ at_ ≤ y2.1.1 ∧ y2.1.1 ≤ (s.size : Int) then
            (ref05_Name (s.extract at_.toNat y2.1.1.toNat)).bind fun y3 =>
              if (!y3.1.1) = true then
                some (((0, (strB []), 0, 0), 0, 4, ()), ())
              else
                if 0 ≤ at_ ∧ at_ ≤ y2.1.1 ∧ y2.1.1 ≤ (s.size : Int) then
                  some (((1, s.extract at_.toNat y2.1.1.toNat, 0, line), y2.1.1, 0, ()), ())
                else
                  none
          else
            none
      else
        (ref05_digit (bt s at_)).bind fun y4 =>
          if y4.1.1 = true then
            (ref05_word s at_).bind fun y5 =>
              if 0 ≤ at_ ∧ at_ ≤ y5.1.1 ∧ y5.1.1 ≤ (s.size : Int) then
                (ref05_Number (s.extract at_.toNat y5.1.1.toNat)).bind fun y6 =>
                  if (y6.1.2.1 != 0) = true then
                    some (((0, (strB []), 0, 0), 0, y6.1.2.1, ()), ())
                  else
                    if 0 ≤ at_ ∧ at_ ≤ y5.1.1 ∧ y5.1.1 ≤ (s.size : Int) then
                      some (((2, s.extract at_.toNat y5.1.1.toNat, y6.1.1, line), y5.1.1, 0, ()), ())
                    else
                      none
              else
                none
          else
            if ((bt s at_) == 45) = true then
              (ref05_word s at_).bind fun y7 =>
                if 0 ≤ at_ ∧ at_ ≤ y7.1.1 ∧ y7.1.1 ≤ (s.size : Int) then
                  (ref05_Number (s.extract at_.toNat y7.1.1.toNat)).bind fun y8 =>
                    if (y8.1.2.1 != 0) = true then
                      some (((0, (strB []), 0, 0), 0, y8.1.2.1, ()), ())
                    else
                      if 0 ≤ at_ ∧ at_ ≤ y7.1.1 ∧ y7.1.1 ≤ (s.size : Int) then
                        some (((2, s.extract at_.toNat y7.1.1.toNat, y8.1.1, line), y7.1.1, 0, ()), ())
                      else
                        none
                else
                  none
            else
              if ((bt s at_) == 34) = true then
                (ref05_quoted s at_).bind fun y9 =>
                  if (!y9.1.2.2.1) = true then
                    some (((0, (strB []), 0, 0), 0, 4, ()), ())
                  else
                    some (((3, y9.1.1, 0, line), y9.1.2.1, 0, ()), ())
              else
                (ref05_Mark (bt s at_)).bind fun y10 =>
                  if y10.1.1 = true then
                    if 0 ≤ at_ ∧ at_ ≤ IntKind.i64.wrap (at_ + 1) ∧ IntKind.i64.wrap (at_ + 1) ≤ (s.size : Int) then
                      some (((4, s.extract at_.toNat (IntKind.i64.wrap (at_ + 1)).toNat, 0, line), IntKind.i64.wrap (at_ + 1), 0, ()), ())
                    else
                      none
                  else
                    some (((0, (strB []), 0, 0), 0, 4, ()), ())
  else
    none
def fc57 : FC := ⟨⟨[.one .str, .one (.int .i64), .one (.int .i64)], []⟩, ⟨[.row (.cons (.int .i64) (.cons .str (.cons (.int .i64) (.int .i64)))), .one (.int .i64), .one (.int .i64)], []⟩, fun x => ref05_token x.1.1 x.1.2.1 x.1.2.2.1⟩
theorem con57 : Contract Tryz.prog 57 fc57 :=
  ref05_token_D.contract tok (cok_of (l := [(46, fc46), (70, fc70), (75, fc75), (76, fc76), (88, fc88), (89, fc89), (90, fc90)]) ⟨con46, con70, con75, con76, con88, con89, con90, trivial⟩) mixed (fn' := Tryz.f57) (by kernel_rfl) (by kernel_rfl) rfl (by kernel_rfl) (fun x => (FD.fn_eq _ _).trans (by kernel_rfl))
end
end Go.Proofs.YtjgjbdnjjepibaaGreatDoor
end

section
/-
YtjgjbdnjjepibaaGreatDoor: signalbench.signalbenchref05.Tokens, as one plain function, its equations, its contract. No condition.
-/
set_option maxRecDepth 100000
set_option linter.unusedVariables false
set_option maxHeartbeats 4000000
open Go Go.AM
namespace Go.Proofs.YtjgjbdnjjepibaaGreatDoor
noncomputable section
def ref05_Tokens_F8 : FSh := ⟨[(0, .one .str), (5, .one (.own 0)), (6, .one (.int .i64)), (7, .one (.int .i64))], [.arr 62 (.cons (.int .i64) (.cons .str (.cons (.int .i64) (.int .i64)))) true]⟩
def ref05_Tokens_F16 : FSh := ⟨[(0, .one .str), (5, .one (.own 0)), (6, .one (.int .i64)), (7, .one (.int .i64))], [.arr 62 (.cons (.int .i64) (.cons .str (.cons (.int .i64) (.int .i64)))) true]⟩
def ref05_Tokens_D : FD := ⟨T, lookC [(57, fc57)], [], (Tryz.f32.body.getD .skip), Tryz.f32.results.toList, ⟨[.one .str], []⟩, ⟨[.one (.sl (.cons (.int .i64) (.cons .str (.cons (.int .i64) (.int .i64))))), .one (.int .i64), .one (.int .i64)], []⟩, [(8, ref05_Tokens_F8), (16, ref05_Tokens_F16)]⟩
def ref05_Tokens_l8 (s : ByteArray) (line : Int) (i : Int) (l0 : (List TToken)) : (Option (((List TToken) × Int × Int × Unit) × Unit)) := ref05_Tokens_D.lab 8 ref05_Tokens_F8 ((s, (), line, i, ()), (l0, ()))
def ref05_Tokens_l16 (s : ByteArray) (line : Int) (i : Int) (l0 : (List TToken)) : (Option (((List TToken) × Int × Int × Unit) × Unit)) := ref05_Tokens_D.lab 16 ref05_Tokens_F16 ((s, (), line, i, ()), (l0, ()))
theorem ref05_Tokens_l8_eq (s : ByteArray) (line : Int) (i : Int) (l0 : (List TToken)) : ref05_Tokens_l8 s line i l0 =
  if (decide (i < (s.size : Int))) = true then
    if 0 ≤ i ∧ i < (s.size : Int) then
      if ((bt s i) == 10) = true then
        ref05_Tokens_l8 s (IntKind.i64.wrap (line + 1)) (IntKind.i64.wrap (i + 1)) l0
      else
        if ((bt s i) == 32) = true then
          ref05_Tokens_l8 s line (IntKind.i64.wrap (i + 1)) l0
        else
          if ((bt s i) == 9) = true then
            ref05_Tokens_l8 s line (IntKind.i64.wrap (i + 1)) l0
          else
            if ((bt s i) == 35) = true then
              ref05_Tokens_l16 s line i l0
            else
              (ref05_token s i line).bind fun y1 =>
                if (y1.1.2.2.1 != 0) = true then
                  some (([], line, y1.1.2.2.1, ()), ())
                else
                  if (l0.length + 1) * 40 ≤ 140737488355328 ∧ 0 < 40 then
                    ref05_Tokens_l8 s line y1.1.2.1 (l0 ++ [y1.1.1])
                  else
                    none
    else
      none
  else
    some ((l0, 0, 0, ()), ()) := (FD.lab_eq _ _ _ _).trans (by kernel_rfl)
theorem ref05_Tokens_l16_eq (s : ByteArray) (line : Int) (i : Int) (l0 : (List TToken)) : ref05_Tokens_l16 s line i l0 =
  if (decide (i < (s.size : Int))) = true then
    if 0 ≤ i ∧ i < (s.size : Int) then
      if ((bt s i) != 10) = true then
        ref05_Tokens_l16 s line (IntKind.i64.wrap (i + 1)) l0
      else
        ref05_Tokens_l8 s line i l0
    else
      none
  else
    ref05_Tokens_l8 s line i l0 := (FD.lab_eq _ _ _ _).trans (by kernel_rfl)
def ref05_Tokens (s : ByteArray) : (Option (((List TToken) × Int × Int × Unit) × Unit)) :=
  if (decide ((s.size : Int) > 1048576)) = true then
    some (([], 0, 6, ()), ())
  else
    ref05_Tokens_l8 s 1 0 []
def fc32 : FC := ⟨⟨[.one .str], []⟩, ⟨[.one (.sl (.cons (.int .i64) (.cons .str (.cons (.int .i64) (.int .i64))))), .one (.int .i64), .one (.int .i64)], []⟩, fun x => ref05_Tokens x.1.1⟩
theorem con32 : Contract Tryz.prog 32 fc32 :=
  ref05_Tokens_D.contract tok (cok_of (l := [(57, fc57)]) ⟨con57, trivial⟩) mixed (fn' := Tryz.f32) (by kernel_rfl) (by kernel_rfl) rfl (by kernel_rfl) (fun x => (FD.fn_eq _ _).trans (by kernel_rfl))
end
end Go.Proofs.YtjgjbdnjjepibaaGreatDoor
end

section
/-
YtjgjbdnjjepibaaGreatDoor: signalbench.signalbenchref34.is, as one plain function, its equations, its contract. No condition.
-/
set_option maxRecDepth 100000
set_option linter.unusedVariables false
set_option maxHeartbeats 4000000
open Go Go.AM
namespace Go.Proofs.YtjgjbdnjjepibaaGreatDoor
noncomputable section
def ref34_is_D : FD := ⟨T, lookC [], [], (Tryz.f58.body.getD .skip), Tryz.f58.results.toList, ⟨[.one (.sl (.cons (.int .i64) (.cons .str (.cons (.int .i64) (.int .i64))))), .one (.int .i64), .one .str], []⟩, ⟨[.one .bool], []⟩, []⟩
def ref34_is (l : (List TToken)) (at_ : Int) (s : ByteArray) : (Option ((Bool × Unit) × Unit)) :=
  if (decide (at_ < (l.length : Int))) = true then
    if 0 ≤ at_ ∧ at_ < (l.length : Int) then
      if ((l.getD at_.toNat dToken).1 == 1) = true then
        if 0 ≤ at_ ∧ at_ < (l.length : Int) then
          some (((l.getD at_.toNat dToken).2.1.toList == s.toList, ()), ())
        else
          none
      else
        if 0 ≤ at_ ∧ at_ < (l.length : Int) then
          if ((l.getD at_.toNat dToken).1 == 4) = true then
            if 0 ≤ at_ ∧ at_ < (l.length : Int) then
              some (((l.getD at_.toNat dToken).2.1.toList == s.toList, ()), ())
            else
              none
          else
            some ((false, ()), ())
        else
          none
    else
      none
  else
    some ((false, ()), ())
def fc58 : FC := ⟨⟨[.one (.sl (.cons (.int .i64) (.cons .str (.cons (.int .i64) (.int .i64))))), .one (.int .i64), .one .str], []⟩, ⟨[.one .bool], []⟩, fun x => ref34_is x.1.1 x.1.2.1 x.1.2.2.1⟩
theorem con58 : Contract Tryz.prog 58 fc58 :=
  ref34_is_D.contract tok (cok_of (l := []) trivial) mixed (fn' := Tryz.f58) (by kernel_rfl) (by kernel_rfl) rfl (by kernel_rfl) (fun x => (FD.fn_eq _ _).trans (by kernel_rfl))
end
end Go.Proofs.YtjgjbdnjjepibaaGreatDoor
end

section
/-
YtjgjbdnjjepibaaGreatDoor: signalbench.signalbenchref34.kind, as one plain function, its equations, its contract. No condition.
-/
set_option maxRecDepth 100000
set_option linter.unusedVariables false
set_option maxHeartbeats 4000000
open Go Go.AM
namespace Go.Proofs.YtjgjbdnjjepibaaGreatDoor
noncomputable section
def ref34_kind_D : FD := ⟨T, lookC [], [], (Tryz.f59.body.getD .skip), Tryz.f59.results.toList, ⟨[.one (.sl (.cons (.int .i64) (.cons .str (.cons (.int .i64) (.int .i64))))), .one (.int .i64), .one (.int .i64)], []⟩, ⟨[.one .bool], []⟩, []⟩
def ref34_kind (l : (List TToken)) (at_ : Int) (k0 : Int) : (Option ((Bool × Unit) × Unit)) :=
  if (decide (at_ < (l.length : Int))) = true then
    if 0 ≤ at_ ∧ at_ < (l.length : Int) then
      some (((l.getD at_.toNat dToken).1 == k0, ()), ())
    else
      none
  else
    some ((false, ()), ())
def fc59 : FC := ⟨⟨[.one (.sl (.cons (.int .i64) (.cons .str (.cons (.int .i64) (.int .i64))))), .one (.int .i64), .one (.int .i64)], []⟩, ⟨[.one .bool], []⟩, fun x => ref34_kind x.1.1 x.1.2.1 x.1.2.2.1⟩
theorem con59 : Contract Tryz.prog 59 fc59 :=
  ref34_kind_D.contract tok (cok_of (l := []) trivial) mixed (fn' := Tryz.f59) (by kernel_rfl) (by kernel_rfl) rfl (by kernel_rfl) (fun x => (FD.fn_eq _ _).trans (by kernel_rfl))
end
end Go.Proofs.YtjgjbdnjjepibaaGreatDoor
end

section
/-
YtjgjbdnjjepibaaGreatDoor: signalbench.signalbenchref34.either, as one plain function, its equations, its contract. No condition.
-/
set_option maxRecDepth 100000
set_option linter.unusedVariables false
set_option maxHeartbeats 4000000
open Go Go.AM
namespace Go.Proofs.YtjgjbdnjjepibaaGreatDoor
noncomputable section
def ref34_either_D : FD := ⟨T, lookC [(59, fc59)], [], (Tryz.f60.body.getD .skip), Tryz.f60.results.toList, ⟨[.one (.sl (.cons (.int .i64) (.cons .str (.cons (.int .i64) (.int .i64))))), .one (.int .i64), .one .str, .one .str], []⟩, ⟨[.one (.int .i64)], []⟩, []⟩
def ref34_either (l : (List TToken)) (at_ : Int) (a : ByteArray) (b : ByteArray) : (Option ((Int × Unit) × Unit)) :=
  (ref34_kind l at_ 1).bind fun y1 =>
    if y1.1.1 = true then
      if 0 ≤ at_ ∧ at_ < (l.length : Int) then
        if ((l.getD at_.toNat dToken).2.1.toList == a.toList) = true then
          some ((0, ()), ())
        else
          (ref34_kind l at_ 1).bind fun y2 =>
            if y2.1.1 = true then
              if 0 ≤ at_ ∧ at_ < (l.length : Int) then
                if ((l.getD at_.toNat dToken).2.1.toList == b.toList) = true then
                  some ((1, ()), ())
                else
                  some (((-1), ()), ())
              else
                none
            else
              some (((-1), ()), ())
      else
        none
    else
      (ref34_kind l at_ 1).bind fun y3 =>
        if y3.1.1 = true then
          if 0 ≤ at_ ∧ at_ < (l.length : Int) then
            if ((l.getD at_.toNat dToken).2.1.toList == b.toList) = true then
              some ((1, ()), ())
            else
              some (((-1), ()), ())
          else
            none
        else
          some (((-1), ()), ())
def fc60 : FC := ⟨⟨[.one (.sl (.cons (.int .i64) (.cons .str (.cons (.int .i64) (.int .i64))))), .one (.int .i64), .one .str, .one .str], []⟩, ⟨[.one (.int .i64)], []⟩, fun x => ref34_either x.1.1 x.1.2.1 x.1.2.2.1 x.1.2.2.2.1⟩
theorem con60 : Contract Tryz.prog 60 fc60 :=
  ref34_either_D.contract tok (cok_of (l := [(59, fc59)]) ⟨con59, trivial⟩) mixed (fn' := Tryz.f60) (by kernel_rfl) (by kernel_rfl) rfl (by kernel_rfl) (fun x => (FD.fn_eq _ _).trans (by kernel_rfl))
end
end Go.Proofs.YtjgjbdnjjepibaaGreatDoor
end

section
/-
YtjgjbdnjjepibaaGreatDoor: signalbench.signalbenchref34.ops, as one plain function, its equations, its contract. No condition.
-/
set_option maxRecDepth 100000
set_option linter.unusedVariables false
set_option maxHeartbeats 4000000
open Go Go.AM
namespace Go.Proofs.YtjgjbdnjjepibaaGreatDoor
noncomputable section
def ref34_ops_D : FD := ⟨T, lookC [], [], (Tryz.f103.body.getD .skip), Tryz.f103.results.toList, ⟨[], []⟩, ⟨[.one (.sl .str)], []⟩, []⟩
def ref34_ops : (Option (((List ByteArray) × Unit) × Unit)) :=
  some (([(strB [99, 108, 101, 97, 114]), (strB [112, 117, 115, 104]), (strB [120, 111, 114]), (strB [112, 117, 116]), (strB [101, 109, 105, 116]), (strB [102, 97, 105, 108])], ()), ())
def fc103 : FC := ⟨⟨[], []⟩, ⟨[.one (.sl .str)], []⟩, fun x => ref34_ops⟩
theorem con103 : Contract Tryz.prog 103 fc103 :=
  ref34_ops_D.contract tok (cok_of (l := []) trivial) mixed (fn' := Tryz.f103) (by kernel_rfl) (by kernel_rfl) rfl (by kernel_rfl) (fun x => (FD.fn_eq _ _).trans (by kernel_rfl))
end
end Go.Proofs.YtjgjbdnjjepibaaGreatDoor
end

section
/-
YtjgjbdnjjepibaaGreatDoor: signalbench.signalbenchref34.takeAct, as one plain function, its equations, its contract. No condition.
-/
set_option maxRecDepth 100000
set_option linter.unusedVariables false
set_option maxHeartbeats 4000000
open Go Go.AM
namespace Go.Proofs.YtjgjbdnjjepibaaGreatDoor
noncomputable section
def ref34_takeAct_F3 : FSh := ⟨[(0, .one (.sl (.cons (.int .i64) (.cons .str (.cons (.int .i64) (.int .i64)))))), (1, .one (.int .i64)), (4, .one (.ptr 0 0)), (7, .one (.int .i64))], [.boxr 73 (.cons (.int .i64) (.int .i64))]⟩
def ref34_takeAct_D : FD := ⟨T, lookC [(59, fc59), (103, fc103)], [], (Tryz.f107.body.getD .skip), Tryz.f107.results.toList, ⟨[.one (.sl (.cons (.int .i64) (.cons .str (.cons (.int .i64) (.int .i64))))), .one (.int .i64)], []⟩, ⟨[.row (.cons (.int .i64) (.int .i64)), .one (.int .i64), .one .bool], []⟩, [(3, ref34_takeAct_F3)]⟩
def ref34_takeAct_l3 (l : (List TToken)) (at_ : Int) (i : Int) (h0 : TAct) : (Option ((TAct × Int × Bool × Unit) × Unit)) := ref34_takeAct_D.lab 3 ref34_takeAct_F3 ((l, at_, (), i, ()), (h0, ()))
theorem ref34_takeAct_l3_eq (l : (List TToken)) (at_ : Int) (i : Int) (h0 : TAct) : ref34_takeAct_l3 l at_ i h0 =
  if (decide (i < 6)) = true then
    (ref34_kind l at_ 1).bind fun y1 =>
      if y1.1.1 = true then
        if 0 ≤ at_ ∧ at_ < (l.length : Int) then
          (ref34_ops).bind fun y2 =>
            if 0 ≤ i ∧ i < (y2.1.1.length : Int) then
              if ((l.getD at_.toNat dToken).2.1.toList == (y2.1.1.getD i.toNat (strB [])).toList) = true then
                if (decide (i < 2)) = true then
                  some (((IntKind.i64.wrap (i + 1), 0), IntKind.i64.wrap (at_ + 1), true, ()), ())
                else
                  (ref34_kind l (IntKind.i64.wrap (at_ + 1)) 2).bind fun y3 =>
                    if (!y3.1.1) = true then
                      some (((0, 0), IntKind.i64.wrap (at_ + 1), false, ()), ())
                    else
                      if 0 ≤ IntKind.i64.wrap (at_ + 1) ∧ IntKind.i64.wrap (at_ + 1) < (l.length : Int) then
                        some (((IntKind.i64.wrap (i + 1), (l.getD (IntKind.i64.wrap (at_ + 1)).toNat dToken).2.2.1), IntKind.i64.wrap (at_ + 2), true, ()), ())
                      else
                        none
              else
                ref34_takeAct_l3 l at_ (IntKind.i64.wrap (i + 1)) h0
            else
              none
        else
          none
      else
        ref34_takeAct_l3 l at_ (IntKind.i64.wrap (i + 1)) h0
  else
    some (((0, 0), at_, false, ()), ()) := (FD.lab_eq _ _ _ _).trans (by kernel_rfl)
def ref34_takeAct (l : (List TToken)) (at_ : Int) : (Option ((TAct × Int × Bool × Unit) × Unit)) :=
  ref34_takeAct_l3 l at_ 0 (0, 0)
def fc107 : FC := ⟨⟨[.one (.sl (.cons (.int .i64) (.cons .str (.cons (.int .i64) (.int .i64))))), .one (.int .i64)], []⟩, ⟨[.row (.cons (.int .i64) (.int .i64)), .one (.int .i64), .one .bool], []⟩, fun x => ref34_takeAct x.1.1 x.1.2.1⟩
theorem con107 : Contract Tryz.prog 107 fc107 :=
  ref34_takeAct_D.contract tok (cok_of (l := [(59, fc59), (103, fc103)]) ⟨con59, con103, trivial⟩) mixed (fn' := Tryz.f107) (by kernel_rfl) (by kernel_rfl) rfl (by kernel_rfl) (fun x => (FD.fn_eq _ _).trans (by kernel_rfl))
end
end Go.Proofs.YtjgjbdnjjepibaaGreatDoor
end

section
/-
YtjgjbdnjjepibaaGreatDoor: signalbench.signalbenchref34.takeTarget, as one plain function, its equations, its contract. No condition.
-/
set_option maxRecDepth 100000
set_option linter.unusedVariables false
set_option maxHeartbeats 4000000
open Go Go.AM
namespace Go.Proofs.YtjgjbdnjjepibaaGreatDoor
noncomputable section
def ref34_takeTarget_F9 : FSh := ⟨[(0, .one (.sl (.cons (.int .i64) (.cons .str (.cons (.int .i64) (.int .i64)))))), (1, .one (.int .i64)), (5, .one (.ptr 1 0)), (6, .one (.ptr 2 0))], [.arr 73 (.cons (.int .i64) (.int .i64)) true, .box 37 [(.int .i64), (.int .i64), .str, .bool, (.own 0)], .box 37 [(.int .i64), (.int .i64), .str, .bool, (.own 3)], .arr 73 (.cons (.int .i64) (.int .i64)) true]⟩
def ref34_takeTarget_F13 : FSh := ⟨[(0, .one (.sl (.cons (.int .i64) (.cons .str (.cons (.int .i64) (.int .i64)))))), (1, .one (.int .i64)), (5, .one (.ptr 1 0)), (6, .one (.ptr 2 0))], [.dead, .box 37 [(.int .i64), (.int .i64), .str, .bool, (.own 3)], .box 37 [(.int .i64), (.int .i64), .str, .bool, (.own 4)], .arr 73 (.cons (.int .i64) (.int .i64)) true, .arr 73 (.cons (.int .i64) (.int .i64)) true]⟩
def ref34_takeTarget_D : FD := ⟨T, lookC [(58, fc58), (59, fc59), (107, fc107)], [9], (Tryz.f92.body.getD .skip), Tryz.f92.results.toList, ⟨[.one (.sl (.cons (.int .i64) (.cons .str (.cons (.int .i64) (.int .i64))))), .one (.int .i64), .agg [(.int .i64), (.int .i64), .str, .bool, (.own 0)]], [.arr 73 (.cons (.int .i64) (.int .i64)) true]⟩, ⟨[.row (.cons (.int .i64) (.cons (.int .i64) (.cons .str (.cons .bool (.sl (.cons (.int .i64) (.int .i64))))))), .one (.int .i64), .one .bool], [.dead]⟩, [(9, ref34_takeTarget_F9), (13, ref34_takeTarget_F13)]⟩
def ref34_takeTarget_l9 (l : (List TToken)) (at_ : Int) (l0 : (List TAct)) (h1_0 : Int) (h1_1 : Int) (h1_2 : ByteArray) (h1_3 : Bool) (h2_0 : Int) (h2_1 : Int) (h2_2 : ByteArray) (h2_3 : Bool) (l3 : (List TAct)) : (Option ((TRule × Int × Bool × Unit) × (Unit × Unit))) := ref34_takeTarget_D.lab 9 ref34_takeTarget_F9 ((l, at_, (), (), ()), (l0, (h1_0, h1_1, h1_2, h1_3, (), ()), (h2_0, h2_1, h2_2, h2_3, (), ()), l3, ()))
def ref34_takeTarget_l13 (l : (List TToken)) (at_ : Int) (h1_0 : Int) (h1_1 : Int) (h1_2 : ByteArray) (h1_3 : Bool) (h2_0 : Int) (h2_1 : Int) (h2_2 : ByteArray) (h2_3 : Bool) (l3 : (List TAct)) (l4 : (List TAct)) : (Option ((TRule × Int × Bool × Unit) × (Unit × Unit))) := ref34_takeTarget_D.lab 13 ref34_takeTarget_F13 ((l, at_, (), (), ()), ((), (h1_0, h1_1, h1_2, h1_3, (), ()), (h2_0, h2_1, h2_2, h2_3, (), ()), l3, l4, ()))
theorem ref34_takeTarget_l9_eq (l : (List TToken)) (at_ : Int) (l0 : (List TAct)) (h1_0 : Int) (h1_1 : Int) (h1_2 : ByteArray) (h1_3 : Bool) (h2_0 : Int) (h2_1 : Int) (h2_2 : ByteArray) (h2_3 : Bool) (l3 : (List TAct)) : ref34_takeTarget_l9 l at_ l0 h1_0 h1_1 h1_2 h1_3 h2_0 h2_1 h2_2 h2_3 l3 =
  ref34_takeTarget_l13 l at_ h1_0 h1_1 h1_2 h1_3 h2_0 h2_1 h2_2 h2_3 l0 l3 := (FD.lab_eq _ _ _ _).trans (by kernel_rfl)
theorem ref34_takeTarget_l13_eq (l : (List TToken)) (at_ : Int) (h1_0 : Int) (h1_1 : Int) (h1_2 : ByteArray) (h1_3 : Bool) (h2_0 : Int) (h2_1 : Int) (h2_2 : ByteArray) (h2_3 : Bool) (l3 : (List TAct)) (l4 : (List TAct)) : ref34_takeTarget_l13 l at_ h1_0 h1_1 h1_2 h1_3 h2_0 h2_1 h2_2 h2_3 l3 l4 =
  (ref34_is l at_ (strB [58])).bind fun y1 =>
    if y1.1.1 = true then
      if ((l3.length : Int) == 0) = true then
        (ref34_takeAct l (IntKind.i64.wrap (at_ + 1))).bind fun y2 =>
          if (!y2.1.2.2.1) = true then
            some (((h1_0, h1_1, h1_2, h1_3, l3), y2.1.2.1, false, ()), ((), ()))
          else
            if (l3.length + 1) * 16 ≤ 140737488355328 ∧ 0 < 16 then
              ref34_takeTarget_l13 l y2.1.2.1 h1_0 h1_1 h1_2 h1_3 h2_0 h2_1 h2_2 h2_3 (l3 ++ [y2.1.1]) l4
            else
              none
      else
        (ref34_is l at_ (strB [44])).bind fun y3 =>
          if y3.1.1 = true then
            if (decide ((l3.length : Int) > 0)) = true then
              (ref34_takeAct l (IntKind.i64.wrap (at_ + 1))).bind fun y4 =>
                if (!y4.1.2.2.1) = true then
                  some (((h1_0, h1_1, h1_2, h1_3, l3), y4.1.2.1, false, ()), ((), ()))
                else
                  if (l3.length + 1) * 16 ≤ 140737488355328 ∧ 0 < 16 then
                    ref34_takeTarget_l13 l y4.1.2.1 h1_0 h1_1 h1_2 h1_3 h2_0 h2_1 h2_2 h2_3 (l3 ++ [y4.1.1]) l4
                  else
                    none
            else
              (ref34_is l at_ (strB [59])).bind fun y5 =>
                if (!y5.1.1) = true then
                  some (((h1_0, h1_1, h1_2, h1_3, l3), at_, false, ()), ((), ()))
                else
                  some (((h1_0, h1_1, h1_2, h1_3, l3), IntKind.i64.wrap (at_ + 1), true, ()), ((), ()))
          else
            (ref34_is l at_ (strB [59])).bind fun y6 =>
              if (!y6.1.1) = true then
                some (((h1_0, h1_1, h1_2, h1_3, l3), at_, false, ()), ((), ()))
              else
                some (((h1_0, h1_1, h1_2, h1_3, l3), IntKind.i64.wrap (at_ + 1), true, ()), ((), ()))
    else
      (ref34_is l at_ (strB [44])).bind fun y7 =>
        if y7.1.1 = true then
          if (decide ((l3.length : Int) > 0)) = true then
            (ref34_takeAct l (IntKind.i64.wrap (at_ + 1))).bind fun y8 =>
              if (!y8.1.2.2.1) = true then
                some (((h1_0, h1_1, h1_2, h1_3, l3), y8.1.2.1, false, ()), ((), ()))
              else
                if (l3.length + 1) * 16 ≤ 140737488355328 ∧ 0 < 16 then
                  ref34_takeTarget_l13 l y8.1.2.1 h1_0 h1_1 h1_2 h1_3 h2_0 h2_1 h2_2 h2_3 (l3 ++ [y8.1.1]) l4
                else
                  none
          else
            (ref34_is l at_ (strB [59])).bind fun y9 =>
              if (!y9.1.1) = true then
                some (((h1_0, h1_1, h1_2, h1_3, l3), at_, false, ()), ((), ()))
              else
                some (((h1_0, h1_1, h1_2, h1_3, l3), IntKind.i64.wrap (at_ + 1), true, ()), ((), ()))
        else
          (ref34_is l at_ (strB [59])).bind fun y10 =>
            if (!y10.1.1) = true then
              some (((h1_0, h1_1, h1_2, h1_3, l3), at_, false, ()), ((), ()))
            else
              some (((h1_0, h1_1, h1_2, h1_3, l3), IntKind.i64.wrap (at_ + 1), true, ()), ((), ())) := (FD.lab_eq _ _ _ _).trans (by kernel_rfl)
def ref34_takeTarget (l : (List TToken)) (at_ : Int) (r_0 : Int) (r_1 : Int) (r_2 : ByteArray) (r_3 : Bool) (l0 : (List TAct)) : (Option ((TRule × Int × Bool × Unit) × (Unit × Unit))) :=
  (ref34_is l at_ (strB [62])).bind fun y1 =>
    if (!y1.1.1) = true then
      some (((r_0, r_1, r_2, r_3, l0), at_, false, ()), ((), ()))
    else
      (ref34_kind l (IntKind.i64.wrap (at_ + 1)) 1).bind fun y2 =>
        if (!y2.1.1) = true then
          some (((r_0, r_1, r_2, r_3, l0), IntKind.i64.wrap (at_ + 1), false, ()), ((), ()))
        else
          if 0 ≤ IntKind.i64.wrap (at_ + 1) ∧ IntKind.i64.wrap (at_ + 1) < (l.length : Int) then
            (ref34_is l (IntKind.i64.wrap (at_ + 2)) (strB [97, 103, 97, 105, 110])).bind fun y3 =>
              if y3.1.1 = true then
                ref34_takeTarget_l9 l (IntKind.i64.wrap ((IntKind.i64.wrap (at_ + 2)) + 1)) l0 r_0 r_1 (l.getD (IntKind.i64.wrap (at_ + 1)).toNat dToken).2.1 true 0 0 (strB []) false []
              else
                ref34_takeTarget_l9 l (IntKind.i64.wrap (at_ + 2)) l0 r_0 r_1 (l.getD (IntKind.i64.wrap (at_ + 1)).toNat dToken).2.1 r_3 0 0 (strB []) false []
          else
            none
def fc92 : FC := ⟨⟨[.one (.sl (.cons (.int .i64) (.cons .str (.cons (.int .i64) (.int .i64))))), .one (.int .i64), .agg [(.int .i64), (.int .i64), .str, .bool, (.own 0)]], [.arr 73 (.cons (.int .i64) (.int .i64)) true]⟩, ⟨[.row (.cons (.int .i64) (.cons (.int .i64) (.cons .str (.cons .bool (.sl (.cons (.int .i64) (.int .i64))))))), .one (.int .i64), .one .bool], [.dead]⟩, fun x => ref34_takeTarget x.1.1 x.1.2.1 x.1.2.2.1.1 x.1.2.2.1.2.1 x.1.2.2.1.2.2.1 x.1.2.2.1.2.2.2.1 x.2.1⟩
theorem con92 : Contract Tryz.prog 92 fc92 :=
  ref34_takeTarget_D.contract tok (cok_of (l := [(58, fc58), (59, fc59), (107, fc107)]) ⟨con58, con59, con107, trivial⟩) mixed (fn' := Tryz.f92) (by kernel_rfl) (by kernel_rfl) rfl (by kernel_rfl) (fun x => (FD.fn_eq _ _).trans (by kernel_rfl))
end
end Go.Proofs.YtjgjbdnjjepibaaGreatDoor
end

section
/-
YtjgjbdnjjepibaaGreatDoor: signalbench.signalbenchref34.takeRule, as one plain function, its equations, its contract. No condition.
-/
set_option maxRecDepth 100000
set_option linter.unusedVariables false
set_option maxHeartbeats 4000000
open Go Go.AM
namespace Go.Proofs.YtjgjbdnjjepibaaGreatDoor
noncomputable section
def ref34_takeRule_F3 : FSh := ⟨[(0, .one (.sl (.cons (.int .i64) (.cons .str (.cons (.int .i64) (.int .i64)))))), (1, .one (.int .i64)), (4, .one (.ptr 0 0)), (7, .one (.ptr 1 0))], [.box 37 [(.int .i64), (.int .i64), .str, .bool, (.own 2)], .box 37 [(.int .i64), (.int .i64), .str, .bool, (.own 3)], .arr 73 (.cons (.int .i64) (.int .i64)) true, .arr 73 (.cons (.int .i64) (.int .i64)) true]⟩
def ref34_takeRule_D : FD := ⟨T, lookC [(58, fc58), (59, fc59), (92, fc92)], [3], (Tryz.f91.body.getD .skip), Tryz.f91.results.toList, ⟨[.one (.sl (.cons (.int .i64) (.cons .str (.cons (.int .i64) (.int .i64))))), .one (.int .i64)], []⟩, ⟨[.row (.cons (.int .i64) (.cons (.int .i64) (.cons .str (.cons .bool (.sl (.cons (.int .i64) (.int .i64))))))), .one (.int .i64), .one .bool], []⟩, [(3, ref34_takeRule_F3)]⟩
def ref34_takeRule_l3 (l : (List TToken)) (at_ : Int) (h0_0 : Int) (h0_1 : Int) (h0_2 : ByteArray) (h0_3 : Bool) (h1_0 : Int) (h1_1 : Int) (h1_2 : ByteArray) (h1_3 : Bool) (l2 : (List TAct)) (l3 : (List TAct)) : (Option ((TRule × Int × Bool × Unit) × Unit)) := ref34_takeRule_D.lab 3 ref34_takeRule_F3 ((l, at_, (), (), ()), ((h0_0, h0_1, h0_2, h0_3, (), ()), (h1_0, h1_1, h1_2, h1_3, (), ()), l2, l3, ()))
theorem ref34_takeRule_l3_eq (l : (List TToken)) (at_ : Int) (h0_0 : Int) (h0_1 : Int) (h0_2 : ByteArray) (h0_3 : Bool) (h1_0 : Int) (h1_1 : Int) (h1_2 : ByteArray) (h1_3 : Bool) (l2 : (List TAct)) (l3 : (List TAct)) : ref34_takeRule_l3 l at_ h0_0 h0_1 h0_2 h0_3 h1_0 h1_1 h1_2 h1_3 l2 l3 =
  (ref34_takeTarget l at_ h1_0 h1_1 h1_2 h1_3 l3).bind fun y1 =>
    some ((y1.1.1, y1.1.2.1, y1.1.2.2.1, ()), ()) := (FD.lab_eq _ _ _ _).trans (by kernel_rfl)
def ref34_takeRule (l : (List TToken)) (at_ : Int) : (Option ((TRule × Int × Bool × Unit) × Unit)) :=
  if 0 ≤ at_ ∧ at_ < (l.length : Int) then
    if 0 ≤ at_ ∧ at_ < (l.length : Int) then
      (ref34_is l (IntKind.i64.wrap (at_ + 1)) (strB [46])).bind fun y1 =>
        if y1.1.1 = true then
          (ref34_is l (IntKind.i64.wrap ((IntKind.i64.wrap (at_ + 1)) + 1)) (strB [46])).bind fun y2 =>
            if (!y2.1.1) = true then
              some ((((l.getD at_.toNat dToken).2.2.1, (l.getD at_.toNat dToken).2.2.1, (strB []), false, []), IntKind.i64.wrap ((IntKind.i64.wrap (at_ + 1)) + 1), false, ()), ())
            else
              (ref34_kind l (IntKind.i64.wrap ((IntKind.i64.wrap (at_ + 1)) + 2)) 2).bind fun y3 =>
                if (!y3.1.1) = true then
                  some ((((l.getD at_.toNat dToken).2.2.1, (l.getD at_.toNat dToken).2.2.1, (strB []), false, []), IntKind.i64.wrap ((IntKind.i64.wrap (at_ + 1)) + 2), false, ()), ())
                else
                  if 0 ≤ IntKind.i64.wrap ((IntKind.i64.wrap (at_ + 1)) + 2) ∧ IntKind.i64.wrap ((IntKind.i64.wrap (at_ + 1)) + 2) < (l.length : Int) then
                    ref34_takeRule_l3 l (IntKind.i64.wrap ((IntKind.i64.wrap (at_ + 1)) + 3)) 0 0 (strB []) false (l.getD at_.toNat dToken).2.2.1 (l.getD (IntKind.i64.wrap ((IntKind.i64.wrap (at_ + 1)) + 2)).toNat dToken).2.2.1 (strB []) false [] []
                  else
                    none
        else
          ref34_takeRule_l3 l (IntKind.i64.wrap (at_ + 1)) 0 0 (strB []) false (l.getD at_.toNat dToken).2.2.1 (l.getD at_.toNat dToken).2.2.1 (strB []) false [] []
    else
      none
  else
    none
def fc91 : FC := ⟨⟨[.one (.sl (.cons (.int .i64) (.cons .str (.cons (.int .i64) (.int .i64))))), .one (.int .i64)], []⟩, ⟨[.row (.cons (.int .i64) (.cons (.int .i64) (.cons .str (.cons .bool (.sl (.cons (.int .i64) (.int .i64))))))), .one (.int .i64), .one .bool], []⟩, fun x => ref34_takeRule x.1.1 x.1.2.1⟩
theorem con91 : Contract Tryz.prog 91 fc91 :=
  ref34_takeRule_D.contract tok (cok_of (l := [(58, fc58), (59, fc59), (92, fc92)]) ⟨con58, con59, con92, trivial⟩) mixed (fn' := Tryz.f91) (by kernel_rfl) (by kernel_rfl) rfl (by kernel_rfl) (fun x => (FD.fn_eq _ _).trans (by kernel_rfl))
end
end Go.Proofs.YtjgjbdnjjepibaaGreatDoor
end

section
/-
YtjgjbdnjjepibaaGreatDoor: signalbench.signalbenchref34.takeState, as one plain function, its equations, its contract. No condition.
-/
set_option maxRecDepth 100000
set_option linter.unusedVariables false
set_option maxHeartbeats 4000000
open Go Go.AM
namespace Go.Proofs.YtjgjbdnjjepibaaGreatDoor
noncomputable section
def ref34_takeState_F11 : FSh := ⟨[(0, .one (.sl (.cons (.int .i64) (.cons .str (.cons (.int .i64) (.int .i64)))))), (1, .one (.int .i64)), (4, .one (.ptr 0 0)), (7, .one (.ptr 1 0))], [.box 39 [.str, (.own 2), .bool, (.int .i64), (.int .i64), .str, .bool, (.sl (.cons (.int .i64) (.int .i64)))], .box 39 [.str, (.own 3), .bool, (.int .i64), (.int .i64), .str, .bool, (.sl (.cons (.int .i64) (.int .i64)))], .arr 37 (.cons (.int .i64) (.cons (.int .i64) (.cons .str (.cons .bool (.sl (.cons (.int .i64) (.int .i64))))))) true, .arr 37 (.cons (.int .i64) (.cons (.int .i64) (.cons .str (.cons .bool (.sl (.cons (.int .i64) (.int .i64))))))) true]⟩
def ref34_takeState_F19 : FSh := ⟨[(0, .one (.sl (.cons (.int .i64) (.cons .str (.cons (.int .i64) (.int .i64)))))), (1, .one (.int .i64)), (4, .one (.ptr 0 0)), (7, .one (.ptr 1 0))], [.box 39 [.str, (.own 2), .bool, (.int .i64), (.int .i64), .str, .bool, (.sl (.cons (.int .i64) (.int .i64)))], .box 39 [.str, (.own 3), .bool, (.int .i64), (.int .i64), .str, .bool, (.sl (.cons (.int .i64) (.int .i64)))], .arr 37 (.cons (.int .i64) (.cons (.int .i64) (.cons .str (.cons .bool (.sl (.cons (.int .i64) (.int .i64))))))) true, .arr 37 (.cons (.int .i64) (.cons (.int .i64) (.cons .str (.cons .bool (.sl (.cons (.int .i64) (.int .i64))))))) true]⟩
def ref34_takeState_D : FD := ⟨T, lookC [(58, fc58), (59, fc59), (91, fc91), (92, fc92)], [19], (Tryz.f61.body.getD .skip), Tryz.f61.results.toList, ⟨[.one (.sl (.cons (.int .i64) (.cons .str (.cons (.int .i64) (.int .i64))))), .one (.int .i64)], []⟩, ⟨[.row (.cons .str (.cons (.sl (.cons (.int .i64) (.cons (.int .i64) (.cons .str (.cons .bool (.sl (.cons (.int .i64) (.int .i64)))))))) (.cons .bool (.cons (.int .i64) (.cons (.int .i64) (.cons .str (.cons .bool (.sl (.cons (.int .i64) (.int .i64)))))))))), .one (.int .i64), .one .bool], []⟩, [(11, ref34_takeState_F11), (19, ref34_takeState_F19)]⟩
def ref34_takeState_l11 (l : (List TToken)) (at_ : Int) (h0_0 : ByteArray) (h0_2 : Bool) (h0_3 : Int) (h0_4 : Int) (h0_5 : ByteArray) (h0_6 : Bool) (h0_7 : (List TAct)) (h1_0 : ByteArray) (h1_2 : Bool) (h1_3 : Int) (h1_4 : Int) (h1_5 : ByteArray) (h1_6 : Bool) (h1_7 : (List TAct)) (l2 : (List TRule)) (l3 : (List TRule)) : (Option ((TDeclState × Int × Bool × Unit) × Unit)) := ref34_takeState_D.lab 11 ref34_takeState_F11 ((l, at_, (), (), ()), ((h0_0, (), h0_2, h0_3, h0_4, h0_5, h0_6, h0_7, ()), (h1_0, (), h1_2, h1_3, h1_4, h1_5, h1_6, h1_7, ()), l2, l3, ()))
def ref34_takeState_l19 (l : (List TToken)) (at_ : Int) (h0_0 : ByteArray) (h0_2 : Bool) (h0_3 : Int) (h0_4 : Int) (h0_5 : ByteArray) (h0_6 : Bool) (h0_7 : (List TAct)) (h1_0 : ByteArray) (h1_2 : Bool) (h1_3 : Int) (h1_4 : Int) (h1_5 : ByteArray) (h1_6 : Bool) (h1_7 : (List TAct)) (l2 : (List TRule)) (l3 : (List TRule)) : (Option ((TDeclState × Int × Bool × Unit) × Unit)) := ref34_takeState_D.lab 19 ref34_takeState_F19 ((l, at_, (), (), ()), ((h0_0, (), h0_2, h0_3, h0_4, h0_5, h0_6, h0_7, ()), (h1_0, (), h1_2, h1_3, h1_4, h1_5, h1_6, h1_7, ()), l2, l3, ()))
theorem ref34_takeState_l11_eq (l : (List TToken)) (at_ : Int) (h0_0 : ByteArray) (h0_2 : Bool) (h0_3 : Int) (h0_4 : Int) (h0_5 : ByteArray) (h0_6 : Bool) (h0_7 : (List TAct)) (h1_0 : ByteArray) (h1_2 : Bool) (h1_3 : Int) (h1_4 : Int) (h1_5 : ByteArray) (h1_6 : Bool) (h1_7 : (List TAct)) (l2 : (List TRule)) (l3 : (List TRule)) : ref34_takeState_l11 l at_ h0_0 h0_2 h0_3 h0_4 h0_5 h0_6 h0_7 h1_0 h1_2 h1_3 h1_4 h1_5 h1_6 h1_7 l2 l3 =
  (ref34_kind l at_ 2).bind fun y1 =>
    if y1.1.1 = true then
      (ref34_takeRule l at_).bind fun y2 =>
        if (!y2.1.2.2.1) = true then
          some (((h1_0, l3, h1_2, h1_3, h1_4, h1_5, h1_6, h1_7), y2.1.2.1, false, ()), ())
        else
          if (l3.length + 1) * 64 ≤ 140737488355328 ∧ 0 < 64 then
            ref34_takeState_l11 l y2.1.2.1 h0_0 h0_2 h0_3 h0_4 h0_5 h0_6 h0_7 h1_0 h1_2 h1_3 h1_4 h1_5 h1_6 h1_7 l2 (l3 ++ [y2.1.1])
          else
            none
    else
      (ref34_is l at_ (strB [42])).bind fun y3 =>
        if y3.1.1 = true then
          (ref34_takeTarget l (IntKind.i64.wrap (at_ + 1)) 0 0 (strB []) false []).bind fun y4 =>
            if (!y4.1.2.2.1) = true then
              some (((h1_0, l3, true, y4.1.1), y4.1.2.1, false, ()), ())
            else
              ref34_takeState_l19 l y4.1.2.1 h0_0 h0_2 h0_3 h0_4 h0_5 h0_6 h0_7 h1_0 true y4.1.1.1 y4.1.1.2.1 y4.1.1.2.2.1 y4.1.1.2.2.2.1 y4.1.1.2.2.2.2 l2 l3
        else
          ref34_takeState_l19 l at_ h0_0 h0_2 h0_3 h0_4 h0_5 h0_6 h0_7 h1_0 h1_2 h1_3 h1_4 h1_5 h1_6 h1_7 l2 l3 := (FD.lab_eq _ _ _ _).trans (by kernel_rfl)
theorem ref34_takeState_l19_eq (l : (List TToken)) (at_ : Int) (h0_0 : ByteArray) (h0_2 : Bool) (h0_3 : Int) (h0_4 : Int) (h0_5 : ByteArray) (h0_6 : Bool) (h0_7 : (List TAct)) (h1_0 : ByteArray) (h1_2 : Bool) (h1_3 : Int) (h1_4 : Int) (h1_5 : ByteArray) (h1_6 : Bool) (h1_7 : (List TAct)) (l2 : (List TRule)) (l3 : (List TRule)) : ref34_takeState_l19 l at_ h0_0 h0_2 h0_3 h0_4 h0_5 h0_6 h0_7 h1_0 h1_2 h1_3 h1_4 h1_5 h1_6 h1_7 l2 l3 =
  (ref34_is l at_ (strB [125])).bind fun y1 =>
    if (!y1.1.1) = true then
      some (((h1_0, l3, h1_2, h1_3, h1_4, h1_5, h1_6, h1_7), at_, false, ()), ())
    else
      some (((h1_0, l3, h1_2, h1_3, h1_4, h1_5, h1_6, h1_7), IntKind.i64.wrap (at_ + 1), true, ()), ()) := (FD.lab_eq _ _ _ _).trans (by kernel_rfl)
def ref34_takeState (l : (List TToken)) (at_ : Int) : (Option ((TDeclState × Int × Bool × Unit) × Unit)) :=
  (ref34_kind l at_ 1).bind fun y1 =>
    if (!y1.1.1) = true then
      some ((((strB []), [], false, 0, 0, (strB []), false, []), at_, false, ()), ())
    else
      if 0 ≤ at_ ∧ at_ < (l.length : Int) then
        (ref34_is l (IntKind.i64.wrap (at_ + 1)) (strB [123])).bind fun y2 =>
          if (!y2.1.1) = true then
            some ((((l.getD at_.toNat dToken).2.1, [], false, 0, 0, (strB []), false, []), IntKind.i64.wrap (at_ + 1), false, ()), ())
          else
            ref34_takeState_l11 l (IntKind.i64.wrap (at_ + 2)) (strB []) false 0 0 (strB []) false [] (l.getD at_.toNat dToken).2.1 false 0 0 (strB []) false [] [] []
      else
        none
def fc61 : FC := ⟨⟨[.one (.sl (.cons (.int .i64) (.cons .str (.cons (.int .i64) (.int .i64))))), .one (.int .i64)], []⟩, ⟨[.row (.cons .str (.cons (.sl (.cons (.int .i64) (.cons (.int .i64) (.cons .str (.cons .bool (.sl (.cons (.int .i64) (.int .i64)))))))) (.cons .bool (.cons (.int .i64) (.cons (.int .i64) (.cons .str (.cons .bool (.sl (.cons (.int .i64) (.int .i64)))))))))), .one (.int .i64), .one .bool], []⟩, fun x => ref34_takeState x.1.1 x.1.2.1⟩
theorem con61 : Contract Tryz.prog 61 fc61 :=
  ref34_takeState_D.contract tok (cok_of (l := [(58, fc58), (59, fc59), (91, fc91), (92, fc92)]) ⟨con58, con59, con91, con92, trivial⟩) mixed (fn' := Tryz.f61) (by kernel_rfl) (by kernel_rfl) rfl (by kernel_rfl) (fun x => (FD.fn_eq _ _).trans (by kernel_rfl))
end
end Go.Proofs.YtjgjbdnjjepibaaGreatDoor
end

section
/-
YtjgjbdnjjepibaaGreatDoor: signalbench.signalbenchref34.TakeDecl, as one plain function, its equations, its contract. No condition.
-/
set_option maxRecDepth 100000
set_option linter.unusedVariables false
set_option maxHeartbeats 4000000
open Go Go.AM
namespace Go.Proofs.YtjgjbdnjjepibaaGreatDoor
noncomputable section
def ref34_TakeDecl_F28 : FSh := ⟨[(0, .one (.sl (.cons (.int .i64) (.cons .str (.cons (.int .i64) (.int .i64)))))), (1, .one (.int .i64)), (4, .one (.ptr 0 0)), (7, .one (.ptr 1 0))], [.box 24 [.str, (.int .i64), (.int .i64), (.own 2)], .box 24 [.str, (.int .i64), (.int .i64), (.own 3)], .arr 39 (.cons .str (.cons (.sl (.cons (.int .i64) (.cons (.int .i64) (.cons .str (.cons .bool (.sl (.cons (.int .i64) (.int .i64)))))))) (.cons .bool (.cons (.int .i64) (.cons (.int .i64) (.cons .str (.cons .bool (.sl (.cons (.int .i64) (.int .i64)))))))))) true, .arr 39 (.cons .str (.cons (.sl (.cons (.int .i64) (.cons (.int .i64) (.cons .str (.cons .bool (.sl (.cons (.int .i64) (.int .i64)))))))) (.cons .bool (.cons (.int .i64) (.cons (.int .i64) (.cons .str (.cons .bool (.sl (.cons (.int .i64) (.int .i64)))))))))) true]⟩
def ref34_TakeDecl_D : FD := ⟨T, lookC [(58, fc58), (59, fc59), (60, fc60), (61, fc61)], [], (Tryz.f33.body.getD .skip), Tryz.f33.results.toList, ⟨[.one (.sl (.cons (.int .i64) (.cons .str (.cons (.int .i64) (.int .i64))))), .one (.int .i64)], []⟩, ⟨[.row (.cons .str (.cons (.int .i64) (.cons (.int .i64) (.sl (.cons .str (.cons (.sl (.cons (.int .i64) (.cons (.int .i64) (.cons .str (.cons .bool (.sl (.cons (.int .i64) (.int .i64)))))))) (.cons .bool (.cons (.int .i64) (.cons (.int .i64) (.cons .str (.cons .bool (.sl (.cons (.int .i64) (.int .i64)))))))))))))), .one (.int .i64), .one .bool], []⟩, [(28, ref34_TakeDecl_F28)]⟩
def ref34_TakeDecl_l28 (l : (List TToken)) (at_ : Int) (h0_0 : ByteArray) (h0_1 : Int) (h0_2 : Int) (h1_0 : ByteArray) (h1_1 : Int) (h1_2 : Int) (l2 : (List TDeclState)) (l3 : (List TDeclState)) : (Option ((TDecl × Int × Bool × Unit) × Unit)) := ref34_TakeDecl_D.lab 28 ref34_TakeDecl_F28 ((l, at_, (), (), ()), ((h0_0, h0_1, h0_2, (), ()), (h1_0, h1_1, h1_2, (), ()), l2, l3, ()))
theorem ref34_TakeDecl_l28_eq (l : (List TToken)) (at_ : Int) (h0_0 : ByteArray) (h0_1 : Int) (h0_2 : Int) (h1_0 : ByteArray) (h1_1 : Int) (h1_2 : Int) (l2 : (List TDeclState)) (l3 : (List TDeclState)) : ref34_TakeDecl_l28 l at_ h0_0 h0_1 h0_2 h1_0 h1_1 h1_2 l2 l3 =
  (ref34_is l at_ (strB [115, 116, 97, 116, 101])).bind fun y1 =>
    if y1.1.1 = true then
      (ref34_takeState l (IntKind.i64.wrap (at_ + 1))).bind fun y2 =>
        if (!y2.1.2.2.1) = true then
          some (((h1_0, h1_1, h1_2, l3), y2.1.2.1, false, ()), ())
        else
          if (l3.length + 1) * 112 ≤ 140737488355328 ∧ 0 < 112 then
            ref34_TakeDecl_l28 l y2.1.2.1 h0_0 h0_1 h0_2 h1_0 h1_1 h1_2 l2 (l3 ++ [y2.1.1])
          else
            none
    else
      (ref34_is l at_ (strB [125])).bind fun y3 =>
        if (!y3.1.1) = true then
          some (((h1_0, h1_1, h1_2, l3), at_, false, ()), ())
        else
          some (((h1_0, h1_1, h1_2, l3), IntKind.i64.wrap (at_ + 1), true, ()), ()) := (FD.lab_eq _ _ _ _).trans (by kernel_rfl)
def ref34_TakeDecl (l : (List TToken)) (at_ : Int) : (Option ((TDecl × Int × Bool × Unit) × Unit)) :=
  (ref34_is l at_ (strB [100, 101, 99, 111, 100, 101, 114])).bind fun y1 =>
    if (!y1.1.1) = true then
      some ((((strB []), 0, 0, []), at_, false, ()), ())
    else
      (ref34_kind l (IntKind.i64.wrap (at_ + 1)) 1).bind fun y2 =>
        if (!y2.1.1) = true then
          some ((((strB []), 0, 0, []), IntKind.i64.wrap (at_ + 1), false, ()), ())
        else
          if 0 ≤ IntKind.i64.wrap (at_ + 1) ∧ IntKind.i64.wrap (at_ + 1) < (l.length : Int) then
            (ref34_either l (IntKind.i64.wrap (at_ + 3)) (strB [98, 105, 116]) (strB [98, 121, 116, 101])).bind fun y3 =>
              (ref34_either l (IntKind.i64.wrap (at_ + 5)) (strB [102, 114, 97, 109, 101]) (strB [112, 97, 99, 107, 101, 116])).bind fun y4 =>
                (ref34_is l (IntKind.i64.wrap (at_ + 2)) (strB [105, 110, 112, 117, 116])).bind fun y5 =>
                  if (!y5.1.1) = true then
                    some ((((l.getD (IntKind.i64.wrap (at_ + 1)).toNat dToken).2.1, 0, 0, []), IntKind.i64.wrap (at_ + 2), false, ()), ())
                  else
                    if (decide (y3.1.1 < 0)) = true then
                      some ((((l.getD (IntKind.i64.wrap (at_ + 1)).toNat dToken).2.1, 0, 0, []), IntKind.i64.wrap (at_ + 3), false, ()), ())
                    else
                      (ref34_is l (IntKind.i64.wrap (at_ + 4)) (strB [111, 117, 116, 112, 117, 116])).bind fun y6 =>
                        if (!y6.1.1) = true then
                          some ((((l.getD (IntKind.i64.wrap (at_ + 1)).toNat dToken).2.1, 0, 0, []), IntKind.i64.wrap (at_ + 4), false, ()), ())
                        else
                          if (decide (y4.1.1 < 0)) = true then
                            some ((((l.getD (IntKind.i64.wrap (at_ + 1)).toNat dToken).2.1, 0, 0, []), IntKind.i64.wrap (at_ + 5), false, ()), ())
                          else
                            (ref34_is l (IntKind.i64.wrap (at_ + 6)) (strB [123])).bind fun y7 =>
                              if (!y7.1.1) = true then
                                some ((((l.getD (IntKind.i64.wrap (at_ + 1)).toNat dToken).2.1, IntKind.i64.wrap (2 + y3.1.1), IntKind.i64.wrap (5 + y4.1.1), []), IntKind.i64.wrap (at_ + 6), false, ()), ())
                              else
                                ref34_TakeDecl_l28 l (IntKind.i64.wrap (at_ + 7)) (strB []) 0 0 (l.getD (IntKind.i64.wrap (at_ + 1)).toNat dToken).2.1 (IntKind.i64.wrap (2 + y3.1.1)) (IntKind.i64.wrap (5 + y4.1.1)) [] []
          else
            none
def fc33 : FC := ⟨⟨[.one (.sl (.cons (.int .i64) (.cons .str (.cons (.int .i64) (.int .i64))))), .one (.int .i64)], []⟩, ⟨[.row (.cons .str (.cons (.int .i64) (.cons (.int .i64) (.sl (.cons .str (.cons (.sl (.cons (.int .i64) (.cons (.int .i64) (.cons .str (.cons .bool (.sl (.cons (.int .i64) (.int .i64)))))))) (.cons .bool (.cons (.int .i64) (.cons (.int .i64) (.cons .str (.cons .bool (.sl (.cons (.int .i64) (.int .i64)))))))))))))), .one (.int .i64), .one .bool], []⟩, fun x => ref34_TakeDecl x.1.1 x.1.2.1⟩
theorem con33 : Contract Tryz.prog 33 fc33 :=
  ref34_TakeDecl_D.contract tok (cok_of (l := [(58, fc58), (59, fc59), (60, fc60), (61, fc61)]) ⟨con58, con59, con60, con61, trivial⟩) mixed (fn' := Tryz.f33) (by kernel_rfl) (by kernel_rfl) rfl (by kernel_rfl) (fun x => (FD.fn_eq _ _).trans (by kernel_rfl))
end
end Go.Proofs.YtjgjbdnjjepibaaGreatDoor
end

section
/-
YtjgjbdnjjepibaaGreatDoor: signalbench.signalbenchref34.Line, as one plain function, its equations, its contract. No condition.
-/
set_option maxRecDepth 100000
set_option linter.unusedVariables false
set_option maxHeartbeats 4000000
open Go Go.AM
namespace Go.Proofs.YtjgjbdnjjepibaaGreatDoor
noncomputable section
def ref34_Line_D : FD := ⟨T, lookC [], [], (Tryz.f34.body.getD .skip), Tryz.f34.results.toList, ⟨[.one (.sl (.cons (.int .i64) (.cons .str (.cons (.int .i64) (.int .i64))))), .one (.int .i64)], []⟩, ⟨[.one (.int .i64)], []⟩, []⟩
def ref34_Line (l : (List TToken)) (at_ : Int) : (Option ((Int × Unit) × Unit)) :=
  if (decide (at_ < (l.length : Int))) = true then
    if 0 ≤ at_ ∧ at_ < (l.length : Int) then
      some (((l.getD at_.toNat dToken).2.2.2, ()), ())
    else
      none
  else
    if (decide ((l.length : Int) > 0)) = true then
      if 0 ≤ IntKind.i64.wrap ((l.length : Int) - 1) ∧ IntKind.i64.wrap ((l.length : Int) - 1) < (l.length : Int) then
        some (((l.getD (IntKind.i64.wrap ((l.length : Int) - 1)).toNat dToken).2.2.2, ()), ())
      else
        none
    else
      some ((1, ()), ())
def fc34 : FC := ⟨⟨[.one (.sl (.cons (.int .i64) (.cons .str (.cons (.int .i64) (.int .i64))))), .one (.int .i64)], []⟩, ⟨[.one (.int .i64)], []⟩, fun x => ref34_Line x.1.1 x.1.2.1⟩
theorem con34 : Contract Tryz.prog 34 fc34 :=
  ref34_Line_D.contract tok (cok_of (l := []) trivial) mixed (fn' := Tryz.f34) (by kernel_rfl) (by kernel_rfl) rfl (by kernel_rfl) (fun x => (FD.fn_eq _ _).trans (by kernel_rfl))
end
end Go.Proofs.YtjgjbdnjjepibaaGreatDoor
end

section
/-
YtjgjbdnjjepibaaGreatDoor: signalbench.signalbenchref34.Parse, as one plain function, its equations, its contract. No condition.
-/
set_option maxRecDepth 100000
set_option linter.unusedVariables false
set_option maxHeartbeats 4000000
open Go Go.AM
namespace Go.Proofs.YtjgjbdnjjepibaaGreatDoor
noncomputable section
def ref34_Parse_D : FD := ⟨T, lookC [(23, fc23), (32, fc32), (33, fc33), (34, fc34)], [], (Tryz.f10.body.getD .skip), Tryz.f10.results.toList, ⟨[.one .str], []⟩, ⟨[.row (.cons .str (.cons (.int .i64) (.cons (.int .i64) (.sl (.cons .str (.cons (.sl (.cons (.int .i64) (.cons (.int .i64) (.cons .str (.cons .bool (.sl (.cons (.int .i64) (.int .i64)))))))) (.cons .bool (.cons (.int .i64) (.cons (.int .i64) (.cons .str (.cons .bool (.sl (.cons (.int .i64) (.int .i64)))))))))))))), .one (.int .i64), .one (.int .i64)], []⟩, []⟩
def ref34_Parse (s : ByteArray) : (Option ((TDecl × Int × Int × Unit) × Unit)) :=
  (ref05_Tokens s).bind fun y1 =>
    if (y1.1.2.2.1 != 0) = true then
      some ((((strB []), 0, 0, []), y1.1.2.1, y1.1.2.2.1, ()), ())
    else
      (ref34_TakeDecl y1.1.1 0).bind fun y2 =>
        if (!y2.1.2.2.1) = true then
          (ref34_Line y1.1.1 y2.1.2.1).bind fun y3 =>
            some ((((strB []), 0, 0, []), y3.1.1, 4, ()), ())
        else
          if (decide (y2.1.2.1 < (y1.1.1.length : Int))) = true then
            (ref34_Line y1.1.1 y2.1.2.1).bind fun y4 =>
              some ((((strB []), 0, 0, []), y4.1.1, 4, ()), ())
          else
            (ref34_Check y2.1.1).bind fun y5 =>
              if (y5.1.1 != 0) = true then
                some ((((strB []), 0, 0, []), 0, y5.1.1, ()), ())
              else
                some ((y2.1.1, 0, 0, ()), ())
def fc10 : FC := ⟨⟨[.one .str], []⟩, ⟨[.row (.cons .str (.cons (.int .i64) (.cons (.int .i64) (.sl (.cons .str (.cons (.sl (.cons (.int .i64) (.cons (.int .i64) (.cons .str (.cons .bool (.sl (.cons (.int .i64) (.int .i64)))))))) (.cons .bool (.cons (.int .i64) (.cons (.int .i64) (.cons .str (.cons .bool (.sl (.cons (.int .i64) (.int .i64)))))))))))))), .one (.int .i64), .one (.int .i64)], []⟩, fun x => ref34_Parse x.1.1⟩
theorem con10 : Contract Tryz.prog 10 fc10 :=
  ref34_Parse_D.contract tok (cok_of (l := [(23, fc23), (32, fc32), (33, fc33), (34, fc34)]) ⟨con23, con32, con33, con34, trivial⟩) mixed (fn' := Tryz.f10) (by kernel_rfl) (by kernel_rfl) rfl (by kernel_rfl) (fun x => (FD.fn_eq _ _).trans (by kernel_rfl))
end
end Go.Proofs.YtjgjbdnjjepibaaGreatDoor
end

section
/-
YtjgjbdnjjepibaaGreatDoor: signalbench.signalbenchref34.digits, as one plain function, its equations, its contract. No condition.
-/
set_option maxRecDepth 100000
set_option linter.unusedVariables false
set_option maxHeartbeats 4000000
open Go Go.AM
namespace Go.Proofs.YtjgjbdnjjepibaaGreatDoor
noncomputable section
def ref34_digits_R : Nat → Int → (Option ((ByteArray × Unit) × Unit))
  | 0, _ => none
  | k + 1, n =>
    if (decide (n < 10)) = true then
      if 0 ≤ n ∧ n ≤ IntKind.i64.wrap (n + 1) ∧ IntKind.i64.wrap (n + 1) ≤ ((strB [48, 49, 50, 51, 52, 53, 54, 55, 56, 57]).size : Int) then
        some (((strB [48, 49, 50, 51, 52, 53, 54, 55, 56, 57]).extract n.toNat (IntKind.i64.wrap (n + 1)).toNat, ()), ())
      else
        none
    else
      (ref34_digits_R k (IntKind.i64.wrap (n.tdiv 10))).bind fun y1 =>
        if 0 ≤ n.tmod 10 ∧ n.tmod 10 ≤ IntKind.i64.wrap ((n.tmod 10) + 1) ∧ IntKind.i64.wrap ((n.tmod 10) + 1) ≤ ((strB [48, 49, 50, 51, 52, 53, 54, 55, 56, 57]).size : Int) then
          if y1.1.1.size + ((strB [48, 49, 50, 51, 52, 53, 54, 55, 56, 57]).extract (n.tmod 10).toNat (IntKind.i64.wrap ((n.tmod 10) + 1)).toNat).size ≤ 9223372036854775807 then
            some ((y1.1.1 ++ ((strB [48, 49, 50, 51, 52, 53, 54, 55, 56, 57]).extract (n.tmod 10).toNat (IntKind.i64.wrap ((n.tmod 10) + 1)).toNat), ()), ())
          else
            none
        else
          none
def ref34_digits_fc (k : Nat) : FC := ⟨⟨[.one (.int .i64)], []⟩, ⟨[.one .str], []⟩, fun x => ref34_digits_R k x.1.1⟩
def ref34_digits_D (k : Nat) : FD := ⟨T, lookC [(102, ref34_digits_fc k)], [], (Tryz.f102.body.getD .skip), Tryz.f102.results.toList, ⟨[.one (.int .i64)], []⟩, ⟨[.one .str], []⟩, []⟩
theorem ref34_digits_con : ∀ k, Contract Tryz.prog 102 (ref34_digits_fc k)
  | 0 => ⟨by decide, fun w M G x vals hI hv h1 h0 y hy => by cases hy⟩
  | k + 1 => (ref34_digits_D k).contract tok (cok_of (l := [(102, ref34_digits_fc k)]) ⟨ref34_digits_con k, trivial⟩) mixed (fn' := Tryz.f102) (by kernel_rfl) (by kernel_rfl) rfl (by kernel_rfl) (fun x => (FD.fn_eq _ _).trans (by kernel_rfl))
def ref34_digits (n : Int) : (Option ((ByteArray × Unit) × Unit)) := ref34_digits_R 20 n
def fc102 : FC := ⟨⟨[.one (.int .i64)], []⟩, ⟨[.one .str], []⟩, fun x => ref34_digits x.1.1⟩
theorem con102 : Contract Tryz.prog 102 fc102 := ref34_digits_con 20
end
end Go.Proofs.YtjgjbdnjjepibaaGreatDoor
end

section
/-
YtjgjbdnjjepibaaGreatDoor: signalbench.lex.hex, as one plain function, its equations, its contract. No condition.
-/
set_option maxRecDepth 100000
set_option linter.unusedVariables false
set_option maxHeartbeats 4000000
open Go Go.AM
namespace Go.Proofs.YtjgjbdnjjepibaaGreatDoor
noncomputable section
def lex_hex_D : FD := ⟨T, lookC [], [], (Tryz.f97.body.getD .skip), Tryz.f97.results.toList, ⟨[.one (.int .u8)], []⟩, ⟨[.one (.int .i64)], []⟩, []⟩
def lex_hex (c : Int) : (Option ((Int × Unit) × Unit)) :=
  if (decide ((48 : Int) ≤ c)) = true then
    if (decide (c ≤ 57)) = true then
      some ((IntKind.i64.wrap (IntKind.u8.wrap (c - 48)), ()), ())
    else
      if (decide ((97 : Int) ≤ c)) = true then
        if (decide (c ≤ 102)) = true then
          some ((IntKind.i64.wrap ((IntKind.i64.wrap (IntKind.u8.wrap (c - 97))) + 10), ()), ())
        else
          some (((-1), ()), ())
      else
        some (((-1), ()), ())
  else
    if (decide ((97 : Int) ≤ c)) = true then
      if (decide (c ≤ 102)) = true then
        some ((IntKind.i64.wrap ((IntKind.i64.wrap (IntKind.u8.wrap (c - 97))) + 10), ()), ())
      else
        some (((-1), ()), ())
    else
      some (((-1), ()), ())
def fc97 : FC := ⟨⟨[.one (.int .u8)], []⟩, ⟨[.one (.int .i64)], []⟩, fun x => lex_hex x.1.1⟩
theorem con97 : Contract Tryz.prog 97 fc97 :=
  lex_hex_D.contract tok (cok_of (l := []) trivial) mixed (fn' := Tryz.f97) (by kernel_rfl) (by kernel_rfl) rfl (by kernel_rfl) (fun x => (FD.fn_eq _ _).trans (by kernel_rfl))
end
end Go.Proofs.YtjgjbdnjjepibaaGreatDoor
end

section
/-
YtjgjbdnjjepibaaGreatDoor: signalbench.lex.escape, as one plain function, its equations, its contract. No condition.
-/
set_option maxRecDepth 100000
set_option linter.unusedVariables false
set_option maxHeartbeats 4000000
open Go Go.AM
namespace Go.Proofs.YtjgjbdnjjepibaaGreatDoor
noncomputable section
def lex_escape_F6 : FSh := ⟨[(0, .one .str), (8, .one (.int .u8)), (9, .one .bool)], []⟩
def lex_escape_D : FD := ⟨T, lookC [(97, fc97)], [6], (Tryz.f105.body.getD .skip), Tryz.f105.results.toList, ⟨[.one .str], []⟩, ⟨[.one (.int .u8), .one (.int .i64)], []⟩, [(6, lex_escape_F6)]⟩
def lex_escape_l6 (s : ByteArray) (t8 : Int) (t9 : Bool) : (Option ((Int × Int × Unit) × Unit)) := lex_escape_D.lab 6 lex_escape_F6 ((s, t8, t9, ()), ())
theorem lex_escape_l6_eq (s : ByteArray) (t8 : Int) (t9 : Bool) : lex_escape_l6 s t8 t9 =
  if t9 = true then
    if 0 ≤ (1 : Int) ∧ 1 < (s.size : Int) then
      some ((bt s 1, 2, ()), ())
    else
      none
  else
    if (t8 == 110) = true then
      some ((10, 2, ()), ())
    else
      if (t8 == 120) = true then
        if (decide ((s.size : Int) < 4)) = true then
          some ((0, 0, ()), ())
        else
          if 0 ≤ (2 : Int) ∧ 2 < (s.size : Int) then
            (lex_hex (bt s 2)).bind fun y1 =>
              if (decide (y1.1.1 < 0)) = true then
                some ((0, 0, ()), ())
              else
                if 0 ≤ (3 : Int) ∧ 3 < (s.size : Int) then
                  (lex_hex (bt s 3)).bind fun y2 =>
                    if (decide (y2.1.1 < 0)) = true then
                      some ((0, 0, ()), ())
                    else
                      if 0 ≤ (2 : Int) ∧ 2 < (s.size : Int) then
                        (lex_hex (bt s 2)).bind fun y3 =>
                          if 0 ≤ (3 : Int) ∧ 3 < (s.size : Int) then
                            (lex_hex (bt s 3)).bind fun y4 =>
                              some ((IntKind.u8.wrap (IntKind.i64.wrap ((IntKind.i64.wrap (16 * y3.1.1)) + y4.1.1)), 4, ()), ())
                          else
                            none
                      else
                        none
                else
                  none
          else
            none
      else
        some ((0, 0, ()), ()) := (FD.lab_eq _ _ _ _).trans (by kernel_rfl)
def lex_escape (s : ByteArray) : (Option ((Int × Int × Unit) × Unit)) :=
  if (decide ((s.size : Int) < 2)) = true then
    some ((0, 0, ()), ())
  else
    if 0 ≤ (1 : Int) ∧ 1 < (s.size : Int) then
      if ((bt s 1) == 34) = true then
        lex_escape_l6 s (bt s 1) true
      else
        lex_escape_l6 s (bt s 1) ((bt s 1) == 92)
    else
      none
def fc105 : FC := ⟨⟨[.one .str], []⟩, ⟨[.one (.int .u8), .one (.int .i64)], []⟩, fun x => lex_escape x.1.1⟩
theorem con105 : Contract Tryz.prog 105 fc105 :=
  lex_escape_D.contract tok (cok_of (l := [(97, fc97)]) ⟨con97, trivial⟩) mixed (fn' := Tryz.f105) (by kernel_rfl) (by kernel_rfl) rfl (by kernel_rfl) (fun x => (FD.fn_eq _ _).trans (by kernel_rfl))
end
end Go.Proofs.YtjgjbdnjjepibaaGreatDoor
end

section
/-
YtjgjbdnjjepibaaGreatDoor: signalbench.signalbenchref34.SameRule, as one plain function, its equations, its contract. No condition.
-/
set_option maxRecDepth 100000
set_option linter.unusedVariables false
set_option maxHeartbeats 4000000
open Go Go.AM
namespace Go.Proofs.YtjgjbdnjjepibaaGreatDoor
noncomputable section
def ref34_SameRule_F6 : FSh := ⟨[(2, .one (.ptr 0 0)), (3, .one (.ptr 1 0)), (5, .one (.int .i64))], [.boxr 37 (.cons (.int .i64) (.cons (.int .i64) (.cons .str (.cons .bool (.sl (.cons (.int .i64) (.int .i64))))))), .boxr 37 (.cons (.int .i64) (.cons (.int .i64) (.cons .str (.cons .bool (.sl (.cons (.int .i64) (.int .i64)))))))]⟩
def ref34_SameRule_D : FD := ⟨T, lookC [], [], (Tryz.f35.body.getD .skip), Tryz.f35.results.toList, ⟨[.row (.cons (.int .i64) (.cons (.int .i64) (.cons .str (.cons .bool (.sl (.cons (.int .i64) (.int .i64))))))), .row (.cons (.int .i64) (.cons (.int .i64) (.cons .str (.cons .bool (.sl (.cons (.int .i64) (.int .i64)))))))], []⟩, ⟨[.one .bool], []⟩, [(6, ref34_SameRule_F6)]⟩
def ref34_SameRule_l6 (i : Int) (h0 : TRule) (h1 : TRule) : (Option ((Bool × Unit) × Unit)) := ref34_SameRule_D.lab 6 ref34_SameRule_F6 (((), (), i, ()), (h0, h1, ()))
theorem ref34_SameRule_l6_eq (i : Int) (h0 : TRule) (h1 : TRule) : ref34_SameRule_l6 i h0 h1 =
  if (decide (i < (h0.2.2.2.2.length : Int))) = true then
    if 0 ≤ i ∧ i < (h0.2.2.2.2.length : Int) then
      if 0 ≤ i ∧ i < (h1.2.2.2.2.length : Int) then
        if (!(eqU uAct (h0.2.2.2.2.getD i.toNat dAct) (h1.2.2.2.2.getD i.toNat dAct))) = true then
          some ((false, ()), ())
        else
          ref34_SameRule_l6 (IntKind.i64.wrap (i + 1)) h0 h1
      else
        none
    else
      none
  else
    some ((true, ()), ()) := (FD.lab_eq _ _ _ _).trans (by kernel_rfl)
def ref34_SameRule (a : TRule) (b : TRule) : (Option ((Bool × Unit) × Unit)) :=
  if (a.1 != b.1) = true then
    some ((false, ()), ())
  else
    if (a.2.1 != b.2.1) = true then
      some ((false, ()), ())
    else
      if (!(a.2.2.1.toList == b.2.2.1.toList)) = true then
        some ((false, ()), ())
      else
        if (!(a.2.2.2.1 == b.2.2.2.1)) = true then
          some ((false, ()), ())
        else
          if ((a.2.2.2.2.length : Int) != (b.2.2.2.2.length : Int)) = true then
            some ((false, ()), ())
          else
            ref34_SameRule_l6 0 a b
def fc35 : FC := ⟨⟨[.row (.cons (.int .i64) (.cons (.int .i64) (.cons .str (.cons .bool (.sl (.cons (.int .i64) (.int .i64))))))), .row (.cons (.int .i64) (.cons (.int .i64) (.cons .str (.cons .bool (.sl (.cons (.int .i64) (.int .i64)))))))], []⟩, ⟨[.one .bool], []⟩, fun x => ref34_SameRule x.1.1 x.1.2.1⟩
theorem con35 : Contract Tryz.prog 35 fc35 :=
  ref34_SameRule_D.contract tok (cok_of (l := []) trivial) mixed (fn' := Tryz.f35) (by kernel_rfl) (by kernel_rfl) rfl (by kernel_rfl) (fun x => (FD.fn_eq _ _).trans (by kernel_rfl))
end
end Go.Proofs.YtjgjbdnjjepibaaGreatDoor
end

section
/-
YtjgjbdnjjepibaaGreatDoor: signalbench.signalbenchref34.Same, as one plain function, its equations, its contract. No condition.
-/
set_option maxRecDepth 100000
set_option linter.unusedVariables false
set_option maxHeartbeats 4000000
open Go Go.AM
namespace Go.Proofs.YtjgjbdnjjepibaaGreatDoor
noncomputable section
def ref34_Same_F6 : FSh := ⟨[(2, .one (.ptr 0 0)), (3, .one (.ptr 1 0)), (5, .one (.int .i64))], [.boxr 24 (.cons .str (.cons (.int .i64) (.cons (.int .i64) (.sl (.cons .str (.cons (.sl (.cons (.int .i64) (.cons (.int .i64) (.cons .str (.cons .bool (.sl (.cons (.int .i64) (.int .i64)))))))) (.cons .bool (.cons (.int .i64) (.cons (.int .i64) (.cons .str (.cons .bool (.sl (.cons (.int .i64) (.int .i64)))))))))))))), .boxr 24 (.cons .str (.cons (.int .i64) (.cons (.int .i64) (.sl (.cons .str (.cons (.sl (.cons (.int .i64) (.cons (.int .i64) (.cons .str (.cons .bool (.sl (.cons (.int .i64) (.int .i64)))))))) (.cons .bool (.cons (.int .i64) (.cons (.int .i64) (.cons .str (.cons .bool (.sl (.cons (.int .i64) (.int .i64))))))))))))))]⟩
def ref34_Same_F15 : FSh := ⟨[(2, .one (.ptr 0 0)), (3, .one (.ptr 1 0)), (5, .one (.int .i64)), (6, .one (.ptr 2 0)), (7, .one (.ptr 3 0)), (8, .one (.int .i64))], [.boxr 24 (.cons .str (.cons (.int .i64) (.cons (.int .i64) (.sl (.cons .str (.cons (.sl (.cons (.int .i64) (.cons (.int .i64) (.cons .str (.cons .bool (.sl (.cons (.int .i64) (.int .i64)))))))) (.cons .bool (.cons (.int .i64) (.cons (.int .i64) (.cons .str (.cons .bool (.sl (.cons (.int .i64) (.int .i64)))))))))))))), .boxr 24 (.cons .str (.cons (.int .i64) (.cons (.int .i64) (.sl (.cons .str (.cons (.sl (.cons (.int .i64) (.cons (.int .i64) (.cons .str (.cons .bool (.sl (.cons (.int .i64) (.int .i64)))))))) (.cons .bool (.cons (.int .i64) (.cons (.int .i64) (.cons .str (.cons .bool (.sl (.cons (.int .i64) (.int .i64)))))))))))))), .boxr 39 (.cons .str (.cons (.sl (.cons (.int .i64) (.cons (.int .i64) (.cons .str (.cons .bool (.sl (.cons (.int .i64) (.int .i64)))))))) (.cons .bool (.cons (.int .i64) (.cons (.int .i64) (.cons .str (.cons .bool (.sl (.cons (.int .i64) (.int .i64)))))))))), .boxr 39 (.cons .str (.cons (.sl (.cons (.int .i64) (.cons (.int .i64) (.cons .str (.cons .bool (.sl (.cons (.int .i64) (.int .i64)))))))) (.cons .bool (.cons (.int .i64) (.cons (.int .i64) (.cons .str (.cons .bool (.sl (.cons (.int .i64) (.int .i64))))))))))]⟩
def ref34_Same_D : FD := ⟨T, lookC [(35, fc35)], [], (Tryz.f11.body.getD .skip), Tryz.f11.results.toList, ⟨[.row (.cons .str (.cons (.int .i64) (.cons (.int .i64) (.sl (.cons .str (.cons (.sl (.cons (.int .i64) (.cons (.int .i64) (.cons .str (.cons .bool (.sl (.cons (.int .i64) (.int .i64)))))))) (.cons .bool (.cons (.int .i64) (.cons (.int .i64) (.cons .str (.cons .bool (.sl (.cons (.int .i64) (.int .i64)))))))))))))), .row (.cons .str (.cons (.int .i64) (.cons (.int .i64) (.sl (.cons .str (.cons (.sl (.cons (.int .i64) (.cons (.int .i64) (.cons .str (.cons .bool (.sl (.cons (.int .i64) (.int .i64)))))))) (.cons .bool (.cons (.int .i64) (.cons (.int .i64) (.cons .str (.cons .bool (.sl (.cons (.int .i64) (.int .i64))))))))))))))], []⟩, ⟨[.one .bool], []⟩, [(6, ref34_Same_F6), (15, ref34_Same_F15)]⟩
def ref34_Same_l6 (k0 : Int) (h0 : TDecl) (h1 : TDecl) : (Option ((Bool × Unit) × Unit)) := ref34_Same_D.lab 6 ref34_Same_F6 (((), (), k0, ()), (h0, h1, ()))
def ref34_Same_l15 (k0 : Int) (i : Int) (h0 : TDecl) (h1 : TDecl) (h2 : TDeclState) (h3 : TDeclState) : (Option ((Bool × Unit) × Unit)) := ref34_Same_D.lab 15 ref34_Same_F15 (((), (), k0, (), (), i, ()), (h0, h1, h2, h3, ()))
theorem ref34_Same_l6_eq (k0 : Int) (h0 : TDecl) (h1 : TDecl) : ref34_Same_l6 k0 h0 h1 =
  if (decide (k0 < (h0.2.2.2.length : Int))) = true then
    if 0 ≤ k0 ∧ k0 < (h0.2.2.2.length : Int) then
      if 0 ≤ k0 ∧ k0 < (h1.2.2.2.length : Int) then
        if (!((h0.2.2.2.getD k0.toNat dDeclState).1.toList == (h1.2.2.2.getD k0.toNat dDeclState).1.toList)) = true then
          some ((false, ()), ())
        else
          if (!((h0.2.2.2.getD k0.toNat dDeclState).2.2.1 == (h1.2.2.2.getD k0.toNat dDeclState).2.2.1)) = true then
            some ((false, ()), ())
          else
            (ref34_SameRule (h0.2.2.2.getD k0.toNat dDeclState).2.2.2 (h1.2.2.2.getD k0.toNat dDeclState).2.2.2).bind fun y1 =>
              if (!y1.1.1) = true then
                some ((false, ()), ())
              else
                if (((h0.2.2.2.getD k0.toNat dDeclState).2.1.length : Int) != ((h1.2.2.2.getD k0.toNat dDeclState).2.1.length : Int)) = true then
                  some ((false, ()), ())
                else
                  ref34_Same_l15 k0 0 h0 h1 (h0.2.2.2.getD k0.toNat dDeclState) (h1.2.2.2.getD k0.toNat dDeclState)
      else
        none
    else
      none
  else
    some ((true, ()), ()) := (FD.lab_eq _ _ _ _).trans (by kernel_rfl)
theorem ref34_Same_l15_eq (k0 : Int) (i : Int) (h0 : TDecl) (h1 : TDecl) (h2 : TDeclState) (h3 : TDeclState) : ref34_Same_l15 k0 i h0 h1 h2 h3 =
  if (decide (i < (h2.2.1.length : Int))) = true then
    if 0 ≤ i ∧ i < (h2.2.1.length : Int) then
      if 0 ≤ i ∧ i < (h3.2.1.length : Int) then
        (ref34_SameRule (h2.2.1.getD i.toNat dRule) (h3.2.1.getD i.toNat dRule)).bind fun y1 =>
          if (!y1.1.1) = true then
            some ((false, ()), ())
          else
            ref34_Same_l15 k0 (IntKind.i64.wrap (i + 1)) h0 h1 h2 h3
      else
        none
    else
      none
  else
    ref34_Same_l6 (IntKind.i64.wrap (k0 + 1)) h0 h1 := (FD.lab_eq _ _ _ _).trans (by kernel_rfl)
def ref34_Same (a : TDecl) (b : TDecl) : (Option ((Bool × Unit) × Unit)) :=
  if (!(a.1.toList == b.1.toList)) = true then
    some ((false, ()), ())
  else
    if (a.2.1 != b.2.1) = true then
      some ((false, ()), ())
    else
      if (a.2.2.1 != b.2.2.1) = true then
        some ((false, ()), ())
      else
        if ((a.2.2.2.length : Int) != (b.2.2.2.length : Int)) = true then
          some ((false, ()), ())
        else
          ref34_Same_l6 0 a b
def fc11 : FC := ⟨⟨[.row (.cons .str (.cons (.int .i64) (.cons (.int .i64) (.sl (.cons .str (.cons (.sl (.cons (.int .i64) (.cons (.int .i64) (.cons .str (.cons .bool (.sl (.cons (.int .i64) (.int .i64)))))))) (.cons .bool (.cons (.int .i64) (.cons (.int .i64) (.cons .str (.cons .bool (.sl (.cons (.int .i64) (.int .i64)))))))))))))), .row (.cons .str (.cons (.int .i64) (.cons (.int .i64) (.sl (.cons .str (.cons (.sl (.cons (.int .i64) (.cons (.int .i64) (.cons .str (.cons .bool (.sl (.cons (.int .i64) (.int .i64)))))))) (.cons .bool (.cons (.int .i64) (.cons (.int .i64) (.cons .str (.cons .bool (.sl (.cons (.int .i64) (.int .i64))))))))))))))], []⟩, ⟨[.one .bool], []⟩, fun x => ref34_Same x.1.1 x.1.2.1⟩
theorem con11 : Contract Tryz.prog 11 fc11 :=
  ref34_Same_D.contract tok (cok_of (l := [(35, fc35)]) ⟨con35, trivial⟩) mixed (fn' := Tryz.f11) (by kernel_rfl) (by kernel_rfl) rfl (by kernel_rfl) (fun x => (FD.fn_eq _ _).trans (by kernel_rfl))
end
end Go.Proofs.YtjgjbdnjjepibaaGreatDoor
end

section
/-
YtjgjbdnjjepibaaGreatDoor: internal.stringslite.HasPrefix, as one plain function, its equations, its contract. No condition.
-/
set_option maxRecDepth 100000
set_option linter.unusedVariables false
set_option maxHeartbeats 4000000
open Go Go.AM
namespace Go.Proofs.YtjgjbdnjjepibaaGreatDoor
noncomputable section
def stringslite_HasPrefix_D : FD := ⟨T, lookC [], [], (Tryz.f112.body.getD .skip), Tryz.f112.results.toList, ⟨[.one .str, .one .str], []⟩, ⟨[.one .bool], []⟩, []⟩
def stringslite_HasPrefix (s : ByteArray) (prefix_ : ByteArray) : (Option ((Bool × Unit) × Unit)) :=
  if (decide ((s.size : Int) ≥ (prefix_.size : Int))) = true then
    if 0 ≤ (0 : Int) ∧ (0 : Int) ≤ (prefix_.size : Int) ∧ (prefix_.size : Int) ≤ (s.size : Int) then
      some (((s.extract 0 (prefix_.size : Int).toNat).toList == prefix_.toList, ()), ())
    else
      none
  else
    some ((false, ()), ())
def fc112 : FC := ⟨⟨[.one .str, .one .str], []⟩, ⟨[.one .bool], []⟩, fun x => stringslite_HasPrefix x.1.1 x.1.2.1⟩
theorem con112 : Contract Tryz.prog 112 fc112 :=
  stringslite_HasPrefix_D.contract tok (cok_of (l := []) trivial) mixed (fn' := Tryz.f112) (by kernel_rfl) (by kernel_rfl) rfl (by kernel_rfl) (fun x => (FD.fn_eq _ _).trans (by kernel_rfl))
end
end Go.Proofs.YtjgjbdnjjepibaaGreatDoor
end

section
/-
YtjgjbdnjjepibaaGreatDoor: signalbench.signalbenchlaw34.named, as one plain function, its equations, its contract. No condition.
-/
set_option maxRecDepth 100000
set_option linter.unusedVariables false
set_option maxHeartbeats 4000000
open Go Go.AM
namespace Go.Proofs.YtjgjbdnjjepibaaGreatDoor
noncomputable section
def law34_named_D : FD := ⟨T, lookC [], [], (Tryz.f12.body.getD .skip), Tryz.f12.results.toList, ⟨[.one .str], []⟩, ⟨[.one .bool], []⟩, []⟩
def law34_named (s : ByteArray) : (Option ((Bool × Unit) × Unit)) :=
  some ((decide ((s.size : Int) ≤ 20), ()), ())
def fc12 : FC := ⟨⟨[.one .str], []⟩, ⟨[.one .bool], []⟩, fun x => law34_named x.1.1⟩
theorem con12 : Contract Tryz.prog 12 fc12 :=
  law34_named_D.contract tok (cok_of (l := []) trivial) mixed (fn' := Tryz.f12) (by kernel_rfl) (by kernel_rfl) rfl (by kernel_rfl) (fun x => (FD.fn_eq _ _).trans (by kernel_rfl))
end
end Go.Proofs.YtjgjbdnjjepibaaGreatDoor
end

section
/-
YtjgjbdnjjepibaaGreatDoor: signalbench.signalbenchlaw34.short, as one plain function, its equations, its contract. No condition.
-/
set_option maxRecDepth 100000
set_option linter.unusedVariables false
set_option maxHeartbeats 4000000
open Go Go.AM
namespace Go.Proofs.YtjgjbdnjjepibaaGreatDoor
noncomputable section
def law34_short_D : FD := ⟨T, lookC [(12, fc12)], [], (Tryz.f13.body.getD .skip), Tryz.f13.results.toList, ⟨[.row (.cons (.int .i64) (.cons (.int .i64) (.cons .str (.cons .bool (.sl (.cons (.int .i64) (.int .i64)))))))], []⟩, ⟨[.one .bool], []⟩, []⟩
def law34_short (r : TRule) : (Option ((Bool × Unit) × Unit)) :=
  (law34_named r.2.2.1).bind fun y1 =>
    if y1.1.1 = true then
      some ((decide ((r.2.2.2.2.length : Int) ≤ 10), ()), ())
    else
      some ((false, ()), ())
def fc13 : FC := ⟨⟨[.row (.cons (.int .i64) (.cons (.int .i64) (.cons .str (.cons .bool (.sl (.cons (.int .i64) (.int .i64)))))))], []⟩, ⟨[.one .bool], []⟩, fun x => law34_short x.1.1⟩
theorem con13 : Contract Tryz.prog 13 fc13 :=
  law34_short_D.contract tok (cok_of (l := [(12, fc12)]) ⟨con12, trivial⟩) mixed (fn' := Tryz.f13) (by kernel_rfl) (by kernel_rfl) rfl (by kernel_rfl) (fun x => (FD.fn_eq _ _).trans (by kernel_rfl))
end
end Go.Proofs.YtjgjbdnjjepibaaGreatDoor
end

section
/-
YtjgjbdnjjepibaaGreatDoor: signalbench.signalbenchlaw34.lines, as one plain function, its equations, its contract. No condition.
-/
set_option maxRecDepth 100000
set_option linter.unusedVariables false
set_option maxHeartbeats 4000000
open Go Go.AM
namespace Go.Proofs.YtjgjbdnjjepibaaGreatDoor
noncomputable section
def law34_lines_D : FD := ⟨T, lookC [], [], (Tryz.f14.body.getD .skip), Tryz.f14.results.toList, ⟨[], []⟩, ⟨[.row (.cons .str (.cons (.int .i64) (.cons (.int .i64) (.sl (.cons .str (.cons (.sl (.cons (.int .i64) (.cons (.int .i64) (.cons .str (.cons .bool (.sl (.cons (.int .i64) (.int .i64)))))))) (.cons .bool (.cons (.int .i64) (.cons (.int .i64) (.cons .str (.cons .bool (.sl (.cons (.int .i64) (.int .i64))))))))))))))], []⟩, []⟩
def law34_lines : (Option ((TDecl × Unit) × Unit)) :=
  some ((((strB [108, 105, 110, 101, 115]), 3, 6, [((strB [97]), [(10, 10, (strB [97]), false, [(5, 0)])], true, 0, 0, (strB [97]), false, [(2, 0)])]), ()), ())
def fc14 : FC := ⟨⟨[], []⟩, ⟨[.row (.cons .str (.cons (.int .i64) (.cons (.int .i64) (.sl (.cons .str (.cons (.sl (.cons (.int .i64) (.cons (.int .i64) (.cons .str (.cons .bool (.sl (.cons (.int .i64) (.int .i64)))))))) (.cons .bool (.cons (.int .i64) (.cons (.int .i64) (.cons .str (.cons .bool (.sl (.cons (.int .i64) (.int .i64))))))))))))))], []⟩, fun x => law34_lines⟩
theorem con14 : Contract Tryz.prog 14 fc14 :=
  law34_lines_D.contract tok (cok_of (l := []) trivial) mixed (fn' := Tryz.f14) (by kernel_rfl) (by kernel_rfl) rfl (by kernel_rfl) (fun x => (FD.fn_eq _ _).trans (by kernel_rfl))
end
end Go.Proofs.YtjgjbdnjjepibaaGreatDoor
end

section
/-
YtjgjbdnjjepibaaGreatDoor: signalbench.decl.own, as one plain function, its equations, its contract. No condition.
-/
set_option maxRecDepth 100000
set_option linter.unusedVariables false
set_option maxHeartbeats 4000000
open Go Go.AM
namespace Go.Proofs.YtjgjbdnjjepibaaGreatDoor
noncomputable section
def decl_own_D : FD := ⟨T, lookC [], [], (Tryz.f36.body.getD .skip), Tryz.f36.results.toList, ⟨[.row (.cons (.int .i64) (.cons (.int .i64) (.cons .str (.cons .bool (.sl (.cons (.int .i64) (.int .i64)))))))], []⟩, ⟨[.row (.cons (.int .i64) (.cons (.int .i64) (.cons .str (.cons .bool (.sl (.cons (.int .i64) (.int .i64)))))))], []⟩, []⟩
def decl_own (r : TRule) : (Option ((TRule × Unit) × Unit)) :=
  if r.2.2.2.2.length * 16 ≤ 140737488355328 ∧ 0 < 16 then
    some ((r, ()), ())
  else
    none
def fc36 : FC := ⟨⟨[.row (.cons (.int .i64) (.cons (.int .i64) (.cons .str (.cons .bool (.sl (.cons (.int .i64) (.int .i64)))))))], []⟩, ⟨[.row (.cons (.int .i64) (.cons (.int .i64) (.cons .str (.cons .bool (.sl (.cons (.int .i64) (.int .i64)))))))], []⟩, fun x => decl_own x.1.1⟩
theorem con36 : Contract Tryz.prog 36 fc36 :=
  decl_own_D.contract tok (cok_of (l := []) trivial) mixed (fn' := Tryz.f36) (by kernel_rfl) (by kernel_rfl) rfl (by kernel_rfl) (fun x => (FD.fn_eq _ _).trans (by kernel_rfl))
end
end Go.Proofs.YtjgjbdnjjepibaaGreatDoor
end

section
/-
YtjgjbdnjjepibaaGreatDoor: signalbench.decl.Match, as one plain function, its equations, its contract. No condition.
-/
set_option maxRecDepth 100000
set_option linter.unusedVariables false
set_option maxHeartbeats 4000000
open Go Go.AM
namespace Go.Proofs.YtjgjbdnjjepibaaGreatDoor
noncomputable section
def decl_Match_F7 : FSh := ⟨[(2, .one (.int .i64)), (6, .one (.ptr 0 0)), (8, .one (.ptr 1 0)), (27, .one (.sl (.cons (.int .i64) (.cons (.int .i64) (.cons .str (.cons .bool (.sl (.cons (.int .i64) (.int .i64))))))))), (28, .one (.int .i64)), (29, .one (.int .i64))], [.boxr 37 (.cons (.int .i64) (.cons (.int .i64) (.cons .str (.cons .bool (.sl (.cons (.int .i64) (.int .i64))))))), .boxr 39 (.cons .str (.cons (.sl (.cons (.int .i64) (.cons (.int .i64) (.cons .str (.cons .bool (.sl (.cons (.int .i64) (.int .i64)))))))) (.cons .bool (.cons (.int .i64) (.cons (.int .i64) (.cons .str (.cons .bool (.sl (.cons (.int .i64) (.int .i64))))))))))]⟩
def decl_Match_D : FD := ⟨T, lookC [(36, fc36)], [], (Tryz.f15.body.getD .skip), Tryz.f15.results.toList, ⟨[.row (.cons .str (.cons (.int .i64) (.cons (.int .i64) (.sl (.cons .str (.cons (.sl (.cons (.int .i64) (.cons (.int .i64) (.cons .str (.cons .bool (.sl (.cons (.int .i64) (.int .i64)))))))) (.cons .bool (.cons (.int .i64) (.cons (.int .i64) (.cons .str (.cons .bool (.sl (.cons (.int .i64) (.int .i64)))))))))))))), .one (.int .i64), .one (.int .i64)], []⟩, ⟨[.row (.cons (.int .i64) (.cons (.int .i64) (.cons .str (.cons .bool (.sl (.cons (.int .i64) (.int .i64))))))), .one .bool], []⟩, [(7, decl_Match_F7)]⟩
def decl_Match_l7 (symbol : Int) (t27 : (List TRule)) (t28 : Int) (t29 : Int) (h0 : TRule) (h1 : TDeclState) : (Option ((TRule × Bool × Unit) × Unit)) := decl_Match_D.lab 7 decl_Match_F7 ((symbol, (), (), t27, t28, t29, ()), (h0, h1, ()))
theorem decl_Match_l7_eq (symbol : Int) (t27 : (List TRule)) (t28 : Int) (t29 : Int) (h0 : TRule) (h1 : TDeclState) : decl_Match_l7 symbol t27 t28 t29 h0 h1 =
  if (decide (t29 < t28)) = true then
    if 0 ≤ t29 ∧ t29 < (t27.length : Int) then
      if (decide ((t27.getD t29.toNat dRule).1 ≤ symbol)) = true then
        if (decide (symbol ≤ (t27.getD t29.toNat dRule).2.1)) = true then
          (decl_own (t27.getD t29.toNat dRule)).bind fun y1 =>
            some ((y1.1.1, true, ()), ())
        else
          decl_Match_l7 symbol t27 t28 (IntKind.i64.wrap (t29 + 1)) h0 h1
      else
        decl_Match_l7 symbol t27 t28 (IntKind.i64.wrap (t29 + 1)) h0 h1
    else
      none
  else
    if h1.2.2.1 = true then
      (decl_own h1.2.2.2).bind fun y2 =>
        some ((y2.1.1, true, ()), ())
    else
      some (((0, 0, (strB []), false, []), false, ()), ()) := (FD.lab_eq _ _ _ _).trans (by kernel_rfl)
def decl_Match (d : TDecl) (state : Int) (symbol : Int) : (Option ((TRule × Bool × Unit) × Unit)) :=
  if (decide (state < 0)) = true then
    some (((0, 0, (strB []), false, []), false, ()), ())
  else
    if (decide (state ≥ (d.2.2.2.length : Int))) = true then
      some (((0, 0, (strB []), false, []), false, ()), ())
    else
      if 0 ≤ state ∧ state < (d.2.2.2.length : Int) then
        decl_Match_l7 symbol (d.2.2.2.getD state.toNat dDeclState).2.1 ((d.2.2.2.getD state.toNat dDeclState).2.1.length : Int) 0 (0, 0, (strB []), false, []) (d.2.2.2.getD state.toNat dDeclState)
      else
        none
def fc15 : FC := ⟨⟨[.row (.cons .str (.cons (.int .i64) (.cons (.int .i64) (.sl (.cons .str (.cons (.sl (.cons (.int .i64) (.cons (.int .i64) (.cons .str (.cons .bool (.sl (.cons (.int .i64) (.int .i64)))))))) (.cons .bool (.cons (.int .i64) (.cons (.int .i64) (.cons .str (.cons .bool (.sl (.cons (.int .i64) (.int .i64)))))))))))))), .one (.int .i64), .one (.int .i64)], []⟩, ⟨[.row (.cons (.int .i64) (.cons (.int .i64) (.cons .str (.cons .bool (.sl (.cons (.int .i64) (.int .i64))))))), .one .bool], []⟩, fun x => decl_Match x.1.1 x.1.2.1 x.1.2.2.1⟩
theorem con15 : Contract Tryz.prog 15 fc15 :=
  decl_Match_D.contract tok (cok_of (l := [(36, fc36)]) ⟨con36, trivial⟩) mixed (fn' := Tryz.f15) (by kernel_rfl) (by kernel_rfl) rfl (by kernel_rfl) (fun x => (FD.fn_eq _ _).trans (by kernel_rfl))
end
end Go.Proofs.YtjgjbdnjjepibaaGreatDoor
end

section
/-
YtjgjbdnjjepibaaGreatDoor: signalbench.decl.Find, as one plain function, its equations, its contract. No condition.
-/
set_option maxRecDepth 100000
set_option linter.unusedVariables false
set_option maxHeartbeats 4000000
open Go Go.AM
namespace Go.Proofs.YtjgjbdnjjepibaaGreatDoor
noncomputable section
def decl_Find_F3 : FSh := ⟨[(1, .one .str), (8, .one (.sl (.cons .str (.cons (.sl (.cons (.int .i64) (.cons (.int .i64) (.cons .str (.cons .bool (.sl (.cons (.int .i64) (.int .i64)))))))) (.cons .bool (.cons (.int .i64) (.cons (.int .i64) (.cons .str (.cons .bool (.sl (.cons (.int .i64) (.int .i64)))))))))))), (9, .one (.int .i64)), (10, .one (.int .i64))], []⟩
def decl_Find_D : FD := ⟨T, lookC [], [], (Tryz.f17.body.getD .skip), Tryz.f17.results.toList, ⟨[.row (.cons .str (.cons (.int .i64) (.cons (.int .i64) (.sl (.cons .str (.cons (.sl (.cons (.int .i64) (.cons (.int .i64) (.cons .str (.cons .bool (.sl (.cons (.int .i64) (.int .i64)))))))) (.cons .bool (.cons (.int .i64) (.cons (.int .i64) (.cons .str (.cons .bool (.sl (.cons (.int .i64) (.int .i64)))))))))))))), .one .str], []⟩, ⟨[.one (.int .i64)], []⟩, [(3, decl_Find_F3)]⟩
def decl_Find_l3 (name : ByteArray) (t8 : (List TDeclState)) (t9 : Int) (t10 : Int) : (Option ((Int × Unit) × Unit)) := decl_Find_D.lab 3 decl_Find_F3 ((name, t8, t9, t10, ()), ())
theorem decl_Find_l3_eq (name : ByteArray) (t8 : (List TDeclState)) (t9 : Int) (t10 : Int) : decl_Find_l3 name t8 t9 t10 =
  if (decide (t10 < t9)) = true then
    if 0 ≤ t10 ∧ t10 < (t8.length : Int) then
      if ((t8.getD t10.toNat dDeclState).1.toList == name.toList) = true then
        some ((t10, ()), ())
      else
        decl_Find_l3 name t8 t9 (IntKind.i64.wrap (t10 + 1))
    else
      none
  else
    some (((-1), ()), ()) := (FD.lab_eq _ _ _ _).trans (by kernel_rfl)
def decl_Find (d : TDecl) (name : ByteArray) : (Option ((Int × Unit) × Unit)) :=
  decl_Find_l3 name d.2.2.2 (d.2.2.2.length : Int) 0
def fc17 : FC := ⟨⟨[.row (.cons .str (.cons (.int .i64) (.cons (.int .i64) (.sl (.cons .str (.cons (.sl (.cons (.int .i64) (.cons (.int .i64) (.cons .str (.cons .bool (.sl (.cons (.int .i64) (.int .i64)))))))) (.cons .bool (.cons (.int .i64) (.cons (.int .i64) (.cons .str (.cons .bool (.sl (.cons (.int .i64) (.int .i64)))))))))))))), .one .str], []⟩, ⟨[.one (.int .i64)], []⟩, fun x => decl_Find x.1.1 x.1.2.1⟩
theorem con17 : Contract Tryz.prog 17 fc17 :=
  decl_Find_D.contract tok (cok_of (l := []) trivial) mixed (fn' := Tryz.f17) (by kernel_rfl) (by kernel_rfl) rfl (by kernel_rfl) (fun x => (FD.fn_eq _ _).trans (by kernel_rfl))
end
end Go.Proofs.YtjgjbdnjjepibaaGreatDoor
end

section
/-
YtjgjbdnjjepibaaGreatDoor: signalbench.decl.most, as one plain function, its equations, its contract. No condition.
-/
set_option maxRecDepth 100000
set_option linter.unusedVariables false
set_option maxHeartbeats 4000000
open Go Go.AM
namespace Go.Proofs.YtjgjbdnjjepibaaGreatDoor
noncomputable section
def decl_most_D : FD := ⟨T, lookC [], [], (Tryz.f62.body.getD .skip), Tryz.f62.results.toList, ⟨[.row (.cons .str (.cons (.int .i64) (.cons (.int .i64) (.sl (.cons .str (.cons (.sl (.cons (.int .i64) (.cons (.int .i64) (.cons .str (.cons .bool (.sl (.cons (.int .i64) (.int .i64)))))))) (.cons .bool (.cons (.int .i64) (.cons (.int .i64) (.cons .str (.cons .bool (.sl (.cons (.int .i64) (.int .i64))))))))))))))], []⟩, ⟨[.one (.int .i64)], []⟩, []⟩
def decl_most (d : TDecl) : (Option ((Int × Unit) × Unit)) :=
  if (d.2.1 == 2) = true then
    some ((1, ()), ())
  else
    some ((255, ()), ())
def fc62 : FC := ⟨⟨[.row (.cons .str (.cons (.int .i64) (.cons (.int .i64) (.sl (.cons .str (.cons (.sl (.cons (.int .i64) (.cons (.int .i64) (.cons .str (.cons .bool (.sl (.cons (.int .i64) (.int .i64)))))))) (.cons .bool (.cons (.int .i64) (.cons (.int .i64) (.cons .str (.cons .bool (.sl (.cons (.int .i64) (.int .i64))))))))))))))], []⟩, ⟨[.one (.int .i64)], []⟩, fun x => decl_most x.1.1⟩
theorem con62 : Contract Tryz.prog 62 fc62 :=
  decl_most_D.contract tok (cok_of (l := []) trivial) mixed (fn' := Tryz.f62) (by kernel_rfl) (by kernel_rfl) rfl (by kernel_rfl) (fun x => (FD.fn_eq _ _).trans (by kernel_rfl))
end
end Go.Proofs.YtjgjbdnjjepibaaGreatDoor
end

section
/-
YtjgjbdnjjepibaaGreatDoor: signalbench.decl.act, as one plain function, its equations, its contract. No condition.
-/
set_option maxRecDepth 100000
set_option linter.unusedVariables false
set_option maxHeartbeats 4000000
open Go Go.AM
namespace Go.Proofs.YtjgjbdnjjepibaaGreatDoor
noncomputable section
def decl_act_F3 : FSh := ⟨[(1, .one (.ptr 0 0)), (4, .one (.int .i64)), (5, .one .bool)], [.boxr 73 (.cons (.int .i64) (.int .i64))]⟩
def decl_act_F7 : FSh := ⟨[(1, .one (.ptr 0 0)), (4, .one (.int .i64)), (11, .one .bool)], [.boxr 73 (.cons (.int .i64) (.int .i64))]⟩
def decl_act_D : FD := ⟨T, lookC [], [7, 3], (Tryz.f93.body.getD .skip), Tryz.f93.results.toList, ⟨[.row (.cons (.int .i64) (.int .i64))], []⟩, ⟨[.one (.int .i64)], []⟩, [(3, decl_act_F3), (7, decl_act_F7)]⟩
def decl_act_l3 (t4 : Int) (t5 : Bool) (h0 : TAct) : (Option ((Int × Unit) × Unit)) := decl_act_D.lab 3 decl_act_F3 (((), t4, t5, ()), (h0, ()))
def decl_act_l7 (t4 : Int) (t11 : Bool) (h0 : TAct) : (Option ((Int × Unit) × Unit)) := decl_act_D.lab 7 decl_act_F7 (((), t4, t11, ()), (h0, ()))
theorem decl_act_l3_eq (t4 : Int) (t5 : Bool) (h0 : TAct) : decl_act_l3 t4 t5 h0 =
  if t5 = true then
    if (h0.2 != 0) = true then
      some ((1, ()), ())
    else
      some ((0, ()), ())
  else
    if (t4 == 3) = true then
      decl_act_l7 t4 true h0
    else
      if (t4 == 4) = true then
        decl_act_l7 t4 true h0
      else
        decl_act_l7 t4 (t4 == 5) h0 := (FD.lab_eq _ _ _ _).trans (by kernel_rfl)
theorem decl_act_l7_eq (t4 : Int) (t11 : Bool) (h0 : TAct) : decl_act_l7 t4 t11 h0 =
  if t11 = true then
    if (decide (h0.2 < 0)) = true then
      some ((2, ()), ())
    else
      if (decide (h0.2 > 255)) = true then
        some ((2, ()), ())
      else
        some ((0, ()), ())
  else
    if (t4 == 6) = true then
      if (decide (h0.2 < 1)) = true then
        some ((2, ()), ())
      else
        if (decide (h0.2 > 12)) = true then
          some ((2, ()), ())
        else
          some ((0, ()), ())
    else
      some ((1, ()), ()) := (FD.lab_eq _ _ _ _).trans (by kernel_rfl)
def decl_act (a : TAct) : (Option ((Int × Unit) × Unit)) :=
  if (a.1 == 1) = true then
    decl_act_l3 a.1 true a
  else
    decl_act_l3 a.1 (a.1 == 2) a
def fc93 : FC := ⟨⟨[.row (.cons (.int .i64) (.int .i64))], []⟩, ⟨[.one (.int .i64)], []⟩, fun x => decl_act x.1.1⟩
theorem con93 : Contract Tryz.prog 93 fc93 :=
  decl_act_D.contract tok (cok_of (l := []) trivial) mixed (fn' := Tryz.f93) (by kernel_rfl) (by kernel_rfl) rfl (by kernel_rfl) (fun x => (FD.fn_eq _ _).trans (by kernel_rfl))
end
end Go.Proofs.YtjgjbdnjjepibaaGreatDoor
end

section
/-
YtjgjbdnjjepibaaGreatDoor: signalbench.decl.target, as one plain function, its equations, its contract. No condition.
-/
set_option maxRecDepth 100000
set_option linter.unusedVariables false
set_option maxHeartbeats 4000000
open Go Go.AM
namespace Go.Proofs.YtjgjbdnjjepibaaGreatDoor
noncomputable section
def decl_target_F9 : FSh := ⟨[(18, .one (.sl (.cons (.int .i64) (.int .i64)))), (19, .one (.int .i64)), (20, .one (.int .i64))], []⟩
def decl_target_D : FD := ⟨T, lookC [(17, fc17), (93, fc93)], [], (Tryz.f63.body.getD .skip), Tryz.f63.results.toList, ⟨[.row (.cons .str (.cons (.int .i64) (.cons (.int .i64) (.sl (.cons .str (.cons (.sl (.cons (.int .i64) (.cons (.int .i64) (.cons .str (.cons .bool (.sl (.cons (.int .i64) (.int .i64)))))))) (.cons .bool (.cons (.int .i64) (.cons (.int .i64) (.cons .str (.cons .bool (.sl (.cons (.int .i64) (.int .i64)))))))))))))), .row (.cons (.int .i64) (.cons (.int .i64) (.cons .str (.cons .bool (.sl (.cons (.int .i64) (.int .i64)))))))], []⟩, ⟨[.one (.int .i64)], []⟩, [(9, decl_target_F9)]⟩
def decl_target_l9 (t18 : (List TAct)) (t19 : Int) (t20 : Int) : (Option ((Int × Unit) × Unit)) := decl_target_D.lab 9 decl_target_F9 ((t18, t19, t20, ()), ())
theorem decl_target_l9_eq (t18 : (List TAct)) (t19 : Int) (t20 : Int) : decl_target_l9 t18 t19 t20 =
  if (decide (t20 < t19)) = true then
    if 0 ≤ t20 ∧ t20 < (t18.length : Int) then
      (decl_act (t18.getD t20.toNat dAct)).bind fun y1 =>
        if (y1.1.1 != 0) = true then
          some ((y1.1.1, ()), ())
        else
          decl_target_l9 t18 t19 (IntKind.i64.wrap (t20 + 1))
    else
      none
  else
    some ((0, ()), ()) := (FD.lab_eq _ _ _ _).trans (by kernel_rfl)
def decl_target (d : TDecl) (r : TRule) : (Option ((Int × Unit) × Unit)) :=
  (decl_Find d r.2.2.1).bind fun y1 =>
    if (decide (y1.1.1 < 0)) = true then
      some ((8, ()), ())
    else
      if (decide ((r.2.2.2.2.length : Int) > 8)) = true then
        some ((6, ()), ())
      else
        decl_target_l9 r.2.2.2.2 (r.2.2.2.2.length : Int) 0
def fc63 : FC := ⟨⟨[.row (.cons .str (.cons (.int .i64) (.cons (.int .i64) (.sl (.cons .str (.cons (.sl (.cons (.int .i64) (.cons (.int .i64) (.cons .str (.cons .bool (.sl (.cons (.int .i64) (.int .i64)))))))) (.cons .bool (.cons (.int .i64) (.cons (.int .i64) (.cons .str (.cons .bool (.sl (.cons (.int .i64) (.int .i64)))))))))))))), .row (.cons (.int .i64) (.cons (.int .i64) (.cons .str (.cons .bool (.sl (.cons (.int .i64) (.int .i64)))))))], []⟩, ⟨[.one (.int .i64)], []⟩, fun x => decl_target x.1.1 x.1.2.1⟩
theorem con63 : Contract Tryz.prog 63 fc63 :=
  decl_target_D.contract tok (cok_of (l := [(17, fc17), (93, fc93)]) ⟨con17, con93, trivial⟩) mixed (fn' := Tryz.f63) (by kernel_rfl) (by kernel_rfl) rfl (by kernel_rfl) (fun x => (FD.fn_eq _ _).trans (by kernel_rfl))
end
end Go.Proofs.YtjgjbdnjjepibaaGreatDoor
end

section
/-
YtjgjbdnjjepibaaGreatDoor: signalbench.decl.rules, as one plain function, its equations, its contract. No condition.
-/
set_option maxRecDepth 100000
set_option linter.unusedVariables false
set_option maxHeartbeats 4000000
open Go Go.AM
namespace Go.Proofs.YtjgjbdnjjepibaaGreatDoor
noncomputable section
def decl_rules_F3 : FSh := ⟨[(2, .one (.ptr 0 0)), (3, .one (.ptr 1 0)), (10, .one (.sl (.cons (.int .i64) (.cons (.int .i64) (.cons .str (.cons .bool (.sl (.cons (.int .i64) (.int .i64))))))))), (11, .one (.int .i64)), (12, .one (.int .i64))], [.boxr 24 (.cons .str (.cons (.int .i64) (.cons (.int .i64) (.sl (.cons .str (.cons (.sl (.cons (.int .i64) (.cons (.int .i64) (.cons .str (.cons .bool (.sl (.cons (.int .i64) (.int .i64)))))))) (.cons .bool (.cons (.int .i64) (.cons (.int .i64) (.cons .str (.cons .bool (.sl (.cons (.int .i64) (.int .i64)))))))))))))), .boxr 39 (.cons .str (.cons (.sl (.cons (.int .i64) (.cons (.int .i64) (.cons .str (.cons .bool (.sl (.cons (.int .i64) (.int .i64)))))))) (.cons .bool (.cons (.int .i64) (.cons (.int .i64) (.cons .str (.cons .bool (.sl (.cons (.int .i64) (.int .i64))))))))))]⟩
def decl_rules_D : FD := ⟨T, lookC [(62, fc62), (63, fc63)], [], (Tryz.f38.body.getD .skip), Tryz.f38.results.toList, ⟨[.row (.cons .str (.cons (.int .i64) (.cons (.int .i64) (.sl (.cons .str (.cons (.sl (.cons (.int .i64) (.cons (.int .i64) (.cons .str (.cons .bool (.sl (.cons (.int .i64) (.int .i64)))))))) (.cons .bool (.cons (.int .i64) (.cons (.int .i64) (.cons .str (.cons .bool (.sl (.cons (.int .i64) (.int .i64)))))))))))))), .row (.cons .str (.cons (.sl (.cons (.int .i64) (.cons (.int .i64) (.cons .str (.cons .bool (.sl (.cons (.int .i64) (.int .i64)))))))) (.cons .bool (.cons (.int .i64) (.cons (.int .i64) (.cons .str (.cons .bool (.sl (.cons (.int .i64) (.int .i64))))))))))], []⟩, ⟨[.one (.int .i64)], []⟩, [(3, decl_rules_F3)]⟩
def decl_rules_l3 (t10 : (List TRule)) (t11 : Int) (t12 : Int) (h0 : TDecl) (h1 : TDeclState) : (Option ((Int × Unit) × Unit)) := decl_rules_D.lab 3 decl_rules_F3 (((), (), t10, t11, t12, ()), (h0, h1, ()))
theorem decl_rules_l3_eq (t10 : (List TRule)) (t11 : Int) (t12 : Int) (h0 : TDecl) (h1 : TDeclState) : decl_rules_l3 t10 t11 t12 h0 h1 =
  if (decide (t12 < t11)) = true then
    if 0 ≤ t12 ∧ t12 < (t10.length : Int) then
      if (decide ((t10.getD t12.toNat dRule).1 < 0)) = true then
        some ((2, ()), ())
      else
        if (decide ((t10.getD t12.toNat dRule).1 > (t10.getD t12.toNat dRule).2.1)) = true then
          some ((2, ()), ())
        else
          (decl_most h0).bind fun y1 =>
            if (decide ((t10.getD t12.toNat dRule).2.1 > y1.1.1)) = true then
              some ((2, ()), ())
            else
              (decl_target h0 (t10.getD t12.toNat dRule)).bind fun y2 =>
                if (y2.1.1 != 0) = true then
                  some ((y2.1.1, ()), ())
                else
                  decl_rules_l3 t10 t11 (IntKind.i64.wrap (t12 + 1)) h0 h1
    else
      none
  else
    if h1.2.2.1 = true then
      if (h1.2.2.2.1 != 0) = true then
        some ((1, ()), ())
      else
        if (h1.2.2.2.2.1 != 0) = true then
          some ((1, ()), ())
        else
          (decl_target h0 h1.2.2.2).bind fun y3 =>
            some ((y3.1.1, ()), ())
    else
      if (h1.2.2.2.1 != 0) = true then
        some ((1, ()), ())
      else
        if (h1.2.2.2.2.1 != 0) = true then
          some ((1, ()), ())
        else
          if (!(h1.2.2.2.2.2.1.toList == (strB []).toList)) = true then
            some ((1, ()), ())
          else
            if h1.2.2.2.2.2.2.1 = true then
              some ((1, ()), ())
            else
              if (decide ((h1.2.2.2.2.2.2.2.length : Int) > 0)) = true then
                some ((1, ()), ())
              else
                some ((0, ()), ()) := (FD.lab_eq _ _ _ _).trans (by kernel_rfl)
def decl_rules (d : TDecl) (s : TDeclState) : (Option ((Int × Unit) × Unit)) :=
  decl_rules_l3 s.2.1 (s.2.1.length : Int) 0 d s
def fc38 : FC := ⟨⟨[.row (.cons .str (.cons (.int .i64) (.cons (.int .i64) (.sl (.cons .str (.cons (.sl (.cons (.int .i64) (.cons (.int .i64) (.cons .str (.cons .bool (.sl (.cons (.int .i64) (.int .i64)))))))) (.cons .bool (.cons (.int .i64) (.cons (.int .i64) (.cons .str (.cons .bool (.sl (.cons (.int .i64) (.int .i64)))))))))))))), .row (.cons .str (.cons (.sl (.cons (.int .i64) (.cons (.int .i64) (.cons .str (.cons .bool (.sl (.cons (.int .i64) (.int .i64)))))))) (.cons .bool (.cons (.int .i64) (.cons (.int .i64) (.cons .str (.cons .bool (.sl (.cons (.int .i64) (.int .i64))))))))))], []⟩, ⟨[.one (.int .i64)], []⟩, fun x => decl_rules x.1.1 x.1.2.1⟩
theorem con38 : Contract Tryz.prog 38 fc38 :=
  decl_rules_D.contract tok (cok_of (l := [(62, fc62), (63, fc63)]) ⟨con62, con63, trivial⟩) mixed (fn' := Tryz.f38) (by kernel_rfl) (by kernel_rfl) rfl (by kernel_rfl) (fun x => (FD.fn_eq _ _).trans (by kernel_rfl))
end
end Go.Proofs.YtjgjbdnjjepibaaGreatDoor
end

section
/-
YtjgjbdnjjepibaaGreatDoor: decl.name, by a walk: it tells whether a string is a name; the iterator is new memory. No condition.
-/
open Go Go.AM Go.RowKit
variable [Inhabited ZMem]
namespace Go.Proofs.YtjgjbdnjjepibaaGreatDoor

/-- The bytes up to here may begin a name. -/
def NameTo (s : ByteArray) (pos : Nat) : Prop := pos ≤ s.size ∧ ((L s).take pos).all wordB = true ∧ (pos = 0 ∨ ∃ c r, L s = c :: r ∧ letterB c = true)

theorem rune_at (s : ByteArray) (pos : Nat) (hp : pos < s.size) : ∃ (b : UInt8) (r wd : Nat), (L s)[pos]? = some b ∧ Utf8.decode s pos = (r, wd) ∧ 1 ≤ wd ∧ ((b.toNat < 128 ∧ r = b.toNat ∧ wd = 1) ∨ (128 ≤ b.toNat ∧ 128 ≤ r)) := by
  refine ⟨s[pos]'hp, (Utf8.decode s pos).1, (Utf8.decode s pos).2, ?_, rfl, ?_, ?_⟩
  · have : pos < (L s).length := by rw [L_len]; exact hp
    rw [List.getElem?_eq_getElem this]
    rfl
  · by_cases ha : (s[pos]'hp).toNat < 128
    · rw [decode_ascii s pos hp ha]; exact Nat.le_refl _
    · exact (decode_high s pos hp (by omega)).2
  · by_cases ha : (s[pos]'hp).toNat < 128
    · rw [decode_ascii s pos hp ha]; exact .inl ⟨ha, rfl, rfl⟩
    · exact .inr ⟨by omega, (decode_high s pos hp (by omega)).1⟩

theorem wordB_num {b : UInt8} : wordB b = true ↔ ((97 ≤ b.toNat ∧ b.toNat ≤ 122) ∨ (48 ≤ b.toNat ∧ b.toNat ≤ 57) ∨ b.toNat = 95) := by
  have : b = 95 ↔ b.toNat = 95 := by rw [← UInt8.toNat_inj]; rfl
  simp [wordB, letterB, digitB, this, or_assoc]

theorem letterB_num {b : UInt8} : letterB b = true ↔ (97 ≤ b.toNat ∧ b.toNat ≤ 122) := by simp [letterB]

theorem name_needs {s : ByteArray} {pos : Nat} {b : UInt8} (h : nameB (L s) = true) (hb : (L s)[pos]? = some b) : (97 ≤ b.toNat ∧ b.toNat ≤ 122) ∨ (pos ≠ 0 ∧ ((48 ≤ b.toNat ∧ b.toNat ≤ 57) ∨ b.toNat = 95)) := by
  cases hL : L s with
  | nil => rw [hL] at hb; simp at hb
  | cons c r =>
    rw [hL, nameB_cons] at h
    simp only [Bool.and_eq_true] at h
    have h1 := List.all_eq_true.1 h.2 b (by rw [hL] at hb; exact List.mem_of_getElem? hb)
    rcases wordB_num.1 h1 with h2 | h2
    · exact .inl h2
    · by_cases hp : pos = 0
      · subst hp
        rw [hL] at hb
        simp only [List.getElem?_cons_zero, Option.some.injEq] at hb
        subst hb
        exact .inl (letterB_num.1 h.1.2)
      · exact .inr ⟨hp, h2⟩

theorem NameTo.step {s : ByteArray} {pos : Nat} {b : UInt8} (h : NameTo s pos) (hb : (L s)[pos]? = some b) (hk : (97 ≤ b.toNat ∧ b.toNat ≤ 122) ∨ (pos ≠ 0 ∧ ((48 ≤ b.toNat ∧ b.toNat ≤ 57) ∨ b.toNat = 95))) : NameTo s (pos + 1) := by
  have hlt : pos < (L s).length := (List.getElem?_eq_some_iff.1 hb).1
  have hlt' := hlt
  rw [L_len] at hlt'
  refine ⟨by omega, ?_, .inr ?_⟩
  · rw [List.take_add_one, hb, List.all_append, h.2.1]
    simp only [Option.toList_some, Bool.true_and, List.all_cons, List.all_nil, Bool.and_true]
    refine wordB_num.2 ?_
    omega
  · rcases h.2.2 with h0 | h0
    · subst h0
      cases hL : L s with
      | nil => rw [hL] at hb; simp at hb
      | cons c r =>
        rw [hL] at hb
        simp only [List.getElem?_cons_zero, Option.some.injEq] at hb
        subst hb
        exact ⟨c, r, rfl, letterB_num.2 (by omega)⟩
    · exact h0

theorem NameTo.whole {s : ByteArray} (h : NameTo s s.size) (h0 : s.size ≠ 0) (h16 : s.size ≤ 16) : nameB (L s) = true := by
  obtain ⟨_, h2, h3⟩ := h
  rcases h3 with h3 | ⟨c, r, hL, hc⟩
  · exact absurd h3 h0
  · rw [← L_len, List.take_length, hL] at h2
    have hl := size_of hL
    simp only [List.length_cons] at hl
    rw [hL, nameB_cons, hc, h2, decide_eq_true (by omega : r.length + 1 ≤ 16)]
    rfl

theorem iter_below (s : ByteArray) (w : World) (pos : Nat) : Below w.heap.size w (w.iter s pos) := (Below.refl _ _).alloc (Nat.le_refl _) _

theorem name_false {s : ByteArray} (h : nameB (L s) ≠ true) : nameB (L s) = false := by
  cases e : nameB (L s)
  · rfl
  · exact absurd e h

set_option maxRecDepth 1000000 in
theorem name_loop (s : ByteArray) (w : World) (h1 : ¬ s.toList = []) (h1' : s.toList.isEmpty = false) (h0 : s.size ≠ 0) (h2 : ¬ (16 : Int) < s.size) :
    Calls Tryz.prog 37 #[.string s] w fun e w' => e = .returned (.bool (nameB (L s))) ∧ Below w.heap.size w w' := by
  go_enter Tryz.func37, Tryz.ntmps37
  go_wp2
  go_loopw [] (fun w' => ∃ pos : Nat, w' = w.iter s pos ∧ NameTo s pos) (fun w' => s.size - w'.iterPos w.heap.size)
  case atStart => exact ⟨0, rfl, by omega, rfl, .inl rfl⟩
  case round =>
    obtain ⟨pos, rfl, hg⟩ := hrel
    by_cases hp : pos < s.size
    · obtain ⟨b, r, wd, hb, hd, hwd, hcase⟩ := rune_at s pos hp
      have hnx : ∀ ty, (Instr.next (.pointer (some ⟨w.heap.size, 0, none⟩)) true ty).run Tryz.prog (w.iter s pos) = .ok (.tuple #[.bool true, .int .i64 pos, .int .i32 r]) (w.iter s (pos + wd)) := fun ty => by
        rw [run_next_any w s pos ty hp, hd]
      clear hd
      go_wp2
      all_goals try simp only [beq_iff_eq, bne_iff_ne, ne_eq, Bool.not_eq_true', decide_eq_false_iff_not, decide_eq_true_eq, Bool.not_eq_false', beq_eq_false_iff_ne, bne_eq_false_iff_eq, Int.natCast_eq_zero] at *
      all_goals first
        | (go_ret
           refine ⟨?_, iter_below _ _ _⟩
           rw [name_false (fun hn => by have := name_needs hn hb; omega)]
           rfl)
        | (have hk : (97 ≤ b.toNat ∧ b.toNat ≤ 122) ∨ (pos ≠ 0 ∧ ((48 ≤ b.toNat ∧ b.toNat ≤ 57) ∨ b.toNat = 95)) := by omega
           have hw1 : wd = 1 := by omega
           subst hw1
           refine ⟨⟨pos + 1, ?_, hg.step hb hk⟩, ?_⟩
           · first | rfl | (subst_vars; rfl)
           · simp; omega)
    · have hnx : ∀ ty, (Instr.next (.pointer (some ⟨w.heap.size, 0, none⟩)) true ty).run Tryz.prog (w.iter s pos) = _ := fun ty => run_next_end w s pos ty hp
      go_wp2
      go_ret
      have hps : pos = s.size := by have := hg.1; omega
      subst hps
      rw [hg.whole h0 (by omega)]
      exact ⟨rfl, iter_below _ _ _⟩

set_option maxRecDepth 1000000 in
theorem name_none (s : ByteArray) (w : World) (h1 : s.toList = []) :
    Calls Tryz.prog 37 #[.string s] w fun e w' => e = .returned (.bool false) ∧ w' = w := by
  go_enter Tryz.func37, Tryz.ntmps37
  go_wp2
  all_goals first
    | (go_ret; exact ⟨rfl, rfl⟩)
    | (rename_i q; exact absurd h1 q)

set_option maxRecDepth 1000000 in
theorem name_long (s : ByteArray) (w : World) (h1 : ¬ s.toList = []) (h1' : s.toList.isEmpty = false) (h2 : (16 : Int) < s.size) :
    Calls Tryz.prog 37 #[.string s] w fun e w' => e = .returned (.bool false) ∧ w' = w := by
  go_enter Tryz.func37, Tryz.ntmps37
  go_wp2
  go_ret
  exact ⟨rfl, rfl⟩

theorem name_any (s : ByteArray) (w : World) : Calls Tryz.prog 37 #[.string s] w fun e w' => e = .returned (.bool (nameB (L s))) ∧ Below w.heap.size w w' := by
  cases hL : L s with
  | nil =>
    refine (name_none s w (by rw [toL]; exact hL)).mono ?_
    rintro e w' ⟨rfl, rfl⟩
    exact ⟨rfl, Below.refl _ _⟩
  | cons c r =>
    have hl := size_of hL
    simp only [List.length_cons] at hl
    have h1 : ¬ s.toList = [] := by rw [toL, hL]; simp
    have h1' : s.toList.isEmpty = false := by rw [toL, hL]; rfl
    by_cases h2 : s.size ≤ 16
    · rw [← hL]
      exact name_loop s w h1 h1' (by omega) (by omega)
    · refine (name_long s w h1 h1' (by omega)).mono ?_
      rintro e w' ⟨rfl, rfl⟩
      rw [nameB_cons, decide_eq_false (by omega : ¬ r.length + 1 ≤ 16)]
      exact ⟨rfl, Below.refl _ _⟩

def decl_name (s : ByteArray) : Option ((Bool × Unit) × Unit) := some ((nameB (L s), ()), ())
def fc37 : FC := ⟨⟨[.one .str], []⟩, ⟨[.one .bool], []⟩, fun x => decl_name x.1.1⟩
theorem con37 : Contract Tryz.prog 37 fc37 :=
  Contract.below (P := Tryz.prog) (f := 37) (sa := [.one .str]) (sr := [.one .bool]) (fn := Tryz.f37) (c := Tryz.f37.body.getD .skip) (by kernel_rfl) (by kernel_rfl) (by kernel_rfl) (g := fun x => some (nameB (L x.1), ())) (fun w M G x y vals hI hv hg => by
    obtain ⟨s, u⟩ := x
    obtain ⟨vs⟩ := vals
    match vs, hv with
    | [v1], hv =>
      obtain ⟨⟨rfl, _⟩, _⟩ := hv
      cases hg
      refine (name_any s w).mono ?_
      rintro e w' ⟨rfl, hb⟩
      exact ⟨_, rfl, hb, rfl, rfl⟩)

end Go.Proofs.YtjgjbdnjjepibaaGreatDoor
end

section
/-
YtjgjbdnjjepibaaGreatDoor: signalbench.decl.Check, as one plain function, its equations, its contract. No condition.
-/
set_option maxRecDepth 100000
set_option linter.unusedVariables false
set_option maxHeartbeats 4000000
open Go Go.AM
namespace Go.Proofs.YtjgjbdnjjepibaaGreatDoor
noncomputable section
def decl_Check_F4 : FSh := ⟨[(1, .one (.ptr 0 0)), (11, .one .bool)], [.boxr 24 (.cons .str (.cons (.int .i64) (.cons (.int .i64) (.sl (.cons .str (.cons (.sl (.cons (.int .i64) (.cons (.int .i64) (.cons .str (.cons .bool (.sl (.cons (.int .i64) (.int .i64)))))))) (.cons .bool (.cons (.int .i64) (.cons (.int .i64) (.cons .str (.cons .bool (.sl (.cons (.int .i64) (.int .i64))))))))))))))]⟩
def decl_Check_F12 : FSh := ⟨[(1, .one (.ptr 0 0)), (38, .one (.sl (.cons .str (.cons (.sl (.cons (.int .i64) (.cons (.int .i64) (.cons .str (.cons .bool (.sl (.cons (.int .i64) (.int .i64)))))))) (.cons .bool (.cons (.int .i64) (.cons (.int .i64) (.cons .str (.cons .bool (.sl (.cons (.int .i64) (.int .i64)))))))))))), (39, .one (.int .i64)), (40, .one (.int .i64))], [.boxr 24 (.cons .str (.cons (.int .i64) (.cons (.int .i64) (.sl (.cons .str (.cons (.sl (.cons (.int .i64) (.cons (.int .i64) (.cons .str (.cons .bool (.sl (.cons (.int .i64) (.int .i64)))))))) (.cons .bool (.cons (.int .i64) (.cons (.int .i64) (.cons .str (.cons .bool (.sl (.cons (.int .i64) (.int .i64))))))))))))))]⟩
def decl_Check_D : FD := ⟨T, lookC [(17, fc17), (37, fc37), (38, fc38)], [4], (Tryz.f16.body.getD .skip), Tryz.f16.results.toList, ⟨[.row (.cons .str (.cons (.int .i64) (.cons (.int .i64) (.sl (.cons .str (.cons (.sl (.cons (.int .i64) (.cons (.int .i64) (.cons .str (.cons .bool (.sl (.cons (.int .i64) (.int .i64)))))))) (.cons .bool (.cons (.int .i64) (.cons (.int .i64) (.cons .str (.cons .bool (.sl (.cons (.int .i64) (.int .i64))))))))))))))], []⟩, ⟨[.one (.int .i64)], []⟩, [(4, decl_Check_F4), (12, decl_Check_F12)]⟩
def decl_Check_l4 (t11 : Bool) (h0 : TDecl) : (Option ((Int × Unit) × Unit)) := decl_Check_D.lab 4 decl_Check_F4 (((), t11, ()), (h0, ()))
def decl_Check_l12 (t38 : (List TDeclState)) (t39 : Int) (t40 : Int) (h0 : TDecl) : (Option ((Int × Unit) × Unit)) := decl_Check_D.lab 12 decl_Check_F12 (((), t38, t39, t40, ()), (h0, ()))
theorem decl_Check_l4_eq (t11 : Bool) (h0 : TDecl) : decl_Check_l4 t11 h0 =
  if t11 = true then
    some ((1, ()), ())
  else
    if (decide ((h0.2.2.2.length : Int) > 32)) = true then
      some ((6, ()), ())
    else
      decl_Check_l12 h0.2.2.2 (h0.2.2.2.length : Int) 0 h0 := (FD.lab_eq _ _ _ _).trans (by kernel_rfl)
theorem decl_Check_l12_eq (t38 : (List TDeclState)) (t39 : Int) (t40 : Int) (h0 : TDecl) : decl_Check_l12 t38 t39 t40 h0 =
  if (decide (t40 < t39)) = true then
    if 0 ≤ t40 ∧ t40 < (t38.length : Int) then
      (decl_name (t38.getD t40.toNat dDeclState).1).bind fun y1 =>
        if (!y1.1.1) = true then
          some ((4, ()), ())
        else
          (decl_Find h0 (t38.getD t40.toNat dDeclState).1).bind fun y2 =>
            if (decide (y2.1.1 < t40)) = true then
              some ((9, ()), ())
            else
              if (decide (((t38.getD t40.toNat dDeclState).2.1.length : Int) > 64)) = true then
                some ((6, ()), ())
              else
                (decl_rules h0 (t38.getD t40.toNat dDeclState)).bind fun y3 =>
                  if (y3.1.1 != 0) = true then
                    some ((y3.1.1, ()), ())
                  else
                    decl_Check_l12 t38 t39 (IntKind.i64.wrap (t40 + 1)) h0
    else
      none
  else
    some ((0, ()), ()) := (FD.lab_eq _ _ _ _).trans (by kernel_rfl)
def decl_Check (d : TDecl) : (Option ((Int × Unit) × Unit)) :=
  (decl_name d.1).bind fun y1 =>
    if (!y1.1.1) = true then
      some ((4, ()), ())
    else
      if (d.2.1 != 2) = true then
        if (d.2.1 != 3) = true then
          decl_Check_l4 true d
        else
          if (d.2.2.1 != 5) = true then
            if (d.2.2.1 != 6) = true then
              decl_Check_l4 true d
            else
              decl_Check_l4 ((d.2.2.2.length : Int) == 0) d
          else
            decl_Check_l4 ((d.2.2.2.length : Int) == 0) d
      else
        if (d.2.2.1 != 5) = true then
          if (d.2.2.1 != 6) = true then
            decl_Check_l4 true d
          else
            decl_Check_l4 ((d.2.2.2.length : Int) == 0) d
        else
          decl_Check_l4 ((d.2.2.2.length : Int) == 0) d
def fc16 : FC := ⟨⟨[.row (.cons .str (.cons (.int .i64) (.cons (.int .i64) (.sl (.cons .str (.cons (.sl (.cons (.int .i64) (.cons (.int .i64) (.cons .str (.cons .bool (.sl (.cons (.int .i64) (.int .i64)))))))) (.cons .bool (.cons (.int .i64) (.cons (.int .i64) (.cons .str (.cons .bool (.sl (.cons (.int .i64) (.int .i64))))))))))))))], []⟩, ⟨[.one (.int .i64)], []⟩, fun x => decl_Check x.1.1⟩
theorem con16 : Contract Tryz.prog 16 fc16 :=
  decl_Check_D.contract tok (cok_of (l := [(17, fc17), (37, fc37), (38, fc38)]) ⟨con17, con37, con38, trivial⟩) mixed (fn' := Tryz.f16) (by kernel_rfl) (by kernel_rfl) rfl (by kernel_rfl) (fun x => (FD.fn_eq _ _).trans (by kernel_rfl))
end
end Go.Proofs.YtjgjbdnjjepibaaGreatDoor
end

section
/-
YtjgjbdnjjepibaaGreatDoor: (*signalbench.decl.writer).words, as one plain function, its equations, its contract. No condition.
-/
set_option maxRecDepth 100000
set_option linter.unusedVariables false
set_option maxHeartbeats 4000000
open Go Go.AM
namespace Go.Proofs.YtjgjbdnjjepibaaGreatDoor
noncomputable section
def decl_writer_words_F1 : FSh := ⟨[(0, .one (.ptr 0 0)), (6, .one (.sl .str)), (7, .one (.int .i64)), (8, .one (.int .i64))], [.box 49 [(.own 2)], .dead, .arr 62 (.cons (.int .i64) (.cons .str (.cons (.int .i64) (.int .i64)))) true]⟩
def decl_writer_words_D : FD := ⟨T, lookC [], [], (Tryz.f18.body.getD .skip), Tryz.f18.results.toList, ⟨[.one (.ptr 0 0), .one (.sl .str)], [.box 49 [(.own 1)], .arr 62 (.cons (.int .i64) (.cons .str (.cons (.int .i64) (.int .i64)))) true]⟩, ⟨[], [.box 49 [(.own 2)], .dead, .arr 62 (.cons (.int .i64) (.cons .str (.cons (.int .i64) (.int .i64)))) true]⟩, [(1, decl_writer_words_F1)]⟩
def decl_writer_words_l1 (t6 : (List ByteArray)) (t7 : Int) (t8 : Int) (l2 : (List TToken)) : (Option (Unit × ((Unit × Unit) × Unit × (List TToken) × Unit))) := decl_writer_words_D.lab 1 decl_writer_words_F1 (((), t6, t7, t8, ()), (((), ()), (), l2, ()))
theorem decl_writer_words_l1_eq (t6 : (List ByteArray)) (t7 : Int) (t8 : Int) (l2 : (List TToken)) : decl_writer_words_l1 t6 t7 t8 l2 =
  if (decide (t8 < t7)) = true then
    if 0 ≤ t8 ∧ t8 < (t6.length : Int) then
      if (l2.length + 1) * 40 ≤ 140737488355328 ∧ 0 < 40 then
        decl_writer_words_l1 t6 t7 (IntKind.i64.wrap (t8 + 1)) (l2 ++ [(1, t6.getD t8.toNat (strB []), 0, 0)])
      else
        none
    else
      none
  else
    some ((), (((), ()), (), l2, ())) := (FD.lab_eq _ _ _ _).trans (by kernel_rfl)
def decl_writer_words (l : (List ByteArray)) (l1 : (List TToken)) : (Option (Unit × ((Unit × Unit) × Unit × (List TToken) × Unit))) :=
  decl_writer_words_l1 l (l.length : Int) 0 l1
def fc18 : FC := ⟨⟨[.one (.ptr 0 0), .one (.sl .str)], [.box 49 [(.own 1)], .arr 62 (.cons (.int .i64) (.cons .str (.cons (.int .i64) (.int .i64)))) true]⟩, ⟨[], [.box 49 [(.own 2)], .dead, .arr 62 (.cons (.int .i64) (.cons .str (.cons (.int .i64) (.int .i64)))) true]⟩, fun x => decl_writer_words x.1.2.1 x.2.2.1⟩
theorem con18 : Contract Tryz.prog 18 fc18 :=
  decl_writer_words_D.contract tok (cok_of (l := []) trivial) mixed (fn' := Tryz.f18) (by kernel_rfl) (by kernel_rfl) rfl (by kernel_rfl) (fun x => (FD.fn_eq _ _).trans (by kernel_rfl))
end
end Go.Proofs.YtjgjbdnjjepibaaGreatDoor
end

section
/-
YtjgjbdnjjepibaaGreatDoor: (*signalbench.decl.writer).marks, as one plain function, its equations, its contract. No condition.
-/
set_option maxRecDepth 100000
set_option linter.unusedVariables false
set_option maxHeartbeats 4000000
open Go Go.AM
namespace Go.Proofs.YtjgjbdnjjepibaaGreatDoor
noncomputable section
def decl_writer_marks_F1 : FSh := ⟨[(0, .one (.ptr 0 0)), (1, .one .str), (6, .one (.int .i64)), (7, .one (.int .i64))], [.box 49 [(.own 2)], .dead, .arr 62 (.cons (.int .i64) (.cons .str (.cons (.int .i64) (.int .i64)))) true]⟩
def decl_writer_marks_D : FD := ⟨T, lookC [], [], (Tryz.f19.body.getD .skip), Tryz.f19.results.toList, ⟨[.one (.ptr 0 0), .one .str], [.box 49 [(.own 1)], .arr 62 (.cons (.int .i64) (.cons .str (.cons (.int .i64) (.int .i64)))) true]⟩, ⟨[], [.box 49 [(.own 2)], .dead, .arr 62 (.cons (.int .i64) (.cons .str (.cons (.int .i64) (.int .i64)))) true]⟩, [(1, decl_writer_marks_F1)]⟩
def decl_writer_marks_l1 (s : ByteArray) (t6 : Int) (t7 : Int) (l2 : (List TToken)) : (Option (Unit × ((Unit × Unit) × Unit × (List TToken) × Unit))) := decl_writer_marks_D.lab 1 decl_writer_marks_F1 (((), s, t6, t7, ()), (((), ()), (), l2, ()))
theorem decl_writer_marks_l1_eq (s : ByteArray) (t6 : Int) (t7 : Int) (l2 : (List TToken)) : decl_writer_marks_l1 s t6 t7 l2 =
  if (decide (t7 < t6)) = true then
    if 0 ≤ t7 ∧ t7 ≤ IntKind.i64.wrap (t7 + 1) ∧ IntKind.i64.wrap (t7 + 1) ≤ (s.size : Int) then
      if (l2.length + 1) * 40 ≤ 140737488355328 ∧ 0 < 40 then
        decl_writer_marks_l1 s t6 (IntKind.i64.wrap (t7 + 1)) (l2 ++ [(4, s.extract t7.toNat (IntKind.i64.wrap (t7 + 1)).toNat, 0, 0)])
      else
        none
    else
      none
  else
    some ((), (((), ()), (), l2, ())) := (FD.lab_eq _ _ _ _).trans (by kernel_rfl)
def decl_writer_marks (s : ByteArray) (l1 : (List TToken)) : (Option (Unit × ((Unit × Unit) × Unit × (List TToken) × Unit))) :=
  decl_writer_marks_l1 s (s.size : Int) 0 l1
def fc19 : FC := ⟨⟨[.one (.ptr 0 0), .one .str], [.box 49 [(.own 1)], .arr 62 (.cons (.int .i64) (.cons .str (.cons (.int .i64) (.int .i64)))) true]⟩, ⟨[], [.box 49 [(.own 2)], .dead, .arr 62 (.cons (.int .i64) (.cons .str (.cons (.int .i64) (.int .i64)))) true]⟩, fun x => decl_writer_marks x.1.2.1 x.2.2.1⟩
theorem con19 : Contract Tryz.prog 19 fc19 :=
  decl_writer_marks_D.contract tok (cok_of (l := []) trivial) mixed (fn' := Tryz.f19) (by kernel_rfl) (by kernel_rfl) rfl (by kernel_rfl) (fun x => (FD.fn_eq _ _).trans (by kernel_rfl))
end
end Go.Proofs.YtjgjbdnjjepibaaGreatDoor
end

section
/-
  DERIVED: THE SHELF's CONTRACTS AT THIS DUMP, IN PLAIN WORDS (tools/lay-plain.mjs out of 'TryzShelf.lean', which tools/lay-shelf.mjs wrote): THE SAME DECLARATIONS UNDER THE SAME NAMES: 'import', 'namespace', 'open', 'def', 'theorem' AND NOTHING ELSE: no command of the shelf's: FOR A HAND-IN. Each laying: the table of numbers ('.._ren') and one theorem, a field a fact of the dump's own or the kernel's comparison; each contract: ONE APPLICATION.
-/
namespace Go.Proofs
open Go.Shelf
def Tryz.lays170_ren : Go.Shelf.Ren := ⟨fun | 170 => 44 | n => n, fun | 70 => 78 | 3 => 3 | 0 => 0 | 72 => 81 | 37 => 79 | 5 => 5 | n => n, fun | n => n⟩
theorem Tryz.lays170 : Go.Proofs.Lays.n170 Tryz.prog Tryz.lays170_ren := {
  mixed := by kernel_rfl
  f170 := Tryz.func44.trans (congrArg some (by kernel_rfl))
  t0 := Tryz.underlying0
  a0 := Tryz.isAgg0
  z0 := Tryz.sizeOf0
  v0 := Tryz.zeroValue0
  t3 := Tryz.underlying3
  a3 := Tryz.isAgg3
  z3 := Tryz.sizeOf3
  v3 := Tryz.zeroValue3
  t37 := Tryz.underlying79
  a37 := Tryz.isAgg79
  z37 := Tryz.sizeOf79
  v37 := Tryz.zeroValue79
  t70 := Tryz.underlying78
  a70 := Tryz.isAgg78
  z70 := Tryz.sizeOf78
  v70 := Tryz.zeroValue78
  t72 := Tryz.underlying81
  a72 := Tryz.isAgg81
  z72 := Tryz.sizeOf81
  v72 := Tryz.zeroValue81 }
open Go.RowKit in
/-- (*strings.Builder).Len: "Len returns the number of accumulated bytes; b.Len() == len(b.String()).": the world is as it was. (LAID: no walk: one application.) -/
theorem Tryz.Builder_Len (B b : Nat) (bs : List Value) (w : World) (h : Lib.IsBuilder 81 5 B b bs w) :
    Calls Tryz.prog 44 #[.pointer (some ⟨b, 0, none⟩)] w fun e w' => e = .returned (.int .i64 bs.length) ∧ w' = w := Any.Builder_Len Tryz.lays170 B b bs w h
def Tryz.lays169_ren : Go.Shelf.Ren := ⟨fun | 169 => 45 | n => n, fun | 70 => 78 | 9 => 9 | 0 => 0 | 72 => 81 | 37 => 79 | 127 => 113 | 3 => 3 | 5 => 5 | n => n, fun | n => n⟩
theorem Tryz.lays169 : Go.Proofs.Lays.n169 Tryz.prog Tryz.lays169_ren := {
  mixed := by kernel_rfl
  f169 := Tryz.func45.trans (congrArg some (by kernel_rfl))
  t0 := Tryz.underlying0
  a0 := Tryz.isAgg0
  z0 := Tryz.sizeOf0
  v0 := Tryz.zeroValue0
  t3 := Tryz.underlying3
  a3 := Tryz.isAgg3
  z3 := Tryz.sizeOf3
  v3 := Tryz.zeroValue3
  t9 := Tryz.underlying9
  a9 := Tryz.isAgg9
  z9 := Tryz.sizeOf9
  v9 := Tryz.zeroValue9
  t37 := Tryz.underlying79
  a37 := Tryz.isAgg79
  z37 := Tryz.sizeOf79
  v37 := Tryz.zeroValue79
  t70 := Tryz.underlying78
  a70 := Tryz.isAgg78
  z70 := Tryz.sizeOf78
  v70 := Tryz.zeroValue78
  t72 := Tryz.underlying81
  a72 := Tryz.isAgg81
  z72 := Tryz.sizeOf81
  v72 := Tryz.zeroValue81
  t127 := Tryz.underlying113
  a127 := Tryz.isAgg113
  z127 := Tryz.sizeOf113
  v127 := Tryz.zeroValue113 }
theorem Tryz.Builder_Extra_169 : Builder.Extra Tryz.prog Tryz.lays169_ren := {
  sizeBuilder := by kernel_rfl
  liesBuilder := by kernel_rfl
  t5 := Tryz.underlying5
  a5 := Tryz.isAgg5
  z5 := Tryz.sizeOf5
  v5 := Tryz.zeroValue5
  infoByte := by kernel_rfl
  cellsByte := by kernel_rfl
  sizeByte := by kernel_rfl
  neB5 := by decide }
open Go.RowKit in
/-- (*strings.Builder).String: "String returns the accumulated string.": OF A BUILDER THAT HOLDS AT LEAST ONE BYTE. ✋ THE MODEL FREEZES THOSE BYTES IN THE BUFFER (unsafe.String): a later write INTO them ends the model's run without an answer; a later append BEHIND them goes on. The statement's order of evaluation is drawn: one draw. (LAID: no walk: one application.) -/
theorem Tryz.Builder_String (B b : Nat) (l : List UInt8) (w : World) (h : Lib.IsBuilder 81 5 B b (Lib.byteCells l) w) (h0 : l ≠ []) :
    Calls Tryz.prog 45 #[.pointer (some ⟨b, 0, none⟩)] w fun e w' => e = .returned (.string ⟨l.toArray⟩) ∧ Below B w w' := Any.Builder_String Tryz.lays169 Tryz.Builder_Extra_169 B b l w h h0
open Go.RowKit in
/-- (*strings.Builder).String OF A BUILDER THAT HOLDS NO BYTE: the empty string. (Its buffer is nil, or a row of which it has taken nothing yet; where that row has NO capacity the model lays one new block for unsafe.SliceData's 'some address'.) One draw. (LAID: no walk: one application.) -/
theorem Tryz.Builder_String_empty (B b : Nat) (w : World) (h : Lib.IsBuilder 81 5 B b [] w) (hBw : B ≤ w.heap.size) :
    Calls Tryz.prog 45 #[.pointer (some ⟨b, 0, none⟩)] w fun e w' => e = .returned (.string ⟨#[]⟩) ∧ Below B w w' := Any.Builder_String_empty Tryz.lays169 Tryz.Builder_Extra_169 B b w h hBw
open Go.RowKit in
/-- (*strings.Builder).String: "String returns the accumulated string.": WHATEVER THE BUILDER HOLDS. (LAID: no walk: one application.) -/
theorem Tryz.Builder_String_any (B b : Nat) (l : List UInt8) (w : World) (h : Lib.IsBuilder 81 5 B b (Lib.byteCells l) w) (hBw : B ≤ w.heap.size) :
    Calls Tryz.prog 45 #[.pointer (some ⟨b, 0, none⟩)] w fun e w' => e = .returned (.string ⟨l.toArray⟩) ∧ Below B w w' := Any.Builder_String_any Tryz.lays169 Tryz.Builder_Extra_169 B b l w h hBw
def Tryz.lays137_ren : Go.Shelf.Ren := ⟨fun | 137 => 53 | 217 => 81 | 266 => 104 | n => n, fun | 9 => 9 | 5 => 5 | 3 => 3 | n => n, fun | n => n⟩
theorem Tryz.lays137 : Go.Proofs.Lays.n137 Tryz.prog Tryz.lays137_ren := {
  mixed := by kernel_rfl
  f137 := Tryz.func53.trans (congrArg some (by kernel_rfl))
  f217 := Tryz.func81.trans (congrArg some (by kernel_rfl))
  f266 := Tryz.func104.trans (congrArg some (by kernel_rfl))
  t3 := Tryz.underlying3
  a3 := Tryz.isAgg3
  z3 := Tryz.sizeOf3
  v3 := Tryz.zeroValue3
  t5 := Tryz.underlying5
  a5 := Tryz.isAgg5
  z5 := Tryz.sizeOf5
  v5 := Tryz.zeroValue5
  t9 := Tryz.underlying9
  a9 := Tryz.isAgg9
  z9 := Tryz.sizeOf9
  v9 := Tryz.zeroValue9 }
open Go.RowKit in
/-- strings.IndexByte: "IndexByte returns the index of the first instance of c in s, or -1 if c is not present in s.": IT RETURNS 'Lib.indexByte s c'; the world is as it was. (LAID: no walk: one application.) -/
theorem Tryz.strings_IndexByte (s : ByteArray) (c : Int) (w : World) :
    Calls Tryz.prog 53 #[.string s, .int .u8 c] w fun e w' => e = .returned (.int .i64 (Lib.indexByte s.data.toList c.toNat.toUInt8)) ∧ w' = w := Any.strings_IndexByte Tryz.lays137 s c w
open Go.RowKit in
/-- (*strings.Builder).Len: "Len returns the number of accumulated bytes; b.Len() == len(b.String()).": the world is as it was. (THE FORM '_f': 'Lib.IsBuilderF'.) (LAID: no walk: one application.) -/
theorem Tryz.Builder_Len_f (B b : Nat) (bs : List Value) (w : World) (h : Lib.IsBuilderF 81 5 B b bs w) :
    Calls Tryz.prog 44 #[.pointer (some ⟨b, 0, none⟩)] w fun e w' => e = .returned (.int .i64 bs.length) ∧ w' = w := Any.Builder_Len_f Tryz.lays170 B b bs w h
open Go.RowKit in
/-- (*strings.Builder).String: "String returns the accumulated string.": OF A BUILDER THAT HOLDS AT LEAST ONE BYTE. ✋ THE MODEL FREEZES THOSE BYTES IN THE BUFFER (unsafe.String): a later write INTO them ends the model's run without an answer; a later append BEHIND them goes on. The statement's order of evaluation is drawn: one draw. THE FORM '_f': IT SAYS BESIDES THAT THE BUILDER IS A BUILDER STILL ('Lib.IsBuilderF', the same bytes): SO IT CAN BE WRITTEN ON: 'b.WriteString(b.String()[:k])'. (LAID: no walk: one application.) -/
theorem Tryz.Builder_String_f (B b : Nat) (l : List UInt8) (w : World) (h : Lib.IsBuilderF 81 5 B b (Lib.byteCells l) w) (h0 : l ≠ []) :
    Calls Tryz.prog 45 #[.pointer (some ⟨b, 0, none⟩)] w fun e w' => e = .returned (.string ⟨l.toArray⟩) ∧ (Lib.IsBuilderF 81 5 B b (Lib.byteCells l) w' ∧ Below B w w') := Any.Builder_String_f Tryz.lays169 Tryz.Builder_Extra_169 B b l w h h0
open Go.RowKit in
/-- (*strings.Builder).String OF A BUILDER THAT HOLDS NO BYTE: the empty string; THE FORM '_f': a builder still. (LAID: no walk: one application.) -/
theorem Tryz.Builder_String_empty_f (B b : Nat) (w : World) (h : Lib.IsBuilderF 81 5 B b [] w) (hBw : B ≤ w.heap.size) :
    Calls Tryz.prog 45 #[.pointer (some ⟨b, 0, none⟩)] w fun e w' => e = .returned (.string ⟨#[]⟩) ∧ (Lib.IsBuilderF 81 5 B b [] w' ∧ Below B w w') := Any.Builder_String_empty_f Tryz.lays169 Tryz.Builder_Extra_169 B b w h hBw
open Go.RowKit in
/-- (*strings.Builder).String: "String returns the accumulated string.": WHATEVER THE BUILDER HOLDS; THE FORM '_f': OF A BUILDER THAT MAY HAVE BEEN READ BEFORE; AND IT IS A BUILDER STILL, holding the same bytes: it can be written on. (LAID: no walk: one application.) -/
theorem Tryz.Builder_String_any_f (B b : Nat) (l : List UInt8) (w : World) (h : Lib.IsBuilderF 81 5 B b (Lib.byteCells l) w) (hBw : B ≤ w.heap.size) :
    Calls Tryz.prog 45 #[.pointer (some ⟨b, 0, none⟩)] w fun e w' => e = .returned (.string ⟨l.toArray⟩) ∧ (Lib.IsBuilderF 81 5 B b (Lib.byteCells l) w' ∧ Below B w w') := Any.Builder_String_any_f Tryz.lays169 Tryz.Builder_Extra_169 B b l w h hBw
open Go.RowKit in
/-- (*strings.Builder).String: "String returns the accumulated string.": OF A BUILDER THAT HOLDS AT LEAST ONE BYTE. ✋ THE MODEL FREEZES THOSE BYTES IN THE BUFFER (unsafe.String): a later write INTO them ends the model's run without an answer; a later append BEHIND them goes on. The statement's order of evaluation is drawn: one draw. THE FORM '_k': OVER 'Lib.IsBuilderF' (a builder that 'String()' may have read), AND WITH THE FRAME THAT REACHES ABOVE THE BUILDER: 'Lib.OthersKept': every block that is not b and is no row of uint8's stands as it stood: the iterator of a range among them. (LAID: no walk: one application.) -/
theorem Tryz.Builder_String_k (B b : Nat) (l : List UInt8) (w : World) (h : Lib.IsBuilderF 81 5 B b (Lib.byteCells l) w) (h0 : l ≠ []) :
    Calls Tryz.prog 45 #[.pointer (some ⟨b, 0, none⟩)] w fun e w' => e = .returned (.string ⟨l.toArray⟩) ∧ (Lib.IsBuilderF 81 5 B b (Lib.byteCells l) w' ∧ Below B w w' ∧ Lib.OthersKept 5 (some b) w w') := Any.Builder_String_k Tryz.lays169 Tryz.Builder_Extra_169 B b l w h h0
open Go.RowKit in
/-- (*strings.Builder).String OF A BUILDER THAT HOLDS NO BYTE: the empty string; THE FORM '_k': OVER 'Lib.IsBuilderF' (a builder that 'String()' may have read), AND WITH THE FRAME THAT REACHES ABOVE THE BUILDER: 'Lib.OthersKept': every block that is not b and is no row of uint8's stands as it stood: the iterator of a range among them. (LAID: no walk: one application.) -/
theorem Tryz.Builder_String_empty_k (B b : Nat) (w : World) (h : Lib.IsBuilderF 81 5 B b [] w) (hBw : B ≤ w.heap.size) :
    Calls Tryz.prog 45 #[.pointer (some ⟨b, 0, none⟩)] w fun e w' => e = .returned (.string ⟨#[]⟩) ∧ (Lib.IsBuilderF 81 5 B b [] w' ∧ Below B w w' ∧ Lib.OthersKept 5 (some b) w w') := Any.Builder_String_empty_k Tryz.lays169 Tryz.Builder_Extra_169 B b w h hBw
open Go.RowKit in
/-- (*strings.Builder).String: "String returns the accumulated string.": WHATEVER THE BUILDER HOLDS; THE FORM '_k': OVER 'Lib.IsBuilderF' (a builder that 'String()' may have read), AND WITH THE FRAME THAT REACHES ABOVE THE BUILDER: 'Lib.OthersKept': every block that is not b and is no row of uint8's stands as it stood: the iterator of a range among them. (LAID: no walk: one application.) -/
theorem Tryz.Builder_String_any_k (B b : Nat) (l : List UInt8) (w : World) (h : Lib.IsBuilderF 81 5 B b (Lib.byteCells l) w) (hBw : B ≤ w.heap.size) :
    Calls Tryz.prog 45 #[.pointer (some ⟨b, 0, none⟩)] w fun e w' => e = .returned (.string ⟨l.toArray⟩) ∧ (Lib.IsBuilderF 81 5 B b (Lib.byteCells l) w' ∧ Below B w w' ∧ Lib.OthersKept 5 (some b) w w') := Any.Builder_String_any_k Tryz.lays169 Tryz.Builder_Extra_169 B b l w h hBw
def Tryz.lays129_ren : Go.Shelf.Ren := ⟨fun | 129 => 114 | n => n, fun | 53 => 141 | 3 => 3 | 4 => 4 | 46 => 130 | 5 => 5 | 9 => 9 | n => n, fun | n => n⟩
theorem Tryz.lays129 : Go.Proofs.Lays.n129 Tryz.prog Tryz.lays129_ren := {
  mixed := by kernel_rfl
  f129 := Tryz.func114.trans (congrArg some (by kernel_rfl))
  t3 := Tryz.underlying3
  a3 := Tryz.isAgg3
  z3 := Tryz.sizeOf3
  v3 := Tryz.zeroValue3
  t4 := Tryz.underlying4
  a4 := Tryz.isAgg4
  z4 := Tryz.sizeOf4
  v4 := Tryz.zeroValue4
  t5 := Tryz.underlying5
  a5 := Tryz.isAgg5
  z5 := Tryz.sizeOf5
  v5 := Tryz.zeroValue5
  t9 := Tryz.underlying9
  a9 := Tryz.isAgg9
  z9 := Tryz.sizeOf9
  v9 := Tryz.zeroValue9
  t46 := Tryz.underlying130
  a46 := Tryz.isAgg130
  z46 := Tryz.sizeOf130
  v46 := Tryz.zeroValue130
  t53 := Tryz.underlying141
  a53 := Tryz.isAgg141
  z53 := Tryz.sizeOf141
  v53 := Tryz.zeroValue141 }
/-- bits.Len64: "Len64 returns the minimum number of bits required to represent x; the result is 0 for x == 0.": IT RETURNS 'Lib.bitLen x'; the world is as it was. ('h0', 'h1': x is a uint64.) (LAID: no walk: one application.) -/
theorem Tryz.bits_Len64 (x : Int) (w : World) (h0 : 0 ≤ x) (h1 : x ≤ 18446744073709551615) :
    Calls Tryz.prog 114 #[.int .u64 x] w fun e w' => e = .returned (.int .i64 (Lib.bitLen x.toNat)) ∧ w' = w := Any.bits_Len64 Tryz.lays129 x w h0 h1
def Tryz.lays317_ren : Go.Shelf.Ren := ⟨fun | 317 => 113 | n => n, fun | 3 => 3 | 46 => 130 | n => n, fun | n => n⟩
theorem Tryz.lays317 : Go.Proofs.Lays.n317 Tryz.prog Tryz.lays317_ren := {
  mixed := by kernel_rfl
  f317 := Tryz.func113.trans (congrArg some (by kernel_rfl))
  t3 := Tryz.underlying3
  a3 := Tryz.isAgg3
  z3 := Tryz.sizeOf3
  v3 := Tryz.zeroValue3
  t46 := Tryz.underlying130
  a46 := Tryz.isAgg130
  z46 := Tryz.sizeOf130
  v46 := Tryz.zeroValue130 }
open Go.Lib in
/-- internal/strconv.log10Pow2: "log10Pow2(x) returns ⌊log₁₀ 2**x⌋ = ⌊x * log₁₀ 2⌋.": '(x * 78913) >> 18', at an x up to 64 (a length in bits). The world is as it was. (LAID: no walk: one application.) -/
theorem Tryz.internal_strconv_log10Pow2 (x : Nat) (h : x ≤ 64) (w : World) :
    Calls Tryz.prog 113 #[.int .i64 x] w fun e w' => e = .returned (.int .i64 (Lib.l10 x)) ∧ w' = w := Any.internal_strconv_log10Pow2 Tryz.lays317 x h w
def Tryz.lays318_ren : Go.Shelf.Ren := ⟨fun | 318 => 115 | n => n, fun | 3 => 3 | 4 => 4 | n => n, fun | n => n⟩
theorem Tryz.lays318 : Go.Proofs.Lays.n318 Tryz.prog Tryz.lays318_ren := {
  mixed := by kernel_rfl
  f318 := Tryz.func115.trans (congrArg some (by kernel_rfl))
  t3 := Tryz.underlying3
  a3 := Tryz.isAgg3
  z3 := Tryz.sizeOf3
  v3 := Tryz.zeroValue3
  t4 := Tryz.underlying4
  a4 := Tryz.isAgg4
  z4 := Tryz.sizeOf4
  v4 := Tryz.zeroValue4 }
open Go.Lib in
/-- internal/strconv.bool2: "bool2 converts b to an integer: 1 for true, 0 for false." The world is as it was. (LAID: no walk: one application.) -/
theorem Tryz.internal_strconv_bool2_int (b : Bool) (w : World) :
    Calls Tryz.prog 115 #[.bool b] w fun e w' => e = .returned (.int .i64 (if b then 1 else 0)) ∧ w' = w := Any.internal_strconv_bool2_int Tryz.lays318 b w
def Tryz.lays283_ren : Go.Shelf.Ren := ⟨fun | 283 => 108 | n => n, fun | 3 => 3 | 9 => 9 | 4 => 4 | n => n, fun | n => n⟩
theorem Tryz.lays283 : Go.Proofs.Lays.n283 Tryz.prog Tryz.lays283_ren := {
  mixed := by kernel_rfl
  f283 := Tryz.func108.trans (congrArg some (by kernel_rfl))
  t3 := Tryz.underlying3
  a3 := Tryz.isAgg3
  z3 := Tryz.sizeOf3
  v3 := Tryz.zeroValue3
  t4 := Tryz.underlying4
  a4 := Tryz.isAgg4
  z4 := Tryz.sizeOf4
  v4 := Tryz.zeroValue4
  t9 := Tryz.underlying9
  a9 := Tryz.isAgg9
  z9 := Tryz.sizeOf9
  v9 := Tryz.zeroValue9 }
open Go.Lib in
/-- internal/strconv.small: "small returns the string for an i with 0 <= i < nSmalls.": i's decimal numeral. The world is as it was. (LAID: no walk: one application.) -/
theorem Tryz.internal_strconv_small (i : Nat) (h : i < 100) (w : World) :
    Calls Tryz.prog 108 #[.int .i64 i] w fun e w' => e = .returned (.string ⟨(Lib.decDigits i).toArray⟩) ∧ w' = w := Any.internal_strconv_small Tryz.lays283 i h w
def Tryz.laysM284_ren : Go.Shelf.Ren := ⟨fun | 284 => 109 | 129 => 114 | 317 => 113 | 318 => 115 | n => n, fun | 53 => 141 | 3 => 3 | 212 => 148 | 0 => 0 | 4 => 4 | 46 => 130 | 5 => 5 | 9 => 9 | n => n, fun | 17 => 1 | n => n⟩
theorem Tryz.laysM284 : Go.Proofs.LaysM.n284 Tryz.prog Tryz.laysM284_ren := {
  mixed := by kernel_rfl
  f129 := Tryz.func114.trans (congrArg some (by kernel_rfl))
  f284 := Tryz.func109.trans (congrArg some (by kernel_rfl))
  f317 := Tryz.func113.trans (congrArg some (by kernel_rfl))
  f318 := Tryz.func115.trans (congrArg some (by kernel_rfl))
  t0 := Tryz.underlying0
  a0 := Tryz.isAgg0
  z0 := Tryz.sizeOf0
  v0 := Tryz.zeroValue0
  t3 := Tryz.underlying3
  a3 := Tryz.isAgg3
  z3 := Tryz.sizeOf3
  v3 := Tryz.zeroValue3
  t4 := Tryz.underlying4
  a4 := Tryz.isAgg4
  z4 := Tryz.sizeOf4
  v4 := Tryz.zeroValue4
  t5 := Tryz.underlying5
  a5 := Tryz.isAgg5
  z5 := Tryz.sizeOf5
  v5 := Tryz.zeroValue5
  t9 := Tryz.underlying9
  a9 := Tryz.isAgg9
  z9 := Tryz.sizeOf9
  v9 := Tryz.zeroValue9
  t46 := Tryz.underlying130
  a46 := Tryz.isAgg130
  z46 := Tryz.sizeOf130
  v46 := Tryz.zeroValue130
  t53 := Tryz.underlying141
  a53 := Tryz.isAgg141
  z53 := Tryz.sizeOf141
  v53 := Tryz.zeroValue141
  t212 := Tryz.underlying148
  a212 := Tryz.isAgg148
  z212 := Tryz.sizeOf148
  v212 := Tryz.zeroValue148
  g17 := by kernel_rfl
  i0 := by kernel_rfl
  i3 := by kernel_rfl
  i4 := by kernel_rfl
  i5 := by kernel_rfl
  i9 := by kernel_rfl
  i46 := by kernel_rfl
  i53 := by kernel_rfl
  i212 := by kernel_rfl
  m17 := by kernel_rfl }
open Go.Lib in
/-- internal/strconv.numDigits, at a d that is not 0: THE NUMBER OF d's DECIMAL DIGITS. The world is as it was. (LAID: no walk: one application.) -/
theorem Tryz.internal_strconv_numDigits (u : Nat) (h1 : 1 ≤ u) (h2 : u < 18446744073709551616) (w : World) (htab : Lib.TabIs Tryz.prog w "internal/strconv.uint64pow10" .u64 Lib.pow10Tab) :
    Calls Tryz.prog 109 #[.int .u64 u] w fun e w' => e = .returned (.int .i64 (Lib.nDigits u)) ∧ w' = w := Any.internal_strconv_numDigits Tryz.laysM284 u h1 h2 w htab
def Tryz.lays285_ren : Go.Shelf.Ren := ⟨fun | 285 => 110 | n => n, fun | 37 => 79 | 53 => 141 | 3 => 3 | 4 => 4 | 51 => 149 | 9 => 9 | 5 => 5 | 0 => 0 | n => n, fun | n => n⟩
theorem Tryz.lays285 : Go.Proofs.Lays.n285 Tryz.prog Tryz.lays285_ren := {
  mixed := by kernel_rfl
  f285 := Tryz.func110.trans (congrArg some (by kernel_rfl))
  t0 := Tryz.underlying0
  a0 := Tryz.isAgg0
  z0 := Tryz.sizeOf0
  v0 := Tryz.zeroValue0
  t3 := Tryz.underlying3
  a3 := Tryz.isAgg3
  z3 := Tryz.sizeOf3
  v3 := Tryz.zeroValue3
  t4 := Tryz.underlying4
  a4 := Tryz.isAgg4
  z4 := Tryz.sizeOf4
  v4 := Tryz.zeroValue4
  t5 := Tryz.underlying5
  a5 := Tryz.isAgg5
  z5 := Tryz.sizeOf5
  v5 := Tryz.zeroValue5
  t9 := Tryz.underlying9
  a9 := Tryz.isAgg9
  z9 := Tryz.sizeOf9
  v9 := Tryz.zeroValue9
  t37 := Tryz.underlying79
  a37 := Tryz.isAgg79
  z37 := Tryz.sizeOf79
  v37 := Tryz.zeroValue79
  t51 := Tryz.underlying149
  a51 := Tryz.isAgg149
  z51 := Tryz.sizeOf149
  v51 := Tryz.zeroValue149
  t53 := Tryz.underlying141
  a53 := Tryz.isAgg141
  z53 := Tryz.sizeOf141
  v53 := Tryz.zeroValue141 }
open Go.RowKit Go.Sort Go.Lib in
/-- internal/strconv.formatBase10: "formatBase10 formats the decimal representation of u into a. The caller is responsible for ensuring that a is big enough to hold u. If a is too big, leading zeros will be filled in as needed.": THE ROW HOLDS u's DIGITS ('FmtInv .. 0 ..': every place t holds 'dg u (len - 1 - t)'); all else is as it was but for the count of draws. (LAID: no walk: one application.) -/
theorem Tryz.internal_strconv_formatBase10 (blk off cap : Nat) (u : Nat) (d : Array UInt8) (w : World) (hH : Holds (fun (b : UInt8) => Value.int .u8 (b.toNat : Int)) w blk off d) (hu : u < 10 ^ d.size) (hu64 : u < 18446744073709551616) (hsz : d.size < 4611686018427387904) :
    Calls Tryz.prog 110 #[.slice (some ⟨blk, off, none⟩) d.size cap, .int .u64 u] w fun e w' =>
      e = .returned (.tuple #[]) ∧ ∃ (n v' : Nat) (dk : Array UInt8), w' = (putRow (fun (b : UInt8) => Value.int .u8 (b.toNat : Int)) w blk off dk).drewN n ∧ FmtInv d.size u 0 v' dk := Any.internal_strconv_formatBase10 Tryz.lays285 blk off cap u d w hH hu hu64 hsz
def Tryz.laysM246_ren : Go.Shelf.Ren := ⟨fun | 246 => 94 | 283 => 108 | 284 => 109 | 285 => 110 | 286 => 111 | 129 => 114 | 317 => 113 | 318 => 115 | 319 => 116 | 320 => 117 | 337 => 118 | 338 => 119 | n => n, fun | 2 => 2 | 3 => 3 | 9 => 9 | 4 => 4 | 171 => 140 | 0 => 0 | 53 => 141 | 37 => 79 | 5 => 5 | 173 => 144 | 212 => 148 | 51 => 149 | 20 => 20 | 213 => 150 | 46 => 130 | 232 => 154 | 233 => 155 | n => n, fun | 17 => 1 | 18 => 2 | 19 => 3 | n => n⟩
theorem Tryz.laysM246 : Go.Proofs.LaysM.n246 Tryz.prog Tryz.laysM246_ren := {
  mixed := by kernel_rfl
  f129 := Tryz.func114.trans (congrArg some (by kernel_rfl))
  f246 := Tryz.func94.trans (congrArg some (by kernel_rfl))
  f283 := Tryz.func108.trans (congrArg some (by kernel_rfl))
  f284 := Tryz.func109.trans (congrArg some (by kernel_rfl))
  f285 := Tryz.func110.trans (congrArg some (by kernel_rfl))
  f286 := Tryz.func111.trans (congrArg some (by kernel_rfl))
  f317 := Tryz.func113.trans (congrArg some (by kernel_rfl))
  f318 := Tryz.func115.trans (congrArg some (by kernel_rfl))
  f319 := Tryz.func116.trans (congrArg some (by kernel_rfl))
  f320 := Tryz.func117.trans (congrArg some (by kernel_rfl))
  f337 := Tryz.func118.trans (congrArg some (by kernel_rfl))
  f338 := Tryz.func119.trans (congrArg some (by kernel_rfl))
  t0 := Tryz.underlying0
  a0 := Tryz.isAgg0
  z0 := Tryz.sizeOf0
  v0 := Tryz.zeroValue0
  t2 := Tryz.underlying2
  a2 := Tryz.isAgg2
  z2 := Tryz.sizeOf2
  v2 := Tryz.zeroValue2
  t3 := Tryz.underlying3
  a3 := Tryz.isAgg3
  z3 := Tryz.sizeOf3
  v3 := Tryz.zeroValue3
  t4 := Tryz.underlying4
  a4 := Tryz.isAgg4
  z4 := Tryz.sizeOf4
  v4 := Tryz.zeroValue4
  t5 := Tryz.underlying5
  a5 := Tryz.isAgg5
  z5 := Tryz.sizeOf5
  v5 := Tryz.zeroValue5
  t9 := Tryz.underlying9
  a9 := Tryz.isAgg9
  z9 := Tryz.sizeOf9
  v9 := Tryz.zeroValue9
  t20 := Tryz.underlying20
  a20 := Tryz.isAgg20
  z20 := Tryz.sizeOf20
  v20 := Tryz.zeroValue20
  t37 := Tryz.underlying79
  a37 := Tryz.isAgg79
  z37 := Tryz.sizeOf79
  v37 := Tryz.zeroValue79
  t46 := Tryz.underlying130
  a46 := Tryz.isAgg130
  z46 := Tryz.sizeOf130
  v46 := Tryz.zeroValue130
  t51 := Tryz.underlying149
  a51 := Tryz.isAgg149
  z51 := Tryz.sizeOf149
  v51 := Tryz.zeroValue149
  t53 := Tryz.underlying141
  a53 := Tryz.isAgg141
  z53 := Tryz.sizeOf141
  v53 := Tryz.zeroValue141
  t171 := Tryz.underlying140
  a171 := Tryz.isAgg140
  z171 := Tryz.sizeOf140
  v171 := Tryz.zeroValue140
  t173 := Tryz.underlying144
  a173 := Tryz.isAgg144
  z173 := Tryz.sizeOf144
  v173 := Tryz.zeroValue144
  t212 := Tryz.underlying148
  a212 := Tryz.isAgg148
  z212 := Tryz.sizeOf148
  v212 := Tryz.zeroValue148
  t213 := Tryz.underlying150
  a213 := Tryz.isAgg150
  z213 := Tryz.sizeOf150
  t232 := Tryz.underlying154
  a232 := Tryz.isAgg154
  z232 := Tryz.sizeOf154
  v232 := Tryz.zeroValue154
  t233 := Tryz.underlying155
  a233 := Tryz.isAgg155
  z233 := Tryz.sizeOf155
  v233 := Tryz.zeroValue155
  g17 := by kernel_rfl
  g18 := by kernel_rfl
  g19 := by kernel_rfl
  i0 := by kernel_rfl
  i2 := by kernel_rfl
  i3 := by kernel_rfl
  i4 := by kernel_rfl
  i5 := by kernel_rfl
  i9 := by kernel_rfl
  i20 := by kernel_rfl
  i37 := by kernel_rfl
  i46 := by kernel_rfl
  i51 := by kernel_rfl
  i53 := by kernel_rfl
  i171 := by kernel_rfl
  i173 := by kernel_rfl
  i212 := by kernel_rfl
  i232 := by kernel_rfl
  i233 := by kernel_rfl
  m17 := by kernel_rfl
  m18 := by kernel_rfl
  m19 := by kernel_rfl }
open Go.RowKit Go.Sort Go.Lib in
/-- internal/strconv.FormatInt: "FormatInt returns the string representation of i in the given base": AT BASE 10: i's decimal numeral, for every int64. The world behind the call: the world before it, new blocks behind the heap, draws. (LAID: no walk: one application.) -/
theorem Tryz.internal_strconv_FormatInt_10 (n : Int) (h0 : -9223372036854775808 ≤ n) (h1 : n ≤ 9223372036854775807) (w : World) (htab : Lib.TabIs Tryz.prog w "internal/strconv.uint64pow10" .u64 Lib.pow10Tab) :
    Calls Tryz.prog 94 #[.int .i64 n, .int .i64 10] w fun e w' => e = .returned (.string ⟨(Lib.itoa n).toArray⟩) ∧ ∃ k os, w' = grow (w.drewN k) os := Any.internal_strconv_FormatInt_10 Tryz.laysM246 n h0 h1 w htab
def Tryz.lays246_ren : Go.Shelf.Ren := ⟨fun | 246 => 94 | 283 => 108 | 284 => 109 | 285 => 110 | 286 => 111 | 129 => 114 | 317 => 113 | 318 => 115 | 319 => 116 | 320 => 117 | 337 => 118 | 338 => 119 | n => n, fun | 2 => 2 | 3 => 3 | 9 => 9 | 4 => 4 | 171 => 140 | 0 => 0 | 53 => 141 | 37 => 79 | 5 => 5 | 173 => 144 | 212 => 148 | 51 => 149 | 20 => 20 | 213 => 150 | 46 => 130 | 232 => 154 | 233 => 155 | n => n, fun | 17 => 1 | 18 => 2 | 19 => 3 | n => n⟩
theorem Tryz.lays246 : Go.Proofs.Lays.n246 Tryz.prog Tryz.lays246_ren := {
  mixed := by kernel_rfl
  f129 := Tryz.func114.trans (congrArg some (by kernel_rfl))
  f246 := Tryz.func94.trans (congrArg some (by kernel_rfl))
  f283 := Tryz.func108.trans (congrArg some (by kernel_rfl))
  f284 := Tryz.func109.trans (congrArg some (by kernel_rfl))
  f285 := Tryz.func110.trans (congrArg some (by kernel_rfl))
  f286 := Tryz.func111.trans (congrArg some (by kernel_rfl))
  f317 := Tryz.func113.trans (congrArg some (by kernel_rfl))
  f318 := Tryz.func115.trans (congrArg some (by kernel_rfl))
  f319 := Tryz.func116.trans (congrArg some (by kernel_rfl))
  f320 := Tryz.func117.trans (congrArg some (by kernel_rfl))
  f337 := Tryz.func118.trans (congrArg some (by kernel_rfl))
  f338 := Tryz.func119.trans (congrArg some (by kernel_rfl))
  t0 := Tryz.underlying0
  a0 := Tryz.isAgg0
  z0 := Tryz.sizeOf0
  v0 := Tryz.zeroValue0
  t2 := Tryz.underlying2
  a2 := Tryz.isAgg2
  z2 := Tryz.sizeOf2
  v2 := Tryz.zeroValue2
  t3 := Tryz.underlying3
  a3 := Tryz.isAgg3
  z3 := Tryz.sizeOf3
  v3 := Tryz.zeroValue3
  t4 := Tryz.underlying4
  a4 := Tryz.isAgg4
  z4 := Tryz.sizeOf4
  v4 := Tryz.zeroValue4
  t5 := Tryz.underlying5
  a5 := Tryz.isAgg5
  z5 := Tryz.sizeOf5
  v5 := Tryz.zeroValue5
  t9 := Tryz.underlying9
  a9 := Tryz.isAgg9
  z9 := Tryz.sizeOf9
  v9 := Tryz.zeroValue9
  t20 := Tryz.underlying20
  a20 := Tryz.isAgg20
  z20 := Tryz.sizeOf20
  v20 := Tryz.zeroValue20
  t37 := Tryz.underlying79
  a37 := Tryz.isAgg79
  z37 := Tryz.sizeOf79
  v37 := Tryz.zeroValue79
  t46 := Tryz.underlying130
  a46 := Tryz.isAgg130
  z46 := Tryz.sizeOf130
  v46 := Tryz.zeroValue130
  t51 := Tryz.underlying149
  a51 := Tryz.isAgg149
  z51 := Tryz.sizeOf149
  v51 := Tryz.zeroValue149
  t53 := Tryz.underlying141
  a53 := Tryz.isAgg141
  z53 := Tryz.sizeOf141
  v53 := Tryz.zeroValue141
  t171 := Tryz.underlying140
  a171 := Tryz.isAgg140
  z171 := Tryz.sizeOf140
  v171 := Tryz.zeroValue140
  t173 := Tryz.underlying144
  a173 := Tryz.isAgg144
  z173 := Tryz.sizeOf144
  v173 := Tryz.zeroValue144
  t212 := Tryz.underlying148
  a212 := Tryz.isAgg148
  z212 := Tryz.sizeOf148
  v212 := Tryz.zeroValue148
  t213 := Tryz.underlying150
  a213 := Tryz.isAgg150
  z213 := Tryz.sizeOf150
  t232 := Tryz.underlying154
  a232 := Tryz.isAgg154
  z232 := Tryz.sizeOf154
  v232 := Tryz.zeroValue154
  t233 := Tryz.underlying155
  a233 := Tryz.isAgg155
  z233 := Tryz.sizeOf155
  v233 := Tryz.zeroValue155
  g17 := by kernel_rfl
  g18 := by kernel_rfl
  g19 := by kernel_rfl }
open Go.RowKit Go.Sort Go.Lib in
/-- THE ROAD WITHOUT THE TABLE: 0 <= i < 100: two constants are read, nothing is laid: no premise on the world, and the world is as it was. (LAID: no walk: one application.) -/
theorem Tryz.internal_strconv_FormatInt_10_small (i : Nat) (hi : i < 100) (w : World) :
    Calls Tryz.prog 94 #[.int .i64 i, .int .i64 10] w fun e w' => e = .returned (.string ⟨(Lib.decDigits i).toArray⟩) ∧ w' = w := Any.internal_strconv_FormatInt_10_small Tryz.lays246 i hi w
def Tryz.laysM243_ren : Go.Shelf.Ren := ⟨fun | 243 => 64 | 246 => 94 | 283 => 108 | 284 => 109 | 285 => 110 | 286 => 111 | 129 => 114 | 317 => 113 | 318 => 115 | 319 => 116 | 320 => 117 | 337 => 118 | 338 => 119 | n => n, fun | 3 => 3 | 9 => 9 | 2 => 2 | 4 => 4 | 171 => 140 | 0 => 0 | 53 => 141 | 37 => 79 | 5 => 5 | 173 => 144 | 212 => 148 | 51 => 149 | 20 => 20 | 213 => 150 | 46 => 130 | 232 => 154 | 233 => 155 | n => n, fun | 17 => 1 | 18 => 2 | 19 => 3 | n => n⟩
theorem Tryz.laysM243 : Go.Proofs.LaysM.n243 Tryz.prog Tryz.laysM243_ren := {
  mixed := by kernel_rfl
  f129 := Tryz.func114.trans (congrArg some (by kernel_rfl))
  f243 := Tryz.func64.trans (congrArg some (by kernel_rfl))
  f246 := Tryz.func94.trans (congrArg some (by kernel_rfl))
  f283 := Tryz.func108.trans (congrArg some (by kernel_rfl))
  f284 := Tryz.func109.trans (congrArg some (by kernel_rfl))
  f285 := Tryz.func110.trans (congrArg some (by kernel_rfl))
  f286 := Tryz.func111.trans (congrArg some (by kernel_rfl))
  f317 := Tryz.func113.trans (congrArg some (by kernel_rfl))
  f318 := Tryz.func115.trans (congrArg some (by kernel_rfl))
  f319 := Tryz.func116.trans (congrArg some (by kernel_rfl))
  f320 := Tryz.func117.trans (congrArg some (by kernel_rfl))
  f337 := Tryz.func118.trans (congrArg some (by kernel_rfl))
  f338 := Tryz.func119.trans (congrArg some (by kernel_rfl))
  t0 := Tryz.underlying0
  a0 := Tryz.isAgg0
  z0 := Tryz.sizeOf0
  v0 := Tryz.zeroValue0
  t2 := Tryz.underlying2
  a2 := Tryz.isAgg2
  z2 := Tryz.sizeOf2
  v2 := Tryz.zeroValue2
  t3 := Tryz.underlying3
  a3 := Tryz.isAgg3
  z3 := Tryz.sizeOf3
  v3 := Tryz.zeroValue3
  t4 := Tryz.underlying4
  a4 := Tryz.isAgg4
  z4 := Tryz.sizeOf4
  v4 := Tryz.zeroValue4
  t5 := Tryz.underlying5
  a5 := Tryz.isAgg5
  z5 := Tryz.sizeOf5
  v5 := Tryz.zeroValue5
  t9 := Tryz.underlying9
  a9 := Tryz.isAgg9
  z9 := Tryz.sizeOf9
  v9 := Tryz.zeroValue9
  t20 := Tryz.underlying20
  a20 := Tryz.isAgg20
  z20 := Tryz.sizeOf20
  v20 := Tryz.zeroValue20
  t37 := Tryz.underlying79
  a37 := Tryz.isAgg79
  z37 := Tryz.sizeOf79
  v37 := Tryz.zeroValue79
  t46 := Tryz.underlying130
  a46 := Tryz.isAgg130
  z46 := Tryz.sizeOf130
  v46 := Tryz.zeroValue130
  t51 := Tryz.underlying149
  a51 := Tryz.isAgg149
  z51 := Tryz.sizeOf149
  v51 := Tryz.zeroValue149
  t53 := Tryz.underlying141
  a53 := Tryz.isAgg141
  z53 := Tryz.sizeOf141
  v53 := Tryz.zeroValue141
  t171 := Tryz.underlying140
  a171 := Tryz.isAgg140
  z171 := Tryz.sizeOf140
  v171 := Tryz.zeroValue140
  t173 := Tryz.underlying144
  a173 := Tryz.isAgg144
  z173 := Tryz.sizeOf144
  v173 := Tryz.zeroValue144
  t212 := Tryz.underlying148
  a212 := Tryz.isAgg148
  z212 := Tryz.sizeOf148
  v212 := Tryz.zeroValue148
  t213 := Tryz.underlying150
  a213 := Tryz.isAgg150
  z213 := Tryz.sizeOf150
  t232 := Tryz.underlying154
  a232 := Tryz.isAgg154
  z232 := Tryz.sizeOf154
  v232 := Tryz.zeroValue154
  t233 := Tryz.underlying155
  a233 := Tryz.isAgg155
  z233 := Tryz.sizeOf155
  v233 := Tryz.zeroValue155
  g17 := by kernel_rfl
  g18 := by kernel_rfl
  g19 := by kernel_rfl
  i0 := by kernel_rfl
  i2 := by kernel_rfl
  i3 := by kernel_rfl
  i4 := by kernel_rfl
  i5 := by kernel_rfl
  i9 := by kernel_rfl
  i20 := by kernel_rfl
  i37 := by kernel_rfl
  i46 := by kernel_rfl
  i51 := by kernel_rfl
  i53 := by kernel_rfl
  i171 := by kernel_rfl
  i173 := by kernel_rfl
  i212 := by kernel_rfl
  i232 := by kernel_rfl
  i233 := by kernel_rfl
  m17 := by kernel_rfl
  m18 := by kernel_rfl
  m19 := by kernel_rfl }
open Go.RowKit Go.Sort Go.Lib in
/-- internal/strconv.Itoa: "Itoa is equivalent to FormatInt(int64(i), 10).": i's decimal numeral, for every int. (LAID: no walk: one application.) -/
theorem Tryz.internal_strconv_Itoa (n : Int) (h0 : -9223372036854775808 ≤ n) (h1 : n ≤ 9223372036854775807) (w : World) (htab : Lib.TabIs Tryz.prog w "internal/strconv.uint64pow10" .u64 Lib.pow10Tab) :
    Calls Tryz.prog 64 #[.int .i64 n] w fun e w' => e = .returned (.string ⟨(Lib.itoa n).toArray⟩) ∧ ∃ k os, w' = grow (w.drewN k) os := Any.internal_strconv_Itoa Tryz.laysM243 n h0 h1 w htab
def Tryz.lays243_ren : Go.Shelf.Ren := ⟨fun | 243 => 64 | 246 => 94 | 283 => 108 | 284 => 109 | 285 => 110 | 286 => 111 | 129 => 114 | 317 => 113 | 318 => 115 | 319 => 116 | 320 => 117 | 337 => 118 | 338 => 119 | n => n, fun | 3 => 3 | 9 => 9 | 2 => 2 | 4 => 4 | 171 => 140 | 0 => 0 | 53 => 141 | 37 => 79 | 5 => 5 | 173 => 144 | 212 => 148 | 51 => 149 | 20 => 20 | 213 => 150 | 46 => 130 | 232 => 154 | 233 => 155 | n => n, fun | 17 => 1 | 18 => 2 | 19 => 3 | n => n⟩
theorem Tryz.lays243 : Go.Proofs.Lays.n243 Tryz.prog Tryz.lays243_ren := {
  mixed := by kernel_rfl
  f129 := Tryz.func114.trans (congrArg some (by kernel_rfl))
  f243 := Tryz.func64.trans (congrArg some (by kernel_rfl))
  f246 := Tryz.func94.trans (congrArg some (by kernel_rfl))
  f283 := Tryz.func108.trans (congrArg some (by kernel_rfl))
  f284 := Tryz.func109.trans (congrArg some (by kernel_rfl))
  f285 := Tryz.func110.trans (congrArg some (by kernel_rfl))
  f286 := Tryz.func111.trans (congrArg some (by kernel_rfl))
  f317 := Tryz.func113.trans (congrArg some (by kernel_rfl))
  f318 := Tryz.func115.trans (congrArg some (by kernel_rfl))
  f319 := Tryz.func116.trans (congrArg some (by kernel_rfl))
  f320 := Tryz.func117.trans (congrArg some (by kernel_rfl))
  f337 := Tryz.func118.trans (congrArg some (by kernel_rfl))
  f338 := Tryz.func119.trans (congrArg some (by kernel_rfl))
  t0 := Tryz.underlying0
  a0 := Tryz.isAgg0
  z0 := Tryz.sizeOf0
  v0 := Tryz.zeroValue0
  t2 := Tryz.underlying2
  a2 := Tryz.isAgg2
  z2 := Tryz.sizeOf2
  v2 := Tryz.zeroValue2
  t3 := Tryz.underlying3
  a3 := Tryz.isAgg3
  z3 := Tryz.sizeOf3
  v3 := Tryz.zeroValue3
  t4 := Tryz.underlying4
  a4 := Tryz.isAgg4
  z4 := Tryz.sizeOf4
  v4 := Tryz.zeroValue4
  t5 := Tryz.underlying5
  a5 := Tryz.isAgg5
  z5 := Tryz.sizeOf5
  v5 := Tryz.zeroValue5
  t9 := Tryz.underlying9
  a9 := Tryz.isAgg9
  z9 := Tryz.sizeOf9
  v9 := Tryz.zeroValue9
  t20 := Tryz.underlying20
  a20 := Tryz.isAgg20
  z20 := Tryz.sizeOf20
  v20 := Tryz.zeroValue20
  t37 := Tryz.underlying79
  a37 := Tryz.isAgg79
  z37 := Tryz.sizeOf79
  v37 := Tryz.zeroValue79
  t46 := Tryz.underlying130
  a46 := Tryz.isAgg130
  z46 := Tryz.sizeOf130
  v46 := Tryz.zeroValue130
  t51 := Tryz.underlying149
  a51 := Tryz.isAgg149
  z51 := Tryz.sizeOf149
  v51 := Tryz.zeroValue149
  t53 := Tryz.underlying141
  a53 := Tryz.isAgg141
  z53 := Tryz.sizeOf141
  v53 := Tryz.zeroValue141
  t171 := Tryz.underlying140
  a171 := Tryz.isAgg140
  z171 := Tryz.sizeOf140
  v171 := Tryz.zeroValue140
  t173 := Tryz.underlying144
  a173 := Tryz.isAgg144
  z173 := Tryz.sizeOf144
  v173 := Tryz.zeroValue144
  t212 := Tryz.underlying148
  a212 := Tryz.isAgg148
  z212 := Tryz.sizeOf148
  v212 := Tryz.zeroValue148
  t213 := Tryz.underlying150
  a213 := Tryz.isAgg150
  z213 := Tryz.sizeOf150
  t232 := Tryz.underlying154
  a232 := Tryz.isAgg154
  z232 := Tryz.sizeOf154
  v232 := Tryz.zeroValue154
  t233 := Tryz.underlying155
  a233 := Tryz.isAgg155
  z233 := Tryz.sizeOf155
  v233 := Tryz.zeroValue155
  g17 := by kernel_rfl
  g18 := by kernel_rfl
  g19 := by kernel_rfl }
open Go.RowKit Go.Sort Go.Lib in
/-- THE ROAD WITHOUT THE TABLE: 0 <= i < 100. (LAID: no walk: one application.) -/
theorem Tryz.internal_strconv_Itoa_small (i : Nat) (hi : i < 100) (w : World) :
    Calls Tryz.prog 64 #[.int .i64 i] w fun e w' => e = .returned (.string ⟨(Lib.decDigits i).toArray⟩) ∧ w' = w := Any.internal_strconv_Itoa_small Tryz.lays243 i hi w
def Tryz.laysM171_ren : Go.Shelf.Ren := ⟨fun | 171 => 39 | 243 => 64 | 246 => 94 | 283 => 108 | 284 => 109 | 285 => 110 | 286 => 111 | 129 => 114 | 317 => 113 | 318 => 115 | 319 => 116 | 320 => 117 | 337 => 118 | 338 => 119 | n => n, fun | 3 => 3 | 9 => 9 | 2 => 2 | 4 => 4 | 171 => 140 | 0 => 0 | 53 => 141 | 37 => 79 | 5 => 5 | 173 => 144 | 212 => 148 | 51 => 149 | 20 => 20 | 213 => 150 | 46 => 130 | 232 => 154 | 233 => 155 | n => n, fun | 17 => 1 | 18 => 2 | 19 => 3 | n => n⟩
theorem Tryz.laysM171 : Go.Proofs.LaysM.n171 Tryz.prog Tryz.laysM171_ren := {
  mixed := by kernel_rfl
  f129 := Tryz.func114.trans (congrArg some (by kernel_rfl))
  f171 := Tryz.func39.trans (congrArg some (by kernel_rfl))
  f243 := Tryz.func64.trans (congrArg some (by kernel_rfl))
  f246 := Tryz.func94.trans (congrArg some (by kernel_rfl))
  f283 := Tryz.func108.trans (congrArg some (by kernel_rfl))
  f284 := Tryz.func109.trans (congrArg some (by kernel_rfl))
  f285 := Tryz.func110.trans (congrArg some (by kernel_rfl))
  f286 := Tryz.func111.trans (congrArg some (by kernel_rfl))
  f317 := Tryz.func113.trans (congrArg some (by kernel_rfl))
  f318 := Tryz.func115.trans (congrArg some (by kernel_rfl))
  f319 := Tryz.func116.trans (congrArg some (by kernel_rfl))
  f320 := Tryz.func117.trans (congrArg some (by kernel_rfl))
  f337 := Tryz.func118.trans (congrArg some (by kernel_rfl))
  f338 := Tryz.func119.trans (congrArg some (by kernel_rfl))
  t0 := Tryz.underlying0
  a0 := Tryz.isAgg0
  z0 := Tryz.sizeOf0
  v0 := Tryz.zeroValue0
  t2 := Tryz.underlying2
  a2 := Tryz.isAgg2
  z2 := Tryz.sizeOf2
  v2 := Tryz.zeroValue2
  t3 := Tryz.underlying3
  a3 := Tryz.isAgg3
  z3 := Tryz.sizeOf3
  v3 := Tryz.zeroValue3
  t4 := Tryz.underlying4
  a4 := Tryz.isAgg4
  z4 := Tryz.sizeOf4
  v4 := Tryz.zeroValue4
  t5 := Tryz.underlying5
  a5 := Tryz.isAgg5
  z5 := Tryz.sizeOf5
  v5 := Tryz.zeroValue5
  t9 := Tryz.underlying9
  a9 := Tryz.isAgg9
  z9 := Tryz.sizeOf9
  v9 := Tryz.zeroValue9
  t20 := Tryz.underlying20
  a20 := Tryz.isAgg20
  z20 := Tryz.sizeOf20
  v20 := Tryz.zeroValue20
  t37 := Tryz.underlying79
  a37 := Tryz.isAgg79
  z37 := Tryz.sizeOf79
  v37 := Tryz.zeroValue79
  t46 := Tryz.underlying130
  a46 := Tryz.isAgg130
  z46 := Tryz.sizeOf130
  v46 := Tryz.zeroValue130
  t51 := Tryz.underlying149
  a51 := Tryz.isAgg149
  z51 := Tryz.sizeOf149
  v51 := Tryz.zeroValue149
  t53 := Tryz.underlying141
  a53 := Tryz.isAgg141
  z53 := Tryz.sizeOf141
  v53 := Tryz.zeroValue141
  t171 := Tryz.underlying140
  a171 := Tryz.isAgg140
  z171 := Tryz.sizeOf140
  v171 := Tryz.zeroValue140
  t173 := Tryz.underlying144
  a173 := Tryz.isAgg144
  z173 := Tryz.sizeOf144
  v173 := Tryz.zeroValue144
  t212 := Tryz.underlying148
  a212 := Tryz.isAgg148
  z212 := Tryz.sizeOf148
  v212 := Tryz.zeroValue148
  t213 := Tryz.underlying150
  a213 := Tryz.isAgg150
  z213 := Tryz.sizeOf150
  t232 := Tryz.underlying154
  a232 := Tryz.isAgg154
  z232 := Tryz.sizeOf154
  v232 := Tryz.zeroValue154
  t233 := Tryz.underlying155
  a233 := Tryz.isAgg155
  z233 := Tryz.sizeOf155
  v233 := Tryz.zeroValue155
  g17 := by kernel_rfl
  g18 := by kernel_rfl
  g19 := by kernel_rfl
  i0 := by kernel_rfl
  i2 := by kernel_rfl
  i3 := by kernel_rfl
  i4 := by kernel_rfl
  i5 := by kernel_rfl
  i9 := by kernel_rfl
  i20 := by kernel_rfl
  i37 := by kernel_rfl
  i46 := by kernel_rfl
  i51 := by kernel_rfl
  i53 := by kernel_rfl
  i171 := by kernel_rfl
  i173 := by kernel_rfl
  i212 := by kernel_rfl
  i232 := by kernel_rfl
  i233 := by kernel_rfl
  m17 := by kernel_rfl
  m18 := by kernel_rfl
  m19 := by kernel_rfl }
open Go.RowKit Go.Sort Go.Lib in
/-- strconv.Itoa: "Itoa is equivalent to FormatInt(int64(i), 10).": i's DECIMAL NUMERAL ('Lib.itoa': a '-' where i is negative, then the digits), FOR EVERY int. The world behind the call: the world before it, new blocks behind the heap (the library's 'var a [24]byte'), draws. (LAID: no walk: one application.) -/
theorem Tryz.strconv_Itoa (n : Int) (h0 : -9223372036854775808 ≤ n) (h1 : n ≤ 9223372036854775807) (w : World) (htab : Lib.TabIs Tryz.prog w "internal/strconv.uint64pow10" .u64 Lib.pow10Tab) :
    Calls Tryz.prog 39 #[.int .i64 n] w fun e w' => e = .returned (.string ⟨(Lib.itoa n).toArray⟩) ∧ ∃ k os, w' = grow (w.drewN k) os := Any.strconv_Itoa Tryz.laysM171 n h0 h1 w htab
def Tryz.lays171_ren : Go.Shelf.Ren := ⟨fun | 171 => 39 | 243 => 64 | 246 => 94 | 283 => 108 | 284 => 109 | 285 => 110 | 286 => 111 | 129 => 114 | 317 => 113 | 318 => 115 | 319 => 116 | 320 => 117 | 337 => 118 | 338 => 119 | n => n, fun | 3 => 3 | 9 => 9 | 2 => 2 | 4 => 4 | 171 => 140 | 0 => 0 | 53 => 141 | 37 => 79 | 5 => 5 | 173 => 144 | 212 => 148 | 51 => 149 | 20 => 20 | 213 => 150 | 46 => 130 | 232 => 154 | 233 => 155 | n => n, fun | 17 => 1 | 18 => 2 | 19 => 3 | n => n⟩
theorem Tryz.lays171 : Go.Proofs.Lays.n171 Tryz.prog Tryz.lays171_ren := {
  mixed := by kernel_rfl
  f129 := Tryz.func114.trans (congrArg some (by kernel_rfl))
  f171 := Tryz.func39.trans (congrArg some (by kernel_rfl))
  f243 := Tryz.func64.trans (congrArg some (by kernel_rfl))
  f246 := Tryz.func94.trans (congrArg some (by kernel_rfl))
  f283 := Tryz.func108.trans (congrArg some (by kernel_rfl))
  f284 := Tryz.func109.trans (congrArg some (by kernel_rfl))
  f285 := Tryz.func110.trans (congrArg some (by kernel_rfl))
  f286 := Tryz.func111.trans (congrArg some (by kernel_rfl))
  f317 := Tryz.func113.trans (congrArg some (by kernel_rfl))
  f318 := Tryz.func115.trans (congrArg some (by kernel_rfl))
  f319 := Tryz.func116.trans (congrArg some (by kernel_rfl))
  f320 := Tryz.func117.trans (congrArg some (by kernel_rfl))
  f337 := Tryz.func118.trans (congrArg some (by kernel_rfl))
  f338 := Tryz.func119.trans (congrArg some (by kernel_rfl))
  t0 := Tryz.underlying0
  a0 := Tryz.isAgg0
  z0 := Tryz.sizeOf0
  v0 := Tryz.zeroValue0
  t2 := Tryz.underlying2
  a2 := Tryz.isAgg2
  z2 := Tryz.sizeOf2
  v2 := Tryz.zeroValue2
  t3 := Tryz.underlying3
  a3 := Tryz.isAgg3
  z3 := Tryz.sizeOf3
  v3 := Tryz.zeroValue3
  t4 := Tryz.underlying4
  a4 := Tryz.isAgg4
  z4 := Tryz.sizeOf4
  v4 := Tryz.zeroValue4
  t5 := Tryz.underlying5
  a5 := Tryz.isAgg5
  z5 := Tryz.sizeOf5
  v5 := Tryz.zeroValue5
  t9 := Tryz.underlying9
  a9 := Tryz.isAgg9
  z9 := Tryz.sizeOf9
  v9 := Tryz.zeroValue9
  t20 := Tryz.underlying20
  a20 := Tryz.isAgg20
  z20 := Tryz.sizeOf20
  v20 := Tryz.zeroValue20
  t37 := Tryz.underlying79
  a37 := Tryz.isAgg79
  z37 := Tryz.sizeOf79
  v37 := Tryz.zeroValue79
  t46 := Tryz.underlying130
  a46 := Tryz.isAgg130
  z46 := Tryz.sizeOf130
  v46 := Tryz.zeroValue130
  t51 := Tryz.underlying149
  a51 := Tryz.isAgg149
  z51 := Tryz.sizeOf149
  v51 := Tryz.zeroValue149
  t53 := Tryz.underlying141
  a53 := Tryz.isAgg141
  z53 := Tryz.sizeOf141
  v53 := Tryz.zeroValue141
  t171 := Tryz.underlying140
  a171 := Tryz.isAgg140
  z171 := Tryz.sizeOf140
  v171 := Tryz.zeroValue140
  t173 := Tryz.underlying144
  a173 := Tryz.isAgg144
  z173 := Tryz.sizeOf144
  v173 := Tryz.zeroValue144
  t212 := Tryz.underlying148
  a212 := Tryz.isAgg148
  z212 := Tryz.sizeOf148
  v212 := Tryz.zeroValue148
  t213 := Tryz.underlying150
  a213 := Tryz.isAgg150
  z213 := Tryz.sizeOf150
  t232 := Tryz.underlying154
  a232 := Tryz.isAgg154
  z232 := Tryz.sizeOf154
  v232 := Tryz.zeroValue154
  t233 := Tryz.underlying155
  a233 := Tryz.isAgg155
  z233 := Tryz.sizeOf155
  v233 := Tryz.zeroValue155
  g17 := by kernel_rfl
  g18 := by kernel_rfl
  g19 := by kernel_rfl }
open Go.RowKit Go.Sort Go.Lib in
/-- THE ROAD WITHOUT THE TABLE: 0 <= i < 100: NO PREMISE ON THE WORLD, AND THE WORLD IS AS IT WAS: a row that keeps its argument in that range need list no table ('laid = []'). (LAID: no walk: one application.) -/
theorem Tryz.strconv_Itoa_small (i : Nat) (hi : i < 100) (w : World) :
    Calls Tryz.prog 39 #[.int .i64 i] w fun e w' => e = .returned (.string ⟨(Lib.decDigits i).toArray⟩) ∧ w' = w := Any.strconv_Itoa_small Tryz.lays171 i hi w
def Tryz.lays217_ren : Go.Shelf.Ren := ⟨fun | 217 => 81 | 266 => 104 | n => n, fun | 9 => 9 | 5 => 5 | 3 => 3 | n => n, fun | n => n⟩
theorem Tryz.lays217 : Go.Proofs.Lays.n217 Tryz.prog Tryz.lays217_ren := {
  mixed := by kernel_rfl
  f217 := Tryz.func81.trans (congrArg some (by kernel_rfl))
  f266 := Tryz.func104.trans (congrArg some (by kernel_rfl))
  t3 := Tryz.underlying3
  a3 := Tryz.isAgg3
  z3 := Tryz.sizeOf3
  v3 := Tryz.zeroValue3
  t5 := Tryz.underlying5
  a5 := Tryz.isAgg5
  z5 := Tryz.sizeOf5
  v5 := Tryz.zeroValue5
  t9 := Tryz.underlying9
  a9 := Tryz.isAgg9
  z9 := Tryz.sizeOf9
  v9 := Tryz.zeroValue9 }
open Go.RowKit Go.Lib in
/-- internal/stringslite.IndexByte (what strings.IndexByte calls): IT RETURNS 'Lib.indexByte s c'; the world is as it was. (LAID: no walk: one application.) -/
theorem Tryz.stringslite_IndexByte (s : ByteArray) (c : Int) (w : World) :
    Calls Tryz.prog 81 #[.string s, .int .u8 c] w fun e w' => e = .returned (.int .i64 (Lib.indexByte s.data.toList c.toNat.toUInt8)) ∧ w' = w := Any.stringslite_IndexByte Tryz.lays217 s c w
end Go.Proofs
end

section
/-
YtjgjbdnjjepibaaGreatDoor: strconv.Itoa, by the shelf: its contract. No condition.
-/
open Go Go.AM
namespace Go.Proofs.YtjgjbdnjjepibaaGreatDoor
noncomputable section
def itoaG (n : Int) : Option (ByteArray × Unit) := if -9223372036854775808 ≤ n ∧ n ≤ 9223372036854775807 then some (strB (Lib.itoa n), ()) else none
def strconv_Itoa (n : Int) : Option ((ByteArray × Unit) × Unit) := (itoaG n).bind fun y => some (y, ())
def fc39 : FC := ⟨⟨[.one (.int .i64)], []⟩, ⟨[.one .str], []⟩, fun x => strconv_Itoa x.1.1⟩
theorem con39 : Contract Tryz.prog 39 fc39 :=
  Contract.below (P := Tryz.prog) (f := 39) (sa := [.one (.int .i64)]) (sr := [.one .str]) (fn := Tryz.f39) (c := Tryz.f39.body.getD .skip) Tryz.func39 (by kernel_rfl) (by kernel_rfl) (g := fun x => itoaG x.1) (fun w M G x y vals hI hv hg => by
    obtain ⟨n, u⟩ := x
    obtain ⟨vs⟩ := vals
    match vs, hv with
    | [v1], hv =>
      obtain ⟨⟨rfl, _⟩, _⟩ := hv
      have hg' : itoaG n = some y := hg
      unfold itoaG at hg'
      split at hg'
      · rename_i hn
        cases hg'
        refine (Tryz.strconv_Itoa n hn.1 hn.2 w (zone_tab (hI.zone _ _ zone_pow))).mono ?_
        rintro e w' ⟨rfl, k, os, rfl⟩
        refine ⟨_, rfl, ⟨rfl, rfl, rfl, ?_, fun i hi => ?_⟩, rfl, rfl⟩
        · show w.heap.size ≤ (w.heap ++ os).size
          simp
        · show (w.heap ++ os)[i]? = w.heap[i]?
          rw [Array.getElem?_append_left hi]
      · cases hg'
    | [], hv => exact hv.elim
    | _ :: _ :: _, hv => exact hv.2.elim)
end
end Go.Proofs.YtjgjbdnjjepibaaGreatDoor
end

section
/-
YtjgjbdnjjepibaaGreatDoor: (*signalbench.decl.writer).number, as one plain function, its equations, its contract. No condition.
-/
set_option maxRecDepth 100000
set_option linter.unusedVariables false
set_option maxHeartbeats 4000000
open Go Go.AM
namespace Go.Proofs.YtjgjbdnjjepibaaGreatDoor
noncomputable section
def decl_writer_number_D : FD := ⟨T, lookC [(39, fc39)], [], (Tryz.f20.body.getD .skip), Tryz.f20.results.toList, ⟨[.one (.ptr 0 0), .one (.int .i64)], [.box 49 [(.own 1)], .arr 62 (.cons (.int .i64) (.cons .str (.cons (.int .i64) (.int .i64)))) true]⟩, ⟨[], [.box 49 [(.own 2)], .dead, .arr 62 (.cons (.int .i64) (.cons .str (.cons (.int .i64) (.int .i64)))) true]⟩, []⟩
def decl_writer_number (n : Int) (l1 : (List TToken)) : (Option (Unit × ((Unit × Unit) × Unit × (List TToken) × Unit))) :=
  (strconv_Itoa n).bind fun y1 =>
    if (l1.length + 1) * 40 ≤ 140737488355328 ∧ 0 < 40 then
      some ((), (((), ()), (), l1 ++ [(2, y1.1.1, n, 0)], ()))
    else
      none
def fc20 : FC := ⟨⟨[.one (.ptr 0 0), .one (.int .i64)], [.box 49 [(.own 1)], .arr 62 (.cons (.int .i64) (.cons .str (.cons (.int .i64) (.int .i64)))) true]⟩, ⟨[], [.box 49 [(.own 2)], .dead, .arr 62 (.cons (.int .i64) (.cons .str (.cons (.int .i64) (.int .i64)))) true]⟩, fun x => decl_writer_number x.1.2.1 x.2.2.1⟩
theorem con20 : Contract Tryz.prog 20 fc20 :=
  decl_writer_number_D.contract tok (cok_of (l := [(39, fc39)]) ⟨con39, trivial⟩) mixed (fn' := Tryz.f20) (by kernel_rfl) (by kernel_rfl) rfl (by kernel_rfl) (fun x => (FD.fn_eq _ _).trans (by kernel_rfl))
end
end Go.Proofs.YtjgjbdnjjepibaaGreatDoor
end

section
/-
YtjgjbdnjjepibaaGreatDoor: decl.word, by a walk: the word of an action. No condition.
-/
open Go Go.AM Go.RowKit
variable [Inhabited ZMem]
namespace Go.Proofs.YtjgjbdnjjepibaaGreatDoor
noncomputable section
def wordTab : List ByteArray := [strB [], strB [99, 108, 101, 97, 114], strB [112, 117, 115, 104], strB [120, 111, 114], strB [112, 117, 116], strB [101, 109, 105, 116], strB [102, 97, 105, 108]]
def wordG (n : Int) : Option (ByteArray × Unit) := if 0 ≤ n ∧ n < 7 then some (wordTab.getD n.toNat (strB []), ()) else none
def decl_word (n : Int) : Option ((ByteArray × Unit) × Unit) := (wordG n).bind fun y => some (y, ())
set_option maxRecDepth 1000000 in
theorem word_calls (n : Int) (h0 : 0 ≤ n) (h7 : n < 7) (w : World) : Calls Tryz.prog 40 #[.int .i64 n] w fun e w' => e = .returned (.string (wordTab.getD n.toNat (strB []))) ∧ w' = w := by
  have h : n = 0 ∨ n = 1 ∨ n = 2 ∨ n = 3 ∨ n = 4 ∨ n = 5 ∨ n = 6 := by omega
  have hnx : ∀ W : World, (Instr.index 108 (.agg #[.string { data := #[] }, .string { data := #[99, 108, 101, 97, 114] }, .string { data := #[112, 117, 115, 104] }, .string { data := #[120, 111, 114] }, .string { data := #[112, 117, 116] }, .string { data := #[101, 109, 105, 116] }, .string { data := #[102, 97, 105, 108] }]) (.int .i64 n)).run Tryz.prog W = .ok (.string (wordTab.getD n.toNat (strB []))) W := by
    intro W
    rcases h with rfl | rfl | rfl | rfl | rfl | rfl | rfl <;> kernel_rfl
  go_enter Tryz.func40, Tryz.ntmps40
  go_wp2
  go_ret
  exact ⟨rfl, rfl⟩
def fc40 : FC := ⟨⟨[.one (.int .i64)], []⟩, ⟨[.one .str], []⟩, fun x => decl_word x.1.1⟩
theorem con40 : Contract Tryz.prog 40 fc40 :=
  Contract.still (P := Tryz.prog) (f := 40) (sa := [.one (.int .i64)]) (sr := [.one .str]) (fn := Tryz.f40) (c := Tryz.f40.body.getD .skip) Tryz.func40 (by kernel_rfl) (by kernel_rfl) (g := fun x => wordG x.1) (fun w M G x y vals hI hv hg => by
    obtain ⟨n, u⟩ := x
    obtain ⟨vs⟩ := vals
    match vs, hv with
    | [v1], hv =>
      obtain ⟨⟨rfl, _⟩, _⟩ := hv
      have hg' : wordG n = some y := hg
      unfold wordG at hg'
      split at hg'
      · rename_i hn
        cases hg'
        refine (word_calls n hn.1 hn.2 w).mono ?_
        rintro e w' ⟨rfl, rfl⟩
        exact ⟨_, rfl, rfl, rfl, rfl⟩
      · cases hg'
    | [], hv => exact hv.elim
    | _ :: _ :: _, hv => exact hv.2.elim)
end
end Go.Proofs.YtjgjbdnjjepibaaGreatDoor
end

section
/-
YtjgjbdnjjepibaaGreatDoor: (*signalbench.decl.writer).target, as one plain function, its equations, its contract. No condition.
-/
set_option maxRecDepth 100000
set_option linter.unusedVariables false
set_option maxHeartbeats 4000000
open Go Go.AM
namespace Go.Proofs.YtjgjbdnjjepibaaGreatDoor
noncomputable section
def decl_writer_target_F3 : FSh := ⟨[(0, .one (.ptr 0 0)), (3, .one (.ptr 2 0))], [.box 49 [(.own 3)], .dead, .boxr 37 (.cons (.int .i64) (.cons (.int .i64) (.cons .str (.cons .bool (.sl (.cons (.int .i64) (.int .i64))))))), .arr 62 (.cons (.int .i64) (.cons .str (.cons (.int .i64) (.int .i64)))) true]⟩
def decl_writer_target_F7 : FSh := ⟨[(0, .one (.ptr 0 0)), (19, .one (.sl (.cons (.int .i64) (.int .i64)))), (20, .one (.int .i64)), (21, .one (.int .i64))], [.box 49 [(.own 2)], .dead, .arr 62 (.cons (.int .i64) (.cons .str (.cons (.int .i64) (.int .i64)))) true]⟩
def decl_writer_target_F12 : FSh := ⟨[(0, .one (.ptr 0 0)), (5, .one (.ptr 2 0)), (19, .one (.sl (.cons (.int .i64) (.int .i64)))), (20, .one (.int .i64)), (21, .one (.int .i64))], [.box 49 [(.own 3)], .dead, .boxr 73 (.cons (.int .i64) (.int .i64)), .arr 62 (.cons (.int .i64) (.cons .str (.cons (.int .i64) (.int .i64)))) true]⟩
def decl_writer_target_D : FD := ⟨T, lookC [(18, fc18), (19, fc19), (20, fc20), (40, fc40)], [12, 3], (Tryz.f21.body.getD .skip), Tryz.f21.results.toList, ⟨[.one (.ptr 0 0), .row (.cons (.int .i64) (.cons (.int .i64) (.cons .str (.cons .bool (.sl (.cons (.int .i64) (.int .i64)))))))], [.box 49 [(.own 1)], .arr 62 (.cons (.int .i64) (.cons .str (.cons (.int .i64) (.int .i64)))) true]⟩, ⟨[], [.box 49 [(.own 2)], .dead, .arr 62 (.cons (.int .i64) (.cons .str (.cons (.int .i64) (.int .i64)))) true]⟩, [(3, decl_writer_target_F3), (7, decl_writer_target_F7), (12, decl_writer_target_F12)]⟩
def decl_writer_target_l3 (h2 : TRule) (l3 : (List TToken)) : (Option (Unit × ((Unit × Unit) × Unit × (List TToken) × Unit))) := decl_writer_target_D.lab 3 decl_writer_target_F3 (((), (), ()), (((), ()), (), h2, l3, ()))
def decl_writer_target_l7 (t19 : (List TAct)) (t20 : Int) (t21 : Int) (l2 : (List TToken)) : (Option (Unit × ((Unit × Unit) × Unit × (List TToken) × Unit))) := decl_writer_target_D.lab 7 decl_writer_target_F7 (((), t19, t20, t21, ()), (((), ()), (), l2, ()))
def decl_writer_target_l12 (t19 : (List TAct)) (t20 : Int) (t21 : Int) (h2 : TAct) (l3 : (List TToken)) : (Option (Unit × ((Unit × Unit) × Unit × (List TToken) × Unit))) := decl_writer_target_D.lab 12 decl_writer_target_F12 (((), (), t19, t20, t21, ()), (((), ()), (), h2, l3, ()))
theorem decl_writer_target_l3_eq (h2 : TRule) (l3 : (List TToken)) : decl_writer_target_l3 h2 l3 =
  decl_writer_target_l7 h2.2.2.2.2 (h2.2.2.2.2.length : Int) 0 l3 := (FD.lab_eq _ _ _ _).trans (by kernel_rfl)
theorem decl_writer_target_l7_eq (t19 : (List TAct)) (t20 : Int) (t21 : Int) (l2 : (List TToken)) : decl_writer_target_l7 t19 t20 t21 l2 =
  if (decide (t21 < t20)) = true then
    if 0 ≤ t21 ∧ t21 < (t19.length : Int) then
      if (t21 == 0) = true then
        (decl_writer_marks (strB [58]) l2).bind fun y1 =>
          decl_writer_target_l12 t19 t20 t21 (t19.getD t21.toNat dAct) y1.2.2.2.1
      else
        (decl_writer_marks (strB [44]) l2).bind fun y2 =>
          decl_writer_target_l12 t19 t20 t21 (t19.getD t21.toNat dAct) y2.2.2.2.1
    else
      none
  else
    (decl_writer_marks (strB [59]) l2).bind fun y3 =>
      some ((), (((), ()), (), y3.2.2.2.1, ())) := (FD.lab_eq _ _ _ _).trans (by kernel_rfl)
theorem decl_writer_target_l12_eq (t19 : (List TAct)) (t20 : Int) (t21 : Int) (h2 : TAct) (l3 : (List TToken)) : decl_writer_target_l12 t19 t20 t21 h2 l3 =
  (decl_word h2.1).bind fun y1 =>
    (decl_writer_words [y1.1.1] l3).bind fun y2 =>
      if (decide (h2.1 > 2)) = true then
        (decl_writer_number h2.2 y2.2.2.2.1).bind fun y3 =>
          decl_writer_target_l7 t19 t20 (IntKind.i64.wrap (t21 + 1)) y3.2.2.2.1
      else
        decl_writer_target_l7 t19 t20 (IntKind.i64.wrap (t21 + 1)) y2.2.2.2.1 := (FD.lab_eq _ _ _ _).trans (by kernel_rfl)
def decl_writer_target (r : TRule) (l1 : (List TToken)) : (Option (Unit × ((Unit × Unit) × Unit × (List TToken) × Unit))) :=
  (decl_writer_marks (strB [62]) l1).bind fun y1 =>
    (decl_writer_words [r.2.2.1] y1.2.2.2.1).bind fun y2 =>
      if r.2.2.2.1 = true then
        (decl_writer_words [(strB [97, 103, 97, 105, 110])] y2.2.2.2.1).bind fun y3 =>
          decl_writer_target_l3 r y3.2.2.2.1
      else
        decl_writer_target_l3 r y2.2.2.2.1
def fc21 : FC := ⟨⟨[.one (.ptr 0 0), .row (.cons (.int .i64) (.cons (.int .i64) (.cons .str (.cons .bool (.sl (.cons (.int .i64) (.int .i64)))))))], [.box 49 [(.own 1)], .arr 62 (.cons (.int .i64) (.cons .str (.cons (.int .i64) (.int .i64)))) true]⟩, ⟨[], [.box 49 [(.own 2)], .dead, .arr 62 (.cons (.int .i64) (.cons .str (.cons (.int .i64) (.int .i64)))) true]⟩, fun x => decl_writer_target x.1.2.1 x.2.2.1⟩
theorem con21 : Contract Tryz.prog 21 fc21 :=
  decl_writer_target_D.contract tok (cok_of (l := [(18, fc18), (19, fc19), (20, fc20), (40, fc40)]) ⟨con18, con19, con20, con40, trivial⟩) mixed (fn' := Tryz.f21) (by kernel_rfl) (by kernel_rfl) rfl (by kernel_rfl) (fun x => (FD.fn_eq _ _).trans (by kernel_rfl))
end
end Go.Proofs.YtjgjbdnjjepibaaGreatDoor
end

section
/-
YtjgjbdnjjepibaaGreatDoor: signalbench.lex.letter, as one plain function, its equations, its contract. No condition.
-/
set_option maxRecDepth 100000
set_option linter.unusedVariables false
set_option maxHeartbeats 4000000
open Go Go.AM
namespace Go.Proofs.YtjgjbdnjjepibaaGreatDoor
noncomputable section
def lex_letter_D : FD := ⟨T, lookC [], [], (Tryz.f82.body.getD .skip), Tryz.f82.results.toList, ⟨[.one (.int .i32)], []⟩, ⟨[.one .bool], []⟩, []⟩
def lex_letter (c : Int) : (Option ((Bool × Unit) × Unit)) :=
  if (decide ((97 : Int) ≤ c)) = true then
    some ((decide (c ≤ 122), ()), ())
  else
    some ((false, ()), ())
def fc82 : FC := ⟨⟨[.one (.int .i32)], []⟩, ⟨[.one .bool], []⟩, fun x => lex_letter x.1.1⟩
theorem con82 : Contract Tryz.prog 82 fc82 :=
  lex_letter_D.contract tok (cok_of (l := []) trivial) mixed (fn' := Tryz.f82) (by kernel_rfl) (by kernel_rfl) rfl (by kernel_rfl) (fun x => (FD.fn_eq _ _).trans (by kernel_rfl))
end
end Go.Proofs.YtjgjbdnjjepibaaGreatDoor
end

section
/-
YtjgjbdnjjepibaaGreatDoor: signalbench.lex.digit, as one plain function, its equations, its contract. No condition.
-/
set_option maxRecDepth 100000
set_option linter.unusedVariables false
set_option maxHeartbeats 4000000
open Go Go.AM
namespace Go.Proofs.YtjgjbdnjjepibaaGreatDoor
noncomputable section
def lex_digit_D : FD := ⟨T, lookC [], [], (Tryz.f84.body.getD .skip), Tryz.f84.results.toList, ⟨[.one (.int .i32)], []⟩, ⟨[.one .bool], []⟩, []⟩
def lex_digit (c : Int) : (Option ((Bool × Unit) × Unit)) :=
  if (decide ((48 : Int) ≤ c)) = true then
    some ((decide (c ≤ 57), ()), ())
  else
    some ((false, ()), ())
def fc84 : FC := ⟨⟨[.one (.int .i32)], []⟩, ⟨[.one .bool], []⟩, fun x => lex_digit x.1.1⟩
theorem con84 : Contract Tryz.prog 84 fc84 :=
  lex_digit_D.contract tok (cok_of (l := []) trivial) mixed (fn' := Tryz.f84) (by kernel_rfl) (by kernel_rfl) rfl (by kernel_rfl) (fun x => (FD.fn_eq _ _).trans (by kernel_rfl))
end
end Go.Proofs.YtjgjbdnjjepibaaGreatDoor
end

section
/-
YtjgjbdnjjepibaaGreatDoor: signalbench.lex.word, as one plain function, its equations, its contract. No condition.
-/
set_option maxRecDepth 100000
set_option linter.unusedVariables false
set_option maxHeartbeats 4000000
open Go Go.AM
namespace Go.Proofs.YtjgjbdnjjepibaaGreatDoor
noncomputable section
def lex_word_D : FD := ⟨T, lookC [(82, fc82), (84, fc84)], [], (Tryz.f95.body.getD .skip), Tryz.f95.results.toList, ⟨[.one (.int .i32)], []⟩, ⟨[.one .bool], []⟩, []⟩
def lex_word (c : Int) : (Option ((Bool × Unit) × Unit)) :=
  (lex_letter c).bind fun y1 =>
    if y1.1.1 = true then
      some ((true, ()), ())
    else
      (lex_digit c).bind fun y2 =>
        if y2.1.1 = true then
          some ((true, ()), ())
        else
          some ((c == 95, ()), ())
def fc95 : FC := ⟨⟨[.one (.int .i32)], []⟩, ⟨[.one .bool], []⟩, fun x => lex_word x.1.1⟩
theorem con95 : Contract Tryz.prog 95 fc95 :=
  lex_word_D.contract tok (cok_of (l := [(82, fc82), (84, fc84)]) ⟨con82, con84, trivial⟩) mixed (fn' := Tryz.f95) (by kernel_rfl) (by kernel_rfl) rfl (by kernel_rfl) (fun x => (FD.fn_eq _ _).trans (by kernel_rfl))
end
end Go.Proofs.YtjgjbdnjjepibaaGreatDoor
end

section
/-
YtjgjbdnjjepibaaGreatDoor: signalbench.lex.Name, as one plain function, its equations, its contract. No condition.
-/
set_option maxRecDepth 100000
set_option linter.unusedVariables false
set_option maxHeartbeats 4000000
open Go Go.AM
namespace Go.Proofs.YtjgjbdnjjepibaaGreatDoor
noncomputable section
def lex_Name_F6 : FSh := ⟨[(0, .one .str), (19, .one (.int .i64)), (20, .one (.int .i64))], []⟩
def lex_Name_D : FD := ⟨T, lookC [(82, fc82), (95, fc95)], [], (Tryz.f65.body.getD .skip), Tryz.f65.results.toList, ⟨[.one .str], []⟩, ⟨[.one .bool], []⟩, [(6, lex_Name_F6)]⟩
def lex_Name_l6 (s : ByteArray) (t19 : Int) (t20 : Int) : (Option ((Bool × Unit) × Unit)) := lex_Name_D.lab 6 lex_Name_F6 ((s, t19, t20, ()), ())
theorem lex_Name_l6_eq (s : ByteArray) (t19 : Int) (t20 : Int) : lex_Name_l6 s t19 t20 =
  if (decide (t20 < t19)) = true then
    if 0 ≤ t20 ∧ t20 < (s.size : Int) then
      (lex_word (IntKind.i32.wrap (bt s t20))).bind fun y1 =>
        if (!y1.1.1) = true then
          some ((false, ()), ())
        else
          lex_Name_l6 s t19 (IntKind.i64.wrap (t20 + 1))
    else
      none
  else
    some ((true, ()), ()) := (FD.lab_eq _ _ _ _).trans (by kernel_rfl)
def lex_Name (s : ByteArray) : (Option ((Bool × Unit) × Unit)) :=
  if (s.toList == (strB []).toList) = true then
    some ((false, ()), ())
  else
    if (decide ((s.size : Int) > 16)) = true then
      some ((false, ()), ())
    else
      if 0 ≤ (0 : Int) ∧ 0 < (s.size : Int) then
        (lex_letter (IntKind.i32.wrap (bt s 0))).bind fun y1 =>
          if (!y1.1.1) = true then
            some ((false, ()), ())
          else
            lex_Name_l6 s (s.size : Int) 0
      else
        none
def fc65 : FC := ⟨⟨[.one .str], []⟩, ⟨[.one .bool], []⟩, fun x => lex_Name x.1.1⟩
theorem con65 : Contract Tryz.prog 65 fc65 :=
  lex_Name_D.contract tok (cok_of (l := [(82, fc82), (95, fc95)]) ⟨con82, con95, trivial⟩) mixed (fn' := Tryz.f65) (by kernel_rfl) (by kernel_rfl) rfl (by kernel_rfl) (fun x => (FD.fn_eq _ _).trans (by kernel_rfl))
end
end Go.Proofs.YtjgjbdnjjepibaaGreatDoor
end

section
/-
YtjgjbdnjjepibaaGreatDoor: strings.HasPrefix, as one plain function, its equations, its contract. No condition.
-/
set_option maxRecDepth 100000
set_option linter.unusedVariables false
set_option maxHeartbeats 4000000
open Go Go.AM
namespace Go.Proofs.YtjgjbdnjjepibaaGreatDoor
noncomputable section
def strings_HasPrefix_D : FD := ⟨T, lookC [(112, fc112)], [], (Tryz.f96.body.getD .skip), Tryz.f96.results.toList, ⟨[.one .str, .one .str], []⟩, ⟨[.one .bool], []⟩, []⟩
def strings_HasPrefix (s : ByteArray) (prefix_ : ByteArray) : (Option ((Bool × Unit) × Unit)) :=
  (stringslite_HasPrefix s prefix_).bind fun y1 =>
    some ((y1.1.1, ()), ())
def fc96 : FC := ⟨⟨[.one .str, .one .str], []⟩, ⟨[.one .bool], []⟩, fun x => strings_HasPrefix x.1.1 x.1.2.1⟩
theorem con96 : Contract Tryz.prog 96 fc96 :=
  strings_HasPrefix_D.contract tok (cok_of (l := [(112, fc112)]) ⟨con112, trivial⟩) mixed (fn' := Tryz.f96) (by kernel_rfl) (by kernel_rfl) rfl (by kernel_rfl) (fun x => (FD.fn_eq _ _).trans (by kernel_rfl))
end
end Go.Proofs.YtjgjbdnjjepibaaGreatDoor
end

section
/-
YtjgjbdnjjepibaaGreatDoor: signalbench.lex.Number, as one plain function, its equations, its contract. No condition.
-/
set_option maxRecDepth 100000
set_option linter.unusedVariables false
set_option maxHeartbeats 4000000
open Go Go.AM
namespace Go.Proofs.YtjgjbdnjjepibaaGreatDoor
noncomputable section
def lex_Number_F2 : FSh := ⟨[(0, .one .str), (4, .one .bool)], []⟩
def lex_Number_F5 : FSh := ⟨[(0, .one .str), (4, .one .bool), (5, .one (.int .i64))], []⟩
def lex_Number_F13 : FSh := ⟨[(0, .one .str), (4, .one .bool), (5, .one (.int .i64)), (6, .one (.int .i64)), (34, .one (.int .i64)), (35, .one (.int .i64))], []⟩
def lex_Number_D : FD := ⟨T, lookC [(96, fc96), (97, fc97)], [5, 2], (Tryz.f66.body.getD .skip), Tryz.f66.results.toList, ⟨[.one .str], []⟩, ⟨[.one (.int .i64), .one (.int .i64)], []⟩, [(2, lex_Number_F2), (5, lex_Number_F5), (13, lex_Number_F13)]⟩
def lex_Number_l2 (s : ByteArray) (minus : Bool) : (Option ((Int × Int × Unit) × Unit)) := lex_Number_D.lab 2 lex_Number_F2 ((s, minus, ()), ())
def lex_Number_l5 (s : ByteArray) (minus : Bool) (base : Int) : (Option ((Int × Int × Unit) × Unit)) := lex_Number_D.lab 5 lex_Number_F5 ((s, minus, base, ()), ())
def lex_Number_l13 (s : ByteArray) (minus : Bool) (base : Int) (n : Int) (t34 : Int) (t35 : Int) : (Option ((Int × Int × Unit) × Unit)) := lex_Number_D.lab 13 lex_Number_F13 ((s, minus, base, n, t34, t35, ()), ())
theorem lex_Number_l2_eq (s : ByteArray) (minus : Bool) : lex_Number_l2 s minus =
  (strings_HasPrefix s (strB [48, 120])).bind fun y1 =>
    if y1.1.1 = true then
      if 0 ≤ (2 : Int) ∧ 2 ≤ (s.size : Int) then
        lex_Number_l5 (s.extract 2 s.size) minus 16
      else
        none
    else
      lex_Number_l5 s minus 10 := (FD.lab_eq _ _ _ _).trans (by kernel_rfl)
theorem lex_Number_l5_eq (s : ByteArray) (minus : Bool) (base : Int) : lex_Number_l5 s minus base =
  if (s.toList == (strB []).toList) = true then
    some ((0, 4, ()), ())
  else
    if 0 ≤ (0 : Int) ∧ 0 < (s.size : Int) then
      if ((bt s 0) == 48) = true then
        if minus = true then
          some ((0, 4, ()), ())
        else
          if (decide ((s.size : Int) > 1)) = true then
            some ((0, 4, ()), ())
          else
            lex_Number_l13 s minus base 0 (s.size : Int) 0
      else
        lex_Number_l13 s minus base 0 (s.size : Int) 0
    else
      none := (FD.lab_eq _ _ _ _).trans (by kernel_rfl)
theorem lex_Number_l13_eq (s : ByteArray) (minus : Bool) (base : Int) (n : Int) (t34 : Int) (t35 : Int) : lex_Number_l13 s minus base n t34 t35 =
  if (decide (t35 < t34)) = true then
    if 0 ≤ t35 ∧ t35 < (s.size : Int) then
      (lex_hex (bt s t35)).bind fun y1 =>
        if (decide (y1.1.1 < 0)) = true then
          some ((0, 4, ()), ())
        else
          if (decide (y1.1.1 ≥ base)) = true then
            some ((0, 4, ()), ())
          else
            lex_Number_l13 s minus base (if (9007199254740993 : Int) < IntKind.i64.wrap ((IntKind.i64.wrap (base * n)) + y1.1.1) then 9007199254740993 else IntKind.i64.wrap ((IntKind.i64.wrap (base * n)) + y1.1.1)) t34 (IntKind.i64.wrap (t35 + 1))
    else
      none
  else
    if (decide (n > 9007199254740992)) = true then
      some ((0, 2, ()), ())
    else
      if minus = true then
        some ((IntKind.i64.wrap (0 - n), 0, ()), ())
      else
        some ((n, 0, ()), ()) := (FD.lab_eq _ _ _ _).trans (by kernel_rfl)
def lex_Number (s : ByteArray) : (Option ((Int × Int × Unit) × Unit)) :=
  (strings_HasPrefix s (strB [45])).bind fun y1 =>
    if y1.1.1 = true then
      if 0 ≤ (1 : Int) ∧ 1 ≤ (s.size : Int) then
        lex_Number_l2 (s.extract 1 s.size) y1.1.1
      else
        none
    else
      lex_Number_l2 s y1.1.1
def fc66 : FC := ⟨⟨[.one .str], []⟩, ⟨[.one (.int .i64), .one (.int .i64)], []⟩, fun x => lex_Number x.1.1⟩
theorem con66 : Contract Tryz.prog 66 fc66 :=
  lex_Number_D.contract tok (cok_of (l := [(96, fc96), (97, fc97)]) ⟨con96, con97, trivial⟩) mixed (fn' := Tryz.f66) (by kernel_rfl) (by kernel_rfl) rfl (by kernel_rfl) (fun x => (FD.fn_eq _ _).trans (by kernel_rfl))
end
end Go.Proofs.YtjgjbdnjjepibaaGreatDoor
end

section
/-
YtjgjbdnjjepibaaGreatDoor: strings.Builder's copyCheck and String, by walks; their contracts. No condition.
-/
open Go Go.AM Go.RowKit
set_option maxRecDepth 1000000
namespace Go.Proofs.YtjgjbdnjjepibaaGreatDoor
section
variable [Inhabited ZMem]

theorem cc_used (b : Nat) (w : World) (h0 : w.cell? ⟨b, 0, none⟩ = some (.pointer (some ⟨b, 0, none⟩))) :
    Calls Tryz.prog 69 #[.pointer (some ⟨b, 0, none⟩)] w fun e w' => e = .returned (.tuple #[]) ∧ w' = w := by
  obtain ⟨j, hj, _⟩ := Option.map_eq_some_iff.1 (show (Tryz.prog.info? 81).map (·.size) = some 2 by kernel_rfl)
  go_enter Tryz.func69, Tryz.ntmps69
  go_wp2
  rw [Lib.run_neq_ptr_same w _ Tryz.underlying78 hj]
  go_wp2
  go_end0
  exact ⟨rfl, rfl⟩

theorem cc_fresh (b : Nat) (w : World) (h0 : w.cell? ⟨b, 0, none⟩ = some (.pointer none)) (hsh : w.shape? b = some (81, 2)) (hfz : w.frozen? ⟨b, 0, none⟩ = false) :
    Calls Tryz.prog 69 #[.pointer (some ⟨b, 0, none⟩)] w fun e w' => e = .returned (.tuple #[]) ∧ w' = w.setCell ⟨b, 0, none⟩ (.pointer (some ⟨b, 0, none⟩)) := by
  obtain ⟨j, hj, hjs⟩ := Option.map_eq_some_iff.1 (show (Tryz.prog.info? 81).map (·.size) = some 2 by kernel_rfl)
  go_enter Tryz.func69, Tryz.ntmps69
  go_wp2
  rw [Lib.run_to_unsafe w ⟨b, 0, none⟩ Tryz.underlying78 Tryz.underlying131 hj (by rw [hjs]; decide) hsh (Nat.zero_lt_succ 1)]
  simp only [Result.andThen]
  rw [Oper.upon_value]
  go_wp2
  rw [run_callFunc_extern Tryz.func99 (by kernel_rfl) (by kernel_rfl) (by kernel_rfl) (e := Extern.AbiNoEscape.same) (by kernel_rfl)]
  rw [Lib.run_noEscape]
  simp only [Result.andThen]
  rw [Oper.upon_value]
  go_wp2
  rw [Lib.run_from_unsafe w ⟨b, 0, none⟩ Tryz.underlying131 Tryz.underlying78 hj hsh (show liesAt Tryz.prog Tryz.prog.depth 81 (2 / Tryz.prog.cellsOf 81) 0 81 1 = true by kernel_rfl)]
  simp only [Result.andThen]
  rw [Oper.upon_value]
  go_wp2
  go_end0
  exact ⟨rfl, rfl⟩

theorem st_row (b g p cap : Nat) (w : World) (cs cur : Array Value) (l : List UInt8) (h0 : l ≠ []) (hbk : w.heap[b]? = some (.cells cs 81 (0, 0))) (hc1 : cs[1]? = some (.slice (some ⟨g, p, none⟩) l.length cap))
    (hg : w.heap[g]? = some (.cells cur 5 (0, 0))) (hn : l.length ≤ cap) (hcap : p + cap ≤ cur.size) (hm : cap ≤ maxLen)
    (hcell : ∀ j x, l[j]? = some x → w.cell? ((⟨g, p, none⟩ : Addr).add j) = some (.int .u8 x.toNat)) :
    Calls Tryz.prog 45 #[.pointer (some ⟨b, 0, none⟩)] w fun e w' => e = .returned (.string ⟨l.toArray⟩) ∧ w' = w.drew.freeze ⟨g, p, none⟩ l.length := by
  have hl0 : l.length ≠ 0 := by simpa using h0
  have c1 : w.drew.cell? ⟨b, 1, none⟩ = some (.slice (some ⟨g, p, none⟩) l.length cap) := by
    have : w.drew.heap[b]? = some (.cells cs 81 (0, 0)) := hbk
    rw [Lib.cell_of_heap this]; exact hc1
  have hSD : (Builtin.unsafeSliceData_ #[79] 113 #[.slice (some ⟨g, p, none⟩) l.length cap]).run Tryz.prog w.drew = .ok (.pointer (some ⟨g, p, none⟩)) w.drew :=
    Lib.run_unsafeSliceData_row _ _ _ _ _ _ (by omega)
  have hUS : (Builtin.unsafeString_ #[113, 3] 9 #[.pointer (some ⟨g, p, none⟩), .int .i64 l.length]).run Tryz.prog w.drew = .ok (.string ⟨l.toArray⟩) (w.drew.freeze ⟨g, p, none⟩ l.length) :=
    run_unsafeString_at w.drew 113 3 9 5 Tryz.underlying113 (by kernel_rfl) g p cur.size (by have hg' : w.drew.heap[g]? = some (.cells cur 5 (0, 0)) := hg; simp [World.shape?, hg']) l h0 (by omega) (by unfold maxLen at hm; omega) hcell
  clear hl0 hn hcap hm hcell
  go_enter Tryz.func45, Tryz.ntmps45
  go_wp2
  go_region
  all_goals (go_wp2; go_ret; exact ⟨rfl, rfl⟩)

theorem st_nil (b : Nat) (w : World) (cs : Array Value) (hbk : w.heap[b]? = some (.cells cs 81 (0, 0))) (hc1 : cs[1]? = some (.slice none 0 0)) :
    Calls Tryz.prog 45 #[.pointer (some ⟨b, 0, none⟩)] w fun e w' => e = .returned (.string .empty) ∧ w' = w.drew := by
  have hUS := Lib.run_unsafeString_none (P := Tryz.prog) w.drew 113 3 9 none
  have c1 : w.drew.cell? ⟨b, 1, none⟩ = some (.slice none 0 0) := by
    have : w.drew.heap[b]? = some (.cells cs 81 (0, 0)) := hbk
    rw [Lib.cell_of_heap this]; exact hc1
  have hSD : (Builtin.unsafeSliceData_ #[79] 113 #[.slice none 0 0]).run Tryz.prog w.drew = .ok (.pointer none) w.drew := rfl
  go_enter Tryz.func45, Tryz.ntmps45
  go_wp2
  go_region
  all_goals (go_wp2; go_ret; exact ⟨rfl, rfl⟩)

theorem st_room (b g p cap : Nat) (hcap : cap ≠ 0) (w : World) (cs : Array Value) (hbk : w.heap[b]? = some (.cells cs 81 (0, 0))) (hc1 : cs[1]? = some (.slice (some ⟨g, p, none⟩) 0 cap)) :
    Calls Tryz.prog 45 #[.pointer (some ⟨b, 0, none⟩)] w fun e w' => e = .returned (.string .empty) ∧ w' = w.drew := by
  have hUS := Lib.run_unsafeString_none (P := Tryz.prog) w.drew 113 3 9 (some ⟨g, p, none⟩)
  have c1 : w.drew.cell? ⟨b, 1, none⟩ = some (.slice (some ⟨g, p, none⟩) 0 cap) := by
    have : w.drew.heap[b]? = some (.cells cs 81 (0, 0)) := hbk
    rw [Lib.cell_of_heap this]; exact hc1
  have hSD : (Builtin.unsafeSliceData_ #[79] 113 #[.slice (some ⟨g, p, none⟩) 0 cap]).run Tryz.prog w.drew = .ok (.pointer (some ⟨g, p, none⟩)) w.drew :=
    Lib.run_unsafeSliceData_row _ _ _ _ _ _ hcap
  clear hcap
  go_enter Tryz.func45, Tryz.ntmps45
  go_wp2
  go_region
  all_goals (go_wp2; go_ret; exact ⟨rfl, rfl⟩)

theorem st_noroom (b g p : Nat) (w : World) (cs cur : Array Value) (hbk : w.heap[b]? = some (.cells cs 81 (0, 0))) (hc1 : cs[1]? = some (.slice (some ⟨g, p, none⟩) 0 0))
    (hg : w.heap[g]? = some (.cells cur 5 (0, 0))) :
    Calls Tryz.prog 45 #[.pointer (some ⟨b, 0, none⟩)] w fun e w' => e = .returned (.string .empty) ∧ w' = w.drew.alloc (.view ⟨g, p, none⟩ 5) := by
  have hlt : b < w.heap.size := by
    rcases Nat.lt_or_ge b w.heap.size with h' | h'
    · exact h'
    · simp [Array.getElem?_eq_none h'] at hbk
  have hUS := Lib.run_unsafeString_none (P := Tryz.prog) (w.drew.alloc (.view ⟨g, p, none⟩ 5)) 113 3 9 (some ⟨w.drew.heap.size, 0, none⟩)
  have hUS2 : (Builtin.unsafeString_ #[113, 3] 9 #[.pointer (some ⟨w.heap.size, 0, none⟩), .int .i64 0]).run Tryz.prog (w.alloc (.view ⟨g, p, none⟩ 5)).drew = .ok (.string .empty) (w.alloc (.view ⟨g, p, none⟩ 5)).drew := Lib.run_unsafeString_none _ 113 3 9 _
  have c1 : w.drew.cell? ⟨b, 1, none⟩ = some (.slice (some ⟨g, p, none⟩) 0 0) := by
    have : w.drew.heap[b]? = some (.cells cs 81 (0, 0)) := hbk
    rw [Lib.cell_of_heap this]; exact hc1
  have hSD : (Builtin.unsafeSliceData_ #[79] 113 #[.slice (some ⟨g, p, none⟩) 0 0]).run Tryz.prog w.drew = .ok (.pointer (some ⟨w.drew.heap.size, 0, none⟩)) (w.drew.alloc (.view ⟨g, p, none⟩ 5)) :=
    Lib.run_unsafeSliceData_zero w.drew _ _ 5 Tryz.underlying113 ⟨g, p, none⟩ 0 (5, cur.size) (by have hg' : w.drew.heap[g]? = some (.cells cur 5 (0, 0)) := hg; simp [World.shape?, hg'])
  have c2 : (w.drew.alloc (.view ⟨g, p, none⟩ 5)).cell? ⟨b, 1, none⟩ = some (.slice (some ⟨g, p, none⟩) 0 0) := by
    have : (w.drew.alloc (.view ⟨g, p, none⟩ 5)).heap[b]? = _ := (Lib.alloc_old w.drew _ b hlt).trans hbk
    rw [Lib.cell_of_heap this]; exact hc1
  have c3 : (w.alloc (.view ⟨g, p, none⟩ 5)).drew.cell? ⟨b, 1, none⟩ = some (.slice (some ⟨g, p, none⟩) 0 0) := c2
  have c0 : w.cell? ⟨b, 1, none⟩ = some (.slice (some ⟨g, p, none⟩) 0 0) := c1
  go_enter Tryz.func45, Tryz.ntmps45
  go_wp2
  go_region
  all_goals (go_wp2; go_ret; exact ⟨rfl, rfl⟩)

def strings_Builder_copyCheck (l : List Int) : Option (Unit × ((Unit × Unit × Unit) × List Int × Unit)) := some ((), (((), (), ()), l, ()))
def fc69 : FC := ⟨⟨[.one (.ptr 0 0)], bShape 81 5⟩, ⟨[], bShape 81 5⟩, fun x => strings_Builder_copyCheck x.2.2.1⟩
theorem con69 : Contract Tryz.prog 69 fc69 :=
  Contract.copyCheck (fn := Tryz.f69) (c := Tryz.f69.body.getD .skip) Tryz.func69 (by kernel_rfl) (by kernel_rfl) (fun b w h => cc_used b w h) (fun b w h h' h'' => cc_fresh b w h h' h'')

def strings_Builder_String (l : List Int) : Option ((ByteArray × Unit) × (Unit × Unit × Unit)) := if byteL l = true then some ((strOfBytes l, ()), ((), (), ())) else none
def fc45 : FC := ⟨⟨[.one (.ptr 0 0)], bShape 81 5⟩, ⟨[.one .str], [.dead, .dead]⟩, fun x => strings_Builder_String x.2.2.1⟩
theorem con45 : Contract Tryz.prog 45 fc45 :=
  Contract.bString (fn := Tryz.f45) (c := Tryz.f45.body.getD .skip) Tryz.func45 (by kernel_rfl) (by kernel_rfl) (fun b w cs h h' => st_nil b w cs h h') (fun b g p cap hc w cs h h' => st_room b g p cap hc w cs h h')
    (fun b g p w cs cur h h' h'' => st_noroom b g p w cs cur h h' h'') (fun b g p cap w cs cur l h1 h2 h3 h4 h5 h6 h7 h8 => st_row b g p cap w cs cur l h1 h2 h3 h4 h5 h6 h7 h8)

end
end Go.Proofs.YtjgjbdnjjepibaaGreatDoor
end

section
/-
YtjgjbdnjjepibaaGreatDoor: (*strings.Builder).WriteByte, as one plain function, its equations, its contract. No condition.
-/
set_option maxRecDepth 100000
set_option linter.unusedVariables false
set_option maxHeartbeats 4000000
open Go Go.AM
namespace Go.Proofs.YtjgjbdnjjepibaaGreatDoor
noncomputable section
def strings_Builder_WriteByte_D : FD := ⟨T, lookC [(69, fc69)], [], (Tryz.f42.body.getD .skip), Tryz.f42.results.toList, ⟨[.one (.ptr 0 0), .one (.int .u8)], [.box 81 [(.oself 0), (.own 1)], .arr 5 (.int .u8) true]⟩, ⟨[.one .junk], [.box 81 [(.oself 0), (.own 2)], .dead, .arr 5 (.int .u8) true]⟩, []⟩
def strings_Builder_WriteByte (c : Int) (l1 : (List Int)) : (Option ((Unit × Unit) × ((Unit × Unit × Unit) × Unit × (List Int) × Unit))) :=
  (strings_Builder_copyCheck l1).bind fun y1 =>
    if (y1.2.2.1.length + 1) * 1 ≤ 140737488355328 ∧ 0 < 1 then
      some (((), ()), (((), (), ()), (), y1.2.2.1 ++ [c], ()))
    else
      none
def fc42 : FC := ⟨⟨[.one (.ptr 0 0), .one (.int .u8)], [.box 81 [(.oself 0), (.own 1)], .arr 5 (.int .u8) true]⟩, ⟨[.one .junk], [.box 81 [(.oself 0), (.own 2)], .dead, .arr 5 (.int .u8) true]⟩, fun x => strings_Builder_WriteByte x.1.2.1 x.2.2.1⟩
theorem con42 : Contract Tryz.prog 42 fc42 :=
  strings_Builder_WriteByte_D.contract tok (cok_of (l := [(69, fc69)]) ⟨con69, trivial⟩) mixed (fn' := Tryz.f42) (by kernel_rfl) (by kernel_rfl) rfl (by kernel_rfl) (fun x => (FD.fn_eq _ _).trans (by kernel_rfl))
end
end Go.Proofs.YtjgjbdnjjepibaaGreatDoor
end

section
/-
YtjgjbdnjjepibaaGreatDoor: (*strings.Builder).WriteString, as one plain function, its equations, its contract. No condition.
-/
set_option maxRecDepth 100000
set_option linter.unusedVariables false
set_option maxHeartbeats 4000000
open Go Go.AM
namespace Go.Proofs.YtjgjbdnjjepibaaGreatDoor
noncomputable section
def strings_Builder_WriteString_D : FD := ⟨T, lookC [(69, fc69)], [], (Tryz.f43.body.getD .skip), Tryz.f43.results.toList, ⟨[.one (.ptr 0 0), .one .str], [.box 81 [(.oself 0), (.own 1)], .arr 5 (.int .u8) true]⟩, ⟨[.one (.int .i64), .one .junk], [.box 81 [(.oself 0), (.own 2)], .dead, .arr 5 (.int .u8) true]⟩, []⟩
def strings_Builder_WriteString (s : ByteArray) (l1 : (List Int)) : (Option ((Int × Unit × Unit) × ((Unit × Unit × Unit) × Unit × (List Int) × Unit))) :=
  (strings_Builder_copyCheck l1).bind fun y1 =>
    if (y1.2.2.1.length + (bytesOfStr s).length) * 1 ≤ 140737488355328 ∧ 0 < 1 then
      some (((s.size : Int), (), ()), (((), (), ()), (), y1.2.2.1 ++ (bytesOfStr s), ()))
    else
      none
def fc43 : FC := ⟨⟨[.one (.ptr 0 0), .one .str], [.box 81 [(.oself 0), (.own 1)], .arr 5 (.int .u8) true]⟩, ⟨[.one (.int .i64), .one .junk], [.box 81 [(.oself 0), (.own 2)], .dead, .arr 5 (.int .u8) true]⟩, fun x => strings_Builder_WriteString x.1.2.1 x.2.2.1⟩
theorem con43 : Contract Tryz.prog 43 fc43 :=
  strings_Builder_WriteString_D.contract tok (cok_of (l := [(69, fc69)]) ⟨con69, trivial⟩) mixed (fn' := Tryz.f43) (by kernel_rfl) (by kernel_rfl) rfl (by kernel_rfl) (fun x => (FD.fn_eq _ _).trans (by kernel_rfl))
end
end Go.Proofs.YtjgjbdnjjepibaaGreatDoor
end

section
/-
YtjgjbdnjjepibaaGreatDoor: signalbench.lex.plain, as one plain function, its equations, its contract. No condition.
-/
set_option maxRecDepth 100000
set_option linter.unusedVariables false
set_option maxHeartbeats 4000000
open Go Go.AM
namespace Go.Proofs.YtjgjbdnjjepibaaGreatDoor
noncomputable section
def lex_plain_D : FD := ⟨T, lookC [], [], (Tryz.f98.body.getD .skip), Tryz.f98.results.toList, ⟨[.one (.int .i32)], []⟩, ⟨[.one .bool], []⟩, []⟩
def lex_plain (c : Int) : (Option ((Bool × Unit) × Unit)) :=
  if (decide ((32 : Int) ≤ c)) = true then
    if (decide (c ≤ 126)) = true then
      if (c != 34) = true then
        some ((c != 92, ()), ())
      else
        some ((false, ()), ())
    else
      some ((false, ()), ())
  else
    some ((false, ()), ())
def fc98 : FC := ⟨⟨[.one (.int .i32)], []⟩, ⟨[.one .bool], []⟩, fun x => lex_plain x.1.1⟩
theorem con98 : Contract Tryz.prog 98 fc98 :=
  lex_plain_D.contract tok (cok_of (l := []) trivial) mixed (fn' := Tryz.f98) (by kernel_rfl) (by kernel_rfl) rfl (by kernel_rfl) (fun x => (FD.fn_eq _ _).trans (by kernel_rfl))
end
end Go.Proofs.YtjgjbdnjjepibaaGreatDoor
end

section
/-
YtjgjbdnjjepibaaGreatDoor: signalbench.lex.Quote, as one plain function, its equations, its contract. No condition.
-/
set_option maxRecDepth 100000
set_option linter.unusedVariables false
set_option maxHeartbeats 4000000
open Go Go.AM
namespace Go.Proofs.YtjgjbdnjjepibaaGreatDoor
noncomputable section
def lex_Quote_F5 : FSh := ⟨[(0, .one .str), (3, .one (.ptr 0 0)), (8, .one (.int .i64)), (9, .one (.int .i64))], [.box 81 [(.oself 0), (.own 1)], .arr 5 (.int .u8) true]⟩
def lex_Quote_D : FD := ⟨T, lookC [(42, fc42), (43, fc43), (45, fc45), (98, fc98)], [], (Tryz.f67.body.getD .skip), Tryz.f67.results.toList, ⟨[.one .str], []⟩, ⟨[.one .str], []⟩, [(5, lex_Quote_F5)]⟩
def lex_Quote_l5 (s : ByteArray) (t8 : Int) (t9 : Int) (l1 : (List Int)) : (Option ((ByteArray × Unit) × Unit)) := lex_Quote_D.lab 5 lex_Quote_F5 ((s, (), t8, t9, ()), (((), (), ()), l1, ()))
theorem lex_Quote_l5_eq (s : ByteArray) (t8 : Int) (t9 : Int) (l1 : (List Int)) : lex_Quote_l5 s t8 t9 l1 =
  if (decide (t9 < t8)) = true then
    if 0 ≤ t9 ∧ t9 < (s.size : Int) then
      (lex_plain (IntKind.i32.wrap (bt s t9))).bind fun y1 =>
        if y1.1.1 = true then
          (strings_Builder_WriteByte (bt s t9) l1).bind fun y2 =>
            lex_Quote_l5 s t8 (IntKind.i64.wrap (t9 + 1)) y2.2.2.2.1
        else
          if ((bt s t9) == 34) = true then
            (strings_Builder_WriteByte 92 l1).bind fun y3 =>
              (strings_Builder_WriteByte (bt s t9) y3.2.2.2.1).bind fun y4 =>
                lex_Quote_l5 s t8 (IntKind.i64.wrap (t9 + 1)) y4.2.2.2.1
          else
            if ((bt s t9) == 92) = true then
              (strings_Builder_WriteByte 92 l1).bind fun y5 =>
                (strings_Builder_WriteByte (bt s t9) y5.2.2.2.1).bind fun y6 =>
                  lex_Quote_l5 s t8 (IntKind.i64.wrap (t9 + 1)) y6.2.2.2.1
            else
              if ((bt s t9) == 10) = true then
                (strings_Builder_WriteString (strB [92, 110]) l1).bind fun y7 =>
                  lex_Quote_l5 s t8 (IntKind.i64.wrap (t9 + 1)) y7.2.2.2.1
              else
                (strings_Builder_WriteString (strB [92, 120]) l1).bind fun y8 =>
                  if 0 ≤ (bt s t9).fdiv 16 ∧ (bt s t9).fdiv 16 < ((strB [48, 49, 50, 51, 52, 53, 54, 55, 56, 57, 97, 98, 99, 100, 101, 102]).size : Int) then
                    (strings_Builder_WriteByte (bt (strB [48, 49, 50, 51, 52, 53, 54, 55, 56, 57, 97, 98, 99, 100, 101, 102]) ((bt s t9).fdiv 16)) y8.2.2.2.1).bind fun y9 =>
                      if 0 ≤ IntKind.u8.wrap (BitVec.ofInt 8 (bt s t9) &&& BitVec.ofInt 8 15).toNat ∧ IntKind.u8.wrap (BitVec.ofInt 8 (bt s t9) &&& BitVec.ofInt 8 15).toNat < ((strB [48, 49, 50, 51, 52, 53, 54, 55, 56, 57, 97, 98, 99, 100, 101, 102]).size : Int) then
                        (strings_Builder_WriteByte (bt (strB [48, 49, 50, 51, 52, 53, 54, 55, 56, 57, 97, 98, 99, 100, 101, 102]) (IntKind.u8.wrap (BitVec.ofInt 8 (bt s t9) &&& BitVec.ofInt 8 15).toNat)) y9.2.2.2.1).bind fun y10 =>
                          lex_Quote_l5 s t8 (IntKind.i64.wrap (t9 + 1)) y10.2.2.2.1
                      else
                        none
                  else
                    none
    else
      none
  else
    (strings_Builder_WriteByte 34 l1).bind fun y11 =>
      (strings_Builder_String y11.2.2.2.1).bind fun y12 =>
        some ((y12.1.1, ()), ()) := (FD.lab_eq _ _ _ _).trans (by kernel_rfl)
def lex_Quote (s : ByteArray) : (Option ((ByteArray × Unit) × Unit)) :=
  (strings_Builder_WriteByte 34 []).bind fun y1 =>
    lex_Quote_l5 s (s.size : Int) 0 y1.2.2.2.1
def fc67 : FC := ⟨⟨[.one .str], []⟩, ⟨[.one .str], []⟩, fun x => lex_Quote x.1.1⟩
theorem con67 : Contract Tryz.prog 67 fc67 :=
  lex_Quote_D.contract tok (cok_of (l := [(42, fc42), (43, fc43), (45, fc45), (98, fc98)]) ⟨con42, con43, con45, con98, trivial⟩) mixed (fn' := Tryz.f67) (by kernel_rfl) (by kernel_rfl) rfl (by kernel_rfl) (fun x => (FD.fn_eq _ _).trans (by kernel_rfl))
end
end Go.Proofs.YtjgjbdnjjepibaaGreatDoor
end

section
/-
YtjgjbdnjjepibaaGreatDoor: signalbench.lex.mark, as one plain function, its equations, its contract. No condition.
-/
set_option maxRecDepth 100000
set_option linter.unusedVariables false
set_option maxHeartbeats 4000000
open Go Go.AM
namespace Go.Proofs.YtjgjbdnjjepibaaGreatDoor
noncomputable section
def lex_mark_D : FD := ⟨T, lookC [], [], (Tryz.f68.body.getD .skip), Tryz.f68.results.toList, ⟨[.one (.int .i32)], []⟩, ⟨[.one .bool], []⟩, []⟩
def lex_mark (c : Int) : (Option ((Bool × Unit) × Unit)) :=
  if (c == 40) = true then
    some ((true, ()), ())
  else
    if (c == 41) = true then
      some ((true, ()), ())
    else
      if (c == 91) = true then
        some ((true, ()), ())
      else
        if (c == 93) = true then
          some ((true, ()), ())
        else
          if (c == 123) = true then
            some ((true, ()), ())
          else
            if (c == 125) = true then
              some ((true, ()), ())
            else
              if (c == 60) = true then
                some ((true, ()), ())
              else
                if (c == 62) = true then
                  some ((true, ()), ())
                else
                  if (c == 61) = true then
                    some ((true, ()), ())
                  else
                    if (c == 44) = true then
                      some ((true, ()), ())
                    else
                      if (c == 59) = true then
                        some ((true, ()), ())
                      else
                        if (c == 58) = true then
                          some ((true, ()), ())
                        else
                          if (c == 46) = true then
                            some ((true, ()), ())
                          else
                            if (c == 47) = true then
                              some ((true, ()), ())
                            else
                              if (c == 42) = true then
                                some ((true, ()), ())
                              else
                                if (c == 43) = true then
                                  some ((true, ()), ())
                                else
                                  if (c == 33) = true then
                                    some ((true, ()), ())
                                  else
                                    if (c == 38) = true then
                                      some ((true, ()), ())
                                    else
                                      if (c == 124) = true then
                                        some ((true, ()), ())
                                      else
                                        some ((false, ()), ())
def fc68 : FC := ⟨⟨[.one (.int .i32)], []⟩, ⟨[.one .bool], []⟩, fun x => lex_mark x.1.1⟩
theorem con68 : Contract Tryz.prog 68 fc68 :=
  lex_mark_D.contract tok (cok_of (l := []) trivial) mixed (fn' := Tryz.f68) (by kernel_rfl) (by kernel_rfl) rfl (by kernel_rfl) (fun x => (FD.fn_eq _ _).trans (by kernel_rfl))
end
end Go.Proofs.YtjgjbdnjjepibaaGreatDoor
end

section
/-
YtjgjbdnjjepibaaGreatDoor: signalbench.lex.form, as one plain function, its equations, its contract. No condition.
-/
set_option maxRecDepth 100000
set_option linter.unusedVariables false
set_option maxHeartbeats 4000000
open Go Go.AM
namespace Go.Proofs.YtjgjbdnjjepibaaGreatDoor
noncomputable section
def lex_form_D : FD := ⟨T, lookC [(39, fc39), (65, fc65), (66, fc66), (67, fc67), (68, fc68)], [], (Tryz.f41.body.getD .skip), Tryz.f41.results.toList, ⟨[.row (.cons (.int .i64) (.cons .str (.cons (.int .i64) (.int .i64))))], []⟩, ⟨[.one .str, .one .bool], []⟩, []⟩
def lex_form (t : TToken) : (Option ((ByteArray × Bool × Unit) × Unit)) :=
  if (t.1 == 1) = true then
    (lex_Name t.2.1).bind fun y1 =>
      if y1.1.1 = true then
        some ((t.2.1, t.2.2.1 == 0, ()), ())
      else
        some ((t.2.1, false, ()), ())
  else
    if (t.1 == 2) = true then
      (lex_Number t.2.1).bind fun y2 =>
        (strconv_Itoa t.2.2.1).bind fun y3 =>
          if (y2.1.2.1 == 0) = true then
            some ((y3.1.1, y2.1.1 == t.2.2.1, ()), ())
          else
            some ((y3.1.1, false, ()), ())
    else
      if (t.1 == 3) = true then
        (lex_Quote t.2.1).bind fun y4 =>
          some ((y4.1.1, t.2.2.1 == 0, ()), ())
      else
        if (t.1 == 4) = true then
          if ((t.2.1.size : Int) == 1) = true then
            if 0 ≤ (0 : Int) ∧ 0 < (t.2.1.size : Int) then
              (lex_mark (IntKind.i32.wrap (bt t.2.1 0))).bind fun y5 =>
                if y5.1.1 = true then
                  some ((t.2.1, t.2.2.1 == 0, ()), ())
                else
                  some ((t.2.1, false, ()), ())
            else
              none
          else
            some ((t.2.1, false, ()), ())
        else
          some (((strB []), false, ()), ())
def fc41 : FC := ⟨⟨[.row (.cons (.int .i64) (.cons .str (.cons (.int .i64) (.int .i64))))], []⟩, ⟨[.one .str, .one .bool], []⟩, fun x => lex_form x.1.1⟩
theorem con41 : Contract Tryz.prog 41 fc41 :=
  lex_form_D.contract tok (cok_of (l := [(39, fc39), (65, fc65), (66, fc66), (67, fc67), (68, fc68)]) ⟨con39, con65, con66, con67, con68, trivial⟩) mixed (fn' := Tryz.f41) (by kernel_rfl) (by kernel_rfl) rfl (by kernel_rfl) (fun x => (FD.fn_eq _ _).trans (by kernel_rfl))
end
end Go.Proofs.YtjgjbdnjjepibaaGreatDoor
end

section
/-
YtjgjbdnjjepibaaGreatDoor: (*strings.Builder).Len, as one plain function, its equations, its contract. No condition.
-/
set_option maxRecDepth 100000
set_option linter.unusedVariables false
set_option maxHeartbeats 4000000
open Go Go.AM
namespace Go.Proofs.YtjgjbdnjjepibaaGreatDoor
noncomputable section
def strings_Builder_Len_D : FD := ⟨T, lookC [], [], (Tryz.f44.body.getD .skip), Tryz.f44.results.toList, ⟨[.one (.ptr 0 0)], [.box 81 [(.oself 0), (.own 1)], .arr 5 (.int .u8) true]⟩, ⟨[.one (.int .i64)], [.box 81 [(.oself 0), (.own 2)], .dead, .arr 5 (.int .u8) true]⟩, []⟩
def strings_Builder_Len (l1 : (List Int)) : (Option ((Int × Unit) × ((Unit × Unit × Unit) × Unit × (List Int) × Unit))) :=
  some (((l1.length : Int), ()), (((), (), ()), (), l1, ()))
def fc44 : FC := ⟨⟨[.one (.ptr 0 0)], [.box 81 [(.oself 0), (.own 1)], .arr 5 (.int .u8) true]⟩, ⟨[.one (.int .i64)], [.box 81 [(.oself 0), (.own 2)], .dead, .arr 5 (.int .u8) true]⟩, fun x => strings_Builder_Len x.2.2.1⟩
theorem con44 : Contract Tryz.prog 44 fc44 :=
  strings_Builder_Len_D.contract tok (cok_of (l := []) trivial) mixed (fn' := Tryz.f44) (by kernel_rfl) (by kernel_rfl) rfl (by kernel_rfl) (fun x => (FD.fn_eq _ _).trans (by kernel_rfl))
end
end Go.Proofs.YtjgjbdnjjepibaaGreatDoor
end

section
/-
YtjgjbdnjjepibaaGreatDoor: signalbench.lex.Text, as one plain function, its equations, its contract. No condition.
-/
set_option maxRecDepth 100000
set_option linter.unusedVariables false
set_option maxHeartbeats 4000000
open Go Go.AM
namespace Go.Proofs.YtjgjbdnjjepibaaGreatDoor
noncomputable section
def lex_Text_F4 : FSh := ⟨[(0, .one (.sl (.cons (.int .i64) (.cons .str (.cons (.int .i64) (.int .i64)))))), (4, .one (.ptr 0 0)), (9, .one (.int .i64)), (10, .one (.int .i64))], [.box 81 [(.oself 0), (.own 1)], .arr 5 (.int .u8) true]⟩
def lex_Text_D : FD := ⟨T, lookC [(41, fc41), (42, fc42), (43, fc43), (44, fc44), (45, fc45)], [], (Tryz.f22.body.getD .skip), Tryz.f22.results.toList, ⟨[.one (.sl (.cons (.int .i64) (.cons .str (.cons (.int .i64) (.int .i64)))))], []⟩, ⟨[.one .str, .one (.int .i64)], []⟩, [(4, lex_Text_F4)]⟩
def lex_Text_l4 (l : (List TToken)) (t9 : Int) (t10 : Int) (l1 : (List Int)) : (Option ((ByteArray × Int × Unit) × Unit)) := lex_Text_D.lab 4 lex_Text_F4 ((l, (), t9, t10, ()), (((), (), ()), l1, ()))
theorem lex_Text_l4_eq (l : (List TToken)) (t9 : Int) (t10 : Int) (l1 : (List Int)) : lex_Text_l4 l t9 t10 l1 =
  if (decide (t10 < t9)) = true then
    if 0 ≤ t10 ∧ t10 < (l.length : Int) then
      (lex_form (l.getD t10.toNat dToken)).bind fun y1 =>
        if (!y1.1.2.1) = true then
          some (((strB []), 1, ()), ())
        else
          if (decide (t10 > 0)) = true then
            (strings_Builder_WriteByte 32 l1).bind fun y2 =>
              (strings_Builder_WriteString y1.1.1 y2.2.2.2.1).bind fun y3 =>
                lex_Text_l4 l t9 (IntKind.i64.wrap (t10 + 1)) y3.2.2.2.1
          else
            (strings_Builder_WriteString y1.1.1 l1).bind fun y4 =>
              lex_Text_l4 l t9 (IntKind.i64.wrap (t10 + 1)) y4.2.2.2.1
    else
      none
  else
    (strings_Builder_Len l1).bind fun y5 =>
      if (decide (y5.1.1 > 1048576)) = true then
        some (((strB []), 6, ()), ())
      else
        (strings_Builder_String y5.2.2.2.1).bind fun y6 =>
          some ((y6.1.1, 0, ()), ()) := (FD.lab_eq _ _ _ _).trans (by kernel_rfl)
def lex_Text (l : (List TToken)) : (Option ((ByteArray × Int × Unit) × Unit)) :=
  lex_Text_l4 l (l.length : Int) 0 []
def fc22 : FC := ⟨⟨[.one (.sl (.cons (.int .i64) (.cons .str (.cons (.int .i64) (.int .i64)))))], []⟩, ⟨[.one .str, .one (.int .i64)], []⟩, fun x => lex_Text x.1.1⟩
theorem con22 : Contract Tryz.prog 22 fc22 :=
  lex_Text_D.contract tok (cok_of (l := [(41, fc41), (42, fc42), (43, fc43), (44, fc44), (45, fc45)]) ⟨con41, con42, con43, con44, con45, trivial⟩) mixed (fn' := Tryz.f22) (by kernel_rfl) (by kernel_rfl) rfl (by kernel_rfl) (fun x => (FD.fn_eq _ _).trans (by kernel_rfl))
end
end Go.Proofs.YtjgjbdnjjepibaaGreatDoor
end

section
/-
YtjgjbdnjjepibaaGreatDoor: signalbench.signalbenchref05.Right, as one plain function, its equations, its contract. No condition.
-/
set_option maxRecDepth 100000
set_option linter.unusedVariables false
set_option maxHeartbeats 4000000
open Go Go.AM
namespace Go.Proofs.YtjgjbdnjjepibaaGreatDoor
noncomputable section
def ref05_Right_D : FD := ⟨T, lookC [(46, fc46), (75, fc75), (76, fc76)], [], (Tryz.f48.body.getD .skip), Tryz.f48.results.toList, ⟨[.row (.cons (.int .i64) (.cons .str (.cons (.int .i64) (.int .i64))))], []⟩, ⟨[.one .bool], []⟩, []⟩
def ref05_Right (t : TToken) : (Option ((Bool × Unit) × Unit)) :=
  if (t.1 == 2) = true then
    (ref05_Number t.2.1).bind fun y1 =>
      if (y1.1.2.1 == 0) = true then
        some ((y1.1.1 == t.2.2.1, ()), ())
      else
        some ((false, ()), ())
  else
    if (t.2.2.1 != 0) = true then
      some ((false, ()), ())
    else
      if (t.1 == 1) = true then
        (ref05_Name t.2.1).bind fun y2 =>
          some ((y2.1.1, ()), ())
      else
        if (t.1 == 4) = true then
          if ((t.2.1.size : Int) == 1) = true then
            if 0 ≤ (0 : Int) ∧ 0 < (t.2.1.size : Int) then
              (ref05_Mark (bt t.2.1 0)).bind fun y3 =>
                some ((y3.1.1, ()), ())
            else
              none
          else
            some ((false, ()), ())
        else
          some ((t.1 == 3, ()), ())
def fc48 : FC := ⟨⟨[.row (.cons (.int .i64) (.cons .str (.cons (.int .i64) (.int .i64))))], []⟩, ⟨[.one .bool], []⟩, fun x => ref05_Right x.1.1⟩
theorem con48 : Contract Tryz.prog 48 fc48 :=
  ref05_Right_D.contract tok (cok_of (l := [(46, fc46), (75, fc75), (76, fc76)]) ⟨con46, con75, con76, trivial⟩) mixed (fn' := Tryz.f48) (by kernel_rfl) (by kernel_rfl) rfl (by kernel_rfl) (fun x => (FD.fn_eq _ _).trans (by kernel_rfl))
end
end Go.Proofs.YtjgjbdnjjepibaaGreatDoor
end
