/-
The plain functions of the program that the law DeclrunDirect reaches, that the program computes them, and what they come to. No condition.
-/
import Derived.Test.YtgjimkgehbppbaaRows
import Derived.Test.YtgjimkgehbppbaaChecked
import Derived.WalkKit
import Derived.Laws.RangeString
import Derived.Laws.RangeAny
import Derived.LoopTactic
import Derived.Below
import Derived.Test.YtgjimkgehbppbaaAm1
import Derived.Test.YtgjimkgehbppbaaAm2
import Derived.Test.YtgjimkgehbppbaaAm3
set_option linter.unusedVariables false
set_option linter.unusedSimpArgs false
set_option linter.unusedSectionVars false

section
/-
Ytgjimkgehbppbaa: the given measure of what is read is the machine's. No condition.
-/
namespace Go.Proofs.Ytgjimkgehbppbaa
open Go

mutual
theorem bulk_eq {H : Type} : ∀ d : DataW H, Rows.uptoBulk d = AM.bulkW d
  | .lit (.string _) => by simp [Rows.uptoBulk, AM.bulkW]
  | .lit (.bool _) => by simp [Rows.uptoBulk, AM.bulkW]
  | .lit (.int _ _) => by simp [Rows.uptoBulk, AM.bulkW]
  | .lit (.float _ _) => by simp [Rows.uptoBulk, AM.bulkW]
  | .lit .nil => by simp [Rows.uptoBulk, AM.bulkW]
  | .nil => by simp [Rows.uptoBulk, AM.bulkW]
  | .ptr d => by simp [Rows.uptoBulk, AM.bulkW, bulk_eq d]
  | .slice a b => by simp [Rows.uptoBulk, AM.bulkW, bulkAll_eq a, bulkAll_eq b]
  | .agg a => by simp [Rows.uptoBulk, AM.bulkW, bulkAll_eq a]
  | .iface _ d => by simp [Rows.uptoBulk, AM.bulkW, bulk_eq d]
  | .map es => by simp [Rows.uptoBulk, AM.bulkW, bulkEntries_eq es]
  | .held _ => by simp [Rows.uptoBulk, AM.bulkW]
theorem bulkAll_eq {H : Type} : ∀ l : List (DataW H), Rows.uptoBulkAll l = AM.bulkAll l
  | [] => by simp [Rows.uptoBulkAll, AM.bulkAll]
  | d :: r => by simp [Rows.uptoBulkAll, AM.bulkAll, bulk_eq d, bulkAll_eq r]
theorem bulkEntries_eq {H : Type} : ∀ l : List (Lit × DataW H), Rows.uptoBulkEntries l = AM.bulkEntries l
  | [] => by simp [Rows.uptoBulkEntries, AM.bulkEntries]
  | x :: r => by simp [Rows.uptoBulkEntries, AM.bulkEntries, bulkEntry_eq x, bulkEntries_eq r]
theorem bulkEntry_eq {H : Type} : ∀ x : Lit × DataW H, Rows.uptoBulkEntry x = AM.bulkEntry x
  | (.string _, d) => by simp [Rows.uptoBulkEntry, AM.bulkEntry, bulk_eq d]
  | (.bool _, d) => by simp [Rows.uptoBulkEntry, AM.bulkEntry, bulk_eq d]
  | (.int _ _, d) => by simp [Rows.uptoBulkEntry, AM.bulkEntry, bulk_eq d]
  | (.float _ _, d) => by simp [Rows.uptoBulkEntry, AM.bulkEntry, bulk_eq d]
  | (.nil, d) => by simp [Rows.uptoBulkEntry, AM.bulkEntry, bulk_eq d]
end

theorem bulk_bound {H : Type} {l : List (DataW H)} (hk : Rows.uptoSmall H l = true) : AM.bulkAll l ≤ 1048576 := by
  rw [← bulkAll_eq]
  exact of_decide_eq_true hk

theorem own : ownKnob Try.prog.godebug = none := by kernel_rfl
theorem laidOut : laidOutB Try.prog = true := by kernel_rfl

end Go.Proofs.Ytgjimkgehbppbaa
end

section
/-
Ytgjimkgehbppbaa: the types that the functions use. No condition.
-/
set_option maxRecDepth 100000
open Go Go.AM
namespace Go.Proofs.Ytgjimkgehbppbaa
noncomputable section
instance zoneI : Inhabited ZMem := noZone
abbrev TAct : Type := Int × Int
abbrev uAct : U := (.cons (.int .i64) (.int .i64))
def dAct : TAct := (0, 0)
abbrev TRule : Type := Int × Int × ByteArray × Bool × (List TAct)
abbrev uRule : U := (.cons (.int .i64) (.cons (.int .i64) (.cons .str (.cons .bool (.sl (.cons (.int .i64) (.int .i64)))))))
def dRule : TRule := (0, (0, ((strB []), (false, []))))
abbrev TDeclState : Type := ByteArray × (List TRule) × Bool × TRule
abbrev uDeclState : U := (.cons .str (.cons (.sl (.cons (.int .i64) (.cons (.int .i64) (.cons .str (.cons .bool (.sl (.cons (.int .i64) (.int .i64)))))))) (.cons .bool (.cons (.int .i64) (.cons (.int .i64) (.cons .str (.cons .bool (.sl (.cons (.int .i64) (.int .i64))))))))))
def dDeclState : TDeclState := ((strB []), ([], (false, dRule)))
abbrev TDecl : Type := ByteArray × Int × Int × (List TDeclState)
abbrev uDecl : U := (.cons .str (.cons (.int .i64) (.cons (.int .i64) (.sl (.cons .str (.cons (.sl (.cons (.int .i64) (.cons (.int .i64) (.cons .str (.cons .bool (.sl (.cons (.int .i64) (.int .i64)))))))) (.cons .bool (.cons (.int .i64) (.cons (.int .i64) (.cons .str (.cons .bool (.sl (.cons (.int .i64) (.int .i64))))))))))))))
def dDecl : TDecl := ((strB []), (0, (0, [])))
abbrev Tresult : Type := Int × (List TAct)
abbrev uresult : U := (.cons (.int .i64) (.sl (.cons (.int .i64) (.int .i64))))
def dresult : Tresult := (0, [])
abbrev TCell : Type := Int × Int × Tresult
abbrev uCell : U := (.cons (.int .i64) (.cons (.int .i64) (.cons (.int .i64) (.sl (.cons (.int .i64) (.int .i64))))))
def dCell : TCell := (0, (0, dresult))
abbrev TTable : Type := ByteArray × Int × Int × (List (List TCell))
abbrev uTable : U := (.cons .str (.cons (.int .i64) (.cons (.int .i64) (.sl (.sl (.cons (.int .i64) (.cons (.int .i64) (.cons (.int .i64) (.sl (.cons (.int .i64) (.int .i64)))))))))))
def dTable : TTable := ((strB []), (0, (0, [])))
abbrev TEvent : Type := Int × Int × Int × Int × Int × ByteArray × Int
abbrev uEvent : U := (.cons (.int .i64) (.cons (.int .i64) (.cons (.int .i64) (.cons (.int .i64) (.cons (.int .i64) (.cons .str (.int .i64)))))))
def dEvent : TEvent := (0, (0, (0, (0, (0, ((strB []), 0))))))
abbrev TState : Type := Int × Int × Int × Int × Int × Int × Int × ByteArray
abbrev uState : U := (.cons (.int .i64) (.cons (.int .i64) (.cons (.int .i64) (.cons (.int .i64) (.cons (.int .i64) (.cons (.int .i64) (.cons (.int .i64) .str)))))))
def dState : TState := (0, (0, (0, (0, (0, (0, (0, (strB []))))))))
abbrev Twork : Type := TState × TEvent × Int × (List TEvent)
abbrev uwork : U := (.cons (.cons (.int .i64) (.cons (.int .i64) (.cons (.int .i64) (.cons (.int .i64) (.cons (.int .i64) (.cons (.int .i64) (.cons (.int .i64) .str))))))) (.cons (.cons (.int .i64) (.cons (.int .i64) (.cons (.int .i64) (.cons (.int .i64) (.cons (.int .i64) (.cons .str (.int .i64))))))) (.cons (.int .i64) (.sl (.cons (.int .i64) (.cons (.int .i64) (.cons (.int .i64) (.cons (.int .i64) (.cons (.int .i64) (.cons .str (.int .i64)))))))))))
def dwork : Twork := (dState, (dEvent, (0, [])))
def TL : List (Nat × TD) := [
  (3, ⟨.int .i64, 1, 8, [.val (.int .i64 0)], some (.int .i64), false, []⟩),
  (4, ⟨.bool, 1, 1, [.val (.bool false)], some .bool, false, []⟩),
  (5, ⟨.int .u8, 1, 1, [.val (.int .u8 0)], some (.int .u8), false, []⟩),
  (9, ⟨.string, 1, 16, [.val (.string ⟨#[]⟩)], some .str, false, []⟩),
  (21, ⟨.int .i32, 1, 4, [.val (.int .i32 0)], some (.int .i32), false, []⟩),
  (22, ⟨.slice 38, 1, 24, [.val (.slice none 0 0)], some (.sl (.cons .str (.cons (.sl (.cons (.int .i64) (.cons (.int .i64) (.cons .str (.cons .bool (.sl (.cons (.int .i64) (.int .i64)))))))) (.cons .bool (.cons (.int .i64) (.cons (.int .i64) (.cons .str (.cons .bool (.sl (.cons (.int .i64) (.int .i64))))))))))), false, []⟩),
  (24, ⟨(Try.t23.desc), 4, 56, [.val (.string ⟨#[]⟩), .val (.int .i64 0), .val (.int .i64 0), .val (.slice none 0 0)], some (.cons .str (.cons (.int .i64) (.cons (.int .i64) (.sl (.cons .str (.cons (.sl (.cons (.int .i64) (.cons (.int .i64) (.cons .str (.cons .bool (.sl (.cons (.int .i64) (.int .i64)))))))) (.cons .bool (.cons (.int .i64) (.cons (.int .i64) (.cons .str (.cons .bool (.sl (.cons (.int .i64) (.int .i64)))))))))))))), false, [(0, 1), (1, 1), (2, 1), (3, 1)]⟩),
  (29, ⟨.slice 4, 1, 24, [.val (.slice none 0 0)], some (.sl .bool), false, []⟩),
  (31, ⟨.int .i64, 1, 8, [.val (.int .i64 0)], some (.int .i64), false, []⟩),
  (33, ⟨.slice 36, 1, 24, [.val (.slice none 0 0)], some (.sl (.cons (.int .i64) (.cons (.int .i64) (.cons .str (.cons .bool (.sl (.cons (.int .i64) (.int .i64)))))))), false, []⟩),
  (34, ⟨.slice 60, 1, 24, [.val (.slice none 0 0)], some (.sl (.cons (.int .i64) (.int .i64))), false, []⟩),
  (36, ⟨(Try.t35.desc), 5, 64, [.val (.int .i64 0), .val (.int .i64 0), .val (.string ⟨#[]⟩), .val (.bool false), .val (.slice none 0 0)], some (.cons (.int .i64) (.cons (.int .i64) (.cons .str (.cons .bool (.sl (.cons (.int .i64) (.int .i64))))))), false, [(0, 1), (1, 1), (2, 1), (3, 1), (4, 1)]⟩),
  (38, ⟨(Try.t37.desc), 8, 112, [.val (.string ⟨#[]⟩), .val (.slice none 0 0), .val (.bool false), .val (.int .i64 0), .val (.int .i64 0), .val (.string ⟨#[]⟩), .val (.bool false), .val (.slice none 0 0)], some (.cons .str (.cons (.sl (.cons (.int .i64) (.cons (.int .i64) (.cons .str (.cons .bool (.sl (.cons (.int .i64) (.int .i64)))))))) (.cons .bool (.cons (.int .i64) (.cons (.int .i64) (.cons .str (.cons .bool (.sl (.cons (.int .i64) (.int .i64)))))))))), false, [(0, 1), (1, 1), (2, 1), (3, 5)]⟩),
  (44, ⟨.slice 50, 1, 24, [.val (.slice none 0 0)], some (.sl (.sl (.cons (.int .i64) (.cons (.int .i64) (.cons (.int .i64) (.sl (.cons (.int .i64) (.int .i64)))))))), false, []⟩),
  (46, ⟨(Try.t45.desc), 4, 56, [.val (.string ⟨#[]⟩), .val (.int .i64 0), .val (.int .i64 0), .val (.slice none 0 0)], some (.cons .str (.cons (.int .i64) (.cons (.int .i64) (.sl (.sl (.cons (.int .i64) (.cons (.int .i64) (.cons (.int .i64) (.sl (.cons (.int .i64) (.int .i64))))))))))), false, [(0, 1), (1, 1), (2, 1), (3, 1)]⟩),
  (50, ⟨.slice 52, 1, 24, [.val (.slice none 0 0)], some (.sl (.cons (.int .i64) (.cons (.int .i64) (.cons (.int .i64) (.sl (.cons (.int .i64) (.int .i64))))))), false, []⟩),
  (52, ⟨(Try.t51.desc), 4, 48, [.val (.int .i64 0), .val (.int .i64 0), .val (.int .i64 0), .val (.slice none 0 0)], some (.cons (.int .i64) (.cons (.int .i64) (.cons (.int .i64) (.sl (.cons (.int .i64) (.int .i64)))))), false, [(0, 1), (1, 1), (2, 1), (3, 1)]⟩),
  (60, ⟨(Try.t59.desc), 2, 16, [.val (.int .i64 0), .val (.int .i64 0)], some (.cons (.int .i64) (.int .i64)), true, [(0, 1), (1, 1)]⟩),
  (61, ⟨.slice 92, 1, 24, [.val (.slice none 0 0)], some (.sl (.cons (.int .i64) (.cons (.int .i64) (.cons (.int .i64) (.cons (.int .i64) (.cons (.int .i64) (.cons .str (.int .i64)))))))), false, []⟩),
  (71, ⟨(Try.t71.desc), 1, 8, [.val (.nilFunc)], none, false, []⟩),
  (72, ⟨.slice 3, 1, 24, [.val (.slice none 0 0)], some (.sl (.int .i64)), false, []⟩),
  (76, ⟨.pointer 81, 1, 8, [.val (.pointer none)], none, false, []⟩),
  (77, ⟨(Try.t77.desc), 1, 8, [.val (.nilFunc)], none, false, []⟩),
  (79, ⟨(Try.t78.desc), 2, 32, [.val (.int .i64 0), .val (.slice none 0 0)], some (.cons (.int .i64) (.sl (.cons (.int .i64) (.int .i64)))), false, [(0, 1), (1, 1)]⟩),
  (81, ⟨(Try.t80.desc), 4, 64, [.val (.slice none 0 0), .val (.int .i64 0), .val (.slice none 0 0), .val (.nilFunc)], none, false, [(0, 1), (1, 2), (3, 1)]⟩),
  (92, ⟨(Try.t91.desc), 7, 64, [.val (.int .i64 0), .val (.int .i64 0), .val (.int .i64 0), .val (.int .i64 0), .val (.int .i64 0), .val (.string ⟨#[]⟩), .val (.int .i64 0)], some (.cons (.int .i64) (.cons (.int .i64) (.cons (.int .i64) (.cons (.int .i64) (.cons (.int .i64) (.cons .str (.int .i64))))))), true, [(0, 1), (1, 1), (2, 1), (3, 1), (4, 1), (5, 1), (6, 1)]⟩),
  (96, ⟨(Try.t95.desc), 8, 72, [.val (.int .i64 0), .val (.int .i64 0), .val (.int .i64 0), .val (.int .i64 0), .val (.int .i64 0), .val (.int .i64 0), .val (.int .i64 0), .val (.string ⟨#[]⟩)], some (.cons (.int .i64) (.cons (.int .i64) (.cons (.int .i64) (.cons (.int .i64) (.cons (.int .i64) (.cons (.int .i64) (.cons (.int .i64) .str))))))), false, [(0, 1), (1, 1), (2, 1), (3, 1), (4, 1), (5, 1), (6, 1), (7, 1)]⟩),
  (98, ⟨(Try.t97.desc), 17, 168, [.val (.int .i64 0), .val (.int .i64 0), .val (.int .i64 0), .val (.int .i64 0), .val (.int .i64 0), .val (.int .i64 0), .val (.int .i64 0), .val (.string ⟨#[]⟩), .val (.int .i64 0), .val (.int .i64 0), .val (.int .i64 0), .val (.int .i64 0), .val (.int .i64 0), .val (.string ⟨#[]⟩), .val (.int .i64 0), .val (.int .i64 0), .val (.slice none 0 0)], some (.cons (.cons (.int .i64) (.cons (.int .i64) (.cons (.int .i64) (.cons (.int .i64) (.cons (.int .i64) (.cons (.int .i64) (.cons (.int .i64) .str))))))) (.cons (.cons (.int .i64) (.cons (.int .i64) (.cons (.int .i64) (.cons (.int .i64) (.cons (.int .i64) (.cons .str (.int .i64))))))) (.cons (.int .i64) (.sl (.cons (.int .i64) (.cons (.int .i64) (.cons (.int .i64) (.cons (.int .i64) (.cons (.int .i64) (.cons .str (.int .i64))))))))))), false, [(0, 8), (8, 7), (15, 1), (16, 1)]⟩),
  (100, ⟨(Try.t100.desc), 1, 8, [.val (.nilFunc)], none, false, []⟩),
  (114, ⟨(Try.t114.desc), 1, 8, [.val (.nilFunc)], none, false, []⟩),
  (116, ⟨(Try.t115.desc), 6, 48, [.val (.nilFunc), .val (.nilFunc), .val (.nilFunc), .val (.nilFunc), .val (.nilFunc), .val (.nilFunc)], none, false, [(0, 1), (1, 1), (2, 1), (3, 1), (4, 1), (5, 1)]⟩),
  (125, ⟨.slice 5, 1, 24, [.val (.slice none 0 0)], some (.sl (.int .u8)), false, []⟩)]
def T : TT := lookT TL
theorem tokAll : AllT Try.prog TL := ⟨
  TOk.of Try.t3 (.int .i64 0) (by kernel_rfl) (by kernel_rfl) (by kernel_rfl) (by kernel_rfl) (by kernel_rfl) (by kernel_rfl) (fun fs h => nomatch h) (fun h => nomatch h),
  TOk.of Try.t4 (.bool false) (by kernel_rfl) (by kernel_rfl) (by kernel_rfl) (by kernel_rfl) (by kernel_rfl) (by kernel_rfl) (fun fs h => nomatch h) (fun h => nomatch h),
  TOk.of Try.t5 (.int .u8 0) (by kernel_rfl) (by kernel_rfl) (by kernel_rfl) (by kernel_rfl) (by kernel_rfl) (by kernel_rfl) (fun fs h => nomatch h) (fun h => nomatch h),
  TOk.of Try.t9 (.string ⟨#[]⟩) (by kernel_rfl) (by kernel_rfl) (by kernel_rfl) (by kernel_rfl) (by kernel_rfl) (by kernel_rfl) (fun fs h => nomatch h) (fun h => nomatch h),
  TOk.of Try.t21 (.int .i32 0) (by kernel_rfl) (by kernel_rfl) (by kernel_rfl) (by kernel_rfl) (by kernel_rfl) (by kernel_rfl) (fun fs h => nomatch h) (fun h => nomatch h),
  TOk.of Try.t22 (.slice none 0 0) (by kernel_rfl) (by kernel_rfl) (by kernel_rfl) (by kernel_rfl) (by kernel_rfl) (by kernel_rfl) (fun fs h => nomatch h) (fun h => nomatch h),
  TOk.of Try.t24 (.agg #[.string ⟨#[]⟩, .int .i64 0, .int .i64 0, .slice none 0 0]) (by kernel_rfl) (by kernel_rfl) (by kernel_rfl) (by kernel_rfl) (by kernel_rfl) (by kernel_rfl) (fun fs h => by cases h; kernel_rfl) (fun h => nomatch h),
  TOk.of Try.t29 (.slice none 0 0) (by kernel_rfl) (by kernel_rfl) (by kernel_rfl) (by kernel_rfl) (by kernel_rfl) (by kernel_rfl) (fun fs h => nomatch h) (fun h => nomatch h),
  TOk.of Try.t31 (.int .i64 0) (by kernel_rfl) (by kernel_rfl) (by kernel_rfl) (by kernel_rfl) (by kernel_rfl) (by kernel_rfl) (fun fs h => nomatch h) (fun h => nomatch h),
  TOk.of Try.t33 (.slice none 0 0) (by kernel_rfl) (by kernel_rfl) (by kernel_rfl) (by kernel_rfl) (by kernel_rfl) (by kernel_rfl) (fun fs h => nomatch h) (fun h => nomatch h),
  TOk.of Try.t34 (.slice none 0 0) (by kernel_rfl) (by kernel_rfl) (by kernel_rfl) (by kernel_rfl) (by kernel_rfl) (by kernel_rfl) (fun fs h => nomatch h) (fun h => nomatch h),
  TOk.of Try.t36 (.agg #[.int .i64 0, .int .i64 0, .string ⟨#[]⟩, .bool false, .slice none 0 0]) (by kernel_rfl) (by kernel_rfl) (by kernel_rfl) (by kernel_rfl) (by kernel_rfl) (by kernel_rfl) (fun fs h => by cases h; kernel_rfl) (fun h => nomatch h),
  TOk.of Try.t38 (.agg #[.string ⟨#[]⟩, .slice none 0 0, .bool false, .int .i64 0, .int .i64 0, .string ⟨#[]⟩, .bool false, .slice none 0 0]) (by kernel_rfl) (by kernel_rfl) (by kernel_rfl) (by kernel_rfl) (by kernel_rfl) (by kernel_rfl) (fun fs h => by cases h; kernel_rfl) (fun h => nomatch h),
  TOk.of Try.t44 (.slice none 0 0) (by kernel_rfl) (by kernel_rfl) (by kernel_rfl) (by kernel_rfl) (by kernel_rfl) (by kernel_rfl) (fun fs h => nomatch h) (fun h => nomatch h),
  TOk.of Try.t46 (.agg #[.string ⟨#[]⟩, .int .i64 0, .int .i64 0, .slice none 0 0]) (by kernel_rfl) (by kernel_rfl) (by kernel_rfl) (by kernel_rfl) (by kernel_rfl) (by kernel_rfl) (fun fs h => by cases h; kernel_rfl) (fun h => nomatch h),
  TOk.of Try.t50 (.slice none 0 0) (by kernel_rfl) (by kernel_rfl) (by kernel_rfl) (by kernel_rfl) (by kernel_rfl) (by kernel_rfl) (fun fs h => nomatch h) (fun h => nomatch h),
  TOk.of Try.t52 (.agg #[.int .i64 0, .int .i64 0, .int .i64 0, .slice none 0 0]) (by kernel_rfl) (by kernel_rfl) (by kernel_rfl) (by kernel_rfl) (by kernel_rfl) (by kernel_rfl) (fun fs h => by cases h; kernel_rfl) (fun h => nomatch h),
  TOk.of Try.t60 (.agg #[.int .i64 0, .int .i64 0]) (by kernel_rfl) (by kernel_rfl) (by kernel_rfl) (by kernel_rfl) (by kernel_rfl) (by kernel_rfl) (fun fs h => by cases h; kernel_rfl) (eq_ok (fs := (Try.prog.fieldsOf 60)) rfl (by kernel_rfl) (by kernel_rfl) (by kernel_rfl) (by kernel_rfl)),
  TOk.of Try.t61 (.slice none 0 0) (by kernel_rfl) (by kernel_rfl) (by kernel_rfl) (by kernel_rfl) (by kernel_rfl) (by kernel_rfl) (fun fs h => nomatch h) (fun h => nomatch h),
  TOk.of Try.t71 (.nilFunc) (by kernel_rfl) (by kernel_rfl) (by kernel_rfl) (by kernel_rfl) (by kernel_rfl) (by kernel_rfl) (fun fs h => nomatch h) (fun h => nomatch h),
  TOk.of Try.t72 (.slice none 0 0) (by kernel_rfl) (by kernel_rfl) (by kernel_rfl) (by kernel_rfl) (by kernel_rfl) (by kernel_rfl) (fun fs h => nomatch h) (fun h => nomatch h),
  TOk.of Try.t76 (.pointer none) (by kernel_rfl) (by kernel_rfl) (by kernel_rfl) (by kernel_rfl) (by kernel_rfl) (by kernel_rfl) (fun fs h => nomatch h) (fun h => nomatch h),
  TOk.of Try.t77 (.nilFunc) (by kernel_rfl) (by kernel_rfl) (by kernel_rfl) (by kernel_rfl) (by kernel_rfl) (by kernel_rfl) (fun fs h => nomatch h) (fun h => nomatch h),
  TOk.of Try.t79 (.agg #[.int .i64 0, .slice none 0 0]) (by kernel_rfl) (by kernel_rfl) (by kernel_rfl) (by kernel_rfl) (by kernel_rfl) (by kernel_rfl) (fun fs h => by cases h; kernel_rfl) (fun h => nomatch h),
  TOk.of Try.t81 (.agg #[.slice none 0 0, .int .i64 0, .slice none 0 0, .nilFunc]) (by kernel_rfl) (by kernel_rfl) (by kernel_rfl) (by kernel_rfl) (by kernel_rfl) (by kernel_rfl) (fun fs h => by cases h; kernel_rfl) (fun h => nomatch h),
  TOk.of Try.t92 (.agg #[.int .i64 0, .int .i64 0, .int .i64 0, .int .i64 0, .int .i64 0, .string ⟨#[]⟩, .int .i64 0]) (by kernel_rfl) (by kernel_rfl) (by kernel_rfl) (by kernel_rfl) (by kernel_rfl) (by kernel_rfl) (fun fs h => by cases h; kernel_rfl) (eq_ok (fs := (Try.prog.fieldsOf 92)) rfl (by kernel_rfl) (by kernel_rfl) (by kernel_rfl) (by kernel_rfl)),
  TOk.of Try.t96 (.agg #[.int .i64 0, .int .i64 0, .int .i64 0, .int .i64 0, .int .i64 0, .int .i64 0, .int .i64 0, .string ⟨#[]⟩]) (by kernel_rfl) (by kernel_rfl) (by kernel_rfl) (by kernel_rfl) (by kernel_rfl) (by kernel_rfl) (fun fs h => by cases h; kernel_rfl) (fun h => nomatch h),
  TOk.of Try.t98 (.agg #[.int .i64 0, .int .i64 0, .int .i64 0, .int .i64 0, .int .i64 0, .int .i64 0, .int .i64 0, .string ⟨#[]⟩, .int .i64 0, .int .i64 0, .int .i64 0, .int .i64 0, .int .i64 0, .string ⟨#[]⟩, .int .i64 0, .int .i64 0, .slice none 0 0]) (by kernel_rfl) (by kernel_rfl) (by kernel_rfl) (by kernel_rfl) (by kernel_rfl) (by kernel_rfl) (fun fs h => by cases h; kernel_rfl) (fun h => nomatch h),
  TOk.of Try.t100 (.nilFunc) (by kernel_rfl) (by kernel_rfl) (by kernel_rfl) (by kernel_rfl) (by kernel_rfl) (by kernel_rfl) (fun fs h => nomatch h) (fun h => nomatch h),
  TOk.of Try.t114 (.nilFunc) (by kernel_rfl) (by kernel_rfl) (by kernel_rfl) (by kernel_rfl) (by kernel_rfl) (by kernel_rfl) (fun fs h => nomatch h) (fun h => nomatch h),
  TOk.of Try.t116 (.agg #[.nilFunc, .nilFunc, .nilFunc, .nilFunc, .nilFunc, .nilFunc]) (by kernel_rfl) (by kernel_rfl) (by kernel_rfl) (by kernel_rfl) (by kernel_rfl) (by kernel_rfl) (fun fs h => by cases h; kernel_rfl) (fun h => nomatch h),
  TOk.of Try.t125 (.slice none 0 0) (by kernel_rfl) (by kernel_rfl) (by kernel_rfl) (by kernel_rfl) (by kernel_rfl) (by kernel_rfl) (fun fs h => nomatch h) (fun h => nomatch h),
  trivial⟩
theorem tok : TOK Try.prog T := tok_of tokAll
theorem mixed : Try.prog.follows .mixedOrders = true := by kernel_rfl
end
end Go.Proofs.Ytgjimkgehbppbaa
end

section
/-
Ytgjimkgehbppbaa: signalbench.signalbenchref37.collect, as one plain function, its equations, its contract. No condition.
-/
set_option maxRecDepth 100000
set_option linter.unusedVariables false
set_option maxHeartbeats 4000000
open Go Go.AM
namespace Go.Proofs.Ytgjimkgehbppbaa
noncomputable section
def ref37_collect_F4 : FSh := ⟨[(2, .one (.int .i64)), (3, .one (.ptr 0 0)), (6, .one (.ptr 1 0))], [.boxr (.cons (.int .i64) (.cons (.int .i64) (.cons (.int .i64) (.cons (.int .i64) (.cons (.int .i64) (.cons (.int .i64) (.cons (.int .i64) .str))))))), .boxr (.cons (.int .i64) (.cons (.int .i64) (.cons (.int .i64) (.cons (.int .i64) (.cons (.int .i64) (.cons (.int .i64) (.cons (.int .i64) .str)))))))]⟩
def ref37_collect_D : FD := ⟨T, lookC [], [4], (Try.f121.body.getD .skip), Try.f121.results.toList, ⟨[.row (.cons (.int .i64) (.cons (.int .i64) (.cons (.int .i64) (.cons (.int .i64) (.cons (.int .i64) (.cons (.int .i64) (.cons (.int .i64) .str))))))), .row (.cons (.int .i64) (.cons (.int .i64) (.cons (.int .i64) (.cons (.int .i64) (.cons (.int .i64) (.cons .str (.int .i64))))))), .one (.int .i64)], []⟩, ⟨[.row (.cons (.int .i64) (.cons (.int .i64) (.cons (.int .i64) (.cons (.int .i64) (.cons (.int .i64) (.cons (.int .i64) (.cons (.int .i64) .str)))))))], []⟩, [(4, ref37_collect_F4)]⟩
def ref37_collect_l4 (b : Int) (h0 : TState) (h1 : TState) : (Option ((TState × Unit) × Unit)) := ref37_collect_D.lab 4 ref37_collect_F4 ((b, (), (), ()), (h0, h1, ()))
theorem ref37_collect_l4_eq (b : Int) (h0 : TState) (h1 : TState) : ref37_collect_l4 b h0 h1 =
  if h0.2.2.2.2.2.2.2.size + (strOfBytes [IntKind.u8.wrap b]).size ≤ 9223372036854775807 then
    some (((h0.1, h0.2.1, h0.2.2.1, h0.2.2.2.1, h0.2.2.2.2.1, h0.2.2.2.2.2.1, h0.2.2.2.2.2.2.1, h0.2.2.2.2.2.2.2 ++ (strOfBytes [IntKind.u8.wrap b])), ()), ())
  else
    none := (FD.lab_eq _ _ _ _).trans (by kernel_rfl)
def ref37_collect (s : TState) (e0 : TEvent) (b : Int) : (Option ((TState × Unit) × Unit)) :=
  if ((s.2.2.2.2.2.2.2.size : Int) == 4096) = true then
    some ((s, ()), ())
  else
    if (s.2.2.2.2.2.2.2.toList == (strB []).toList) = true then
      ref37_collect_l4 b (s.1, s.2.1, e0.2.1, s.2.2.2) (0, 0, 0, 0, 0, 0, 0, (strB []))
    else
      ref37_collect_l4 b s (0, 0, 0, 0, 0, 0, 0, (strB []))
def fc121 : FC := ⟨⟨[.row (.cons (.int .i64) (.cons (.int .i64) (.cons (.int .i64) (.cons (.int .i64) (.cons (.int .i64) (.cons (.int .i64) (.cons (.int .i64) .str))))))), .row (.cons (.int .i64) (.cons (.int .i64) (.cons (.int .i64) (.cons (.int .i64) (.cons (.int .i64) (.cons .str (.int .i64))))))), .one (.int .i64)], []⟩, ⟨[.row (.cons (.int .i64) (.cons (.int .i64) (.cons (.int .i64) (.cons (.int .i64) (.cons (.int .i64) (.cons (.int .i64) (.cons (.int .i64) .str)))))))], []⟩, fun x => ref37_collect x.1.1 x.1.2.1 x.1.2.2.1⟩
theorem con121 : Contract Try.prog 121 fc121 :=
  ref37_collect_D.contract tok (cok_of (l := []) trivial) mixed (fn' := Try.f121) (by kernel_rfl) (by kernel_rfl) rfl (by kernel_rfl) (fun x => (FD.fn_eq _ _).trans (by kernel_rfl))
end
end Go.Proofs.Ytgjimkgehbppbaa
end

section
/-
Ytgjimkgehbppbaa: signalbench.signalbenchref37.emitted, as one plain function, its equations, its contract. No condition.
-/
set_option maxRecDepth 100000
set_option linter.unusedVariables false
set_option maxHeartbeats 4000000
open Go Go.AM
namespace Go.Proofs.Ytgjimkgehbppbaa
noncomputable section
def ref37_emitted_D : FD := ⟨T, lookC [], [], (Try.f122.body.getD .skip), Try.f122.results.toList, ⟨[.one (.int .i64), .row (.cons (.int .i64) (.cons (.int .i64) (.cons (.int .i64) (.cons (.int .i64) (.cons (.int .i64) (.cons (.int .i64) (.cons (.int .i64) .str))))))), .row (.cons (.int .i64) (.cons (.int .i64) (.cons (.int .i64) (.cons (.int .i64) (.cons (.int .i64) (.cons .str (.int .i64))))))), .one (.int .i64), .one (.int .i64)], []⟩, ⟨[.row (.cons (.int .i64) (.cons (.int .i64) (.cons (.int .i64) (.cons (.int .i64) (.cons (.int .i64) (.cons .str (.int .i64)))))))], []⟩, []⟩
def ref37_emitted (output : Int) (s : TState) (e0 : TEvent) (value : Int) (fault : Int) : (Option ((TEvent × Unit) × Unit)) :=
  if (!(s.2.2.2.2.2.2.2.toList == (strB []).toList)) = true then
    some (((output, s.2.2.1, e0.2.2.1, value, 0, s.2.2.2.2.2.2.2, fault), ()), ())
  else
    some (((output, e0.2.1, e0.2.2.1, value, 0, s.2.2.2.2.2.2.2, fault), ()), ())
def fc122 : FC := ⟨⟨[.one (.int .i64), .row (.cons (.int .i64) (.cons (.int .i64) (.cons (.int .i64) (.cons (.int .i64) (.cons (.int .i64) (.cons (.int .i64) (.cons (.int .i64) .str))))))), .row (.cons (.int .i64) (.cons (.int .i64) (.cons (.int .i64) (.cons (.int .i64) (.cons (.int .i64) (.cons .str (.int .i64))))))), .one (.int .i64), .one (.int .i64)], []⟩, ⟨[.row (.cons (.int .i64) (.cons (.int .i64) (.cons (.int .i64) (.cons (.int .i64) (.cons (.int .i64) (.cons .str (.int .i64)))))))], []⟩, fun x => ref37_emitted x.1.1 x.1.2.1 x.1.2.2.1 x.1.2.2.2.1 x.1.2.2.2.2.1⟩
theorem con122 : Contract Try.prog 122 fc122 :=
  ref37_emitted_D.contract tok (cok_of (l := []) trivial) mixed (fn' := Try.f122) (by kernel_rfl) (by kernel_rfl) rfl (by kernel_rfl) (fun x => (FD.fn_eq _ _).trans (by kernel_rfl))
end
end Go.Proofs.Ytgjimkgehbppbaa
end

section
/-
Ytgjimkgehbppbaa: signalbench.signalbenchref37.act, as one plain function, its equations, its contract. No condition.
-/
set_option maxRecDepth 100000
set_option linter.unusedVariables false
set_option maxHeartbeats 4000000
open Go Go.AM
namespace Go.Proofs.Ytgjimkgehbppbaa
noncomputable section
def ref37_act_D : FD := ⟨T, lookC [(121, fc121), (122, fc122)], [], (Try.f117.body.getD .skip), Try.f117.results.toList, ⟨[.one (.int .i64), .row (.cons (.int .i64) (.cons (.int .i64) (.cons (.int .i64) (.cons (.int .i64) (.cons (.int .i64) (.cons (.int .i64) (.cons (.int .i64) .str))))))), .row (.cons (.int .i64) (.cons (.int .i64) (.cons (.int .i64) (.cons (.int .i64) (.cons (.int .i64) (.cons .str (.int .i64))))))), .row (.cons (.int .i64) (.int .i64))], []⟩, ⟨[.row (.cons (.int .i64) (.cons (.int .i64) (.cons (.int .i64) (.cons (.int .i64) (.cons (.int .i64) (.cons (.int .i64) (.cons (.int .i64) .str))))))), .one (.sl (.cons (.int .i64) (.cons (.int .i64) (.cons (.int .i64) (.cons (.int .i64) (.cons (.int .i64) (.cons .str (.int .i64))))))))], []⟩, []⟩
def ref37_act (output : Int) (s : TState) (e0 : TEvent) (a : TAct) : (Option ((TState × (List TEvent) × Unit) × Unit)) :=
  if (a.1 == 1) = true then
    some (((s.1, s.2.1, s.2.2.1, s.2.2.2.1, s.2.2.2.2.1, s.2.2.2.2.2.1, s.2.2.2.2.2.2.1, (strB [])), [], ()), ())
  else
    if (a.1 == 2) = true then
      (ref37_collect s e0 e0.2.2.2.1).bind fun y1 =>
        some ((y1.1.1, [], ()), ())
    else
      if (a.1 == 3) = true then
        (ref37_collect s e0 (IntKind.i64.wrap (BitVec.ofInt 64 e0.2.2.2.1 ^^^ BitVec.ofInt 64 a.2).toNat)).bind fun y2 =>
          some ((y2.1.1, [], ()), ())
      else
        if (a.1 == 4) = true then
          (ref37_collect s e0 a.2).bind fun y3 =>
            some ((y3.1.1, [], ()), ())
        else
          if (a.1 == 5) = true then
            (ref37_emitted output s e0 a.2 0).bind fun y4 =>
              some (((s.1, s.2.1, s.2.2.1, s.2.2.2.1, s.2.2.2.2.1, s.2.2.2.2.2.1, s.2.2.2.2.2.2.1, (strB [])), [y4.1.1], ()), ())
          else
            if (a.1 == 6) = true then
              (ref37_emitted output s e0 0 a.2).bind fun y5 =>
                some (((s.1, s.2.1, s.2.2.1, s.2.2.2.1, s.2.2.2.2.1, s.2.2.2.2.2.1, s.2.2.2.2.2.2.1, (strB [])), [y5.1.1], ()), ())
            else
              some ((s, [], ()), ())
def fc117 : FC := ⟨⟨[.one (.int .i64), .row (.cons (.int .i64) (.cons (.int .i64) (.cons (.int .i64) (.cons (.int .i64) (.cons (.int .i64) (.cons (.int .i64) (.cons (.int .i64) .str))))))), .row (.cons (.int .i64) (.cons (.int .i64) (.cons (.int .i64) (.cons (.int .i64) (.cons (.int .i64) (.cons .str (.int .i64))))))), .row (.cons (.int .i64) (.int .i64))], []⟩, ⟨[.row (.cons (.int .i64) (.cons (.int .i64) (.cons (.int .i64) (.cons (.int .i64) (.cons (.int .i64) (.cons (.int .i64) (.cons (.int .i64) .str))))))), .one (.sl (.cons (.int .i64) (.cons (.int .i64) (.cons (.int .i64) (.cons (.int .i64) (.cons (.int .i64) (.cons .str (.int .i64))))))))], []⟩, fun x => ref37_act x.1.1 x.1.2.1 x.1.2.2.1 x.1.2.2.2.1⟩
theorem con117 : Contract Try.prog 117 fc117 :=
  ref37_act_D.contract tok (cok_of (l := [(121, fc121), (122, fc122)]) ⟨con121, con122, trivial⟩) mixed (fn' := Try.f117) (by kernel_rfl) (by kernel_rfl) rfl (by kernel_rfl) (fun x => (FD.fn_eq _ _).trans (by kernel_rfl))
end
end Go.Proofs.Ytgjimkgehbppbaa
end

section
/-
Ytgjimkgehbppbaa: signalbench.signalbenchref37.all, as one plain function, its equations, its contract. No condition.
-/
set_option maxRecDepth 100000
set_option linter.unusedVariables false
set_option maxHeartbeats 4000000
open Go Go.AM
namespace Go.Proofs.Ytgjimkgehbppbaa
noncomputable section
def ref37_all_F4 : FSh := ⟨[(0, .one (.int .i64)), (3, .one (.sl (.cons (.int .i64) (.int .i64)))), (5, .one (.ptr 0 0)), (6, .one (.ptr 1 0)), (8, .one (.ptr 2 0)), (10, .one (.own 3)), (11, .one (.int .i64))], [.boxr (.cons (.int .i64) (.cons (.int .i64) (.cons (.int .i64) (.cons (.int .i64) (.cons (.int .i64) (.cons (.int .i64) (.cons (.int .i64) .str))))))), .boxr (.cons (.int .i64) (.cons (.int .i64) (.cons (.int .i64) (.cons (.int .i64) (.cons (.int .i64) (.cons .str (.int .i64))))))), .boxr (.cons (.int .i64) (.cons (.int .i64) (.cons (.int .i64) (.cons (.int .i64) (.cons (.int .i64) (.cons (.int .i64) (.cons (.int .i64) .str))))))), .arr 92 (.cons (.int .i64) (.cons (.int .i64) (.cons (.int .i64) (.cons (.int .i64) (.cons (.int .i64) (.cons .str (.int .i64))))))) true]⟩
def ref37_all_D : FD := ⟨T, lookC [(117, fc117)], [], (Try.f100.body.getD .skip), Try.f100.results.toList, ⟨[.one (.int .i64), .row (.cons (.int .i64) (.cons (.int .i64) (.cons (.int .i64) (.cons (.int .i64) (.cons (.int .i64) (.cons (.int .i64) (.cons (.int .i64) .str))))))), .row (.cons (.int .i64) (.cons (.int .i64) (.cons (.int .i64) (.cons (.int .i64) (.cons (.int .i64) (.cons .str (.int .i64))))))), .one (.sl (.cons (.int .i64) (.int .i64)))], []⟩, ⟨[.row (.cons (.int .i64) (.cons (.int .i64) (.cons (.int .i64) (.cons (.int .i64) (.cons (.int .i64) (.cons (.int .i64) (.cons (.int .i64) .str))))))), .one (.sl (.cons (.int .i64) (.cons (.int .i64) (.cons (.int .i64) (.cons (.int .i64) (.cons (.int .i64) (.cons .str (.int .i64))))))))], []⟩, [(4, ref37_all_F4)]⟩
def ref37_all_l4 (output : Int) (l : (List TAct)) (i : Int) (h0 : TState) (h1 : TEvent) (h2 : TState) (l3 : (List TEvent)) : (Option ((TState × (List TEvent) × Unit) × Unit)) := ref37_all_D.lab 4 ref37_all_F4 ((output, l, (), (), (), (), i, ()), (h0, h1, h2, l3, ()))
theorem ref37_all_l4_eq (output : Int) (l : (List TAct)) (i : Int) (h0 : TState) (h1 : TEvent) (h2 : TState) (l3 : (List TEvent)) : ref37_all_l4 output l i h0 h1 h2 l3 =
  if (decide (i < (l.length : Int))) = true then
    if 0 ≤ i ∧ i < (l.length : Int) then
      (ref37_act output h0 h1 (l.getD i.toNat dAct)).bind fun y1 =>
        if (l3.length + y1.1.2.1.length) * 64 ≤ 140737488355328 ∧ 0 < 64 then
          ref37_all_l4 output l (IntKind.i64.wrap (i + 1)) y1.1.1 h1 h2 (l3 ++ y1.1.2.1)
        else
          none
    else
      none
  else
    some ((h0, l3, ()), ()) := (FD.lab_eq _ _ _ _).trans (by kernel_rfl)
def ref37_all (output : Int) (s : TState) (e0 : TEvent) (l : (List TAct)) : (Option ((TState × (List TEvent) × Unit) × Unit)) :=
  ref37_all_l4 output l 0 s e0 (0, 0, 0, 0, 0, 0, 0, (strB [])) []
def fc100 : FC := ⟨⟨[.one (.int .i64), .row (.cons (.int .i64) (.cons (.int .i64) (.cons (.int .i64) (.cons (.int .i64) (.cons (.int .i64) (.cons (.int .i64) (.cons (.int .i64) .str))))))), .row (.cons (.int .i64) (.cons (.int .i64) (.cons (.int .i64) (.cons (.int .i64) (.cons (.int .i64) (.cons .str (.int .i64))))))), .one (.sl (.cons (.int .i64) (.int .i64)))], []⟩, ⟨[.row (.cons (.int .i64) (.cons (.int .i64) (.cons (.int .i64) (.cons (.int .i64) (.cons (.int .i64) (.cons (.int .i64) (.cons (.int .i64) .str))))))), .one (.sl (.cons (.int .i64) (.cons (.int .i64) (.cons (.int .i64) (.cons (.int .i64) (.cons (.int .i64) (.cons .str (.int .i64))))))))], []⟩, fun x => ref37_all x.1.1 x.1.2.1 x.1.2.2.1 x.1.2.2.2.1⟩
theorem con100 : Contract Try.prog 100 fc100 :=
  ref37_all_D.contract tok (cok_of (l := [(117, fc117)]) ⟨con117, trivial⟩) mixed (fn' := Try.f100) (by kernel_rfl) (by kernel_rfl) rfl (by kernel_rfl) (fun x => (FD.fn_eq _ _).trans (by kernel_rfl))
end
end Go.Proofs.Ytgjimkgehbppbaa
end

section
/-
Ytgjimkgehbppbaa: signalbench.decl.most, as one plain function, its equations, its contract. No condition.
-/
set_option maxRecDepth 100000
set_option linter.unusedVariables false
set_option maxHeartbeats 4000000
open Go Go.AM
namespace Go.Proofs.Ytgjimkgehbppbaa
noncomputable section
def decl_most_D : FD := ⟨T, lookC [], [], (Try.f101.body.getD .skip), Try.f101.results.toList, ⟨[.row (.cons .str (.cons (.int .i64) (.cons (.int .i64) (.sl (.cons .str (.cons (.sl (.cons (.int .i64) (.cons (.int .i64) (.cons .str (.cons .bool (.sl (.cons (.int .i64) (.int .i64)))))))) (.cons .bool (.cons (.int .i64) (.cons (.int .i64) (.cons .str (.cons .bool (.sl (.cons (.int .i64) (.int .i64))))))))))))))], []⟩, ⟨[.one (.int .i64)], []⟩, []⟩
def decl_most (d : TDecl) : (Option ((Int × Unit) × Unit)) :=
  if (d.2.1 == 2) = true then
    some ((1, ()), ())
  else
    some ((255, ()), ())
def fc101 : FC := ⟨⟨[.row (.cons .str (.cons (.int .i64) (.cons (.int .i64) (.sl (.cons .str (.cons (.sl (.cons (.int .i64) (.cons (.int .i64) (.cons .str (.cons .bool (.sl (.cons (.int .i64) (.int .i64)))))))) (.cons .bool (.cons (.int .i64) (.cons (.int .i64) (.cons .str (.cons .bool (.sl (.cons (.int .i64) (.int .i64))))))))))))))], []⟩, ⟨[.one (.int .i64)], []⟩, fun x => decl_most x.1.1⟩
theorem con101 : Contract Try.prog 101 fc101 :=
  decl_most_D.contract tok (cok_of (l := []) trivial) mixed (fn' := Try.f101) (by kernel_rfl) (by kernel_rfl) rfl (by kernel_rfl) (fun x => (FD.fn_eq _ _).trans (by kernel_rfl))
end
end Go.Proofs.Ytgjimkgehbppbaa
end

section
/-
Ytgjimkgehbppbaa: signalbench.decl.act, as one plain function, its equations, its contract. No condition.
-/
set_option maxRecDepth 100000
set_option linter.unusedVariables false
set_option maxHeartbeats 4000000
open Go Go.AM
namespace Go.Proofs.Ytgjimkgehbppbaa
noncomputable section
def decl_act_F3 : FSh := ⟨[(1, .one (.ptr 0 0)), (4, .one (.int .i64)), (5, .one .bool)], [.boxr (.cons (.int .i64) (.int .i64))]⟩
def decl_act_F7 : FSh := ⟨[(1, .one (.ptr 0 0)), (4, .one (.int .i64)), (11, .one .bool)], [.boxr (.cons (.int .i64) (.int .i64))]⟩
def decl_act_D : FD := ⟨T, lookC [], [7, 3], (Try.f118.body.getD .skip), Try.f118.results.toList, ⟨[.row (.cons (.int .i64) (.int .i64))], []⟩, ⟨[.one (.int .i64)], []⟩, [(3, decl_act_F3), (7, decl_act_F7)]⟩
def decl_act_l3 (t4 : Int) (t5 : Bool) (h0 : TAct) : (Option ((Int × Unit) × Unit)) := decl_act_D.lab 3 decl_act_F3 (((), t4, t5, ()), (h0, ()))
def decl_act_l7 (t4 : Int) (t11 : Bool) (h0 : TAct) : (Option ((Int × Unit) × Unit)) := decl_act_D.lab 7 decl_act_F7 (((), t4, t11, ()), (h0, ()))
theorem decl_act_l3_eq (t4 : Int) (t5 : Bool) (h0 : TAct) : decl_act_l3 t4 t5 h0 =
  if t5 = true then
    if (h0.2 != 0) = true then
      some ((1, ()), ())
    else
      some ((0, ()), ())
  else
    if (t4 == 3) = true then
      decl_act_l7 t4 true h0
    else
      if (t4 == 4) = true then
        decl_act_l7 t4 true h0
      else
        decl_act_l7 t4 (t4 == 5) h0 := (FD.lab_eq _ _ _ _).trans (by kernel_rfl)
theorem decl_act_l7_eq (t4 : Int) (t11 : Bool) (h0 : TAct) : decl_act_l7 t4 t11 h0 =
  if t11 = true then
    if (decide (h0.2 < 0)) = true then
      some ((2, ()), ())
    else
      if (decide (h0.2 > 255)) = true then
        some ((2, ()), ())
      else
        some ((0, ()), ())
  else
    if (t4 == 6) = true then
      if (decide (h0.2 < 1)) = true then
        some ((2, ()), ())
      else
        if (decide (h0.2 > 12)) = true then
          some ((2, ()), ())
        else
          some ((0, ()), ())
    else
      some ((1, ()), ()) := (FD.lab_eq _ _ _ _).trans (by kernel_rfl)
def decl_act (a : TAct) : (Option ((Int × Unit) × Unit)) :=
  if (a.1 == 1) = true then
    decl_act_l3 a.1 true a
  else
    decl_act_l3 a.1 (a.1 == 2) a
def fc118 : FC := ⟨⟨[.row (.cons (.int .i64) (.int .i64))], []⟩, ⟨[.one (.int .i64)], []⟩, fun x => decl_act x.1.1⟩
theorem con118 : Contract Try.prog 118 fc118 :=
  decl_act_D.contract tok (cok_of (l := []) trivial) mixed (fn' := Try.f118) (by kernel_rfl) (by kernel_rfl) rfl (by kernel_rfl) (fun x => (FD.fn_eq _ _).trans (by kernel_rfl))
end
end Go.Proofs.Ytgjimkgehbppbaa
end

section
/-
Ytgjimkgehbppbaa: signalbench.decl.Find, as one plain function, its equations, its contract. No condition.
-/
set_option maxRecDepth 100000
set_option linter.unusedVariables false
set_option maxHeartbeats 4000000
open Go Go.AM
namespace Go.Proofs.Ytgjimkgehbppbaa
noncomputable section
def decl_Find_F3 : FSh := ⟨[(1, .one .str), (8, .one (.sl (.cons .str (.cons (.sl (.cons (.int .i64) (.cons (.int .i64) (.cons .str (.cons .bool (.sl (.cons (.int .i64) (.int .i64)))))))) (.cons .bool (.cons (.int .i64) (.cons (.int .i64) (.cons .str (.cons .bool (.sl (.cons (.int .i64) (.int .i64)))))))))))), (9, .one (.int .i64)), (10, .one (.int .i64))], []⟩
def decl_Find_D : FD := ⟨T, lookC [], [], (Try.f28.body.getD .skip), Try.f28.results.toList, ⟨[.row (.cons .str (.cons (.int .i64) (.cons (.int .i64) (.sl (.cons .str (.cons (.sl (.cons (.int .i64) (.cons (.int .i64) (.cons .str (.cons .bool (.sl (.cons (.int .i64) (.int .i64)))))))) (.cons .bool (.cons (.int .i64) (.cons (.int .i64) (.cons .str (.cons .bool (.sl (.cons (.int .i64) (.int .i64)))))))))))))), .one .str], []⟩, ⟨[.one (.int .i64)], []⟩, [(3, decl_Find_F3)]⟩
def decl_Find_l3 (name : ByteArray) (t8 : (List TDeclState)) (t9 : Int) (t10 : Int) : (Option ((Int × Unit) × Unit)) := decl_Find_D.lab 3 decl_Find_F3 ((name, t8, t9, t10, ()), ())
theorem decl_Find_l3_eq (name : ByteArray) (t8 : (List TDeclState)) (t9 : Int) (t10 : Int) : decl_Find_l3 name t8 t9 t10 =
  if (decide (t10 < t9)) = true then
    if 0 ≤ t10 ∧ t10 < (t8.length : Int) then
      if ((t8.getD t10.toNat dDeclState).1.toList == name.toList) = true then
        some ((t10, ()), ())
      else
        decl_Find_l3 name t8 t9 (IntKind.i64.wrap (t10 + 1))
    else
      none
  else
    some (((-1), ()), ()) := (FD.lab_eq _ _ _ _).trans (by kernel_rfl)
def decl_Find (d : TDecl) (name : ByteArray) : (Option ((Int × Unit) × Unit)) :=
  decl_Find_l3 name d.2.2.2 (d.2.2.2.length : Int) 0
def fc28 : FC := ⟨⟨[.row (.cons .str (.cons (.int .i64) (.cons (.int .i64) (.sl (.cons .str (.cons (.sl (.cons (.int .i64) (.cons (.int .i64) (.cons .str (.cons .bool (.sl (.cons (.int .i64) (.int .i64)))))))) (.cons .bool (.cons (.int .i64) (.cons (.int .i64) (.cons .str (.cons .bool (.sl (.cons (.int .i64) (.int .i64)))))))))))))), .one .str], []⟩, ⟨[.one (.int .i64)], []⟩, fun x => decl_Find x.1.1 x.1.2.1⟩
theorem con28 : Contract Try.prog 28 fc28 :=
  decl_Find_D.contract tok (cok_of (l := []) trivial) mixed (fn' := Try.f28) (by kernel_rfl) (by kernel_rfl) rfl (by kernel_rfl) (fun x => (FD.fn_eq _ _).trans (by kernel_rfl))
end
end Go.Proofs.Ytgjimkgehbppbaa
end

section
/-
Ytgjimkgehbppbaa: signalbench.decl.target, as one plain function, its equations, its contract. No condition.
-/
set_option maxRecDepth 100000
set_option linter.unusedVariables false
set_option maxHeartbeats 4000000
open Go Go.AM
namespace Go.Proofs.Ytgjimkgehbppbaa
noncomputable section
def decl_target_F9 : FSh := ⟨[(18, .one (.sl (.cons (.int .i64) (.int .i64)))), (19, .one (.int .i64)), (20, .one (.int .i64))], []⟩
def decl_target_D : FD := ⟨T, lookC [(28, fc28), (118, fc118)], [], (Try.f102.body.getD .skip), Try.f102.results.toList, ⟨[.row (.cons .str (.cons (.int .i64) (.cons (.int .i64) (.sl (.cons .str (.cons (.sl (.cons (.int .i64) (.cons (.int .i64) (.cons .str (.cons .bool (.sl (.cons (.int .i64) (.int .i64)))))))) (.cons .bool (.cons (.int .i64) (.cons (.int .i64) (.cons .str (.cons .bool (.sl (.cons (.int .i64) (.int .i64)))))))))))))), .row (.cons (.int .i64) (.cons (.int .i64) (.cons .str (.cons .bool (.sl (.cons (.int .i64) (.int .i64)))))))], []⟩, ⟨[.one (.int .i64)], []⟩, [(9, decl_target_F9)]⟩
def decl_target_l9 (t18 : (List TAct)) (t19 : Int) (t20 : Int) : (Option ((Int × Unit) × Unit)) := decl_target_D.lab 9 decl_target_F9 ((t18, t19, t20, ()), ())
theorem decl_target_l9_eq (t18 : (List TAct)) (t19 : Int) (t20 : Int) : decl_target_l9 t18 t19 t20 =
  if (decide (t20 < t19)) = true then
    if 0 ≤ t20 ∧ t20 < (t18.length : Int) then
      (decl_act (t18.getD t20.toNat dAct)).bind fun y1 =>
        if (y1.1.1 != 0) = true then
          some ((y1.1.1, ()), ())
        else
          decl_target_l9 t18 t19 (IntKind.i64.wrap (t20 + 1))
    else
      none
  else
    some ((0, ()), ()) := (FD.lab_eq _ _ _ _).trans (by kernel_rfl)
def decl_target (d : TDecl) (r : TRule) : (Option ((Int × Unit) × Unit)) :=
  (decl_Find d r.2.2.1).bind fun y1 =>
    if (decide (y1.1.1 < 0)) = true then
      some ((8, ()), ())
    else
      if (decide ((r.2.2.2.2.length : Int) > 8)) = true then
        some ((6, ()), ())
      else
        decl_target_l9 r.2.2.2.2 (r.2.2.2.2.length : Int) 0
def fc102 : FC := ⟨⟨[.row (.cons .str (.cons (.int .i64) (.cons (.int .i64) (.sl (.cons .str (.cons (.sl (.cons (.int .i64) (.cons (.int .i64) (.cons .str (.cons .bool (.sl (.cons (.int .i64) (.int .i64)))))))) (.cons .bool (.cons (.int .i64) (.cons (.int .i64) (.cons .str (.cons .bool (.sl (.cons (.int .i64) (.int .i64)))))))))))))), .row (.cons (.int .i64) (.cons (.int .i64) (.cons .str (.cons .bool (.sl (.cons (.int .i64) (.int .i64)))))))], []⟩, ⟨[.one (.int .i64)], []⟩, fun x => decl_target x.1.1 x.1.2.1⟩
theorem con102 : Contract Try.prog 102 fc102 :=
  decl_target_D.contract tok (cok_of (l := [(28, fc28), (118, fc118)]) ⟨con28, con118, trivial⟩) mixed (fn' := Try.f102) (by kernel_rfl) (by kernel_rfl) rfl (by kernel_rfl) (fun x => (FD.fn_eq _ _).trans (by kernel_rfl))
end
end Go.Proofs.Ytgjimkgehbppbaa
end

section
/-
Ytgjimkgehbppbaa: signalbench.signalbenchref34.wrongAct, as one plain function, its equations, its contract. No condition.
-/
set_option maxRecDepth 100000
set_option linter.unusedVariables false
set_option maxHeartbeats 4000000
open Go Go.AM
namespace Go.Proofs.Ytgjimkgehbppbaa
noncomputable section
def ref34_wrongAct_D : FD := ⟨T, lookC [], [], (Try.f119.body.getD .skip), Try.f119.results.toList, ⟨[.row (.cons (.int .i64) (.int .i64))], []⟩, ⟨[.one (.int .i64)], []⟩, []⟩
def ref34_wrongAct (a : TAct) : (Option ((Int × Unit) × Unit)) :=
  if (decide (a.1 < 1)) = true then
    some ((1, ()), ())
  else
    if (decide (a.1 > 6)) = true then
      some ((1, ()), ())
    else
      if (decide (a.1 ≤ 2)) = true then
        if (a.2 != 0) = true then
          some ((1, ()), ())
        else
          if (decide (a.1 ≥ 3)) = true then
            if (decide (a.1 ≤ 5)) = true then
              if (decide (a.2 < 0)) = true then
                some ((2, ()), ())
              else
                if (decide (a.2 > 255)) = true then
                  some ((2, ()), ())
                else
                  if (a.1 == 6) = true then
                    if (decide (a.2 < 1)) = true then
                      some ((2, ()), ())
                    else
                      if (decide (a.2 > 12)) = true then
                        some ((2, ()), ())
                      else
                        some ((0, ()), ())
                  else
                    some ((0, ()), ())
            else
              if (a.1 == 6) = true then
                if (decide (a.2 < 1)) = true then
                  some ((2, ()), ())
                else
                  if (decide (a.2 > 12)) = true then
                    some ((2, ()), ())
                  else
                    some ((0, ()), ())
              else
                some ((0, ()), ())
          else
            if (a.1 == 6) = true then
              if (decide (a.2 < 1)) = true then
                some ((2, ()), ())
              else
                if (decide (a.2 > 12)) = true then
                  some ((2, ()), ())
                else
                  some ((0, ()), ())
            else
              some ((0, ()), ())
      else
        if (decide (a.1 ≥ 3)) = true then
          if (decide (a.1 ≤ 5)) = true then
            if (decide (a.2 < 0)) = true then
              some ((2, ()), ())
            else
              if (decide (a.2 > 255)) = true then
                some ((2, ()), ())
              else
                if (a.1 == 6) = true then
                  if (decide (a.2 < 1)) = true then
                    some ((2, ()), ())
                  else
                    if (decide (a.2 > 12)) = true then
                      some ((2, ()), ())
                    else
                      some ((0, ()), ())
                else
                  some ((0, ()), ())
          else
            if (a.1 == 6) = true then
              if (decide (a.2 < 1)) = true then
                some ((2, ()), ())
              else
                if (decide (a.2 > 12)) = true then
                  some ((2, ()), ())
                else
                  some ((0, ()), ())
            else
              some ((0, ()), ())
        else
          if (a.1 == 6) = true then
            if (decide (a.2 < 1)) = true then
              some ((2, ()), ())
            else
              if (decide (a.2 > 12)) = true then
                some ((2, ()), ())
              else
                some ((0, ()), ())
          else
            some ((0, ()), ())
def fc119 : FC := ⟨⟨[.row (.cons (.int .i64) (.int .i64))], []⟩, ⟨[.one (.int .i64)], []⟩, fun x => ref34_wrongAct x.1.1⟩
theorem con119 : Contract Try.prog 119 fc119 :=
  ref34_wrongAct_D.contract tok (cok_of (l := []) trivial) mixed (fn' := Try.f119) (by kernel_rfl) (by kernel_rfl) rfl (by kernel_rfl) (fun x => (FD.fn_eq _ _).trans (by kernel_rfl))
end
end Go.Proofs.Ytgjimkgehbppbaa
end

section
/-
Ytgjimkgehbppbaa: signalbench.signalbenchref34.Find, as one plain function, its equations, its contract. No condition.
-/
set_option maxRecDepth 100000
set_option linter.unusedVariables false
set_option maxHeartbeats 4000000
open Go Go.AM
namespace Go.Proofs.Ytgjimkgehbppbaa
noncomputable section
def ref34_Find_F3 : FSh := ⟨[(1, .one .str), (2, .one (.ptr 0 0)), (5, .one (.int .i64))], [.boxr (.cons .str (.cons (.int .i64) (.cons (.int .i64) (.sl (.cons .str (.cons (.sl (.cons (.int .i64) (.cons (.int .i64) (.cons .str (.cons .bool (.sl (.cons (.int .i64) (.int .i64)))))))) (.cons .bool (.cons (.int .i64) (.cons (.int .i64) (.cons .str (.cons .bool (.sl (.cons (.int .i64) (.int .i64))))))))))))))]⟩
def ref34_Find_D : FD := ⟨T, lookC [], [], (Try.f42.body.getD .skip), Try.f42.results.toList, ⟨[.row (.cons .str (.cons (.int .i64) (.cons (.int .i64) (.sl (.cons .str (.cons (.sl (.cons (.int .i64) (.cons (.int .i64) (.cons .str (.cons .bool (.sl (.cons (.int .i64) (.int .i64)))))))) (.cons .bool (.cons (.int .i64) (.cons (.int .i64) (.cons .str (.cons .bool (.sl (.cons (.int .i64) (.int .i64)))))))))))))), .one .str], []⟩, ⟨[.one (.int .i64)], []⟩, [(3, ref34_Find_F3)]⟩
def ref34_Find_l3 (name : ByteArray) (k0 : Int) (h0 : TDecl) : (Option ((Int × Unit) × Unit)) := ref34_Find_D.lab 3 ref34_Find_F3 ((name, (), k0, ()), (h0, ()))
theorem ref34_Find_l3_eq (name : ByteArray) (k0 : Int) (h0 : TDecl) : ref34_Find_l3 name k0 h0 =
  if (decide (k0 < (h0.2.2.2.length : Int))) = true then
    if 0 ≤ k0 ∧ k0 < (h0.2.2.2.length : Int) then
      if ((h0.2.2.2.getD k0.toNat dDeclState).1.toList == name.toList) = true then
        some ((k0, ()), ())
      else
        ref34_Find_l3 name (IntKind.i64.wrap (k0 + 1)) h0
    else
      none
  else
    some (((-1), ()), ()) := (FD.lab_eq _ _ _ _).trans (by kernel_rfl)
def ref34_Find (d : TDecl) (name : ByteArray) : (Option ((Int × Unit) × Unit)) :=
  ref34_Find_l3 name 0 d
def fc42 : FC := ⟨⟨[.row (.cons .str (.cons (.int .i64) (.cons (.int .i64) (.sl (.cons .str (.cons (.sl (.cons (.int .i64) (.cons (.int .i64) (.cons .str (.cons .bool (.sl (.cons (.int .i64) (.int .i64)))))))) (.cons .bool (.cons (.int .i64) (.cons (.int .i64) (.cons .str (.cons .bool (.sl (.cons (.int .i64) (.int .i64)))))))))))))), .one .str], []⟩, ⟨[.one (.int .i64)], []⟩, fun x => ref34_Find x.1.1 x.1.2.1⟩
theorem con42 : Contract Try.prog 42 fc42 :=
  ref34_Find_D.contract tok (cok_of (l := []) trivial) mixed (fn' := Try.f42) (by kernel_rfl) (by kernel_rfl) rfl (by kernel_rfl) (fun x => (FD.fn_eq _ _).trans (by kernel_rfl))
end
end Go.Proofs.Ytgjimkgehbppbaa
end

section
/-
Ytgjimkgehbppbaa: signalbench.signalbenchref34.wrongTarget, as one plain function, its equations, its contract. No condition.
-/
set_option maxRecDepth 100000
set_option linter.unusedVariables false
set_option maxHeartbeats 4000000
open Go Go.AM
namespace Go.Proofs.Ytgjimkgehbppbaa
noncomputable section
def ref34_wrongTarget_F9 : FSh := ⟨[(3, .one (.ptr 0 0)), (5, .one (.int .i64))], [.boxr (.cons (.int .i64) (.cons (.int .i64) (.cons .str (.cons .bool (.sl (.cons (.int .i64) (.int .i64)))))))]⟩
def ref34_wrongTarget_D : FD := ⟨T, lookC [(42, fc42), (119, fc119)], [], (Try.f103.body.getD .skip), Try.f103.results.toList, ⟨[.row (.cons .str (.cons (.int .i64) (.cons (.int .i64) (.sl (.cons .str (.cons (.sl (.cons (.int .i64) (.cons (.int .i64) (.cons .str (.cons .bool (.sl (.cons (.int .i64) (.int .i64)))))))) (.cons .bool (.cons (.int .i64) (.cons (.int .i64) (.cons .str (.cons .bool (.sl (.cons (.int .i64) (.int .i64)))))))))))))), .row (.cons (.int .i64) (.cons (.int .i64) (.cons .str (.cons .bool (.sl (.cons (.int .i64) (.int .i64)))))))], []⟩, ⟨[.one (.int .i64)], []⟩, [(9, ref34_wrongTarget_F9)]⟩
def ref34_wrongTarget_l9 (i : Int) (h0 : TRule) : (Option ((Int × Unit) × Unit)) := ref34_wrongTarget_D.lab 9 ref34_wrongTarget_F9 (((), i, ()), (h0, ()))
theorem ref34_wrongTarget_l9_eq (i : Int) (h0 : TRule) : ref34_wrongTarget_l9 i h0 =
  if (decide (i < (h0.2.2.2.2.length : Int))) = true then
    if 0 ≤ i ∧ i < (h0.2.2.2.2.length : Int) then
      (ref34_wrongAct (h0.2.2.2.2.getD i.toNat dAct)).bind fun y1 =>
        if (y1.1.1 != 0) = true then
          some ((y1.1.1, ()), ())
        else
          ref34_wrongTarget_l9 (IntKind.i64.wrap (i + 1)) h0
    else
      none
  else
    some ((0, ()), ()) := (FD.lab_eq _ _ _ _).trans (by kernel_rfl)
def ref34_wrongTarget (d : TDecl) (r : TRule) : (Option ((Int × Unit) × Unit)) :=
  (ref34_Find d r.2.2.1).bind fun y1 =>
    if (decide (y1.1.1 < 0)) = true then
      some ((8, ()), ())
    else
      if (decide ((r.2.2.2.2.length : Int) > 8)) = true then
        some ((6, ()), ())
      else
        ref34_wrongTarget_l9 0 r
def fc103 : FC := ⟨⟨[.row (.cons .str (.cons (.int .i64) (.cons (.int .i64) (.sl (.cons .str (.cons (.sl (.cons (.int .i64) (.cons (.int .i64) (.cons .str (.cons .bool (.sl (.cons (.int .i64) (.int .i64)))))))) (.cons .bool (.cons (.int .i64) (.cons (.int .i64) (.cons .str (.cons .bool (.sl (.cons (.int .i64) (.int .i64)))))))))))))), .row (.cons (.int .i64) (.cons (.int .i64) (.cons .str (.cons .bool (.sl (.cons (.int .i64) (.int .i64)))))))], []⟩, ⟨[.one (.int .i64)], []⟩, fun x => ref34_wrongTarget x.1.1 x.1.2.1⟩
theorem con103 : Contract Try.prog 103 fc103 :=
  ref34_wrongTarget_D.contract tok (cok_of (l := [(42, fc42), (119, fc119)]) ⟨con42, con119, trivial⟩) mixed (fn' := Try.f103) (by kernel_rfl) (by kernel_rfl) rfl (by kernel_rfl) (fun x => (FD.fn_eq _ _).trans (by kernel_rfl))
end
end Go.Proofs.Ytgjimkgehbppbaa
end

section
/-
Ytgjimkgehbppbaa: signalbench.signalbenchref34.wrongElse, as one plain function, its equations, its contract. No condition.
-/
set_option maxRecDepth 100000
set_option linter.unusedVariables false
set_option maxHeartbeats 4000000
open Go Go.AM
namespace Go.Proofs.Ytgjimkgehbppbaa
noncomputable section
def ref34_wrongElse_D : FD := ⟨T, lookC [(103, fc103)], [], (Try.f104.body.getD .skip), Try.f104.results.toList, ⟨[.row (.cons .str (.cons (.int .i64) (.cons (.int .i64) (.sl (.cons .str (.cons (.sl (.cons (.int .i64) (.cons (.int .i64) (.cons .str (.cons .bool (.sl (.cons (.int .i64) (.int .i64)))))))) (.cons .bool (.cons (.int .i64) (.cons (.int .i64) (.cons .str (.cons .bool (.sl (.cons (.int .i64) (.int .i64)))))))))))))), .row (.cons .str (.cons (.sl (.cons (.int .i64) (.cons (.int .i64) (.cons .str (.cons .bool (.sl (.cons (.int .i64) (.int .i64)))))))) (.cons .bool (.cons (.int .i64) (.cons (.int .i64) (.cons .str (.cons .bool (.sl (.cons (.int .i64) (.int .i64))))))))))], []⟩, ⟨[.one (.int .i64)], []⟩, []⟩
def ref34_wrongElse (d : TDecl) (s : TDeclState) : (Option ((Int × Unit) × Unit)) :=
  if (!s.2.2.1) = true then
    if (s.2.2.2.1 != 0) = true then
      some ((1, ()), ())
    else
      if (s.2.2.2.2.1 != 0) = true then
        some ((1, ()), ())
      else
        if (!(s.2.2.2.2.2.1.toList == (strB []).toList)) = true then
          some ((1, ()), ())
        else
          if s.2.2.2.2.2.2.1 = true then
            some ((1, ()), ())
          else
            if (decide ((s.2.2.2.2.2.2.2.length : Int) > 0)) = true then
              some ((1, ()), ())
            else
              some ((0, ()), ())
  else
    if (s.2.2.2.1 != 0) = true then
      some ((1, ()), ())
    else
      if (s.2.2.2.2.1 != 0) = true then
        some ((1, ()), ())
      else
        (ref34_wrongTarget d s.2.2.2).bind fun y1 =>
          some ((y1.1.1, ()), ())
def fc104 : FC := ⟨⟨[.row (.cons .str (.cons (.int .i64) (.cons (.int .i64) (.sl (.cons .str (.cons (.sl (.cons (.int .i64) (.cons (.int .i64) (.cons .str (.cons .bool (.sl (.cons (.int .i64) (.int .i64)))))))) (.cons .bool (.cons (.int .i64) (.cons (.int .i64) (.cons .str (.cons .bool (.sl (.cons (.int .i64) (.int .i64)))))))))))))), .row (.cons .str (.cons (.sl (.cons (.int .i64) (.cons (.int .i64) (.cons .str (.cons .bool (.sl (.cons (.int .i64) (.int .i64)))))))) (.cons .bool (.cons (.int .i64) (.cons (.int .i64) (.cons .str (.cons .bool (.sl (.cons (.int .i64) (.int .i64))))))))))], []⟩, ⟨[.one (.int .i64)], []⟩, fun x => ref34_wrongElse x.1.1 x.1.2.1⟩
theorem con104 : Contract Try.prog 104 fc104 :=
  ref34_wrongElse_D.contract tok (cok_of (l := [(103, fc103)]) ⟨con103, trivial⟩) mixed (fn' := Try.f104) (by kernel_rfl) (by kernel_rfl) rfl (by kernel_rfl) (fun x => (FD.fn_eq _ _).trans (by kernel_rfl))
end
end Go.Proofs.Ytgjimkgehbppbaa
end

section
/-
Ytgjimkgehbppbaa: signalbench.lex.digit, as one plain function, its equations, its contract. No condition.
-/
set_option maxRecDepth 100000
set_option linter.unusedVariables false
set_option maxHeartbeats 4000000
open Go Go.AM
namespace Go.Proofs.Ytgjimkgehbppbaa
noncomputable section
def lex_digit_D : FD := ⟨T, lookC [], [], (Try.f105.body.getD .skip), Try.f105.results.toList, ⟨[.one (.int .i32)], []⟩, ⟨[.one .bool], []⟩, []⟩
def lex_digit (c : Int) : (Option ((Bool × Unit) × Unit)) :=
  if (decide ((48 : Int) ≤ c)) = true then
    some ((decide (c ≤ 57), ()), ())
  else
    some ((false, ()), ())
def fc105 : FC := ⟨⟨[.one (.int .i32)], []⟩, ⟨[.one .bool], []⟩, fun x => lex_digit x.1.1⟩
theorem con105 : Contract Try.prog 105 fc105 :=
  lex_digit_D.contract tok (cok_of (l := []) trivial) mixed (fn' := Try.f105) (by kernel_rfl) (by kernel_rfl) rfl (by kernel_rfl) (fun x => (FD.fn_eq _ _).trans (by kernel_rfl))
end
end Go.Proofs.Ytgjimkgehbppbaa
end

section
/-
Ytgjimkgehbppbaa: signalbench.signalbenchref05.digit, as one plain function, its equations, its contract. No condition.
-/
set_option maxRecDepth 100000
set_option linter.unusedVariables false
set_option maxHeartbeats 4000000
open Go Go.AM
namespace Go.Proofs.Ytgjimkgehbppbaa
noncomputable section
def ref05_digit_D : FD := ⟨T, lookC [], [], (Try.f106.body.getD .skip), Try.f106.results.toList, ⟨[.one (.int .u8)], []⟩, ⟨[.one .bool], []⟩, []⟩
def ref05_digit (c : Int) : (Option ((Bool × Unit) × Unit)) :=
  if (decide (c ≥ 48)) = true then
    some ((decide (c ≤ 57), ()), ())
  else
    some ((false, ()), ())
def fc106 : FC := ⟨⟨[.one (.int .u8)], []⟩, ⟨[.one .bool], []⟩, fun x => ref05_digit x.1.1⟩
theorem con106 : Contract Try.prog 106 fc106 :=
  ref05_digit_D.contract tok (cok_of (l := []) trivial) mixed (fn' := Try.f106) (by kernel_rfl) (by kernel_rfl) rfl (by kernel_rfl) (fun x => (FD.fn_eq _ _).trans (by kernel_rfl))
end
end Go.Proofs.Ytgjimkgehbppbaa
end

section
/-
Ytgjimkgehbppbaa: signalbench.decltab.Next, as one plain function, its equations, its contract. No condition.
-/
set_option maxRecDepth 100000
set_option linter.unusedVariables false
set_option maxHeartbeats 4000000
open Go Go.AM
namespace Go.Proofs.Ytgjimkgehbppbaa
noncomputable section
def decltab_Next_F6 : FSh := ⟨[(2, .one (.int .i64)), (24, .one (.sl (.cons (.int .i64) (.cons (.int .i64) (.cons (.int .i64) (.sl (.cons (.int .i64) (.int .i64)))))))), (25, .one (.int .i64)), (26, .one (.int .i64))], []⟩
def decltab_Next_D : FD := ⟨T, lookC [], [], (Try.f34.body.getD .skip), Try.f34.results.toList, ⟨[.row (.cons .str (.cons (.int .i64) (.cons (.int .i64) (.sl (.sl (.cons (.int .i64) (.cons (.int .i64) (.cons (.int .i64) (.sl (.cons (.int .i64) (.int .i64))))))))))), .one (.int .i64), .one (.int .i64)], []⟩, ⟨[.one (.int .i64), .one (.sl (.cons (.int .i64) (.int .i64))), .one .bool], []⟩, [(6, decltab_Next_F6)]⟩
def decltab_Next_l6 (symbol : Int) (t24 : (List TCell)) (t25 : Int) (t26 : Int) : (Option ((Int × (List TAct) × Bool × Unit) × Unit)) := decltab_Next_D.lab 6 decltab_Next_F6 ((symbol, t24, t25, t26, ()), ())
theorem decltab_Next_l6_eq (symbol : Int) (t24 : (List TCell)) (t25 : Int) (t26 : Int) : decltab_Next_l6 symbol t24 t25 t26 =
  if (decide (t26 < t25)) = true then
    if 0 ≤ t26 ∧ t26 < (t24.length : Int) then
      if (decide ((t24.getD t26.toNat dCell).1 ≤ symbol)) = true then
        if (decide (symbol ≤ (t24.getD t26.toNat dCell).2.1)) = true then
          if (t24.getD t26.toNat dCell).2.2.2.length * 16 ≤ 140737488355328 ∧ 0 < 16 then
            some (((t24.getD t26.toNat dCell).2.2.1, (t24.getD t26.toNat dCell).2.2.2, true, ()), ())
          else
            none
        else
          decltab_Next_l6 symbol t24 t25 (IntKind.i64.wrap (t26 + 1))
      else
        decltab_Next_l6 symbol t24 t25 (IntKind.i64.wrap (t26 + 1))
    else
      none
  else
    some ((0, [], false, ()), ()) := (FD.lab_eq _ _ _ _).trans (by kernel_rfl)
def decltab_Next (t : TTable) (state : Int) (symbol : Int) : (Option ((Int × (List TAct) × Bool × Unit) × Unit)) :=
  if (decide (state < 0)) = true then
    some ((0, [], false, ()), ())
  else
    if (decide (state ≥ (t.2.2.2.length : Int))) = true then
      some ((0, [], false, ()), ())
    else
      if 0 ≤ state ∧ state < (t.2.2.2.length : Int) then
        decltab_Next_l6 symbol (t.2.2.2.getD state.toNat []) ((t.2.2.2.getD state.toNat []).length : Int) 0
      else
        none
def fc34 : FC := ⟨⟨[.row (.cons .str (.cons (.int .i64) (.cons (.int .i64) (.sl (.sl (.cons (.int .i64) (.cons (.int .i64) (.cons (.int .i64) (.sl (.cons (.int .i64) (.int .i64))))))))))), .one (.int .i64), .one (.int .i64)], []⟩, ⟨[.one (.int .i64), .one (.sl (.cons (.int .i64) (.int .i64))), .one .bool], []⟩, fun x => decltab_Next x.1.1 x.1.2.1 x.1.2.2.1⟩
theorem con34 : Contract Try.prog 34 fc34 :=
  decltab_Next_D.contract tok (cok_of (l := []) trivial) mixed (fn' := Try.f34) (by kernel_rfl) (by kernel_rfl) rfl (by kernel_rfl) (fun x => (FD.fn_eq _ _).trans (by kernel_rfl))
end
end Go.Proofs.Ytgjimkgehbppbaa
end

section
/-
Ytgjimkgehbppbaa: signalbench.declrun.drop, as one plain function, its equations, its contract. No condition.
-/
set_option maxRecDepth 100000
set_option linter.unusedVariables false
set_option maxHeartbeats 4000000
open Go Go.AM
namespace Go.Proofs.Ytgjimkgehbppbaa
noncomputable section
def declrun_drop_D : FD := ⟨T, lookC [], [], (Try.f109.body.getD .skip), Try.f109.results.toList, ⟨[.agg [(.int .i64), (.int .i64), (.int .i64), (.int .i64), (.int .i64), (.int .i64), (.int .i64), .str, (.int .i64), (.int .i64), (.int .i64), (.int .i64), (.int .i64), .str, (.int .i64), (.int .i64), (.own 0)]], [.arr 92 (.cons (.int .i64) (.cons (.int .i64) (.cons (.int .i64) (.cons (.int .i64) (.cons (.int .i64) (.cons .str (.int .i64))))))) true]⟩, ⟨[.agg [(.int .i64), (.int .i64), (.int .i64), (.int .i64), (.int .i64), (.int .i64), (.int .i64), .str, (.int .i64), (.int .i64), (.int .i64), (.int .i64), (.int .i64), .str, (.int .i64), (.int .i64), (.own 1)]], [.dead, .arr 92 (.cons (.int .i64) (.cons (.int .i64) (.cons (.int .i64) (.cons (.int .i64) (.cons (.int .i64) (.cons .str (.int .i64))))))) true]⟩, []⟩
def declrun_drop (w_0 : Int) (w_1 : Int) (w_2 : Int) (w_3 : Int) (w_4 : Int) (w_5 : Int) (w_6 : Int) (w_7 : ByteArray) (w_8 : Int) (w_9 : Int) (w_10 : Int) (w_11 : Int) (w_12 : Int) (w_13 : ByteArray) (w_14 : Int) (w_15 : Int) (l0 : (List TEvent)) : (Option (((Int × Int × Int × Int × Int × Int × Int × ByteArray × Int × Int × Int × Int × Int × ByteArray × Int × Int × Unit × Unit) × Unit) × (Unit × (List TEvent) × Unit))) :=
  some (((w_0, w_1, 0, w_3, w_4, w_5, w_6, (strB []), w_8, w_9, w_10, w_11, w_12, w_13, w_14, w_15, (), ()), ()), ((), l0, ()))
def fc109 : FC := ⟨⟨[.agg [(.int .i64), (.int .i64), (.int .i64), (.int .i64), (.int .i64), (.int .i64), (.int .i64), .str, (.int .i64), (.int .i64), (.int .i64), (.int .i64), (.int .i64), .str, (.int .i64), (.int .i64), (.own 0)]], [.arr 92 (.cons (.int .i64) (.cons (.int .i64) (.cons (.int .i64) (.cons (.int .i64) (.cons (.int .i64) (.cons .str (.int .i64))))))) true]⟩, ⟨[.agg [(.int .i64), (.int .i64), (.int .i64), (.int .i64), (.int .i64), (.int .i64), (.int .i64), .str, (.int .i64), (.int .i64), (.int .i64), (.int .i64), (.int .i64), .str, (.int .i64), (.int .i64), (.own 1)]], [.dead, .arr 92 (.cons (.int .i64) (.cons (.int .i64) (.cons (.int .i64) (.cons (.int .i64) (.cons (.int .i64) (.cons .str (.int .i64))))))) true]⟩, fun x => declrun_drop x.1.1.1 x.1.1.2.1 x.1.1.2.2.1 x.1.1.2.2.2.1 x.1.1.2.2.2.2.1 x.1.1.2.2.2.2.2.1 x.1.1.2.2.2.2.2.2.1 x.1.1.2.2.2.2.2.2.2.1 x.1.1.2.2.2.2.2.2.2.2.1 x.1.1.2.2.2.2.2.2.2.2.2.1 x.1.1.2.2.2.2.2.2.2.2.2.2.1 x.1.1.2.2.2.2.2.2.2.2.2.2.2.1 x.1.1.2.2.2.2.2.2.2.2.2.2.2.2.1 x.1.1.2.2.2.2.2.2.2.2.2.2.2.2.2.1 x.1.1.2.2.2.2.2.2.2.2.2.2.2.2.2.2.1 x.1.1.2.2.2.2.2.2.2.2.2.2.2.2.2.2.2.1 x.2.1⟩
theorem con109 : Contract Try.prog 109 fc109 :=
  declrun_drop_D.contract tok (cok_of (l := []) trivial) mixed (fn' := Try.f109) (by kernel_rfl) (by kernel_rfl) rfl (by kernel_rfl) (fun x => (FD.fn_eq _ _).trans (by kernel_rfl))
end
end Go.Proofs.Ytgjimkgehbppbaa
end

section
/-
Ytgjimkgehbppbaa: signalbench.declrun.all$1, as one plain function, its equations, its contract. No condition.
-/
set_option maxRecDepth 100000
set_option linter.unusedVariables false
set_option maxHeartbeats 4000000
open Go Go.AM
namespace Go.Proofs.Ytgjimkgehbppbaa
noncomputable section
def declrun_all_1_D : FD := ⟨T, lookC [(109, fc109)], [], (Try.f108.body.getD .skip), Try.f108.results.toList, ⟨[.agg [(.int .i64), (.int .i64), (.int .i64), (.int .i64), (.int .i64), (.int .i64), (.int .i64), .str, (.int .i64), (.int .i64), (.int .i64), (.int .i64), (.int .i64), .str, (.int .i64), (.int .i64), (.own 0)], .one (.int .i64)], [.arr 92 (.cons (.int .i64) (.cons (.int .i64) (.cons (.int .i64) (.cons (.int .i64) (.cons (.int .i64) (.cons .str (.int .i64))))))) true]⟩, ⟨[.agg [(.int .i64), (.int .i64), (.int .i64), (.int .i64), (.int .i64), (.int .i64), (.int .i64), .str, (.int .i64), (.int .i64), (.int .i64), (.int .i64), (.int .i64), .str, (.int .i64), (.int .i64), (.own 1)]], [.dead, .arr 92 (.cons (.int .i64) (.cons (.int .i64) (.cons (.int .i64) (.cons (.int .i64) (.cons (.int .i64) (.cons .str (.int .i64))))))) true]⟩, []⟩
def declrun_all_1 (w_0 : Int) (w_1 : Int) (w_2 : Int) (w_3 : Int) (w_4 : Int) (w_5 : Int) (w_6 : Int) (w_7 : ByteArray) (w_8 : Int) (w_9 : Int) (w_10 : Int) (w_11 : Int) (w_12 : Int) (w_13 : ByteArray) (w_14 : Int) (w_15 : Int) (arg : Int) (l0 : (List TEvent)) : (Option (((Int × Int × Int × Int × Int × Int × Int × ByteArray × Int × Int × Int × Int × Int × ByteArray × Int × Int × Unit × Unit) × Unit) × (Unit × (List TEvent) × Unit))) :=
  (declrun_drop w_0 w_1 w_2 w_3 w_4 w_5 w_6 w_7 w_8 w_9 w_10 w_11 w_12 w_13 w_14 w_15 l0).bind fun y1 =>
    some (((y1.1.1.1, y1.1.1.2.1, y1.1.1.2.2.1, y1.1.1.2.2.2.1, y1.1.1.2.2.2.2.1, y1.1.1.2.2.2.2.2.1, y1.1.1.2.2.2.2.2.2.1, y1.1.1.2.2.2.2.2.2.2.1, y1.1.1.2.2.2.2.2.2.2.2.1, y1.1.1.2.2.2.2.2.2.2.2.2.1, y1.1.1.2.2.2.2.2.2.2.2.2.2.1, y1.1.1.2.2.2.2.2.2.2.2.2.2.2.1, y1.1.1.2.2.2.2.2.2.2.2.2.2.2.2.1, y1.1.1.2.2.2.2.2.2.2.2.2.2.2.2.2.1, y1.1.1.2.2.2.2.2.2.2.2.2.2.2.2.2.2.1, y1.1.1.2.2.2.2.2.2.2.2.2.2.2.2.2.2.2.1, (), ()), ()), ((), y1.2.2.1, ()))
def fc108 : FC := ⟨⟨[.agg [(.int .i64), (.int .i64), (.int .i64), (.int .i64), (.int .i64), (.int .i64), (.int .i64), .str, (.int .i64), (.int .i64), (.int .i64), (.int .i64), (.int .i64), .str, (.int .i64), (.int .i64), (.own 0)], .one (.int .i64)], [.arr 92 (.cons (.int .i64) (.cons (.int .i64) (.cons (.int .i64) (.cons (.int .i64) (.cons (.int .i64) (.cons .str (.int .i64))))))) true]⟩, ⟨[.agg [(.int .i64), (.int .i64), (.int .i64), (.int .i64), (.int .i64), (.int .i64), (.int .i64), .str, (.int .i64), (.int .i64), (.int .i64), (.int .i64), (.int .i64), .str, (.int .i64), (.int .i64), (.own 1)]], [.dead, .arr 92 (.cons (.int .i64) (.cons (.int .i64) (.cons (.int .i64) (.cons (.int .i64) (.cons (.int .i64) (.cons .str (.int .i64))))))) true]⟩, fun x => declrun_all_1 x.1.1.1 x.1.1.2.1 x.1.1.2.2.1 x.1.1.2.2.2.1 x.1.1.2.2.2.2.1 x.1.1.2.2.2.2.2.1 x.1.1.2.2.2.2.2.2.1 x.1.1.2.2.2.2.2.2.2.1 x.1.1.2.2.2.2.2.2.2.2.1 x.1.1.2.2.2.2.2.2.2.2.2.1 x.1.1.2.2.2.2.2.2.2.2.2.2.1 x.1.1.2.2.2.2.2.2.2.2.2.2.2.1 x.1.1.2.2.2.2.2.2.2.2.2.2.2.2.1 x.1.1.2.2.2.2.2.2.2.2.2.2.2.2.2.1 x.1.1.2.2.2.2.2.2.2.2.2.2.2.2.2.2.1 x.1.1.2.2.2.2.2.2.2.2.2.2.2.2.2.2.2.1 x.1.2.1 x.2.1⟩
theorem con108 : Contract Try.prog 108 fc108 :=
  declrun_all_1_D.contract tok (cok_of (l := [(109, fc109)]) ⟨con109, trivial⟩) mixed (fn' := Try.f108) (by kernel_rfl) (by kernel_rfl) rfl (by kernel_rfl) (fun x => (FD.fn_eq _ _).trans (by kernel_rfl))
end
end Go.Proofs.Ytgjimkgehbppbaa
end

section
/-
Ytgjimkgehbppbaa: signalbench.declrun.collect, as one plain function, its equations, its contract. No condition.
-/
set_option maxRecDepth 100000
set_option linter.unusedVariables false
set_option maxHeartbeats 4000000
open Go Go.AM
namespace Go.Proofs.Ytgjimkgehbppbaa
noncomputable section
def declrun_collect_F4 : FSh := ⟨[(1, .one (.int .i64)), (2, .one (.ptr 1 0)), (4, .one (.ptr 2 0))], [.arr 92 (.cons (.int .i64) (.cons (.int .i64) (.cons (.int .i64) (.cons (.int .i64) (.cons (.int .i64) (.cons .str (.int .i64))))))) true, .box [(.int .i64), (.int .i64), (.int .i64), (.int .i64), (.int .i64), (.int .i64), (.int .i64), .str, (.int .i64), (.int .i64), (.int .i64), (.int .i64), (.int .i64), .str, (.int .i64), (.int .i64), (.own 0)], .box [(.int .i64), (.int .i64), (.int .i64), (.int .i64), (.int .i64), (.int .i64), (.int .i64), .str, (.int .i64), (.int .i64), (.int .i64), (.int .i64), (.int .i64), .str, (.int .i64), (.int .i64), (.own 3)], .arr 92 (.cons (.int .i64) (.cons (.int .i64) (.cons (.int .i64) (.cons (.int .i64) (.cons (.int .i64) (.cons .str (.int .i64))))))) true]⟩
def declrun_collect_D : FD := ⟨T, lookC [], [4], (Try.f111.body.getD .skip), Try.f111.results.toList, ⟨[.agg [(.int .i64), (.int .i64), (.int .i64), (.int .i64), (.int .i64), (.int .i64), (.int .i64), .str, (.int .i64), (.int .i64), (.int .i64), (.int .i64), (.int .i64), .str, (.int .i64), (.int .i64), (.own 0)], .one (.int .i64)], [.arr 92 (.cons (.int .i64) (.cons (.int .i64) (.cons (.int .i64) (.cons (.int .i64) (.cons (.int .i64) (.cons .str (.int .i64))))))) true]⟩, ⟨[.agg [(.int .i64), (.int .i64), (.int .i64), (.int .i64), (.int .i64), (.int .i64), (.int .i64), .str, (.int .i64), (.int .i64), (.int .i64), (.int .i64), (.int .i64), .str, (.int .i64), (.int .i64), (.own 1)]], [.dead, .arr 92 (.cons (.int .i64) (.cons (.int .i64) (.cons (.int .i64) (.cons (.int .i64) (.cons (.int .i64) (.cons .str (.int .i64))))))) true]⟩, [(4, declrun_collect_F4)]⟩
def declrun_collect_l4 (b : Int) (l0 : (List TEvent)) (h1_0 : Int) (h1_1 : Int) (h1_2 : Int) (h1_3 : Int) (h1_4 : Int) (h1_5 : Int) (h1_6 : Int) (h1_7 : ByteArray) (h1_8 : Int) (h1_9 : Int) (h1_10 : Int) (h1_11 : Int) (h1_12 : Int) (h1_13 : ByteArray) (h1_14 : Int) (h1_15 : Int) (h2_0 : Int) (h2_1 : Int) (h2_2 : Int) (h2_3 : Int) (h2_4 : Int) (h2_5 : Int) (h2_6 : Int) (h2_7 : ByteArray) (h2_8 : Int) (h2_9 : Int) (h2_10 : Int) (h2_11 : Int) (h2_12 : Int) (h2_13 : ByteArray) (h2_14 : Int) (h2_15 : Int) (l3 : (List TEvent)) : (Option (((Int × Int × Int × Int × Int × Int × Int × ByteArray × Int × Int × Int × Int × Int × ByteArray × Int × Int × Unit × Unit) × Unit) × (Unit × (List TEvent) × Unit))) := declrun_collect_D.lab 4 declrun_collect_F4 ((b, (), (), ()), (l0, (h1_0, h1_1, h1_2, h1_3, h1_4, h1_5, h1_6, h1_7, h1_8, h1_9, h1_10, h1_11, h1_12, h1_13, h1_14, h1_15, (), ()), (h2_0, h2_1, h2_2, h2_3, h2_4, h2_5, h2_6, h2_7, h2_8, h2_9, h2_10, h2_11, h2_12, h2_13, h2_14, h2_15, (), ()), l3, ()))
theorem declrun_collect_l4_eq (b : Int) (l0 : (List TEvent)) (h1_0 : Int) (h1_1 : Int) (h1_2 : Int) (h1_3 : Int) (h1_4 : Int) (h1_5 : Int) (h1_6 : Int) (h1_7 : ByteArray) (h1_8 : Int) (h1_9 : Int) (h1_10 : Int) (h1_11 : Int) (h1_12 : Int) (h1_13 : ByteArray) (h1_14 : Int) (h1_15 : Int) (h2_0 : Int) (h2_1 : Int) (h2_2 : Int) (h2_3 : Int) (h2_4 : Int) (h2_5 : Int) (h2_6 : Int) (h2_7 : ByteArray) (h2_8 : Int) (h2_9 : Int) (h2_10 : Int) (h2_11 : Int) (h2_12 : Int) (h2_13 : ByteArray) (h2_14 : Int) (h2_15 : Int) (l3 : (List TEvent)) : declrun_collect_l4 b l0 h1_0 h1_1 h1_2 h1_3 h1_4 h1_5 h1_6 h1_7 h1_8 h1_9 h1_10 h1_11 h1_12 h1_13 h1_14 h1_15 h2_0 h2_1 h2_2 h2_3 h2_4 h2_5 h2_6 h2_7 h2_8 h2_9 h2_10 h2_11 h2_12 h2_13 h2_14 h2_15 l3 =
  if h1_7.size + (strOfBytes [IntKind.u8.wrap b]).size ≤ 9223372036854775807 then
    some (((h1_0, h1_1, h1_2, h1_3, h1_4, h1_5, h1_6, h1_7 ++ (strOfBytes [IntKind.u8.wrap b]), h1_8, h1_9, h1_10, h1_11, h1_12, h1_13, h1_14, h1_15, (), ()), ()), ((), l0, ()))
  else
    none := (FD.lab_eq _ _ _ _).trans (by kernel_rfl)
def declrun_collect (w_0 : Int) (w_1 : Int) (w_2 : Int) (w_3 : Int) (w_4 : Int) (w_5 : Int) (w_6 : Int) (w_7 : ByteArray) (w_8 : Int) (w_9 : Int) (w_10 : Int) (w_11 : Int) (w_12 : Int) (w_13 : ByteArray) (w_14 : Int) (w_15 : Int) (b : Int) (l0 : (List TEvent)) : (Option (((Int × Int × Int × Int × Int × Int × Int × ByteArray × Int × Int × Int × Int × Int × ByteArray × Int × Int × Unit × Unit) × Unit) × (Unit × (List TEvent) × Unit))) :=
  if (decide ((w_7.size : Int) ≥ 4096)) = true then
    some (((w_0, w_1, w_2, w_3, w_4, w_5, w_6, w_7, w_8, w_9, w_10, w_11, w_12, w_13, w_14, w_15, (), ()), ()), ((), l0, ()))
  else
    if (w_7.toList == (strB []).toList) = true then
      declrun_collect_l4 b l0 w_0 w_1 w_9 w_3 w_4 w_5 w_6 w_7 w_8 w_9 w_10 w_11 w_12 w_13 w_14 w_15 0 0 0 0 0 0 0 (strB []) 0 0 0 0 0 (strB []) 0 0 []
    else
      declrun_collect_l4 b l0 w_0 w_1 w_2 w_3 w_4 w_5 w_6 w_7 w_8 w_9 w_10 w_11 w_12 w_13 w_14 w_15 0 0 0 0 0 0 0 (strB []) 0 0 0 0 0 (strB []) 0 0 []
def fc111 : FC := ⟨⟨[.agg [(.int .i64), (.int .i64), (.int .i64), (.int .i64), (.int .i64), (.int .i64), (.int .i64), .str, (.int .i64), (.int .i64), (.int .i64), (.int .i64), (.int .i64), .str, (.int .i64), (.int .i64), (.own 0)], .one (.int .i64)], [.arr 92 (.cons (.int .i64) (.cons (.int .i64) (.cons (.int .i64) (.cons (.int .i64) (.cons (.int .i64) (.cons .str (.int .i64))))))) true]⟩, ⟨[.agg [(.int .i64), (.int .i64), (.int .i64), (.int .i64), (.int .i64), (.int .i64), (.int .i64), .str, (.int .i64), (.int .i64), (.int .i64), (.int .i64), (.int .i64), .str, (.int .i64), (.int .i64), (.own 1)]], [.dead, .arr 92 (.cons (.int .i64) (.cons (.int .i64) (.cons (.int .i64) (.cons (.int .i64) (.cons (.int .i64) (.cons .str (.int .i64))))))) true]⟩, fun x => declrun_collect x.1.1.1 x.1.1.2.1 x.1.1.2.2.1 x.1.1.2.2.2.1 x.1.1.2.2.2.2.1 x.1.1.2.2.2.2.2.1 x.1.1.2.2.2.2.2.2.1 x.1.1.2.2.2.2.2.2.2.1 x.1.1.2.2.2.2.2.2.2.2.1 x.1.1.2.2.2.2.2.2.2.2.2.1 x.1.1.2.2.2.2.2.2.2.2.2.2.1 x.1.1.2.2.2.2.2.2.2.2.2.2.2.1 x.1.1.2.2.2.2.2.2.2.2.2.2.2.2.1 x.1.1.2.2.2.2.2.2.2.2.2.2.2.2.2.1 x.1.1.2.2.2.2.2.2.2.2.2.2.2.2.2.2.1 x.1.1.2.2.2.2.2.2.2.2.2.2.2.2.2.2.2.1 x.1.2.1 x.2.1⟩
theorem con111 : Contract Try.prog 111 fc111 :=
  declrun_collect_D.contract tok (cok_of (l := []) trivial) mixed (fn' := Try.f111) (by kernel_rfl) (by kernel_rfl) rfl (by kernel_rfl) (fun x => (FD.fn_eq _ _).trans (by kernel_rfl))
end
end Go.Proofs.Ytgjimkgehbppbaa
end

section
/-
Ytgjimkgehbppbaa: signalbench.declrun.all$2, as one plain function, its equations, its contract. No condition.
-/
set_option maxRecDepth 100000
set_option linter.unusedVariables false
set_option maxHeartbeats 4000000
open Go Go.AM
namespace Go.Proofs.Ytgjimkgehbppbaa
noncomputable section
def declrun_all_2_D : FD := ⟨T, lookC [(111, fc111)], [], (Try.f110.body.getD .skip), Try.f110.results.toList, ⟨[.agg [(.int .i64), (.int .i64), (.int .i64), (.int .i64), (.int .i64), (.int .i64), (.int .i64), .str, (.int .i64), (.int .i64), (.int .i64), (.int .i64), (.int .i64), .str, (.int .i64), (.int .i64), (.own 0)], .one (.int .i64)], [.arr 92 (.cons (.int .i64) (.cons (.int .i64) (.cons (.int .i64) (.cons (.int .i64) (.cons (.int .i64) (.cons .str (.int .i64))))))) true]⟩, ⟨[.agg [(.int .i64), (.int .i64), (.int .i64), (.int .i64), (.int .i64), (.int .i64), (.int .i64), .str, (.int .i64), (.int .i64), (.int .i64), (.int .i64), (.int .i64), .str, (.int .i64), (.int .i64), (.own 1)]], [.dead, .arr 92 (.cons (.int .i64) (.cons (.int .i64) (.cons (.int .i64) (.cons (.int .i64) (.cons (.int .i64) (.cons .str (.int .i64))))))) true]⟩, []⟩
def declrun_all_2 (w_0 : Int) (w_1 : Int) (w_2 : Int) (w_3 : Int) (w_4 : Int) (w_5 : Int) (w_6 : Int) (w_7 : ByteArray) (w_8 : Int) (w_9 : Int) (w_10 : Int) (w_11 : Int) (w_12 : Int) (w_13 : ByteArray) (w_14 : Int) (w_15 : Int) (arg : Int) (l0 : (List TEvent)) : (Option (((Int × Int × Int × Int × Int × Int × Int × ByteArray × Int × Int × Int × Int × Int × ByteArray × Int × Int × Unit × Unit) × Unit) × (Unit × (List TEvent) × Unit))) :=
  (declrun_collect w_0 w_1 w_2 w_3 w_4 w_5 w_6 w_7 w_8 w_9 w_10 w_11 w_12 w_13 w_14 w_15 w_11 l0).bind fun y1 =>
    some (((y1.1.1.1, y1.1.1.2.1, y1.1.1.2.2.1, y1.1.1.2.2.2.1, y1.1.1.2.2.2.2.1, y1.1.1.2.2.2.2.2.1, y1.1.1.2.2.2.2.2.2.1, y1.1.1.2.2.2.2.2.2.2.1, y1.1.1.2.2.2.2.2.2.2.2.1, y1.1.1.2.2.2.2.2.2.2.2.2.1, y1.1.1.2.2.2.2.2.2.2.2.2.2.1, y1.1.1.2.2.2.2.2.2.2.2.2.2.2.1, y1.1.1.2.2.2.2.2.2.2.2.2.2.2.2.1, y1.1.1.2.2.2.2.2.2.2.2.2.2.2.2.2.1, y1.1.1.2.2.2.2.2.2.2.2.2.2.2.2.2.2.1, y1.1.1.2.2.2.2.2.2.2.2.2.2.2.2.2.2.2.1, (), ()), ()), ((), y1.2.2.1, ()))
def fc110 : FC := ⟨⟨[.agg [(.int .i64), (.int .i64), (.int .i64), (.int .i64), (.int .i64), (.int .i64), (.int .i64), .str, (.int .i64), (.int .i64), (.int .i64), (.int .i64), (.int .i64), .str, (.int .i64), (.int .i64), (.own 0)], .one (.int .i64)], [.arr 92 (.cons (.int .i64) (.cons (.int .i64) (.cons (.int .i64) (.cons (.int .i64) (.cons (.int .i64) (.cons .str (.int .i64))))))) true]⟩, ⟨[.agg [(.int .i64), (.int .i64), (.int .i64), (.int .i64), (.int .i64), (.int .i64), (.int .i64), .str, (.int .i64), (.int .i64), (.int .i64), (.int .i64), (.int .i64), .str, (.int .i64), (.int .i64), (.own 1)]], [.dead, .arr 92 (.cons (.int .i64) (.cons (.int .i64) (.cons (.int .i64) (.cons (.int .i64) (.cons (.int .i64) (.cons .str (.int .i64))))))) true]⟩, fun x => declrun_all_2 x.1.1.1 x.1.1.2.1 x.1.1.2.2.1 x.1.1.2.2.2.1 x.1.1.2.2.2.2.1 x.1.1.2.2.2.2.2.1 x.1.1.2.2.2.2.2.2.1 x.1.1.2.2.2.2.2.2.2.1 x.1.1.2.2.2.2.2.2.2.2.1 x.1.1.2.2.2.2.2.2.2.2.2.1 x.1.1.2.2.2.2.2.2.2.2.2.2.1 x.1.1.2.2.2.2.2.2.2.2.2.2.2.1 x.1.1.2.2.2.2.2.2.2.2.2.2.2.2.1 x.1.1.2.2.2.2.2.2.2.2.2.2.2.2.2.1 x.1.1.2.2.2.2.2.2.2.2.2.2.2.2.2.2.1 x.1.1.2.2.2.2.2.2.2.2.2.2.2.2.2.2.2.1 x.1.2.1 x.2.1⟩
theorem con110 : Contract Try.prog 110 fc110 :=
  declrun_all_2_D.contract tok (cok_of (l := [(111, fc111)]) ⟨con111, trivial⟩) mixed (fn' := Try.f110) (by kernel_rfl) (by kernel_rfl) rfl (by kernel_rfl) (fun x => (FD.fn_eq _ _).trans (by kernel_rfl))
end
end Go.Proofs.Ytgjimkgehbppbaa
end

section
/-
Ytgjimkgehbppbaa: signalbench.declrun.all$3, as one plain function, its equations, its contract. No condition.
-/
set_option maxRecDepth 100000
set_option linter.unusedVariables false
set_option maxHeartbeats 4000000
open Go Go.AM
namespace Go.Proofs.Ytgjimkgehbppbaa
noncomputable section
def declrun_all_3_D : FD := ⟨T, lookC [(111, fc111)], [], (Try.f112.body.getD .skip), Try.f112.results.toList, ⟨[.agg [(.int .i64), (.int .i64), (.int .i64), (.int .i64), (.int .i64), (.int .i64), (.int .i64), .str, (.int .i64), (.int .i64), (.int .i64), (.int .i64), (.int .i64), .str, (.int .i64), (.int .i64), (.own 0)], .one (.int .i64)], [.arr 92 (.cons (.int .i64) (.cons (.int .i64) (.cons (.int .i64) (.cons (.int .i64) (.cons (.int .i64) (.cons .str (.int .i64))))))) true]⟩, ⟨[.agg [(.int .i64), (.int .i64), (.int .i64), (.int .i64), (.int .i64), (.int .i64), (.int .i64), .str, (.int .i64), (.int .i64), (.int .i64), (.int .i64), (.int .i64), .str, (.int .i64), (.int .i64), (.own 1)]], [.dead, .arr 92 (.cons (.int .i64) (.cons (.int .i64) (.cons (.int .i64) (.cons (.int .i64) (.cons (.int .i64) (.cons .str (.int .i64))))))) true]⟩, []⟩
def declrun_all_3 (w_0 : Int) (w_1 : Int) (w_2 : Int) (w_3 : Int) (w_4 : Int) (w_5 : Int) (w_6 : Int) (w_7 : ByteArray) (w_8 : Int) (w_9 : Int) (w_10 : Int) (w_11 : Int) (w_12 : Int) (w_13 : ByteArray) (w_14 : Int) (w_15 : Int) (arg : Int) (l0 : (List TEvent)) : (Option (((Int × Int × Int × Int × Int × Int × Int × ByteArray × Int × Int × Int × Int × Int × ByteArray × Int × Int × Unit × Unit) × Unit) × (Unit × (List TEvent) × Unit))) :=
  (declrun_collect w_0 w_1 w_2 w_3 w_4 w_5 w_6 w_7 w_8 w_9 w_10 w_11 w_12 w_13 w_14 w_15 (IntKind.i64.wrap (BitVec.ofInt 64 w_11 ^^^ BitVec.ofInt 64 arg).toNat) l0).bind fun y1 =>
    some (((y1.1.1.1, y1.1.1.2.1, y1.1.1.2.2.1, y1.1.1.2.2.2.1, y1.1.1.2.2.2.2.1, y1.1.1.2.2.2.2.2.1, y1.1.1.2.2.2.2.2.2.1, y1.1.1.2.2.2.2.2.2.2.1, y1.1.1.2.2.2.2.2.2.2.2.1, y1.1.1.2.2.2.2.2.2.2.2.2.1, y1.1.1.2.2.2.2.2.2.2.2.2.2.1, y1.1.1.2.2.2.2.2.2.2.2.2.2.2.1, y1.1.1.2.2.2.2.2.2.2.2.2.2.2.2.1, y1.1.1.2.2.2.2.2.2.2.2.2.2.2.2.2.1, y1.1.1.2.2.2.2.2.2.2.2.2.2.2.2.2.2.1, y1.1.1.2.2.2.2.2.2.2.2.2.2.2.2.2.2.2.1, (), ()), ()), ((), y1.2.2.1, ()))
def fc112 : FC := ⟨⟨[.agg [(.int .i64), (.int .i64), (.int .i64), (.int .i64), (.int .i64), (.int .i64), (.int .i64), .str, (.int .i64), (.int .i64), (.int .i64), (.int .i64), (.int .i64), .str, (.int .i64), (.int .i64), (.own 0)], .one (.int .i64)], [.arr 92 (.cons (.int .i64) (.cons (.int .i64) (.cons (.int .i64) (.cons (.int .i64) (.cons (.int .i64) (.cons .str (.int .i64))))))) true]⟩, ⟨[.agg [(.int .i64), (.int .i64), (.int .i64), (.int .i64), (.int .i64), (.int .i64), (.int .i64), .str, (.int .i64), (.int .i64), (.int .i64), (.int .i64), (.int .i64), .str, (.int .i64), (.int .i64), (.own 1)]], [.dead, .arr 92 (.cons (.int .i64) (.cons (.int .i64) (.cons (.int .i64) (.cons (.int .i64) (.cons (.int .i64) (.cons .str (.int .i64))))))) true]⟩, fun x => declrun_all_3 x.1.1.1 x.1.1.2.1 x.1.1.2.2.1 x.1.1.2.2.2.1 x.1.1.2.2.2.2.1 x.1.1.2.2.2.2.2.1 x.1.1.2.2.2.2.2.2.1 x.1.1.2.2.2.2.2.2.2.1 x.1.1.2.2.2.2.2.2.2.2.1 x.1.1.2.2.2.2.2.2.2.2.2.1 x.1.1.2.2.2.2.2.2.2.2.2.2.1 x.1.1.2.2.2.2.2.2.2.2.2.2.2.1 x.1.1.2.2.2.2.2.2.2.2.2.2.2.2.1 x.1.1.2.2.2.2.2.2.2.2.2.2.2.2.2.1 x.1.1.2.2.2.2.2.2.2.2.2.2.2.2.2.2.1 x.1.1.2.2.2.2.2.2.2.2.2.2.2.2.2.2.2.1 x.1.2.1 x.2.1⟩
theorem con112 : Contract Try.prog 112 fc112 :=
  declrun_all_3_D.contract tok (cok_of (l := [(111, fc111)]) ⟨con111, trivial⟩) mixed (fn' := Try.f112) (by kernel_rfl) (by kernel_rfl) rfl (by kernel_rfl) (fun x => (FD.fn_eq _ _).trans (by kernel_rfl))
end
end Go.Proofs.Ytgjimkgehbppbaa
end

section
/-
Ytgjimkgehbppbaa: signalbench.declrun.tell, as one plain function, its equations, its contract. No condition.
-/
set_option maxRecDepth 100000
set_option linter.unusedVariables false
set_option maxHeartbeats 4000000
open Go Go.AM
namespace Go.Proofs.Ytgjimkgehbppbaa
noncomputable section
def declrun_tell_F2 : FSh := ⟨[(1, .one (.int .i64)), (2, .one (.int .i64)), (3, .one (.ptr 1 0)), (6, .one (.ptr 2 0)), (7, .one (.int .i64))], [.arr 92 (.cons (.int .i64) (.cons (.int .i64) (.cons (.int .i64) (.cons (.int .i64) (.cons (.int .i64) (.cons .str (.int .i64))))))) true, .box [(.int .i64), (.int .i64), (.int .i64), (.int .i64), (.int .i64), (.int .i64), (.int .i64), .str, (.int .i64), (.int .i64), (.int .i64), (.int .i64), (.int .i64), .str, (.int .i64), (.int .i64), (.own 0)], .box [(.int .i64), (.int .i64), (.int .i64), (.int .i64), (.int .i64), (.int .i64), (.int .i64), .str, (.int .i64), (.int .i64), (.int .i64), (.int .i64), (.int .i64), .str, (.int .i64), (.int .i64), (.own 3)], .arr 92 (.cons (.int .i64) (.cons (.int .i64) (.cons (.int .i64) (.cons (.int .i64) (.cons (.int .i64) (.cons .str (.int .i64))))))) true]⟩
def declrun_tell_D : FD := ⟨T, lookC [(109, fc109)], [2], (Try.f114.body.getD .skip), Try.f114.results.toList, ⟨[.agg [(.int .i64), (.int .i64), (.int .i64), (.int .i64), (.int .i64), (.int .i64), (.int .i64), .str, (.int .i64), (.int .i64), (.int .i64), (.int .i64), (.int .i64), .str, (.int .i64), (.int .i64), (.own 0)], .one (.int .i64), .one (.int .i64)], [.arr 92 (.cons (.int .i64) (.cons (.int .i64) (.cons (.int .i64) (.cons (.int .i64) (.cons (.int .i64) (.cons .str (.int .i64))))))) true]⟩, ⟨[.agg [(.int .i64), (.int .i64), (.int .i64), (.int .i64), (.int .i64), (.int .i64), (.int .i64), .str, (.int .i64), (.int .i64), (.int .i64), (.int .i64), (.int .i64), .str, (.int .i64), (.int .i64), (.own 1)]], [.dead, .arr 92 (.cons (.int .i64) (.cons (.int .i64) (.cons (.int .i64) (.cons (.int .i64) (.cons (.int .i64) (.cons .str (.int .i64))))))) true]⟩, [(2, declrun_tell_F2)]⟩
def declrun_tell_l2 (value : Int) (fault : Int) (from_ : Int) (l0 : (List TEvent)) (h1_0 : Int) (h1_1 : Int) (h1_2 : Int) (h1_3 : Int) (h1_4 : Int) (h1_5 : Int) (h1_6 : Int) (h1_7 : ByteArray) (h1_8 : Int) (h1_9 : Int) (h1_10 : Int) (h1_11 : Int) (h1_12 : Int) (h1_13 : ByteArray) (h1_14 : Int) (h1_15 : Int) (h2_0 : Int) (h2_1 : Int) (h2_2 : Int) (h2_3 : Int) (h2_4 : Int) (h2_5 : Int) (h2_6 : Int) (h2_7 : ByteArray) (h2_8 : Int) (h2_9 : Int) (h2_10 : Int) (h2_11 : Int) (h2_12 : Int) (h2_13 : ByteArray) (h2_14 : Int) (h2_15 : Int) (l3 : (List TEvent)) : (Option (((Int × Int × Int × Int × Int × Int × Int × ByteArray × Int × Int × Int × Int × Int × ByteArray × Int × Int × Unit × Unit) × Unit) × (Unit × (List TEvent) × Unit))) := declrun_tell_D.lab 2 declrun_tell_F2 ((value, fault, (), (), from_, ()), (l0, (h1_0, h1_1, h1_2, h1_3, h1_4, h1_5, h1_6, h1_7, h1_8, h1_9, h1_10, h1_11, h1_12, h1_13, h1_14, h1_15, (), ()), (h2_0, h2_1, h2_2, h2_3, h2_4, h2_5, h2_6, h2_7, h2_8, h2_9, h2_10, h2_11, h2_12, h2_13, h2_14, h2_15, (), ()), l3, ()))
theorem declrun_tell_l2_eq (value : Int) (fault : Int) (from_ : Int) (l0 : (List TEvent)) (h1_0 : Int) (h1_1 : Int) (h1_2 : Int) (h1_3 : Int) (h1_4 : Int) (h1_5 : Int) (h1_6 : Int) (h1_7 : ByteArray) (h1_8 : Int) (h1_9 : Int) (h1_10 : Int) (h1_11 : Int) (h1_12 : Int) (h1_13 : ByteArray) (h1_14 : Int) (h1_15 : Int) (h2_0 : Int) (h2_1 : Int) (h2_2 : Int) (h2_3 : Int) (h2_4 : Int) (h2_5 : Int) (h2_6 : Int) (h2_7 : ByteArray) (h2_8 : Int) (h2_9 : Int) (h2_10 : Int) (h2_11 : Int) (h2_12 : Int) (h2_13 : ByteArray) (h2_14 : Int) (h2_15 : Int) (l3 : (List TEvent)) : declrun_tell_l2 value fault from_ l0 h1_0 h1_1 h1_2 h1_3 h1_4 h1_5 h1_6 h1_7 h1_8 h1_9 h1_10 h1_11 h1_12 h1_13 h1_14 h1_15 h2_0 h2_1 h2_2 h2_3 h2_4 h2_5 h2_6 h2_7 h2_8 h2_9 h2_10 h2_11 h2_12 h2_13 h2_14 h2_15 l3 =
  if (l0.length + 1) * 64 ≤ 140737488355328 ∧ 0 < 64 then
    (declrun_drop h1_0 h1_1 h1_2 h1_3 h1_4 h1_5 h1_6 h1_7 h1_8 h1_9 h1_10 h1_11 h1_12 h1_13 h1_14 h1_15 (l0 ++ [(h1_15, from_, h1_10, value, 0, h1_7, fault)])).bind fun y1 =>
      some (((y1.1.1.1, y1.1.1.2.1, y1.1.1.2.2.1, y1.1.1.2.2.2.1, y1.1.1.2.2.2.2.1, y1.1.1.2.2.2.2.2.1, y1.1.1.2.2.2.2.2.2.1, y1.1.1.2.2.2.2.2.2.2.1, y1.1.1.2.2.2.2.2.2.2.2.1, y1.1.1.2.2.2.2.2.2.2.2.2.1, y1.1.1.2.2.2.2.2.2.2.2.2.2.1, y1.1.1.2.2.2.2.2.2.2.2.2.2.2.1, y1.1.1.2.2.2.2.2.2.2.2.2.2.2.2.1, y1.1.1.2.2.2.2.2.2.2.2.2.2.2.2.2.1, y1.1.1.2.2.2.2.2.2.2.2.2.2.2.2.2.2.1, y1.1.1.2.2.2.2.2.2.2.2.2.2.2.2.2.2.2.1, (), ()), ()), ((), y1.2.2.1, ()))
  else
    none := (FD.lab_eq _ _ _ _).trans (by kernel_rfl)
def declrun_tell (w_0 : Int) (w_1 : Int) (w_2 : Int) (w_3 : Int) (w_4 : Int) (w_5 : Int) (w_6 : Int) (w_7 : ByteArray) (w_8 : Int) (w_9 : Int) (w_10 : Int) (w_11 : Int) (w_12 : Int) (w_13 : ByteArray) (w_14 : Int) (w_15 : Int) (value : Int) (fault : Int) (l0 : (List TEvent)) : (Option (((Int × Int × Int × Int × Int × Int × Int × ByteArray × Int × Int × Int × Int × Int × ByteArray × Int × Int × Unit × Unit) × Unit) × (Unit × (List TEvent) × Unit))) :=
  if (!(w_7.toList == (strB []).toList)) = true then
    declrun_tell_l2 value fault w_2 l0 w_0 w_1 w_2 w_3 w_4 w_5 w_6 w_7 w_8 w_9 w_10 w_11 w_12 w_13 w_14 w_15 0 0 0 0 0 0 0 (strB []) 0 0 0 0 0 (strB []) 0 0 []
  else
    declrun_tell_l2 value fault w_9 l0 w_0 w_1 w_2 w_3 w_4 w_5 w_6 w_7 w_8 w_9 w_10 w_11 w_12 w_13 w_14 w_15 0 0 0 0 0 0 0 (strB []) 0 0 0 0 0 (strB []) 0 0 []
def fc114 : FC := ⟨⟨[.agg [(.int .i64), (.int .i64), (.int .i64), (.int .i64), (.int .i64), (.int .i64), (.int .i64), .str, (.int .i64), (.int .i64), (.int .i64), (.int .i64), (.int .i64), .str, (.int .i64), (.int .i64), (.own 0)], .one (.int .i64), .one (.int .i64)], [.arr 92 (.cons (.int .i64) (.cons (.int .i64) (.cons (.int .i64) (.cons (.int .i64) (.cons (.int .i64) (.cons .str (.int .i64))))))) true]⟩, ⟨[.agg [(.int .i64), (.int .i64), (.int .i64), (.int .i64), (.int .i64), (.int .i64), (.int .i64), .str, (.int .i64), (.int .i64), (.int .i64), (.int .i64), (.int .i64), .str, (.int .i64), (.int .i64), (.own 1)]], [.dead, .arr 92 (.cons (.int .i64) (.cons (.int .i64) (.cons (.int .i64) (.cons (.int .i64) (.cons (.int .i64) (.cons .str (.int .i64))))))) true]⟩, fun x => declrun_tell x.1.1.1 x.1.1.2.1 x.1.1.2.2.1 x.1.1.2.2.2.1 x.1.1.2.2.2.2.1 x.1.1.2.2.2.2.2.1 x.1.1.2.2.2.2.2.2.1 x.1.1.2.2.2.2.2.2.2.1 x.1.1.2.2.2.2.2.2.2.2.1 x.1.1.2.2.2.2.2.2.2.2.2.1 x.1.1.2.2.2.2.2.2.2.2.2.2.1 x.1.1.2.2.2.2.2.2.2.2.2.2.2.1 x.1.1.2.2.2.2.2.2.2.2.2.2.2.2.1 x.1.1.2.2.2.2.2.2.2.2.2.2.2.2.2.1 x.1.1.2.2.2.2.2.2.2.2.2.2.2.2.2.2.1 x.1.1.2.2.2.2.2.2.2.2.2.2.2.2.2.2.2.1 x.1.2.1 x.1.2.2.1 x.2.1⟩
theorem con114 : Contract Try.prog 114 fc114 :=
  declrun_tell_D.contract tok (cok_of (l := [(109, fc109)]) ⟨con109, trivial⟩) mixed (fn' := Try.f114) (by kernel_rfl) (by kernel_rfl) rfl (by kernel_rfl) (fun x => (FD.fn_eq _ _).trans (by kernel_rfl))
end
end Go.Proofs.Ytgjimkgehbppbaa
end

section
/-
Ytgjimkgehbppbaa: signalbench.declrun.all$4, as one plain function, its equations, its contract. No condition.
-/
set_option maxRecDepth 100000
set_option linter.unusedVariables false
set_option maxHeartbeats 4000000
open Go Go.AM
namespace Go.Proofs.Ytgjimkgehbppbaa
noncomputable section
def declrun_all_4_D : FD := ⟨T, lookC [(114, fc114)], [], (Try.f113.body.getD .skip), Try.f113.results.toList, ⟨[.agg [(.int .i64), (.int .i64), (.int .i64), (.int .i64), (.int .i64), (.int .i64), (.int .i64), .str, (.int .i64), (.int .i64), (.int .i64), (.int .i64), (.int .i64), .str, (.int .i64), (.int .i64), (.own 0)], .one (.int .i64)], [.arr 92 (.cons (.int .i64) (.cons (.int .i64) (.cons (.int .i64) (.cons (.int .i64) (.cons (.int .i64) (.cons .str (.int .i64))))))) true]⟩, ⟨[.agg [(.int .i64), (.int .i64), (.int .i64), (.int .i64), (.int .i64), (.int .i64), (.int .i64), .str, (.int .i64), (.int .i64), (.int .i64), (.int .i64), (.int .i64), .str, (.int .i64), (.int .i64), (.own 1)]], [.dead, .arr 92 (.cons (.int .i64) (.cons (.int .i64) (.cons (.int .i64) (.cons (.int .i64) (.cons (.int .i64) (.cons .str (.int .i64))))))) true]⟩, []⟩
def declrun_all_4 (w_0 : Int) (w_1 : Int) (w_2 : Int) (w_3 : Int) (w_4 : Int) (w_5 : Int) (w_6 : Int) (w_7 : ByteArray) (w_8 : Int) (w_9 : Int) (w_10 : Int) (w_11 : Int) (w_12 : Int) (w_13 : ByteArray) (w_14 : Int) (w_15 : Int) (arg : Int) (l0 : (List TEvent)) : (Option (((Int × Int × Int × Int × Int × Int × Int × ByteArray × Int × Int × Int × Int × Int × ByteArray × Int × Int × Unit × Unit) × Unit) × (Unit × (List TEvent) × Unit))) :=
  (declrun_tell w_0 w_1 w_2 w_3 w_4 w_5 w_6 w_7 w_8 w_9 w_10 w_11 w_12 w_13 w_14 w_15 arg 0 l0).bind fun y1 =>
    some (((y1.1.1.1, y1.1.1.2.1, y1.1.1.2.2.1, y1.1.1.2.2.2.1, y1.1.1.2.2.2.2.1, y1.1.1.2.2.2.2.2.1, y1.1.1.2.2.2.2.2.2.1, y1.1.1.2.2.2.2.2.2.2.1, y1.1.1.2.2.2.2.2.2.2.2.1, y1.1.1.2.2.2.2.2.2.2.2.2.1, y1.1.1.2.2.2.2.2.2.2.2.2.2.1, y1.1.1.2.2.2.2.2.2.2.2.2.2.2.1, y1.1.1.2.2.2.2.2.2.2.2.2.2.2.2.1, y1.1.1.2.2.2.2.2.2.2.2.2.2.2.2.2.1, y1.1.1.2.2.2.2.2.2.2.2.2.2.2.2.2.2.1, y1.1.1.2.2.2.2.2.2.2.2.2.2.2.2.2.2.2.1, (), ()), ()), ((), y1.2.2.1, ()))
def fc113 : FC := ⟨⟨[.agg [(.int .i64), (.int .i64), (.int .i64), (.int .i64), (.int .i64), (.int .i64), (.int .i64), .str, (.int .i64), (.int .i64), (.int .i64), (.int .i64), (.int .i64), .str, (.int .i64), (.int .i64), (.own 0)], .one (.int .i64)], [.arr 92 (.cons (.int .i64) (.cons (.int .i64) (.cons (.int .i64) (.cons (.int .i64) (.cons (.int .i64) (.cons .str (.int .i64))))))) true]⟩, ⟨[.agg [(.int .i64), (.int .i64), (.int .i64), (.int .i64), (.int .i64), (.int .i64), (.int .i64), .str, (.int .i64), (.int .i64), (.int .i64), (.int .i64), (.int .i64), .str, (.int .i64), (.int .i64), (.own 1)]], [.dead, .arr 92 (.cons (.int .i64) (.cons (.int .i64) (.cons (.int .i64) (.cons (.int .i64) (.cons (.int .i64) (.cons .str (.int .i64))))))) true]⟩, fun x => declrun_all_4 x.1.1.1 x.1.1.2.1 x.1.1.2.2.1 x.1.1.2.2.2.1 x.1.1.2.2.2.2.1 x.1.1.2.2.2.2.2.1 x.1.1.2.2.2.2.2.2.1 x.1.1.2.2.2.2.2.2.2.1 x.1.1.2.2.2.2.2.2.2.2.1 x.1.1.2.2.2.2.2.2.2.2.2.1 x.1.1.2.2.2.2.2.2.2.2.2.2.1 x.1.1.2.2.2.2.2.2.2.2.2.2.2.1 x.1.1.2.2.2.2.2.2.2.2.2.2.2.2.1 x.1.1.2.2.2.2.2.2.2.2.2.2.2.2.2.1 x.1.1.2.2.2.2.2.2.2.2.2.2.2.2.2.2.1 x.1.1.2.2.2.2.2.2.2.2.2.2.2.2.2.2.2.1 x.1.2.1 x.2.1⟩
theorem con113 : Contract Try.prog 113 fc113 :=
  declrun_all_4_D.contract tok (cok_of (l := [(114, fc114)]) ⟨con114, trivial⟩) mixed (fn' := Try.f113) (by kernel_rfl) (by kernel_rfl) rfl (by kernel_rfl) (fun x => (FD.fn_eq _ _).trans (by kernel_rfl))
end
end Go.Proofs.Ytgjimkgehbppbaa
end

section
/-
Ytgjimkgehbppbaa: signalbench.declrun.all$5, as one plain function, its equations, its contract. No condition.
-/
set_option maxRecDepth 100000
set_option linter.unusedVariables false
set_option maxHeartbeats 4000000
open Go Go.AM
namespace Go.Proofs.Ytgjimkgehbppbaa
noncomputable section
def declrun_all_5_D : FD := ⟨T, lookC [(114, fc114)], [], (Try.f115.body.getD .skip), Try.f115.results.toList, ⟨[.agg [(.int .i64), (.int .i64), (.int .i64), (.int .i64), (.int .i64), (.int .i64), (.int .i64), .str, (.int .i64), (.int .i64), (.int .i64), (.int .i64), (.int .i64), .str, (.int .i64), (.int .i64), (.own 0)], .one (.int .i64)], [.arr 92 (.cons (.int .i64) (.cons (.int .i64) (.cons (.int .i64) (.cons (.int .i64) (.cons (.int .i64) (.cons .str (.int .i64))))))) true]⟩, ⟨[.agg [(.int .i64), (.int .i64), (.int .i64), (.int .i64), (.int .i64), (.int .i64), (.int .i64), .str, (.int .i64), (.int .i64), (.int .i64), (.int .i64), (.int .i64), .str, (.int .i64), (.int .i64), (.own 1)]], [.dead, .arr 92 (.cons (.int .i64) (.cons (.int .i64) (.cons (.int .i64) (.cons (.int .i64) (.cons (.int .i64) (.cons .str (.int .i64))))))) true]⟩, []⟩
def declrun_all_5 (w_0 : Int) (w_1 : Int) (w_2 : Int) (w_3 : Int) (w_4 : Int) (w_5 : Int) (w_6 : Int) (w_7 : ByteArray) (w_8 : Int) (w_9 : Int) (w_10 : Int) (w_11 : Int) (w_12 : Int) (w_13 : ByteArray) (w_14 : Int) (w_15 : Int) (arg : Int) (l0 : (List TEvent)) : (Option (((Int × Int × Int × Int × Int × Int × Int × ByteArray × Int × Int × Int × Int × Int × ByteArray × Int × Int × Unit × Unit) × Unit) × (Unit × (List TEvent) × Unit))) :=
  (declrun_tell w_0 w_1 w_2 w_3 w_4 w_5 w_6 w_7 w_8 w_9 w_10 w_11 w_12 w_13 w_14 w_15 0 arg l0).bind fun y1 =>
    some (((y1.1.1.1, y1.1.1.2.1, y1.1.1.2.2.1, y1.1.1.2.2.2.1, y1.1.1.2.2.2.2.1, y1.1.1.2.2.2.2.2.1, y1.1.1.2.2.2.2.2.2.1, y1.1.1.2.2.2.2.2.2.2.1, y1.1.1.2.2.2.2.2.2.2.2.1, y1.1.1.2.2.2.2.2.2.2.2.2.1, y1.1.1.2.2.2.2.2.2.2.2.2.2.1, y1.1.1.2.2.2.2.2.2.2.2.2.2.2.1, y1.1.1.2.2.2.2.2.2.2.2.2.2.2.2.1, y1.1.1.2.2.2.2.2.2.2.2.2.2.2.2.2.1, y1.1.1.2.2.2.2.2.2.2.2.2.2.2.2.2.2.1, y1.1.1.2.2.2.2.2.2.2.2.2.2.2.2.2.2.2.1, (), ()), ()), ((), y1.2.2.1, ()))
def fc115 : FC := ⟨⟨[.agg [(.int .i64), (.int .i64), (.int .i64), (.int .i64), (.int .i64), (.int .i64), (.int .i64), .str, (.int .i64), (.int .i64), (.int .i64), (.int .i64), (.int .i64), .str, (.int .i64), (.int .i64), (.own 0)], .one (.int .i64)], [.arr 92 (.cons (.int .i64) (.cons (.int .i64) (.cons (.int .i64) (.cons (.int .i64) (.cons (.int .i64) (.cons .str (.int .i64))))))) true]⟩, ⟨[.agg [(.int .i64), (.int .i64), (.int .i64), (.int .i64), (.int .i64), (.int .i64), (.int .i64), .str, (.int .i64), (.int .i64), (.int .i64), (.int .i64), (.int .i64), .str, (.int .i64), (.int .i64), (.own 1)]], [.dead, .arr 92 (.cons (.int .i64) (.cons (.int .i64) (.cons (.int .i64) (.cons (.int .i64) (.cons (.int .i64) (.cons .str (.int .i64))))))) true]⟩, fun x => declrun_all_5 x.1.1.1 x.1.1.2.1 x.1.1.2.2.1 x.1.1.2.2.2.1 x.1.1.2.2.2.2.1 x.1.1.2.2.2.2.2.1 x.1.1.2.2.2.2.2.2.1 x.1.1.2.2.2.2.2.2.2.1 x.1.1.2.2.2.2.2.2.2.2.1 x.1.1.2.2.2.2.2.2.2.2.2.1 x.1.1.2.2.2.2.2.2.2.2.2.2.1 x.1.1.2.2.2.2.2.2.2.2.2.2.2.1 x.1.1.2.2.2.2.2.2.2.2.2.2.2.2.1 x.1.1.2.2.2.2.2.2.2.2.2.2.2.2.2.1 x.1.1.2.2.2.2.2.2.2.2.2.2.2.2.2.2.1 x.1.1.2.2.2.2.2.2.2.2.2.2.2.2.2.2.2.1 x.1.2.1 x.2.1⟩
theorem con115 : Contract Try.prog 115 fc115 :=
  declrun_all_5_D.contract tok (cok_of (l := [(114, fc114)]) ⟨con114, trivial⟩) mixed (fn' := Try.f115) (by kernel_rfl) (by kernel_rfl) rfl (by kernel_rfl) (fun x => (FD.fn_eq _ _).trans (by kernel_rfl))
end
end Go.Proofs.Ytgjimkgehbppbaa
end

section
/-
Ytgjimkgehbppbaa: signalbench.declrun.all, as one plain function, its equations, its contract. No condition.
-/
set_option maxRecDepth 100000
set_option linter.unusedVariables false
set_option maxHeartbeats 4000000
open Go Go.AM
namespace Go.Proofs.Ytgjimkgehbppbaa
noncomputable section
def declrun_all_D : FD := ⟨T, lookC [(108, fc108), (110, fc110), (111, fc111), (112, fc112), (113, fc113), (115, fc115)], [], (Try.f96.body.getD .skip), Try.f96.results.toList, ⟨[], []⟩, ⟨[.agg [(.fn 108 []), (.fn 110 []), (.fn 112 []), (.fn 111 []), (.fn 113 []), (.fn 115 [])]], []⟩, []⟩
def declrun_all : (Option (((Unit × Unit × Unit × Unit × Unit × Unit × Unit) × Unit) × Unit)) :=
  some ((((), (), (), (), (), (), ()), ()), ())
def fc96 : FC := ⟨⟨[], []⟩, ⟨[.agg [(.fn 108 []), (.fn 110 []), (.fn 112 []), (.fn 111 []), (.fn 113 []), (.fn 115 [])]], []⟩, fun x => declrun_all⟩
theorem con96 : Contract Try.prog 96 fc96 :=
  declrun_all_D.contract tok (cok_of (l := [(108, fc108), (110, fc110), (111, fc111), (112, fc112), (113, fc113), (115, fc115)]) ⟨con108, con110, con111, con112, con113, con115, trivial⟩) mixed (fn' := Try.f96) (by kernel_rfl) (by kernel_rfl) rfl (by kernel_rfl) (fun x => (FD.fn_eq _ _).trans (by kernel_rfl))
end
end Go.Proofs.Ytgjimkgehbppbaa
end

section
/-
Ytgjimkgehbppbaa: signalbench.declrun.do, as one plain function, its equations, its contract. No condition.
-/
set_option maxRecDepth 100000
set_option linter.unusedVariables false
set_option maxHeartbeats 4000000
open Go Go.AM
namespace Go.Proofs.Ytgjimkgehbppbaa
noncomputable section
def declrun_do_F4 : FSh := ⟨[(2, .one (.ptr 1 0)), (4, .one (.ptr 2 0)), (5, .one (.ptr 3 0)), (9, .one (.sl (.cons (.int .i64) (.int .i64)))), (10, .one (.int .i64)), (11, .one (.int .i64))], [.dead, .box [(.int .i64), (.int .i64), (.int .i64), (.int .i64), (.int .i64), (.int .i64), (.int .i64), .str, (.int .i64), (.int .i64), (.int .i64), (.int .i64), (.int .i64), .str, (.int .i64), (.int .i64), (.own 4)], .box [(.int .i64), (.int .i64), (.int .i64), (.int .i64), (.int .i64), (.int .i64), (.int .i64), .str, (.int .i64), (.int .i64), (.int .i64), (.int .i64), (.int .i64), .str, (.int .i64), (.int .i64), (.own 5)], .box [(.fn 108 []), (.fn 110 []), (.fn 112 []), (.fn 111 []), (.fn 113 []), (.fn 115 [])], .arr 92 (.cons (.int .i64) (.cons (.int .i64) (.cons (.int .i64) (.cons (.int .i64) (.cons (.int .i64) (.cons .str (.int .i64))))))) true, .arr 92 (.cons (.int .i64) (.cons (.int .i64) (.cons (.int .i64) (.cons (.int .i64) (.cons (.int .i64) (.cons .str (.int .i64))))))) true]⟩
def declrun_do_D : FD := ⟨T, lookC [(96, fc96), (108, fc108), (110, fc110), (111, fc111), (112, fc112), (113, fc113), (115, fc115)], [], (Try.f79.body.getD .skip), Try.f79.results.toList, ⟨[.agg [(.int .i64), (.int .i64), (.int .i64), (.int .i64), (.int .i64), (.int .i64), (.int .i64), .str, (.int .i64), (.int .i64), (.int .i64), (.int .i64), (.int .i64), .str, (.int .i64), (.int .i64), (.own 0)], .one (.sl (.cons (.int .i64) (.int .i64)))], [.arr 92 (.cons (.int .i64) (.cons (.int .i64) (.cons (.int .i64) (.cons (.int .i64) (.cons (.int .i64) (.cons .str (.int .i64))))))) true]⟩, ⟨[.agg [(.int .i64), (.int .i64), (.int .i64), (.int .i64), (.int .i64), (.int .i64), (.int .i64), .str, (.int .i64), (.int .i64), (.int .i64), (.int .i64), (.int .i64), .str, (.int .i64), (.int .i64), (.own 1)]], [.dead, .arr 92 (.cons (.int .i64) (.cons (.int .i64) (.cons (.int .i64) (.cons (.int .i64) (.cons (.int .i64) (.cons .str (.int .i64))))))) true]⟩, [(4, declrun_do_F4)]⟩
def declrun_do_l4 (t9 : (List TAct)) (t10 : Int) (t11 : Int) (h1_0 : Int) (h1_1 : Int) (h1_2 : Int) (h1_3 : Int) (h1_4 : Int) (h1_5 : Int) (h1_6 : Int) (h1_7 : ByteArray) (h1_8 : Int) (h1_9 : Int) (h1_10 : Int) (h1_11 : Int) (h1_12 : Int) (h1_13 : ByteArray) (h1_14 : Int) (h1_15 : Int) (h2_0 : Int) (h2_1 : Int) (h2_2 : Int) (h2_3 : Int) (h2_4 : Int) (h2_5 : Int) (h2_6 : Int) (h2_7 : ByteArray) (h2_8 : Int) (h2_9 : Int) (h2_10 : Int) (h2_11 : Int) (h2_12 : Int) (h2_13 : ByteArray) (h2_14 : Int) (h2_15 : Int) (l4 : (List TEvent)) (l5 : (List TEvent)) : (Option (((Int × Int × Int × Int × Int × Int × Int × ByteArray × Int × Int × Int × Int × Int × ByteArray × Int × Int × Unit × Unit) × Unit) × (Unit × (List TEvent) × Unit))) := declrun_do_D.lab 4 declrun_do_F4 (((), (), (), t9, t10, t11, ()), ((), (h1_0, h1_1, h1_2, h1_3, h1_4, h1_5, h1_6, h1_7, h1_8, h1_9, h1_10, h1_11, h1_12, h1_13, h1_14, h1_15, (), ()), (h2_0, h2_1, h2_2, h2_3, h2_4, h2_5, h2_6, h2_7, h2_8, h2_9, h2_10, h2_11, h2_12, h2_13, h2_14, h2_15, (), ()), ((), (), (), (), (), (), ()), l4, l5, ()))
theorem declrun_do_l4_eq (t9 : (List TAct)) (t10 : Int) (t11 : Int) (h1_0 : Int) (h1_1 : Int) (h1_2 : Int) (h1_3 : Int) (h1_4 : Int) (h1_5 : Int) (h1_6 : Int) (h1_7 : ByteArray) (h1_8 : Int) (h1_9 : Int) (h1_10 : Int) (h1_11 : Int) (h1_12 : Int) (h1_13 : ByteArray) (h1_14 : Int) (h1_15 : Int) (h2_0 : Int) (h2_1 : Int) (h2_2 : Int) (h2_3 : Int) (h2_4 : Int) (h2_5 : Int) (h2_6 : Int) (h2_7 : ByteArray) (h2_8 : Int) (h2_9 : Int) (h2_10 : Int) (h2_11 : Int) (h2_12 : Int) (h2_13 : ByteArray) (h2_14 : Int) (h2_15 : Int) (l4 : (List TEvent)) (l5 : (List TEvent)) : declrun_do_l4 t9 t10 t11 h1_0 h1_1 h1_2 h1_3 h1_4 h1_5 h1_6 h1_7 h1_8 h1_9 h1_10 h1_11 h1_12 h1_13 h1_14 h1_15 h2_0 h2_1 h2_2 h2_3 h2_4 h2_5 h2_6 h2_7 h2_8 h2_9 h2_10 h2_11 h2_12 h2_13 h2_14 h2_15 l4 l5 =
  if (decide (t11 < t10)) = true then
    if 0 ≤ t11 ∧ t11 < (t9.length : Int) then
      if ((t9.getD t11.toNat dAct).1 == 1) = true then
        (declrun_all_1 h1_0 h1_1 h1_2 h1_3 h1_4 h1_5 h1_6 h1_7 h1_8 h1_9 h1_10 h1_11 h1_12 h1_13 h1_14 h1_15 (t9.getD t11.toNat dAct).2 l4).bind fun y1 =>
          declrun_do_l4 t9 t10 (IntKind.i64.wrap (t11 + 1)) y1.1.1.1 y1.1.1.2.1 y1.1.1.2.2.1 y1.1.1.2.2.2.1 y1.1.1.2.2.2.2.1 y1.1.1.2.2.2.2.2.1 y1.1.1.2.2.2.2.2.2.1 y1.1.1.2.2.2.2.2.2.2.1 y1.1.1.2.2.2.2.2.2.2.2.1 y1.1.1.2.2.2.2.2.2.2.2.2.1 y1.1.1.2.2.2.2.2.2.2.2.2.2.1 y1.1.1.2.2.2.2.2.2.2.2.2.2.2.1 y1.1.1.2.2.2.2.2.2.2.2.2.2.2.2.1 y1.1.1.2.2.2.2.2.2.2.2.2.2.2.2.2.1 y1.1.1.2.2.2.2.2.2.2.2.2.2.2.2.2.2.1 y1.1.1.2.2.2.2.2.2.2.2.2.2.2.2.2.2.2.1 h2_0 h2_1 h2_2 h2_3 h2_4 h2_5 h2_6 h2_7 h2_8 h2_9 h2_10 h2_11 h2_12 h2_13 h2_14 h2_15 y1.2.2.1 l5
      else
        if ((t9.getD t11.toNat dAct).1 == 2) = true then
          (declrun_all_2 h1_0 h1_1 h1_2 h1_3 h1_4 h1_5 h1_6 h1_7 h1_8 h1_9 h1_10 h1_11 h1_12 h1_13 h1_14 h1_15 (t9.getD t11.toNat dAct).2 l4).bind fun y2 =>
            declrun_do_l4 t9 t10 (IntKind.i64.wrap (t11 + 1)) y2.1.1.1 y2.1.1.2.1 y2.1.1.2.2.1 y2.1.1.2.2.2.1 y2.1.1.2.2.2.2.1 y2.1.1.2.2.2.2.2.1 y2.1.1.2.2.2.2.2.2.1 y2.1.1.2.2.2.2.2.2.2.1 y2.1.1.2.2.2.2.2.2.2.2.1 y2.1.1.2.2.2.2.2.2.2.2.2.1 y2.1.1.2.2.2.2.2.2.2.2.2.2.1 y2.1.1.2.2.2.2.2.2.2.2.2.2.2.1 y2.1.1.2.2.2.2.2.2.2.2.2.2.2.2.1 y2.1.1.2.2.2.2.2.2.2.2.2.2.2.2.2.1 y2.1.1.2.2.2.2.2.2.2.2.2.2.2.2.2.2.1 y2.1.1.2.2.2.2.2.2.2.2.2.2.2.2.2.2.2.1 h2_0 h2_1 h2_2 h2_3 h2_4 h2_5 h2_6 h2_7 h2_8 h2_9 h2_10 h2_11 h2_12 h2_13 h2_14 h2_15 y2.2.2.1 l5
        else
          if ((t9.getD t11.toNat dAct).1 == 3) = true then
            (declrun_all_3 h1_0 h1_1 h1_2 h1_3 h1_4 h1_5 h1_6 h1_7 h1_8 h1_9 h1_10 h1_11 h1_12 h1_13 h1_14 h1_15 (t9.getD t11.toNat dAct).2 l4).bind fun y3 =>
              declrun_do_l4 t9 t10 (IntKind.i64.wrap (t11 + 1)) y3.1.1.1 y3.1.1.2.1 y3.1.1.2.2.1 y3.1.1.2.2.2.1 y3.1.1.2.2.2.2.1 y3.1.1.2.2.2.2.2.1 y3.1.1.2.2.2.2.2.2.1 y3.1.1.2.2.2.2.2.2.2.1 y3.1.1.2.2.2.2.2.2.2.2.1 y3.1.1.2.2.2.2.2.2.2.2.2.1 y3.1.1.2.2.2.2.2.2.2.2.2.2.1 y3.1.1.2.2.2.2.2.2.2.2.2.2.2.1 y3.1.1.2.2.2.2.2.2.2.2.2.2.2.2.1 y3.1.1.2.2.2.2.2.2.2.2.2.2.2.2.2.1 y3.1.1.2.2.2.2.2.2.2.2.2.2.2.2.2.2.1 y3.1.1.2.2.2.2.2.2.2.2.2.2.2.2.2.2.2.1 h2_0 h2_1 h2_2 h2_3 h2_4 h2_5 h2_6 h2_7 h2_8 h2_9 h2_10 h2_11 h2_12 h2_13 h2_14 h2_15 y3.2.2.1 l5
          else
            if ((t9.getD t11.toNat dAct).1 == 4) = true then
              (declrun_collect h1_0 h1_1 h1_2 h1_3 h1_4 h1_5 h1_6 h1_7 h1_8 h1_9 h1_10 h1_11 h1_12 h1_13 h1_14 h1_15 (t9.getD t11.toNat dAct).2 l4).bind fun y4 =>
                declrun_do_l4 t9 t10 (IntKind.i64.wrap (t11 + 1)) y4.1.1.1 y4.1.1.2.1 y4.1.1.2.2.1 y4.1.1.2.2.2.1 y4.1.1.2.2.2.2.1 y4.1.1.2.2.2.2.2.1 y4.1.1.2.2.2.2.2.2.1 y4.1.1.2.2.2.2.2.2.2.1 y4.1.1.2.2.2.2.2.2.2.2.1 y4.1.1.2.2.2.2.2.2.2.2.2.1 y4.1.1.2.2.2.2.2.2.2.2.2.2.1 y4.1.1.2.2.2.2.2.2.2.2.2.2.2.1 y4.1.1.2.2.2.2.2.2.2.2.2.2.2.2.1 y4.1.1.2.2.2.2.2.2.2.2.2.2.2.2.2.1 y4.1.1.2.2.2.2.2.2.2.2.2.2.2.2.2.2.1 y4.1.1.2.2.2.2.2.2.2.2.2.2.2.2.2.2.2.1 h2_0 h2_1 h2_2 h2_3 h2_4 h2_5 h2_6 h2_7 h2_8 h2_9 h2_10 h2_11 h2_12 h2_13 h2_14 h2_15 y4.2.2.1 l5
            else
              if ((t9.getD t11.toNat dAct).1 == 5) = true then
                (declrun_all_4 h1_0 h1_1 h1_2 h1_3 h1_4 h1_5 h1_6 h1_7 h1_8 h1_9 h1_10 h1_11 h1_12 h1_13 h1_14 h1_15 (t9.getD t11.toNat dAct).2 l4).bind fun y5 =>
                  declrun_do_l4 t9 t10 (IntKind.i64.wrap (t11 + 1)) y5.1.1.1 y5.1.1.2.1 y5.1.1.2.2.1 y5.1.1.2.2.2.1 y5.1.1.2.2.2.2.1 y5.1.1.2.2.2.2.2.1 y5.1.1.2.2.2.2.2.2.1 y5.1.1.2.2.2.2.2.2.2.1 y5.1.1.2.2.2.2.2.2.2.2.1 y5.1.1.2.2.2.2.2.2.2.2.2.1 y5.1.1.2.2.2.2.2.2.2.2.2.2.1 y5.1.1.2.2.2.2.2.2.2.2.2.2.2.1 y5.1.1.2.2.2.2.2.2.2.2.2.2.2.2.1 y5.1.1.2.2.2.2.2.2.2.2.2.2.2.2.2.1 y5.1.1.2.2.2.2.2.2.2.2.2.2.2.2.2.2.1 y5.1.1.2.2.2.2.2.2.2.2.2.2.2.2.2.2.2.1 h2_0 h2_1 h2_2 h2_3 h2_4 h2_5 h2_6 h2_7 h2_8 h2_9 h2_10 h2_11 h2_12 h2_13 h2_14 h2_15 y5.2.2.1 l5
              else
                if ((t9.getD t11.toNat dAct).1 == 6) = true then
                  (declrun_all_5 h1_0 h1_1 h1_2 h1_3 h1_4 h1_5 h1_6 h1_7 h1_8 h1_9 h1_10 h1_11 h1_12 h1_13 h1_14 h1_15 (t9.getD t11.toNat dAct).2 l4).bind fun y6 =>
                    declrun_do_l4 t9 t10 (IntKind.i64.wrap (t11 + 1)) y6.1.1.1 y6.1.1.2.1 y6.1.1.2.2.1 y6.1.1.2.2.2.1 y6.1.1.2.2.2.2.1 y6.1.1.2.2.2.2.2.1 y6.1.1.2.2.2.2.2.2.1 y6.1.1.2.2.2.2.2.2.2.1 y6.1.1.2.2.2.2.2.2.2.2.1 y6.1.1.2.2.2.2.2.2.2.2.2.1 y6.1.1.2.2.2.2.2.2.2.2.2.2.1 y6.1.1.2.2.2.2.2.2.2.2.2.2.2.1 y6.1.1.2.2.2.2.2.2.2.2.2.2.2.2.1 y6.1.1.2.2.2.2.2.2.2.2.2.2.2.2.2.1 y6.1.1.2.2.2.2.2.2.2.2.2.2.2.2.2.2.1 y6.1.1.2.2.2.2.2.2.2.2.2.2.2.2.2.2.2.1 h2_0 h2_1 h2_2 h2_3 h2_4 h2_5 h2_6 h2_7 h2_8 h2_9 h2_10 h2_11 h2_12 h2_13 h2_14 h2_15 y6.2.2.1 l5
                else
                  declrun_do_l4 t9 t10 (IntKind.i64.wrap (t11 + 1)) h1_0 h1_1 h1_2 h1_3 h1_4 h1_5 h1_6 h1_7 h1_8 h1_9 h1_10 h1_11 h1_12 h1_13 h1_14 h1_15 h2_0 h2_1 h2_2 h2_3 h2_4 h2_5 h2_6 h2_7 h2_8 h2_9 h2_10 h2_11 h2_12 h2_13 h2_14 h2_15 l4 l5
    else
      none
  else
    some (((h1_0, h1_1, h1_2, h1_3, h1_4, h1_5, h1_6, h1_7, h1_8, h1_9, h1_10, h1_11, h1_12, h1_13, h1_14, h1_15, (), ()), ()), ((), l4, ())) := (FD.lab_eq _ _ _ _).trans (by kernel_rfl)
def declrun_do (w_0 : Int) (w_1 : Int) (w_2 : Int) (w_3 : Int) (w_4 : Int) (w_5 : Int) (w_6 : Int) (w_7 : ByteArray) (w_8 : Int) (w_9 : Int) (w_10 : Int) (w_11 : Int) (w_12 : Int) (w_13 : ByteArray) (w_14 : Int) (w_15 : Int) (l : (List TAct)) (l0 : (List TEvent)) : (Option (((Int × Int × Int × Int × Int × Int × Int × ByteArray × Int × Int × Int × Int × Int × ByteArray × Int × Int × Unit × Unit) × Unit) × (Unit × (List TEvent) × Unit))) :=
  (declrun_all).bind fun y1 =>
    declrun_do_l4 l (l.length : Int) 0 w_0 w_1 w_2 w_3 w_4 w_5 w_6 w_7 w_8 w_9 w_10 w_11 w_12 w_13 w_14 w_15 0 0 0 0 0 0 0 (strB []) 0 0 0 0 0 (strB []) 0 0 l0 []
def fc79 : FC := ⟨⟨[.agg [(.int .i64), (.int .i64), (.int .i64), (.int .i64), (.int .i64), (.int .i64), (.int .i64), .str, (.int .i64), (.int .i64), (.int .i64), (.int .i64), (.int .i64), .str, (.int .i64), (.int .i64), (.own 0)], .one (.sl (.cons (.int .i64) (.int .i64)))], [.arr 92 (.cons (.int .i64) (.cons (.int .i64) (.cons (.int .i64) (.cons (.int .i64) (.cons (.int .i64) (.cons .str (.int .i64))))))) true]⟩, ⟨[.agg [(.int .i64), (.int .i64), (.int .i64), (.int .i64), (.int .i64), (.int .i64), (.int .i64), .str, (.int .i64), (.int .i64), (.int .i64), (.int .i64), (.int .i64), .str, (.int .i64), (.int .i64), (.own 1)]], [.dead, .arr 92 (.cons (.int .i64) (.cons (.int .i64) (.cons (.int .i64) (.cons (.int .i64) (.cons (.int .i64) (.cons .str (.int .i64))))))) true]⟩, fun x => declrun_do x.1.1.1 x.1.1.2.1 x.1.1.2.2.1 x.1.1.2.2.2.1 x.1.1.2.2.2.2.1 x.1.1.2.2.2.2.2.1 x.1.1.2.2.2.2.2.2.1 x.1.1.2.2.2.2.2.2.2.1 x.1.1.2.2.2.2.2.2.2.2.1 x.1.1.2.2.2.2.2.2.2.2.2.1 x.1.1.2.2.2.2.2.2.2.2.2.2.1 x.1.1.2.2.2.2.2.2.2.2.2.2.2.1 x.1.1.2.2.2.2.2.2.2.2.2.2.2.2.1 x.1.1.2.2.2.2.2.2.2.2.2.2.2.2.2.1 x.1.1.2.2.2.2.2.2.2.2.2.2.2.2.2.2.1 x.1.1.2.2.2.2.2.2.2.2.2.2.2.2.2.2.2.1 x.1.2.1 x.2.1⟩
theorem con79 : Contract Try.prog 79 fc79 :=
  declrun_do_D.contract tok (cok_of (l := [(96, fc96), (108, fc108), (110, fc110), (111, fc111), (112, fc112), (113, fc113), (115, fc115)]) ⟨con96, con108, con110, con111, con112, con113, con115, trivial⟩) mixed (fn' := Try.f79) (by kernel_rfl) (by kernel_rfl) rfl (by kernel_rfl) (fun x => (FD.fn_eq _ _).trans (by kernel_rfl))
end
end Go.Proofs.Ytgjimkgehbppbaa
end

section
/-
Ytgjimkgehbppbaa: signalbench.declrun.look$1, as one plain function, its equations, its contract. No condition.
-/
set_option maxRecDepth 100000
set_option linter.unusedVariables false
set_option maxHeartbeats 4000000
open Go Go.AM
namespace Go.Proofs.Ytgjimkgehbppbaa
noncomputable section
def declrun_look_1_D : FD := ⟨T, lookC [(34, fc34), (79, fc79)], [], (Try.f107.body.getD .skip), Try.f107.results.toList, ⟨[.agg [(.int .i64), (.int .i64), (.int .i64), (.int .i64), (.int .i64), (.int .i64), (.int .i64), .str, (.int .i64), (.int .i64), (.int .i64), (.int .i64), (.int .i64), .str, (.int .i64), (.int .i64), (.own 0)], .one (.ptr 1 0)], [.arr 92 (.cons (.int .i64) (.cons (.int .i64) (.cons (.int .i64) (.cons (.int .i64) (.cons (.int .i64) (.cons .str (.int .i64))))))) true, .boxr (.cons .str (.cons (.int .i64) (.cons (.int .i64) (.sl (.sl (.cons (.int .i64) (.cons (.int .i64) (.cons (.int .i64) (.sl (.cons (.int .i64) (.int .i64)))))))))))]⟩, ⟨[.agg [(.int .i64), (.int .i64), (.int .i64), (.int .i64), (.int .i64), (.int .i64), (.int .i64), .str, (.int .i64), (.int .i64), (.int .i64), (.int .i64), (.int .i64), .str, (.int .i64), (.int .i64), (.own 2)]], [.dead, .boxr (.cons .str (.cons (.int .i64) (.cons (.int .i64) (.sl (.sl (.cons (.int .i64) (.cons (.int .i64) (.cons (.int .i64) (.sl (.cons (.int .i64) (.int .i64))))))))))), .arr 92 (.cons (.int .i64) (.cons (.int .i64) (.cons (.int .i64) (.cons (.int .i64) (.cons (.int .i64) (.cons .str (.int .i64))))))) true]⟩, []⟩
def declrun_look_1 (w_0 : Int) (w_1 : Int) (w_2 : Int) (w_3 : Int) (w_4 : Int) (w_5 : Int) (w_6 : Int) (w_7 : ByteArray) (w_8 : Int) (w_9 : Int) (w_10 : Int) (w_11 : Int) (w_12 : Int) (w_13 : ByteArray) (w_14 : Int) (w_15 : Int) (l0 : (List TEvent)) (h1 : TTable) : (Option (((Int × Int × Int × Int × Int × Int × Int × ByteArray × Int × Int × Int × Int × Int × ByteArray × Int × Int × Unit × Unit) × Unit) × (Unit × TTable × (List TEvent) × Unit))) :=
  (decltab_Next h1 w_3 w_11).bind fun y1 =>
    if (!y1.1.2.2.1) = true then
      some (((w_0, w_1, w_2, w_3, w_4, w_5, w_6, w_7, w_8, w_9, w_10, w_11, w_12, w_13, w_14, w_15, (), ()), ()), ((), h1, l0, ()))
    else
      (declrun_do w_0 w_1 w_2 w_3 w_4 w_5 w_6 w_7 w_8 w_9 w_10 w_11 w_12 w_13 w_14 w_15 y1.1.2.1 l0).bind fun y2 =>
        some (((y2.1.1.1, y2.1.1.2.1, y2.1.1.2.2.1, y1.1.1, y2.1.1.2.2.2.2.1, y2.1.1.2.2.2.2.2.1, y2.1.1.2.2.2.2.2.2.1, y2.1.1.2.2.2.2.2.2.2.1, y2.1.1.2.2.2.2.2.2.2.2.1, y2.1.1.2.2.2.2.2.2.2.2.2.1, y2.1.1.2.2.2.2.2.2.2.2.2.2.1, y2.1.1.2.2.2.2.2.2.2.2.2.2.2.1, y2.1.1.2.2.2.2.2.2.2.2.2.2.2.2.1, y2.1.1.2.2.2.2.2.2.2.2.2.2.2.2.2.1, y2.1.1.2.2.2.2.2.2.2.2.2.2.2.2.2.2.1, y2.1.1.2.2.2.2.2.2.2.2.2.2.2.2.2.2.2.1, (), ()), ()), ((), h1, y2.2.2.1, ()))
def fc107 : FC := ⟨⟨[.agg [(.int .i64), (.int .i64), (.int .i64), (.int .i64), (.int .i64), (.int .i64), (.int .i64), .str, (.int .i64), (.int .i64), (.int .i64), (.int .i64), (.int .i64), .str, (.int .i64), (.int .i64), (.own 0)], .one (.ptr 1 0)], [.arr 92 (.cons (.int .i64) (.cons (.int .i64) (.cons (.int .i64) (.cons (.int .i64) (.cons (.int .i64) (.cons .str (.int .i64))))))) true, .boxr (.cons .str (.cons (.int .i64) (.cons (.int .i64) (.sl (.sl (.cons (.int .i64) (.cons (.int .i64) (.cons (.int .i64) (.sl (.cons (.int .i64) (.int .i64)))))))))))]⟩, ⟨[.agg [(.int .i64), (.int .i64), (.int .i64), (.int .i64), (.int .i64), (.int .i64), (.int .i64), .str, (.int .i64), (.int .i64), (.int .i64), (.int .i64), (.int .i64), .str, (.int .i64), (.int .i64), (.own 2)]], [.dead, .boxr (.cons .str (.cons (.int .i64) (.cons (.int .i64) (.sl (.sl (.cons (.int .i64) (.cons (.int .i64) (.cons (.int .i64) (.sl (.cons (.int .i64) (.int .i64))))))))))), .arr 92 (.cons (.int .i64) (.cons (.int .i64) (.cons (.int .i64) (.cons (.int .i64) (.cons (.int .i64) (.cons .str (.int .i64))))))) true]⟩, fun x => declrun_look_1 x.1.1.1 x.1.1.2.1 x.1.1.2.2.1 x.1.1.2.2.2.1 x.1.1.2.2.2.2.1 x.1.1.2.2.2.2.2.1 x.1.1.2.2.2.2.2.2.1 x.1.1.2.2.2.2.2.2.2.1 x.1.1.2.2.2.2.2.2.2.2.1 x.1.1.2.2.2.2.2.2.2.2.2.1 x.1.1.2.2.2.2.2.2.2.2.2.2.1 x.1.1.2.2.2.2.2.2.2.2.2.2.2.1 x.1.1.2.2.2.2.2.2.2.2.2.2.2.2.1 x.1.1.2.2.2.2.2.2.2.2.2.2.2.2.2.1 x.1.1.2.2.2.2.2.2.2.2.2.2.2.2.2.2.1 x.1.1.2.2.2.2.2.2.2.2.2.2.2.2.2.2.2.1 x.2.1 x.2.2.1⟩
theorem con107 : Contract Try.prog 107 fc107 :=
  declrun_look_1_D.contract tok (cok_of (l := [(34, fc34), (79, fc79)]) ⟨con34, con79, trivial⟩) mixed (fn' := Try.f107) (by kernel_rfl) (by kernel_rfl) rfl (by kernel_rfl) (fun x => (FD.fn_eq _ _).trans (by kernel_rfl))
end
end Go.Proofs.Ytgjimkgehbppbaa
end

section
/-
Ytgjimkgehbppbaa: signalbench.event.Valid, as one plain function, its equations, its contract. No condition.
-/
set_option maxRecDepth 100000
set_option linter.unusedVariables false
set_option maxHeartbeats 4000000
open Go Go.AM
namespace Go.Proofs.Ytgjimkgehbppbaa
noncomputable section
def event_Valid_F4 : FSh := ⟨[(1, .one (.ptr 0 0)), (12, .one .bool)], [.boxr (.cons (.int .i64) (.cons (.int .i64) (.cons (.int .i64) (.cons (.int .i64) (.cons (.int .i64) (.cons .str (.int .i64)))))))]⟩
def event_Valid_F6 : FSh := ⟨[(1, .one (.ptr 0 0)), (28, .one .bool)], [.boxr (.cons (.int .i64) (.cons (.int .i64) (.cons (.int .i64) (.cons (.int .i64) (.cons (.int .i64) (.cons .str (.int .i64)))))))]⟩
def event_Valid_F8 : FSh := ⟨[(2, .one .bool)], []⟩
def event_Valid_D : FD := ⟨T, lookC [], [4, 6, 8], (Try.f120.body.getD .skip), Try.f120.results.toList, ⟨[.row (.cons (.int .i64) (.cons (.int .i64) (.cons (.int .i64) (.cons (.int .i64) (.cons (.int .i64) (.cons .str (.int .i64)))))))], []⟩, ⟨[.one .bool], []⟩, [(4, event_Valid_F4), (6, event_Valid_F6), (8, event_Valid_F8)]⟩
def event_Valid_l4 (t12 : Bool) (h0 : TEvent) : (Option ((Bool × Unit) × Unit)) := event_Valid_D.lab 4 event_Valid_F4 (((), t12, ()), (h0, ()))
def event_Valid_l6 (t28 : Bool) (h0 : TEvent) : (Option ((Bool × Unit) × Unit)) := event_Valid_D.lab 6 event_Valid_F6 (((), t28, ()), (h0, ()))
def event_Valid_l8 (t2 : Bool) : (Option ((Bool × Unit) × Unit)) := event_Valid_D.lab 8 event_Valid_F8 ((t2, ()), ())
theorem event_Valid_l4_eq (t12 : Bool) (h0 : TEvent) : event_Valid_l4 t12 h0 =
  if t12 = true then
    some ((false, ()), ())
  else
    if (decide (h0.2.2.2.1 < (-9007199254740992))) = true then
      event_Valid_l6 true h0
    else
      if (decide (h0.2.2.2.1 > 9007199254740992)) = true then
        event_Valid_l6 true h0
      else
        if (decide (h0.2.2.2.2.1 < (-9007199254740992))) = true then
          event_Valid_l6 true h0
        else
          event_Valid_l6 (decide (h0.2.2.2.2.1 > 9007199254740992)) h0 := by obtain ⟨k, fr, to, a, b, d, f⟩ := h0; cases a <;> cases b <;> exact (FD.lab_eq _ _ _ _).trans (by kernel_rfl)
theorem event_Valid_l6_eq (t28 : Bool) (h0 : TEvent) : event_Valid_l6 t28 h0 =
  if t28 = true then
    some ((false, ()), ())
  else
    if (decide ((h0.2.2.2.2.2.1.size : Int) ≤ 4096)) = true then
      if (decide (h0.2.2.2.2.2.2 ≥ 0)) = true then
        event_Valid_l8 (decide (h0.2.2.2.2.2.2 ≤ 12))
      else
        event_Valid_l8 false
    else
      event_Valid_l8 false := (FD.lab_eq _ _ _ _).trans (by kernel_rfl)
theorem event_Valid_l8_eq (t2 : Bool) : event_Valid_l8 t2 =
  some ((t2, ()), ()) := (FD.lab_eq _ _ _ _).trans (by kernel_rfl)
def event_Valid (e0 : TEvent) : (Option ((Bool × Unit) × Unit)) :=
  if (decide (e0.1 < 1)) = true then
    some ((false, ()), ())
  else
    if (decide (e0.1 > 8)) = true then
      some ((false, ()), ())
    else
      if (decide (e0.2.1 < 0)) = true then
        event_Valid_l4 true e0
      else
        if (decide (e0.2.1 > e0.2.2.1)) = true then
          event_Valid_l4 true e0
        else
          event_Valid_l4 (decide (e0.2.2.1 > 1099511627776)) e0
def fc120 : FC := ⟨⟨[.row (.cons (.int .i64) (.cons (.int .i64) (.cons (.int .i64) (.cons (.int .i64) (.cons (.int .i64) (.cons .str (.int .i64)))))))], []⟩, ⟨[.one .bool], []⟩, fun x => event_Valid x.1.1⟩
theorem con120 : Contract Try.prog 120 fc120 :=
  event_Valid_D.contract tok (cok_of (l := []) trivial) mixed (fn' := Try.f120) (by kernel_rfl) (by kernel_rfl) rfl (by kernel_rfl) (fun x => (FD.fn_eq _ _).trans (by kernel_rfl))
end
end Go.Proofs.Ytgjimkgehbppbaa
end

section
/-
Ytgjimkgehbppbaa: signalbench.declrun.accepts, as one plain function, its equations, its contract. No condition.
-/
set_option maxRecDepth 100000
set_option linter.unusedVariables false
set_option maxHeartbeats 4000000
open Go Go.AM
namespace Go.Proofs.Ytgjimkgehbppbaa
noncomputable section
def declrun_accepts_F2 : FSh := ⟨[(0, .one (.int .i64)), (4, .one (.ptr 0 0)), (5, .one (.ptr 1 0)), (7, .one (.int .i64))], [.boxr (.cons (.int .i64) (.cons (.int .i64) (.cons (.int .i64) (.cons (.int .i64) (.cons (.int .i64) (.cons (.int .i64) (.cons (.int .i64) .str))))))), .boxr (.cons (.int .i64) (.cons (.int .i64) (.cons (.int .i64) (.cons (.int .i64) (.cons (.int .i64) (.cons .str (.int .i64)))))))]⟩
def declrun_accepts_D : FD := ⟨T, lookC [(120, fc120)], [2], (Try.f116.body.getD .skip), Try.f116.results.toList, ⟨[.one (.int .i64), .row (.cons (.int .i64) (.cons (.int .i64) (.cons (.int .i64) (.cons (.int .i64) (.cons (.int .i64) (.cons (.int .i64) (.cons (.int .i64) .str))))))), .row (.cons (.int .i64) (.cons (.int .i64) (.cons (.int .i64) (.cons (.int .i64) (.cons (.int .i64) (.cons .str (.int .i64)))))))], []⟩, ⟨[.one .bool], []⟩, [(2, declrun_accepts_F2)]⟩
def declrun_accepts_l2 (input : Int) (most : Int) (h0 : TState) (h1 : TEvent) : (Option ((Bool × Unit) × Unit)) := declrun_accepts_D.lab 2 declrun_accepts_F2 ((input, (), (), most, ()), (h0, h1, ()))
theorem declrun_accepts_l2_eq (input : Int) (most : Int) (h0 : TState) (h1 : TEvent) : declrun_accepts_l2 input most h0 h1 =
  (event_Valid h1).bind fun y1 =>
    if y1.1.1 = true then
      if (h1.1 == input) = true then
        if (decide (h1.2.2.2.1 ≥ 0)) = true then
          if (decide (h1.2.2.2.1 ≤ most)) = true then
            if (h0.1 == 0) = true then
              some ((true, ()), ())
            else
              some ((decide (h1.2.1 ≥ h0.2.2.2.2.2.2.1), ()), ())
          else
            some ((false, ()), ())
        else
          some ((false, ()), ())
      else
        some ((false, ()), ())
    else
      some ((false, ()), ()) := (FD.lab_eq _ _ _ _).trans (by kernel_rfl)
def declrun_accepts (input : Int) (s : TState) (e0 : TEvent) : (Option ((Bool × Unit) × Unit)) :=
  if (input == 2) = true then
    declrun_accepts_l2 input 1 s e0
  else
    declrun_accepts_l2 input 255 s e0
def fc116 : FC := ⟨⟨[.one (.int .i64), .row (.cons (.int .i64) (.cons (.int .i64) (.cons (.int .i64) (.cons (.int .i64) (.cons (.int .i64) (.cons (.int .i64) (.cons (.int .i64) .str))))))), .row (.cons (.int .i64) (.cons (.int .i64) (.cons (.int .i64) (.cons (.int .i64) (.cons (.int .i64) (.cons .str (.int .i64)))))))], []⟩, ⟨[.one .bool], []⟩, fun x => declrun_accepts x.1.1 x.1.2.1 x.1.2.2.1⟩
theorem con116 : Contract Try.prog 116 fc116 :=
  declrun_accepts_D.contract tok (cok_of (l := [(120, fc120)]) ⟨con120, trivial⟩) mixed (fn' := Try.f116) (by kernel_rfl) (by kernel_rfl) rfl (by kernel_rfl) (fun x => (FD.fn_eq _ _).trans (by kernel_rfl))
end
end Go.Proofs.Ytgjimkgehbppbaa
end

section
/-
Ytgjimkgehbppbaa: signalbench.signalbenchlaw37.small, as one plain function, its equations, its contract. No condition.
-/
set_option maxRecDepth 100000
set_option linter.unusedVariables false
set_option maxHeartbeats 4000000
open Go Go.AM
namespace Go.Proofs.Ytgjimkgehbppbaa
noncomputable section
def law37_small_F6 : FSh := ⟨[(0, .one (.sl (.cons (.int .i64) (.cons (.int .i64) (.cons (.int .i64) (.cons (.int .i64) (.cons (.int .i64) (.cons .str (.int .i64))))))))), (3, .one (.int .i64))], []⟩
def law37_small_D : FD := ⟨T, lookC [], [], (Try.f43.body.getD .skip), Try.f43.results.toList, ⟨[.one (.sl (.cons (.int .i64) (.cons (.int .i64) (.cons (.int .i64) (.cons (.int .i64) (.cons (.int .i64) (.cons .str (.int .i64))))))))], []⟩, ⟨[.one .bool], []⟩, [(6, law37_small_F6)]⟩
def law37_small_l6 (l : (List TEvent)) (i : Int) : (Option ((Bool × Unit) × Unit)) := law37_small_D.lab 6 law37_small_F6 ((l, i, ()), ())
theorem law37_small_l6_eq (l : (List TEvent)) (i : Int) : law37_small_l6 l i =
  if (decide (i < (l.length : Int))) = true then
    if 0 ≤ i ∧ i < (l.length : Int) then
      if (decide (((l.getD i.toNat dEvent).2.2.2.2.2.1.size : Int) > 20)) = true then
        some ((false, ()), ())
      else
        law37_small_l6 l (IntKind.i64.wrap (i + 1))
    else
      none
  else
    some ((true, ()), ()) := (FD.lab_eq _ _ _ _).trans (by kernel_rfl)
def law37_small (l : (List TEvent)) : (Option ((Bool × Unit) × Unit)) :=
  if (decide ((l.length : Int) > 40)) = true then
    some ((false, ()), ())
  else
    law37_small_l6 l 0
def fc43 : FC := ⟨⟨[.one (.sl (.cons (.int .i64) (.cons (.int .i64) (.cons (.int .i64) (.cons (.int .i64) (.cons (.int .i64) (.cons .str (.int .i64))))))))], []⟩, ⟨[.one .bool], []⟩, fun x => law37_small x.1.1⟩
theorem con43 : Contract Try.prog 43 fc43 :=
  law37_small_D.contract tok (cok_of (l := []) trivial) mixed (fn' := Try.f43) (by kernel_rfl) (by kernel_rfl) rfl (by kernel_rfl) (fun x => (FD.fn_eq _ _).trans (by kernel_rfl))
end
end Go.Proofs.Ytgjimkgehbppbaa
end

section
/-
Ytgjimkgehbppbaa: signalbench.signalbenchlaw37.short, as one plain function, its equations, its contract. No condition.
-/
set_option maxRecDepth 100000
set_option linter.unusedVariables false
set_option maxHeartbeats 4000000
open Go Go.AM
namespace Go.Proofs.Ytgjimkgehbppbaa
noncomputable section
def law37_short_D : FD := ⟨T, lookC [], [], (Try.f75.body.getD .skip), Try.f75.results.toList, ⟨[.row (.cons (.int .i64) (.cons (.int .i64) (.cons .str (.cons .bool (.sl (.cons (.int .i64) (.int .i64)))))))], []⟩, ⟨[.one .bool], []⟩, []⟩
def law37_short (r : TRule) : (Option ((Bool × Unit) × Unit)) :=
  if (decide ((r.2.2.1.size : Int) ≤ 20)) = true then
    some ((decide ((r.2.2.2.2.length : Int) ≤ 10), ()), ())
  else
    some ((false, ()), ())
def fc75 : FC := ⟨⟨[.row (.cons (.int .i64) (.cons (.int .i64) (.cons .str (.cons .bool (.sl (.cons (.int .i64) (.int .i64)))))))], []⟩, ⟨[.one .bool], []⟩, fun x => law37_short x.1.1⟩
theorem con75 : Contract Try.prog 75 fc75 :=
  law37_short_D.contract tok (cok_of (l := []) trivial) mixed (fn' := Try.f75) (by kernel_rfl) (by kernel_rfl) rfl (by kernel_rfl) (fun x => (FD.fn_eq _ _).trans (by kernel_rfl))
end
end Go.Proofs.Ytgjimkgehbppbaa
end

section
/-
Ytgjimkgehbppbaa: signalbench.signalbenchlaw37.brief, as one plain function, its equations, its contract. No condition.
-/
set_option maxRecDepth 100000
set_option linter.unusedVariables false
set_option maxHeartbeats 4000000
open Go Go.AM
namespace Go.Proofs.Ytgjimkgehbppbaa
noncomputable section
def law37_brief_F6 : FSh := ⟨[(1, .one (.ptr 0 0)), (3, .one (.int .i64))], [.boxr (.cons .str (.cons (.int .i64) (.cons (.int .i64) (.sl (.cons .str (.cons (.sl (.cons (.int .i64) (.cons (.int .i64) (.cons .str (.cons .bool (.sl (.cons (.int .i64) (.int .i64)))))))) (.cons .bool (.cons (.int .i64) (.cons (.int .i64) (.cons .str (.cons .bool (.sl (.cons (.int .i64) (.int .i64))))))))))))))]⟩
def law37_brief_F15 : FSh := ⟨[(1, .one (.ptr 0 0)), (3, .one (.int .i64)), (4, .one (.ptr 1 0)), (5, .one (.int .i64))], [.boxr (.cons .str (.cons (.int .i64) (.cons (.int .i64) (.sl (.cons .str (.cons (.sl (.cons (.int .i64) (.cons (.int .i64) (.cons .str (.cons .bool (.sl (.cons (.int .i64) (.int .i64)))))))) (.cons .bool (.cons (.int .i64) (.cons (.int .i64) (.cons .str (.cons .bool (.sl (.cons (.int .i64) (.int .i64)))))))))))))), .boxr (.cons .str (.cons (.sl (.cons (.int .i64) (.cons (.int .i64) (.cons .str (.cons .bool (.sl (.cons (.int .i64) (.int .i64)))))))) (.cons .bool (.cons (.int .i64) (.cons (.int .i64) (.cons .str (.cons .bool (.sl (.cons (.int .i64) (.int .i64))))))))))]⟩
def law37_brief_D : FD := ⟨T, lookC [(75, fc75)], [], (Try.f44.body.getD .skip), Try.f44.results.toList, ⟨[.row (.cons .str (.cons (.int .i64) (.cons (.int .i64) (.sl (.cons .str (.cons (.sl (.cons (.int .i64) (.cons (.int .i64) (.cons .str (.cons .bool (.sl (.cons (.int .i64) (.int .i64)))))))) (.cons .bool (.cons (.int .i64) (.cons (.int .i64) (.cons .str (.cons .bool (.sl (.cons (.int .i64) (.int .i64))))))))))))))], []⟩, ⟨[.one .bool], []⟩, [(6, law37_brief_F6), (15, law37_brief_F15)]⟩
def law37_brief_l6 (k0 : Int) (h0 : TDecl) : (Option ((Bool × Unit) × Unit)) := law37_brief_D.lab 6 law37_brief_F6 (((), k0, ()), (h0, ()))
def law37_brief_l15 (k0 : Int) (i : Int) (h0 : TDecl) (h1 : TDeclState) : (Option ((Bool × Unit) × Unit)) := law37_brief_D.lab 15 law37_brief_F15 (((), k0, (), i, ()), (h0, h1, ()))
theorem law37_brief_l6_eq (k0 : Int) (h0 : TDecl) : law37_brief_l6 k0 h0 =
  if (decide (k0 < (h0.2.2.2.length : Int))) = true then
    if 0 ≤ k0 ∧ k0 < (h0.2.2.2.length : Int) then
      if (decide (((h0.2.2.2.getD k0.toNat dDeclState).1.size : Int) > 20)) = true then
        some ((false, ()), ())
      else
        if (decide (((h0.2.2.2.getD k0.toNat dDeclState).2.1.length : Int) > 8)) = true then
          some ((false, ()), ())
        else
          (law37_short (h0.2.2.2.getD k0.toNat dDeclState).2.2.2).bind fun y1 =>
            if (!y1.1.1) = true then
              some ((false, ()), ())
            else
              law37_brief_l15 k0 0 h0 (h0.2.2.2.getD k0.toNat dDeclState)
    else
      none
  else
    some ((true, ()), ()) := (FD.lab_eq _ _ _ _).trans (by kernel_rfl)
theorem law37_brief_l15_eq (k0 : Int) (i : Int) (h0 : TDecl) (h1 : TDeclState) : law37_brief_l15 k0 i h0 h1 =
  if (decide (i < (h1.2.1.length : Int))) = true then
    if 0 ≤ i ∧ i < (h1.2.1.length : Int) then
      (law37_short (h1.2.1.getD i.toNat dRule)).bind fun y1 =>
        if (!y1.1.1) = true then
          some ((false, ()), ())
        else
          law37_brief_l15 k0 (IntKind.i64.wrap (i + 1)) h0 h1
    else
      none
  else
    law37_brief_l6 (IntKind.i64.wrap (k0 + 1)) h0 := (FD.lab_eq _ _ _ _).trans (by kernel_rfl)
def law37_brief (d : TDecl) : (Option ((Bool × Unit) × Unit)) :=
  if (decide ((d.2.2.2.length : Int) > 8)) = true then
    some ((false, ()), ())
  else
    if (decide ((d.1.size : Int) > 20)) = true then
      some ((false, ()), ())
    else
      law37_brief_l6 0 d
def fc44 : FC := ⟨⟨[.row (.cons .str (.cons (.int .i64) (.cons (.int .i64) (.sl (.cons .str (.cons (.sl (.cons (.int .i64) (.cons (.int .i64) (.cons .str (.cons .bool (.sl (.cons (.int .i64) (.int .i64)))))))) (.cons .bool (.cons (.int .i64) (.cons (.int .i64) (.cons .str (.cons .bool (.sl (.cons (.int .i64) (.int .i64))))))))))))))], []⟩, ⟨[.one .bool], []⟩, fun x => law37_brief x.1.1⟩
theorem con44 : Contract Try.prog 44 fc44 :=
  law37_brief_D.contract tok (cok_of (l := [(75, fc75)]) ⟨con75, trivial⟩) mixed (fn' := Try.f44) (by kernel_rfl) (by kernel_rfl) rfl (by kernel_rfl) (fun x => (FD.fn_eq _ _).trans (by kernel_rfl))
end
end Go.Proofs.Ytgjimkgehbppbaa
end

section
/-
Ytgjimkgehbppbaa: signalbench.declcheck.top, as one plain function, its equations, its contract. No condition.
-/
set_option maxRecDepth 100000
set_option linter.unusedVariables false
set_option maxHeartbeats 4000000
open Go Go.AM
namespace Go.Proofs.Ytgjimkgehbppbaa
noncomputable section
def declcheck_top_D : FD := ⟨T, lookC [], [], (Try.f51.body.getD .skip), Try.f51.results.toList, ⟨[.row (.cons .str (.cons (.int .i64) (.cons (.int .i64) (.sl (.cons .str (.cons (.sl (.cons (.int .i64) (.cons (.int .i64) (.cons .str (.cons .bool (.sl (.cons (.int .i64) (.int .i64)))))))) (.cons .bool (.cons (.int .i64) (.cons (.int .i64) (.cons .str (.cons .bool (.sl (.cons (.int .i64) (.int .i64))))))))))))))], []⟩, ⟨[.one (.int .i64)], []⟩, []⟩
def declcheck_top (d : TDecl) : (Option ((Int × Unit) × Unit)) :=
  if (d.2.1 == 2) = true then
    some ((1, ()), ())
  else
    some ((255, ()), ())
def fc51 : FC := ⟨⟨[.row (.cons .str (.cons (.int .i64) (.cons (.int .i64) (.sl (.cons .str (.cons (.sl (.cons (.int .i64) (.cons (.int .i64) (.cons .str (.cons .bool (.sl (.cons (.int .i64) (.int .i64)))))))) (.cons .bool (.cons (.int .i64) (.cons (.int .i64) (.cons .str (.cons .bool (.sl (.cons (.int .i64) (.int .i64))))))))))))))], []⟩, ⟨[.one (.int .i64)], []⟩, fun x => declcheck_top x.1.1⟩
theorem con51 : Contract Try.prog 51 fc51 :=
  declcheck_top_D.contract tok (cok_of (l := []) trivial) mixed (fn' := Try.f51) (by kernel_rfl) (by kernel_rfl) rfl (by kernel_rfl) (fun x => (FD.fn_eq _ _).trans (by kernel_rfl))
end
end Go.Proofs.Ytgjimkgehbppbaa
end

section
/-
Ytgjimkgehbppbaa: signalbench.declcheck.Ambiguous, as one plain function, its equations, its contract. No condition.
-/
set_option maxRecDepth 100000
set_option linter.unusedVariables false
set_option maxHeartbeats 4000000
open Go Go.AM
namespace Go.Proofs.Ytgjimkgehbppbaa
noncomputable section
def declcheck_Ambiguous_F4 : FSh := ⟨[(1, .one (.ptr 0 0)), (2, .one (.int .i64)), (3, .one (.int .i64)), (4, .one .bool), (12, .one (.sl (.cons .str (.cons (.sl (.cons (.int .i64) (.cons (.int .i64) (.cons .str (.cons .bool (.sl (.cons (.int .i64) (.int .i64)))))))) (.cons .bool (.cons (.int .i64) (.cons (.int .i64) (.cons .str (.cons .bool (.sl (.cons (.int .i64) (.int .i64)))))))))))), (13, .one (.int .i64)), (14, .one (.int .i64))], [.boxr (.cons .str (.cons (.int .i64) (.cons (.int .i64) (.sl (.cons .str (.cons (.sl (.cons (.int .i64) (.cons (.int .i64) (.cons .str (.cons .bool (.sl (.cons (.int .i64) (.int .i64)))))))) (.cons .bool (.cons (.int .i64) (.cons (.int .i64) (.cons .str (.cons .bool (.sl (.cons (.int .i64) (.int .i64))))))))))))))]⟩
def declcheck_Ambiguous_F10 : FSh := ⟨[(1, .one (.ptr 0 0)), (2, .one (.int .i64)), (3, .one (.int .i64)), (4, .one .bool), (5, .one (.int .i64)), (6, .one (.ptr 1 0)), (7, .one (.int .i64)), (12, .one (.sl (.cons .str (.cons (.sl (.cons (.int .i64) (.cons (.int .i64) (.cons .str (.cons .bool (.sl (.cons (.int .i64) (.int .i64)))))))) (.cons .bool (.cons (.int .i64) (.cons (.int .i64) (.cons .str (.cons .bool (.sl (.cons (.int .i64) (.int .i64)))))))))))), (13, .one (.int .i64)), (14, .one (.int .i64))], [.boxr (.cons .str (.cons (.int .i64) (.cons (.int .i64) (.sl (.cons .str (.cons (.sl (.cons (.int .i64) (.cons (.int .i64) (.cons .str (.cons .bool (.sl (.cons (.int .i64) (.int .i64)))))))) (.cons .bool (.cons (.int .i64) (.cons (.int .i64) (.cons .str (.cons .bool (.sl (.cons (.int .i64) (.int .i64)))))))))))))), .boxr (.cons .str (.cons (.sl (.cons (.int .i64) (.cons (.int .i64) (.cons .str (.cons .bool (.sl (.cons (.int .i64) (.int .i64)))))))) (.cons .bool (.cons (.int .i64) (.cons (.int .i64) (.cons .str (.cons .bool (.sl (.cons (.int .i64) (.int .i64))))))))))]⟩
def declcheck_Ambiguous_F16 : FSh := ⟨[(1, .one (.ptr 0 0)), (2, .one (.int .i64)), (3, .one (.int .i64)), (4, .one .bool), (5, .one (.int .i64)), (6, .one (.ptr 1 0)), (7, .one (.int .i64)), (8, .one .bool), (12, .one (.sl (.cons .str (.cons (.sl (.cons (.int .i64) (.cons (.int .i64) (.cons .str (.cons .bool (.sl (.cons (.int .i64) (.int .i64)))))))) (.cons .bool (.cons (.int .i64) (.cons (.int .i64) (.cons .str (.cons .bool (.sl (.cons (.int .i64) (.int .i64)))))))))))), (13, .one (.int .i64)), (14, .one (.int .i64)), (26, .one (.sl (.cons (.int .i64) (.cons (.int .i64) (.cons .str (.cons .bool (.sl (.cons (.int .i64) (.int .i64))))))))), (27, .one (.int .i64)), (28, .one (.int .i64))], [.boxr (.cons .str (.cons (.int .i64) (.cons (.int .i64) (.sl (.cons .str (.cons (.sl (.cons (.int .i64) (.cons (.int .i64) (.cons .str (.cons .bool (.sl (.cons (.int .i64) (.int .i64)))))))) (.cons .bool (.cons (.int .i64) (.cons (.int .i64) (.cons .str (.cons .bool (.sl (.cons (.int .i64) (.int .i64)))))))))))))), .boxr (.cons .str (.cons (.sl (.cons (.int .i64) (.cons (.int .i64) (.cons .str (.cons .bool (.sl (.cons (.int .i64) (.int .i64)))))))) (.cons .bool (.cons (.int .i64) (.cons (.int .i64) (.cons .str (.cons .bool (.sl (.cons (.int .i64) (.int .i64))))))))))]⟩
def declcheck_Ambiguous_D : FD := ⟨T, lookC [(51, fc51)], [], (Try.f17.body.getD .skip), Try.f17.results.toList, ⟨[.row (.cons .str (.cons (.int .i64) (.cons (.int .i64) (.sl (.cons .str (.cons (.sl (.cons (.int .i64) (.cons (.int .i64) (.cons .str (.cons .bool (.sl (.cons (.int .i64) (.int .i64)))))))) (.cons .bool (.cons (.int .i64) (.cons (.int .i64) (.cons .str (.cons .bool (.sl (.cons (.int .i64) (.int .i64))))))))))))))], []⟩, ⟨[.one (.int .i64), .one (.int .i64), .one .bool], []⟩, [(4, declcheck_Ambiguous_F4), (10, declcheck_Ambiguous_F10), (16, declcheck_Ambiguous_F16)]⟩
def declcheck_Ambiguous_l4 (state : Int) (symbol : Int) (found : Bool) (t12 : (List TDeclState)) (t13 : Int) (t14 : Int) (h0 : TDecl) : (Option ((Int × Int × Bool × Unit) × Unit)) := declcheck_Ambiguous_D.lab 4 declcheck_Ambiguous_F4 (((), state, symbol, found, t12, t13, t14, ()), (h0, ()))
def declcheck_Ambiguous_l10 (state : Int) (symbol : Int) (found : Bool) (i : Int) (x0 : Int) (t12 : (List TDeclState)) (t13 : Int) (t14 : Int) (h0 : TDecl) (h1 : TDeclState) : (Option ((Int × Int × Bool × Unit) × Unit)) := declcheck_Ambiguous_D.lab 10 declcheck_Ambiguous_F10 (((), state, symbol, found, i, (), x0, t12, t13, t14, ()), (h0, h1, ()))
def declcheck_Ambiguous_l16 (state : Int) (symbol : Int) (found : Bool) (i : Int) (x0 : Int) (seen : Bool) (t12 : (List TDeclState)) (t13 : Int) (t14 : Int) (t26 : (List TRule)) (t27 : Int) (t28 : Int) (h0 : TDecl) (h1 : TDeclState) : (Option ((Int × Int × Bool × Unit) × Unit)) := declcheck_Ambiguous_D.lab 16 declcheck_Ambiguous_F16 (((), state, symbol, found, i, (), x0, seen, t12, t13, t14, t26, t27, t28, ()), (h0, h1, ()))
theorem declcheck_Ambiguous_l4_eq (state : Int) (symbol : Int) (found : Bool) (t12 : (List TDeclState)) (t13 : Int) (t14 : Int) (h0 : TDecl) : declcheck_Ambiguous_l4 state symbol found t12 t13 t14 h0 =
  if (decide (t14 < t13)) = true then
    if 0 ≤ t14 ∧ t14 < (t12.length : Int) then
      declcheck_Ambiguous_l10 state symbol found t14 0 t12 t13 t14 h0 (t12.getD t14.toNat dDeclState)
    else
      none
  else
    some ((state, symbol, found, ()), ()) := (FD.lab_eq _ _ _ _).trans (by kernel_rfl)
theorem declcheck_Ambiguous_l10_eq (state : Int) (symbol : Int) (found : Bool) (i : Int) (x0 : Int) (t12 : (List TDeclState)) (t13 : Int) (t14 : Int) (h0 : TDecl) (h1 : TDeclState) : declcheck_Ambiguous_l10 state symbol found i x0 t12 t13 t14 h0 h1 =
  (declcheck_top h0).bind fun y1 =>
    if (decide (x0 ≤ y1.1.1)) = true then
      declcheck_Ambiguous_l16 state symbol found i x0 false t12 t13 t14 h1.2.1 (h1.2.1.length : Int) 0 h0 h1
    else
      declcheck_Ambiguous_l4 state symbol found t12 t13 (IntKind.i64.wrap (t14 + 1)) h0 := (FD.lab_eq _ _ _ _).trans (by kernel_rfl)
theorem declcheck_Ambiguous_l16_eq (state : Int) (symbol : Int) (found : Bool) (i : Int) (x0 : Int) (seen : Bool) (t12 : (List TDeclState)) (t13 : Int) (t14 : Int) (t26 : (List TRule)) (t27 : Int) (t28 : Int) (h0 : TDecl) (h1 : TDeclState) : declcheck_Ambiguous_l16 state symbol found i x0 seen t12 t13 t14 t26 t27 t28 h0 h1 =
  if (decide (t28 < t27)) = true then
    if 0 ≤ t28 ∧ t28 < (t26.length : Int) then
      if (decide (x0 < (t26.getD t28.toNat dRule).1)) = true then
        declcheck_Ambiguous_l16 state symbol found i x0 seen t12 t13 t14 t26 t27 (IntKind.i64.wrap (t28 + 1)) h0 h1
      else
        if (decide (x0 > (t26.getD t28.toNat dRule).2.1)) = true then
          declcheck_Ambiguous_l16 state symbol found i x0 seen t12 t13 t14 t26 t27 (IntKind.i64.wrap (t28 + 1)) h0 h1
        else
          if seen = true then
            some ((i, x0, true, ()), ())
          else
            declcheck_Ambiguous_l16 state symbol found i x0 true t12 t13 t14 t26 t27 (IntKind.i64.wrap (t28 + 1)) h0 h1
    else
      none
  else
    declcheck_Ambiguous_l10 state symbol found i (IntKind.i64.wrap (x0 + 1)) t12 t13 t14 h0 h1 := (FD.lab_eq _ _ _ _).trans (by kernel_rfl)
def declcheck_Ambiguous (d : TDecl) : (Option ((Int × Int × Bool × Unit) × Unit)) :=
  declcheck_Ambiguous_l4 0 0 false d.2.2.2 (d.2.2.2.length : Int) 0 d
def fc17 : FC := ⟨⟨[.row (.cons .str (.cons (.int .i64) (.cons (.int .i64) (.sl (.cons .str (.cons (.sl (.cons (.int .i64) (.cons (.int .i64) (.cons .str (.cons .bool (.sl (.cons (.int .i64) (.int .i64)))))))) (.cons .bool (.cons (.int .i64) (.cons (.int .i64) (.cons .str (.cons .bool (.sl (.cons (.int .i64) (.int .i64))))))))))))))], []⟩, ⟨[.one (.int .i64), .one (.int .i64), .one .bool], []⟩, fun x => declcheck_Ambiguous x.1.1⟩
theorem con17 : Contract Try.prog 17 fc17 :=
  declcheck_Ambiguous_D.contract tok (cok_of (l := [(51, fc51)]) ⟨con51, trivial⟩) mixed (fn' := Try.f17) (by kernel_rfl) (by kernel_rfl) rfl (by kernel_rfl) (fun x => (FD.fn_eq _ _).trans (by kernel_rfl))
end
end Go.Proofs.Ytgjimkgehbppbaa
end

section
/-
Ytgjimkgehbppbaa: signalbench.decl.own, as one plain function, its equations, its contract. No condition.
-/
set_option maxRecDepth 100000
set_option linter.unusedVariables false
set_option maxHeartbeats 4000000
open Go Go.AM
namespace Go.Proofs.Ytgjimkgehbppbaa
noncomputable section
def decl_own_D : FD := ⟨T, lookC [], [], (Try.f63.body.getD .skip), Try.f63.results.toList, ⟨[.row (.cons (.int .i64) (.cons (.int .i64) (.cons .str (.cons .bool (.sl (.cons (.int .i64) (.int .i64)))))))], []⟩, ⟨[.row (.cons (.int .i64) (.cons (.int .i64) (.cons .str (.cons .bool (.sl (.cons (.int .i64) (.int .i64)))))))], []⟩, []⟩
def decl_own (r : TRule) : (Option ((TRule × Unit) × Unit)) :=
  if r.2.2.2.2.length * 16 ≤ 140737488355328 ∧ 0 < 16 then
    some ((r, ()), ())
  else
    none
def fc63 : FC := ⟨⟨[.row (.cons (.int .i64) (.cons (.int .i64) (.cons .str (.cons .bool (.sl (.cons (.int .i64) (.int .i64)))))))], []⟩, ⟨[.row (.cons (.int .i64) (.cons (.int .i64) (.cons .str (.cons .bool (.sl (.cons (.int .i64) (.int .i64)))))))], []⟩, fun x => decl_own x.1.1⟩
theorem con63 : Contract Try.prog 63 fc63 :=
  decl_own_D.contract tok (cok_of (l := []) trivial) mixed (fn' := Try.f63) (by kernel_rfl) (by kernel_rfl) rfl (by kernel_rfl) (fun x => (FD.fn_eq _ _).trans (by kernel_rfl))
end
end Go.Proofs.Ytgjimkgehbppbaa
end

section
/-
Ytgjimkgehbppbaa: signalbench.decl.Match, as one plain function, its equations, its contract. No condition.
-/
set_option maxRecDepth 100000
set_option linter.unusedVariables false
set_option maxHeartbeats 4000000
open Go Go.AM
namespace Go.Proofs.Ytgjimkgehbppbaa
noncomputable section
def decl_Match_F7 : FSh := ⟨[(2, .one (.int .i64)), (6, .one (.ptr 0 0)), (8, .one (.ptr 1 0)), (27, .one (.sl (.cons (.int .i64) (.cons (.int .i64) (.cons .str (.cons .bool (.sl (.cons (.int .i64) (.int .i64))))))))), (28, .one (.int .i64)), (29, .one (.int .i64))], [.boxr (.cons (.int .i64) (.cons (.int .i64) (.cons .str (.cons .bool (.sl (.cons (.int .i64) (.int .i64))))))), .boxr (.cons .str (.cons (.sl (.cons (.int .i64) (.cons (.int .i64) (.cons .str (.cons .bool (.sl (.cons (.int .i64) (.int .i64)))))))) (.cons .bool (.cons (.int .i64) (.cons (.int .i64) (.cons .str (.cons .bool (.sl (.cons (.int .i64) (.int .i64))))))))))]⟩
def decl_Match_D : FD := ⟨T, lookC [(63, fc63)], [], (Try.f27.body.getD .skip), Try.f27.results.toList, ⟨[.row (.cons .str (.cons (.int .i64) (.cons (.int .i64) (.sl (.cons .str (.cons (.sl (.cons (.int .i64) (.cons (.int .i64) (.cons .str (.cons .bool (.sl (.cons (.int .i64) (.int .i64)))))))) (.cons .bool (.cons (.int .i64) (.cons (.int .i64) (.cons .str (.cons .bool (.sl (.cons (.int .i64) (.int .i64)))))))))))))), .one (.int .i64), .one (.int .i64)], []⟩, ⟨[.row (.cons (.int .i64) (.cons (.int .i64) (.cons .str (.cons .bool (.sl (.cons (.int .i64) (.int .i64))))))), .one .bool], []⟩, [(7, decl_Match_F7)]⟩
def decl_Match_l7 (symbol : Int) (t27 : (List TRule)) (t28 : Int) (t29 : Int) (h0 : TRule) (h1 : TDeclState) : (Option ((TRule × Bool × Unit) × Unit)) := decl_Match_D.lab 7 decl_Match_F7 ((symbol, (), (), t27, t28, t29, ()), (h0, h1, ()))
theorem decl_Match_l7_eq (symbol : Int) (t27 : (List TRule)) (t28 : Int) (t29 : Int) (h0 : TRule) (h1 : TDeclState) : decl_Match_l7 symbol t27 t28 t29 h0 h1 =
  if (decide (t29 < t28)) = true then
    if 0 ≤ t29 ∧ t29 < (t27.length : Int) then
      if (decide ((t27.getD t29.toNat dRule).1 ≤ symbol)) = true then
        if (decide (symbol ≤ (t27.getD t29.toNat dRule).2.1)) = true then
          (decl_own (t27.getD t29.toNat dRule)).bind fun y1 =>
            some ((y1.1.1, true, ()), ())
        else
          decl_Match_l7 symbol t27 t28 (IntKind.i64.wrap (t29 + 1)) h0 h1
      else
        decl_Match_l7 symbol t27 t28 (IntKind.i64.wrap (t29 + 1)) h0 h1
    else
      none
  else
    if h1.2.2.1 = true then
      (decl_own h1.2.2.2).bind fun y2 =>
        some ((y2.1.1, true, ()), ())
    else
      some (((0, 0, (strB []), false, []), false, ()), ()) := (FD.lab_eq _ _ _ _).trans (by kernel_rfl)
def decl_Match (d : TDecl) (state : Int) (symbol : Int) : (Option ((TRule × Bool × Unit) × Unit)) :=
  if (decide (state < 0)) = true then
    some (((0, 0, (strB []), false, []), false, ()), ())
  else
    if (decide (state ≥ (d.2.2.2.length : Int))) = true then
      some (((0, 0, (strB []), false, []), false, ()), ())
    else
      if 0 ≤ state ∧ state < (d.2.2.2.length : Int) then
        decl_Match_l7 symbol (d.2.2.2.getD state.toNat dDeclState).2.1 ((d.2.2.2.getD state.toNat dDeclState).2.1.length : Int) 0 (0, 0, (strB []), false, []) (d.2.2.2.getD state.toNat dDeclState)
      else
        none
def fc27 : FC := ⟨⟨[.row (.cons .str (.cons (.int .i64) (.cons (.int .i64) (.sl (.cons .str (.cons (.sl (.cons (.int .i64) (.cons (.int .i64) (.cons .str (.cons .bool (.sl (.cons (.int .i64) (.int .i64)))))))) (.cons .bool (.cons (.int .i64) (.cons (.int .i64) (.cons .str (.cons .bool (.sl (.cons (.int .i64) (.int .i64)))))))))))))), .one (.int .i64), .one (.int .i64)], []⟩, ⟨[.row (.cons (.int .i64) (.cons (.int .i64) (.cons .str (.cons .bool (.sl (.cons (.int .i64) (.int .i64))))))), .one .bool], []⟩, fun x => decl_Match x.1.1 x.1.2.1 x.1.2.2.1⟩
theorem con27 : Contract Try.prog 27 fc27 :=
  decl_Match_D.contract tok (cok_of (l := [(63, fc63)]) ⟨con63, trivial⟩) mixed (fn' := Try.f27) (by kernel_rfl) (by kernel_rfl) rfl (by kernel_rfl) (fun x => (FD.fn_eq _ _).trans (by kernel_rfl))
end
end Go.Proofs.Ytgjimkgehbppbaa
end

section
/-
Ytgjimkgehbppbaa: signalbench.declcheck.endless, as one plain function, its equations, its contract. No condition.
-/
set_option maxRecDepth 100000
set_option linter.unusedVariables false
set_option maxHeartbeats 4000000
open Go Go.AM
namespace Go.Proofs.Ytgjimkgehbppbaa
noncomputable section
def declcheck_endless_F3 : FSh := ⟨[(1, .one (.int .i64)), (2, .one (.int .i64)), (3, .one (.ptr 0 0)), (7, .one (.own 1))], [.boxr (.cons .str (.cons (.int .i64) (.cons (.int .i64) (.sl (.cons .str (.cons (.sl (.cons (.int .i64) (.cons (.int .i64) (.cons .str (.cons .bool (.sl (.cons (.int .i64) (.int .i64)))))))) (.cons .bool (.cons (.int .i64) (.cons (.int .i64) (.cons .str (.cons .bool (.sl (.cons (.int .i64) (.int .i64)))))))))))))), .arr 4 .bool true]⟩
def declcheck_endless_D : FD := ⟨T, lookC [(27, fc27), (28, fc28)], [], (Try.f57.body.getD .skip), Try.f57.results.toList, ⟨[.row (.cons .str (.cons (.int .i64) (.cons (.int .i64) (.sl (.cons .str (.cons (.sl (.cons (.int .i64) (.cons (.int .i64) (.cons .str (.cons .bool (.sl (.cons (.int .i64) (.int .i64)))))))) (.cons .bool (.cons (.int .i64) (.cons (.int .i64) (.cons .str (.cons .bool (.sl (.cons (.int .i64) (.int .i64)))))))))))))), .one (.int .i64), .one (.int .i64)], []⟩, ⟨[.one .bool], []⟩, [(3, declcheck_endless_F3)]⟩
def declcheck_endless_l3 (state : Int) (symbol : Int) (h0 : TDecl) (l1 : (List Bool)) : (Option ((Bool × Unit) × Unit)) := declcheck_endless_D.lab 3 declcheck_endless_F3 ((state, symbol, (), (), ()), (h0, l1, ()))
theorem declcheck_endless_l3_eq (state : Int) (symbol : Int) (h0 : TDecl) (l1 : (List Bool)) : declcheck_endless_l3 state symbol h0 l1 =
  if (decide (state ≥ 0)) = true then
    if 0 ≤ state ∧ state < (l1.length : Int) then
      if (!(l1.getD state.toNat false)) = true then
        if 0 ≤ state ∧ state < (l1.length : Int) then
          (decl_Match h0 state symbol).bind fun y1 =>
            if (!y1.1.2.1) = true then
              some ((false, ()), ())
            else
              if (!y1.1.1.2.2.2.1) = true then
                some ((false, ()), ())
              else
                (decl_Find h0 y1.1.1.2.2.1).bind fun y2 =>
                  declcheck_endless_l3 y2.1.1 symbol h0 (l1.set state.toNat true)
        else
          none
      else
        some ((decide (state ≥ 0), ()), ())
    else
      none
  else
    some ((decide (state ≥ 0), ()), ()) := (FD.lab_eq _ _ _ _).trans (by kernel_rfl)
def declcheck_endless (d : TDecl) (state : Int) (symbol : Int) : (Option ((Bool × Unit) × Unit)) :=
  if ((d.2.2.2.length : Int) = 0 ∨ (d.2.2.2.length : Int) = (d.2.2.2.length : Int)) ∧ 0 ≤ (d.2.2.2.length : Int) ∧ (d.2.2.2.length : Int) * 1 ≤ 140737488355328 ∧ 0 < 1 then
    declcheck_endless_l3 state symbol d (List.replicate (d.2.2.2.length : Int).toNat false)
  else
    none
def fc57 : FC := ⟨⟨[.row (.cons .str (.cons (.int .i64) (.cons (.int .i64) (.sl (.cons .str (.cons (.sl (.cons (.int .i64) (.cons (.int .i64) (.cons .str (.cons .bool (.sl (.cons (.int .i64) (.int .i64)))))))) (.cons .bool (.cons (.int .i64) (.cons (.int .i64) (.cons .str (.cons .bool (.sl (.cons (.int .i64) (.int .i64)))))))))))))), .one (.int .i64), .one (.int .i64)], []⟩, ⟨[.one .bool], []⟩, fun x => declcheck_endless x.1.1 x.1.2.1 x.1.2.2.1⟩
theorem con57 : Contract Try.prog 57 fc57 :=
  declcheck_endless_D.contract tok (cok_of (l := [(27, fc27), (28, fc28)]) ⟨con27, con28, trivial⟩) mixed (fn' := Try.f57) (by kernel_rfl) (by kernel_rfl) rfl (by kernel_rfl) (fun x => (FD.fn_eq _ _).trans (by kernel_rfl))
end
end Go.Proofs.Ytgjimkgehbppbaa
end

section
/-
Ytgjimkgehbppbaa: signalbench.declcheck.Cycle$1, as one plain function, its equations, its contract. No condition.
-/
set_option maxRecDepth 100000
set_option linter.unusedVariables false
set_option maxHeartbeats 4000000
open Go Go.AM
namespace Go.Proofs.Ytgjimkgehbppbaa
noncomputable section
def declcheck_Cycle_1_D : FD := ⟨T, lookC [(57, fc57)], [], (Try.f56.body.getD .skip), Try.f56.results.toList, ⟨[.one (.int .i64), .one (.int .i64), .one (.ptr 0 0)], [.boxr (.cons .str (.cons (.int .i64) (.cons (.int .i64) (.sl (.cons .str (.cons (.sl (.cons (.int .i64) (.cons (.int .i64) (.cons .str (.cons .bool (.sl (.cons (.int .i64) (.int .i64)))))))) (.cons .bool (.cons (.int .i64) (.cons (.int .i64) (.cons .str (.cons .bool (.sl (.cons (.int .i64) (.int .i64))))))))))))))]⟩, ⟨[.one .bool], [.boxr (.cons .str (.cons (.int .i64) (.cons (.int .i64) (.sl (.cons .str (.cons (.sl (.cons (.int .i64) (.cons (.int .i64) (.cons .str (.cons .bool (.sl (.cons (.int .i64) (.int .i64)))))))) (.cons .bool (.cons (.int .i64) (.cons (.int .i64) (.cons .str (.cons .bool (.sl (.cons (.int .i64) (.int .i64))))))))))))))]⟩, []⟩
def declcheck_Cycle_1 (state : Int) (symbol : Int) (h0 : TDecl) : (Option ((Bool × Unit) × (TDecl × Unit))) :=
  (declcheck_endless h0 state symbol).bind fun y1 =>
    some ((y1.1.1, ()), (h0, ()))
def fc56 : FC := ⟨⟨[.one (.int .i64), .one (.int .i64), .one (.ptr 0 0)], [.boxr (.cons .str (.cons (.int .i64) (.cons (.int .i64) (.sl (.cons .str (.cons (.sl (.cons (.int .i64) (.cons (.int .i64) (.cons .str (.cons .bool (.sl (.cons (.int .i64) (.int .i64)))))))) (.cons .bool (.cons (.int .i64) (.cons (.int .i64) (.cons .str (.cons .bool (.sl (.cons (.int .i64) (.int .i64))))))))))))))]⟩, ⟨[.one .bool], [.boxr (.cons .str (.cons (.int .i64) (.cons (.int .i64) (.sl (.cons .str (.cons (.sl (.cons (.int .i64) (.cons (.int .i64) (.cons .str (.cons .bool (.sl (.cons (.int .i64) (.int .i64)))))))) (.cons .bool (.cons (.int .i64) (.cons (.int .i64) (.cons .str (.cons .bool (.sl (.cons (.int .i64) (.int .i64))))))))))))))]⟩, fun x => declcheck_Cycle_1 x.1.1 x.1.2.1 x.2.1⟩
theorem con56 : Contract Try.prog 56 fc56 :=
  declcheck_Cycle_1_D.contract tok (cok_of (l := [(57, fc57)]) ⟨con57, trivial⟩) mixed (fn' := Try.f56) (by kernel_rfl) (by kernel_rfl) rfl (by kernel_rfl) (fun x => (FD.fn_eq _ _).trans (by kernel_rfl))
end
end Go.Proofs.Ytgjimkgehbppbaa
end

section
/-
Ytgjimkgehbppbaa: signalbench.declcheck.first, as one plain function, its equations, its contract. No condition.
-/
set_option maxRecDepth 100000
set_option linter.unusedVariables false
set_option maxHeartbeats 4000000
open Go Go.AM
namespace Go.Proofs.Ytgjimkgehbppbaa
noncomputable section
def declcheck_firstC_F3 : FSh := ⟨[(1, .one (.fn 56 [0])), (2, .one (.ptr 1 0)), (11, .one (.int .i64)), (12, .one (.int .i64))], [.boxr (.cons .str (.cons (.int .i64) (.cons (.int .i64) (.sl (.cons .str (.cons (.sl (.cons (.int .i64) (.cons (.int .i64) (.cons .str (.cons .bool (.sl (.cons (.int .i64) (.int .i64)))))))) (.cons .bool (.cons (.int .i64) (.cons (.int .i64) (.cons .str (.cons .bool (.sl (.cons (.int .i64) (.int .i64)))))))))))))), .boxr (.cons .str (.cons (.int .i64) (.cons (.int .i64) (.sl (.cons .str (.cons (.sl (.cons (.int .i64) (.cons (.int .i64) (.cons .str (.cons .bool (.sl (.cons (.int .i64) (.int .i64)))))))) (.cons .bool (.cons (.int .i64) (.cons (.int .i64) (.cons .str (.cons .bool (.sl (.cons (.int .i64) (.int .i64))))))))))))))]⟩
def declcheck_firstC_F9 : FSh := ⟨[(1, .one (.fn 56 [0])), (2, .one (.ptr 1 0)), (7, .one (.int .i64)), (8, .one (.int .i64)), (11, .one (.int .i64)), (12, .one (.int .i64))], [.boxr (.cons .str (.cons (.int .i64) (.cons (.int .i64) (.sl (.cons .str (.cons (.sl (.cons (.int .i64) (.cons (.int .i64) (.cons .str (.cons .bool (.sl (.cons (.int .i64) (.int .i64)))))))) (.cons .bool (.cons (.int .i64) (.cons (.int .i64) (.cons .str (.cons .bool (.sl (.cons (.int .i64) (.int .i64)))))))))))))), .boxr (.cons .str (.cons (.int .i64) (.cons (.int .i64) (.sl (.cons .str (.cons (.sl (.cons (.int .i64) (.cons (.int .i64) (.cons .str (.cons .bool (.sl (.cons (.int .i64) (.int .i64)))))))) (.cons .bool (.cons (.int .i64) (.cons (.int .i64) (.cons .str (.cons .bool (.sl (.cons (.int .i64) (.int .i64))))))))))))))]⟩
def declcheck_firstC_D : FD := ⟨T, lookC [(51, fc51), (56, fc56)], [], (Try.f54.body.getD .skip), Try.f54.results.toList, ⟨[.row (.cons .str (.cons (.int .i64) (.cons (.int .i64) (.sl (.cons .str (.cons (.sl (.cons (.int .i64) (.cons (.int .i64) (.cons .str (.cons .bool (.sl (.cons (.int .i64) (.int .i64)))))))) (.cons .bool (.cons (.int .i64) (.cons (.int .i64) (.cons .str (.cons .bool (.sl (.cons (.int .i64) (.int .i64)))))))))))))), .one (.fn 56 [0])], [.boxr (.cons .str (.cons (.int .i64) (.cons (.int .i64) (.sl (.cons .str (.cons (.sl (.cons (.int .i64) (.cons (.int .i64) (.cons .str (.cons .bool (.sl (.cons (.int .i64) (.int .i64)))))))) (.cons .bool (.cons (.int .i64) (.cons (.int .i64) (.cons .str (.cons .bool (.sl (.cons (.int .i64) (.int .i64))))))))))))))]⟩, ⟨[.one (.int .i64), .one (.int .i64), .one .bool], [.boxr (.cons .str (.cons (.int .i64) (.cons (.int .i64) (.sl (.cons .str (.cons (.sl (.cons (.int .i64) (.cons (.int .i64) (.cons .str (.cons .bool (.sl (.cons (.int .i64) (.int .i64)))))))) (.cons .bool (.cons (.int .i64) (.cons (.int .i64) (.cons .str (.cons .bool (.sl (.cons (.int .i64) (.int .i64))))))))))))))]⟩, [(3, declcheck_firstC_F3), (9, declcheck_firstC_F9)]⟩
def declcheck_firstC_l3 (t11 : Int) (t12 : Int) (h0 : TDecl) (h1 : TDecl) : (Option ((Int × Int × Bool × Unit) × (TDecl × Unit))) := declcheck_firstC_D.lab 3 declcheck_firstC_F3 (((), (), t11, t12, ()), (h0, h1, ()))
def declcheck_firstC_l9 (i : Int) (x0 : Int) (t11 : Int) (t12 : Int) (h0 : TDecl) (h1 : TDecl) : (Option ((Int × Int × Bool × Unit) × (TDecl × Unit))) := declcheck_firstC_D.lab 9 declcheck_firstC_F9 (((), (), i, x0, t11, t12, ()), (h0, h1, ()))
theorem declcheck_firstC_l3_eq (t11 : Int) (t12 : Int) (h0 : TDecl) (h1 : TDecl) : declcheck_firstC_l3 t11 t12 h0 h1 =
  if (decide (t12 < t11)) = true then
    declcheck_firstC_l9 t12 0 t11 t12 h0 h1
  else
    some ((0, 0, false, ()), (h0, ())) := (FD.lab_eq _ _ _ _).trans (by kernel_rfl)
theorem declcheck_firstC_l9_eq (i : Int) (x0 : Int) (t11 : Int) (t12 : Int) (h0 : TDecl) (h1 : TDecl) : declcheck_firstC_l9 i x0 t11 t12 h0 h1 =
  (declcheck_top h1).bind fun y1 =>
    if (decide (x0 ≤ y1.1.1)) = true then
      (declcheck_Cycle_1 i x0 h0).bind fun y2 =>
        if y2.1.1 = true then
          some ((i, x0, true, ()), (y2.2.1, ()))
        else
          declcheck_firstC_l9 i (IntKind.i64.wrap (x0 + 1)) t11 t12 y2.2.1 h1
    else
      declcheck_firstC_l3 t11 (IntKind.i64.wrap (t12 + 1)) h0 h1 := (FD.lab_eq _ _ _ _).trans (by kernel_rfl)
def declcheck_firstC (d : TDecl) (h0 : TDecl) : (Option ((Int × Int × Bool × Unit) × (TDecl × Unit))) :=
  declcheck_firstC_l3 (d.2.2.2.length : Int) 0 h0 d
def fc54C : FC := ⟨⟨[.row (.cons .str (.cons (.int .i64) (.cons (.int .i64) (.sl (.cons .str (.cons (.sl (.cons (.int .i64) (.cons (.int .i64) (.cons .str (.cons .bool (.sl (.cons (.int .i64) (.int .i64)))))))) (.cons .bool (.cons (.int .i64) (.cons (.int .i64) (.cons .str (.cons .bool (.sl (.cons (.int .i64) (.int .i64)))))))))))))), .one (.fn 56 [0])], [.boxr (.cons .str (.cons (.int .i64) (.cons (.int .i64) (.sl (.cons .str (.cons (.sl (.cons (.int .i64) (.cons (.int .i64) (.cons .str (.cons .bool (.sl (.cons (.int .i64) (.int .i64)))))))) (.cons .bool (.cons (.int .i64) (.cons (.int .i64) (.cons .str (.cons .bool (.sl (.cons (.int .i64) (.int .i64))))))))))))))]⟩, ⟨[.one (.int .i64), .one (.int .i64), .one .bool], [.boxr (.cons .str (.cons (.int .i64) (.cons (.int .i64) (.sl (.cons .str (.cons (.sl (.cons (.int .i64) (.cons (.int .i64) (.cons .str (.cons .bool (.sl (.cons (.int .i64) (.int .i64)))))))) (.cons .bool (.cons (.int .i64) (.cons (.int .i64) (.cons .str (.cons .bool (.sl (.cons (.int .i64) (.int .i64))))))))))))))]⟩, fun x => declcheck_firstC x.1.1 x.2.1⟩
theorem con54C : Contract Try.prog 54 fc54C :=
  declcheck_firstC_D.contract tok (cok_of (l := [(51, fc51), (56, fc56)]) ⟨con51, con56, trivial⟩) mixed (fn' := Try.f54) (by kernel_rfl) (by kernel_rfl) rfl (by kernel_rfl) (fun x => (FD.fn_eq _ _).trans (by kernel_rfl))
end
end Go.Proofs.Ytgjimkgehbppbaa
end

section
/-
Ytgjimkgehbppbaa: signalbench.declcheck.Missing$1, as one plain function, its equations, its contract. No condition.
-/
set_option maxRecDepth 100000
set_option linter.unusedVariables false
set_option maxHeartbeats 4000000
open Go Go.AM
namespace Go.Proofs.Ytgjimkgehbppbaa
noncomputable section
def declcheck_Missing_1_D : FD := ⟨T, lookC [(27, fc27)], [], (Try.f55.body.getD .skip), Try.f55.results.toList, ⟨[.one (.int .i64), .one (.int .i64), .one (.ptr 0 0)], [.boxr (.cons .str (.cons (.int .i64) (.cons (.int .i64) (.sl (.cons .str (.cons (.sl (.cons (.int .i64) (.cons (.int .i64) (.cons .str (.cons .bool (.sl (.cons (.int .i64) (.int .i64)))))))) (.cons .bool (.cons (.int .i64) (.cons (.int .i64) (.cons .str (.cons .bool (.sl (.cons (.int .i64) (.int .i64))))))))))))))]⟩, ⟨[.one .bool], [.boxr (.cons .str (.cons (.int .i64) (.cons (.int .i64) (.sl (.cons .str (.cons (.sl (.cons (.int .i64) (.cons (.int .i64) (.cons .str (.cons .bool (.sl (.cons (.int .i64) (.int .i64)))))))) (.cons .bool (.cons (.int .i64) (.cons (.int .i64) (.cons .str (.cons .bool (.sl (.cons (.int .i64) (.int .i64))))))))))))))]⟩, []⟩
def declcheck_Missing_1 (state : Int) (symbol : Int) (h0 : TDecl) : (Option ((Bool × Unit) × (TDecl × Unit))) :=
  (decl_Match h0 state symbol).bind fun y1 =>
    some ((!y1.1.2.1, ()), (h0, ()))
def fc55 : FC := ⟨⟨[.one (.int .i64), .one (.int .i64), .one (.ptr 0 0)], [.boxr (.cons .str (.cons (.int .i64) (.cons (.int .i64) (.sl (.cons .str (.cons (.sl (.cons (.int .i64) (.cons (.int .i64) (.cons .str (.cons .bool (.sl (.cons (.int .i64) (.int .i64)))))))) (.cons .bool (.cons (.int .i64) (.cons (.int .i64) (.cons .str (.cons .bool (.sl (.cons (.int .i64) (.int .i64))))))))))))))]⟩, ⟨[.one .bool], [.boxr (.cons .str (.cons (.int .i64) (.cons (.int .i64) (.sl (.cons .str (.cons (.sl (.cons (.int .i64) (.cons (.int .i64) (.cons .str (.cons .bool (.sl (.cons (.int .i64) (.int .i64)))))))) (.cons .bool (.cons (.int .i64) (.cons (.int .i64) (.cons .str (.cons .bool (.sl (.cons (.int .i64) (.int .i64))))))))))))))]⟩, fun x => declcheck_Missing_1 x.1.1 x.1.2.1 x.2.1⟩
theorem con55 : Contract Try.prog 55 fc55 :=
  declcheck_Missing_1_D.contract tok (cok_of (l := [(27, fc27)]) ⟨con27, trivial⟩) mixed (fn' := Try.f55) (by kernel_rfl) (by kernel_rfl) rfl (by kernel_rfl) (fun x => (FD.fn_eq _ _).trans (by kernel_rfl))
end
end Go.Proofs.Ytgjimkgehbppbaa
end

section
/-
Ytgjimkgehbppbaa: signalbench.declcheck.first, as one plain function, its equations, its contract. No condition.
-/
set_option maxRecDepth 100000
set_option linter.unusedVariables false
set_option maxHeartbeats 4000000
open Go Go.AM
namespace Go.Proofs.Ytgjimkgehbppbaa
noncomputable section
def declcheck_firstM_F3 : FSh := ⟨[(1, .one (.fn 55 [0])), (2, .one (.ptr 1 0)), (11, .one (.int .i64)), (12, .one (.int .i64))], [.boxr (.cons .str (.cons (.int .i64) (.cons (.int .i64) (.sl (.cons .str (.cons (.sl (.cons (.int .i64) (.cons (.int .i64) (.cons .str (.cons .bool (.sl (.cons (.int .i64) (.int .i64)))))))) (.cons .bool (.cons (.int .i64) (.cons (.int .i64) (.cons .str (.cons .bool (.sl (.cons (.int .i64) (.int .i64)))))))))))))), .boxr (.cons .str (.cons (.int .i64) (.cons (.int .i64) (.sl (.cons .str (.cons (.sl (.cons (.int .i64) (.cons (.int .i64) (.cons .str (.cons .bool (.sl (.cons (.int .i64) (.int .i64)))))))) (.cons .bool (.cons (.int .i64) (.cons (.int .i64) (.cons .str (.cons .bool (.sl (.cons (.int .i64) (.int .i64))))))))))))))]⟩
def declcheck_firstM_F9 : FSh := ⟨[(1, .one (.fn 55 [0])), (2, .one (.ptr 1 0)), (7, .one (.int .i64)), (8, .one (.int .i64)), (11, .one (.int .i64)), (12, .one (.int .i64))], [.boxr (.cons .str (.cons (.int .i64) (.cons (.int .i64) (.sl (.cons .str (.cons (.sl (.cons (.int .i64) (.cons (.int .i64) (.cons .str (.cons .bool (.sl (.cons (.int .i64) (.int .i64)))))))) (.cons .bool (.cons (.int .i64) (.cons (.int .i64) (.cons .str (.cons .bool (.sl (.cons (.int .i64) (.int .i64)))))))))))))), .boxr (.cons .str (.cons (.int .i64) (.cons (.int .i64) (.sl (.cons .str (.cons (.sl (.cons (.int .i64) (.cons (.int .i64) (.cons .str (.cons .bool (.sl (.cons (.int .i64) (.int .i64)))))))) (.cons .bool (.cons (.int .i64) (.cons (.int .i64) (.cons .str (.cons .bool (.sl (.cons (.int .i64) (.int .i64))))))))))))))]⟩
def declcheck_firstM_D : FD := ⟨T, lookC [(51, fc51), (55, fc55)], [], (Try.f54.body.getD .skip), Try.f54.results.toList, ⟨[.row (.cons .str (.cons (.int .i64) (.cons (.int .i64) (.sl (.cons .str (.cons (.sl (.cons (.int .i64) (.cons (.int .i64) (.cons .str (.cons .bool (.sl (.cons (.int .i64) (.int .i64)))))))) (.cons .bool (.cons (.int .i64) (.cons (.int .i64) (.cons .str (.cons .bool (.sl (.cons (.int .i64) (.int .i64)))))))))))))), .one (.fn 55 [0])], [.boxr (.cons .str (.cons (.int .i64) (.cons (.int .i64) (.sl (.cons .str (.cons (.sl (.cons (.int .i64) (.cons (.int .i64) (.cons .str (.cons .bool (.sl (.cons (.int .i64) (.int .i64)))))))) (.cons .bool (.cons (.int .i64) (.cons (.int .i64) (.cons .str (.cons .bool (.sl (.cons (.int .i64) (.int .i64))))))))))))))]⟩, ⟨[.one (.int .i64), .one (.int .i64), .one .bool], [.boxr (.cons .str (.cons (.int .i64) (.cons (.int .i64) (.sl (.cons .str (.cons (.sl (.cons (.int .i64) (.cons (.int .i64) (.cons .str (.cons .bool (.sl (.cons (.int .i64) (.int .i64)))))))) (.cons .bool (.cons (.int .i64) (.cons (.int .i64) (.cons .str (.cons .bool (.sl (.cons (.int .i64) (.int .i64))))))))))))))]⟩, [(3, declcheck_firstM_F3), (9, declcheck_firstM_F9)]⟩
def declcheck_firstM_l3 (t11 : Int) (t12 : Int) (h0 : TDecl) (h1 : TDecl) : (Option ((Int × Int × Bool × Unit) × (TDecl × Unit))) := declcheck_firstM_D.lab 3 declcheck_firstM_F3 (((), (), t11, t12, ()), (h0, h1, ()))
def declcheck_firstM_l9 (i : Int) (x0 : Int) (t11 : Int) (t12 : Int) (h0 : TDecl) (h1 : TDecl) : (Option ((Int × Int × Bool × Unit) × (TDecl × Unit))) := declcheck_firstM_D.lab 9 declcheck_firstM_F9 (((), (), i, x0, t11, t12, ()), (h0, h1, ()))
theorem declcheck_firstM_l3_eq (t11 : Int) (t12 : Int) (h0 : TDecl) (h1 : TDecl) : declcheck_firstM_l3 t11 t12 h0 h1 =
  if (decide (t12 < t11)) = true then
    declcheck_firstM_l9 t12 0 t11 t12 h0 h1
  else
    some ((0, 0, false, ()), (h0, ())) := (FD.lab_eq _ _ _ _).trans (by kernel_rfl)
theorem declcheck_firstM_l9_eq (i : Int) (x0 : Int) (t11 : Int) (t12 : Int) (h0 : TDecl) (h1 : TDecl) : declcheck_firstM_l9 i x0 t11 t12 h0 h1 =
  (declcheck_top h1).bind fun y1 =>
    if (decide (x0 ≤ y1.1.1)) = true then
      (declcheck_Missing_1 i x0 h0).bind fun y2 =>
        if y2.1.1 = true then
          some ((i, x0, true, ()), (y2.2.1, ()))
        else
          declcheck_firstM_l9 i (IntKind.i64.wrap (x0 + 1)) t11 t12 y2.2.1 h1
    else
      declcheck_firstM_l3 t11 (IntKind.i64.wrap (t12 + 1)) h0 h1 := (FD.lab_eq _ _ _ _).trans (by kernel_rfl)
def declcheck_firstM (d : TDecl) (h0 : TDecl) : (Option ((Int × Int × Bool × Unit) × (TDecl × Unit))) :=
  declcheck_firstM_l3 (d.2.2.2.length : Int) 0 h0 d
def fc54M : FC := ⟨⟨[.row (.cons .str (.cons (.int .i64) (.cons (.int .i64) (.sl (.cons .str (.cons (.sl (.cons (.int .i64) (.cons (.int .i64) (.cons .str (.cons .bool (.sl (.cons (.int .i64) (.int .i64)))))))) (.cons .bool (.cons (.int .i64) (.cons (.int .i64) (.cons .str (.cons .bool (.sl (.cons (.int .i64) (.int .i64)))))))))))))), .one (.fn 55 [0])], [.boxr (.cons .str (.cons (.int .i64) (.cons (.int .i64) (.sl (.cons .str (.cons (.sl (.cons (.int .i64) (.cons (.int .i64) (.cons .str (.cons .bool (.sl (.cons (.int .i64) (.int .i64)))))))) (.cons .bool (.cons (.int .i64) (.cons (.int .i64) (.cons .str (.cons .bool (.sl (.cons (.int .i64) (.int .i64))))))))))))))]⟩, ⟨[.one (.int .i64), .one (.int .i64), .one .bool], [.boxr (.cons .str (.cons (.int .i64) (.cons (.int .i64) (.sl (.cons .str (.cons (.sl (.cons (.int .i64) (.cons (.int .i64) (.cons .str (.cons .bool (.sl (.cons (.int .i64) (.int .i64)))))))) (.cons .bool (.cons (.int .i64) (.cons (.int .i64) (.cons .str (.cons .bool (.sl (.cons (.int .i64) (.int .i64))))))))))))))]⟩, fun x => declcheck_firstM x.1.1 x.2.1⟩
theorem con54M : Contract Try.prog 54 fc54M :=
  declcheck_firstM_D.contract tok (cok_of (l := [(51, fc51), (55, fc55)]) ⟨con51, con55, trivial⟩) mixed (fn' := Try.f54) (by kernel_rfl) (by kernel_rfl) rfl (by kernel_rfl) (fun x => (FD.fn_eq _ _).trans (by kernel_rfl))
end
end Go.Proofs.Ytgjimkgehbppbaa
end

section
/-
Ytgjimkgehbppbaa: signalbench.declcheck.Missing, as one plain function, its equations, its contract. No condition.
-/
set_option maxRecDepth 100000
set_option linter.unusedVariables false
set_option maxHeartbeats 4000000
open Go Go.AM
namespace Go.Proofs.Ytgjimkgehbppbaa
noncomputable section
def declcheck_Missing_D : FD := ⟨T, lookC [(54, fc54M), (54, fc54C), (55, fc55)], [], (Try.f19.body.getD .skip), Try.f19.results.toList, ⟨[.row (.cons .str (.cons (.int .i64) (.cons (.int .i64) (.sl (.cons .str (.cons (.sl (.cons (.int .i64) (.cons (.int .i64) (.cons .str (.cons .bool (.sl (.cons (.int .i64) (.int .i64)))))))) (.cons .bool (.cons (.int .i64) (.cons (.int .i64) (.cons .str (.cons .bool (.sl (.cons (.int .i64) (.int .i64))))))))))))))], []⟩, ⟨[.one (.int .i64), .one (.int .i64), .one .bool], []⟩, []⟩
def declcheck_Missing (d : TDecl) : (Option ((Int × Int × Bool × Unit) × Unit)) :=
  (declcheck_firstM d d).bind fun y1 =>
    some ((y1.1.1, y1.1.2.1, y1.1.2.2.1, ()), ())
def fc19 : FC := ⟨⟨[.row (.cons .str (.cons (.int .i64) (.cons (.int .i64) (.sl (.cons .str (.cons (.sl (.cons (.int .i64) (.cons (.int .i64) (.cons .str (.cons .bool (.sl (.cons (.int .i64) (.int .i64)))))))) (.cons .bool (.cons (.int .i64) (.cons (.int .i64) (.cons .str (.cons .bool (.sl (.cons (.int .i64) (.int .i64))))))))))))))], []⟩, ⟨[.one (.int .i64), .one (.int .i64), .one .bool], []⟩, fun x => declcheck_Missing x.1.1⟩
theorem con19 : Contract Try.prog 19 fc19 :=
  declcheck_Missing_D.contract tok (cok_of (l := [(54, fc54M), (54, fc54C), (55, fc55)]) ⟨con54M, con54C, con55, trivial⟩) mixed (fn' := Try.f19) (by kernel_rfl) (by kernel_rfl) rfl (by kernel_rfl) (fun x => (FD.fn_eq _ _).trans (by kernel_rfl))
end
end Go.Proofs.Ytgjimkgehbppbaa
end

section
/-
Ytgjimkgehbppbaa: signalbench.declcheck.Cycle, as one plain function, its equations, its contract. No condition.
-/
set_option maxRecDepth 100000
set_option linter.unusedVariables false
set_option maxHeartbeats 4000000
open Go Go.AM
namespace Go.Proofs.Ytgjimkgehbppbaa
noncomputable section
def declcheck_Cycle_D : FD := ⟨T, lookC [(54, fc54M), (54, fc54C), (56, fc56)], [], (Try.f21.body.getD .skip), Try.f21.results.toList, ⟨[.row (.cons .str (.cons (.int .i64) (.cons (.int .i64) (.sl (.cons .str (.cons (.sl (.cons (.int .i64) (.cons (.int .i64) (.cons .str (.cons .bool (.sl (.cons (.int .i64) (.int .i64)))))))) (.cons .bool (.cons (.int .i64) (.cons (.int .i64) (.cons .str (.cons .bool (.sl (.cons (.int .i64) (.int .i64))))))))))))))], []⟩, ⟨[.one (.int .i64), .one (.int .i64), .one .bool], []⟩, []⟩
def declcheck_Cycle (d : TDecl) : (Option ((Int × Int × Bool × Unit) × Unit)) :=
  (declcheck_firstC d d).bind fun y1 =>
    some ((y1.1.1, y1.1.2.1, y1.1.2.2.1, ()), ())
def fc21 : FC := ⟨⟨[.row (.cons .str (.cons (.int .i64) (.cons (.int .i64) (.sl (.cons .str (.cons (.sl (.cons (.int .i64) (.cons (.int .i64) (.cons .str (.cons .bool (.sl (.cons (.int .i64) (.int .i64)))))))) (.cons .bool (.cons (.int .i64) (.cons (.int .i64) (.cons .str (.cons .bool (.sl (.cons (.int .i64) (.int .i64))))))))))))))], []⟩, ⟨[.one (.int .i64), .one (.int .i64), .one .bool], []⟩, fun x => declcheck_Cycle x.1.1⟩
theorem con21 : Contract Try.prog 21 fc21 :=
  declcheck_Cycle_D.contract tok (cok_of (l := [(54, fc54M), (54, fc54C), (56, fc56)]) ⟨con54M, con54C, con56, trivial⟩) mixed (fn' := Try.f21) (by kernel_rfl) (by kernel_rfl) rfl (by kernel_rfl) (fun x => (FD.fn_eq _ _).trans (by kernel_rfl))
end
end Go.Proofs.Ytgjimkgehbppbaa
end

section
/-
Ytgjimkgehbppbaa: signalbench.declcheck.Reach$1, as one plain function, its equations, its contract. No condition.
-/
set_option maxRecDepth 100000
set_option linter.unusedVariables false
set_option maxHeartbeats 4000000
open Go Go.AM
namespace Go.Proofs.Ytgjimkgehbppbaa
noncomputable section
def declcheck_Reach_1_D : FD := ⟨T, lookC [], [], (Try.f59.body.getD .skip), Try.f59.results.toList, ⟨[.one (.int .i64), .one (.ptr 0 0), .one (.ptr 1 0)], [.box [(.own 2)], .box [(.own 3)], .arr 4 .bool true, .arr 3 (.int .i64) true]⟩, ⟨[], [.box [(.own 4)], .box [(.own 5)], .dead, .dead, .arr 4 .bool true, .arr 3 (.int .i64) true]⟩, []⟩
def declcheck_Reach_1 (state : Int) (l2 : (List Bool)) (l3 : (List Int)) : (Option (Unit × ((Unit × Unit) × (Unit × Unit) × Unit × Unit × (List Bool) × (List Int) × Unit))) :=
  if (decide (state ≥ 0)) = true then
    if 0 ≤ state ∧ state < (l2.length : Int) then
      if (!(l2.getD state.toNat false)) = true then
        if 0 ≤ state ∧ state < (l2.length : Int) then
          if (l3.length + 1) * 8 ≤ 140737488355328 ∧ 0 < 8 then
            some ((), (((), ()), ((), ()), (), (), l2.set state.toNat true, l3 ++ [state], ()))
          else
            none
        else
          none
      else
        some ((), (((), ()), ((), ()), (), (), l2, l3, ()))
    else
      none
  else
    some ((), (((), ()), ((), ()), (), (), l2, l3, ()))
def fc59 : FC := ⟨⟨[.one (.int .i64), .one (.ptr 0 0), .one (.ptr 1 0)], [.box [(.own 2)], .box [(.own 3)], .arr 4 .bool true, .arr 3 (.int .i64) true]⟩, ⟨[], [.box [(.own 4)], .box [(.own 5)], .dead, .dead, .arr 4 .bool true, .arr 3 (.int .i64) true]⟩, fun x => declcheck_Reach_1 x.1.1 x.2.2.2.1 x.2.2.2.2.1⟩
theorem con59 : Contract Try.prog 59 fc59 :=
  declcheck_Reach_1_D.contract tok (cok_of (l := []) trivial) mixed (fn' := Try.f59) (by kernel_rfl) (by kernel_rfl) rfl (by kernel_rfl) (fun x => (FD.fn_eq _ _).trans (by kernel_rfl))
end
end Go.Proofs.Ytgjimkgehbppbaa
end

section
/-
Ytgjimkgehbppbaa: signalbench.declcheck.Reach, as one plain function, its equations, its contract. No condition.
-/
set_option maxRecDepth 100000
set_option linter.unusedVariables false
set_option maxHeartbeats 4000000
open Go Go.AM
namespace Go.Proofs.Ytgjimkgehbppbaa
noncomputable section
def declcheck_Reach_F4 : FSh := ⟨[(1, .one (.ptr 0 0)), (3, .one (.ptr 1 0)), (4, .one (.ptr 2 0)), (5, .one (.fn 59 [1, 2]))], [.boxr (.cons .str (.cons (.int .i64) (.cons (.int .i64) (.sl (.cons .str (.cons (.sl (.cons (.int .i64) (.cons (.int .i64) (.cons .str (.cons .bool (.sl (.cons (.int .i64) (.int .i64)))))))) (.cons .bool (.cons (.int .i64) (.cons (.int .i64) (.cons .str (.cons .bool (.sl (.cons (.int .i64) (.int .i64)))))))))))))), .box [(.own 3)], .box [(.own 4)], .arr 4 .bool true, .arr 3 (.int .i64) true]⟩
def declcheck_Reach_F7 : FSh := ⟨[(1, .one (.ptr 0 0)), (3, .one (.ptr 1 0)), (4, .one (.ptr 2 0)), (5, .one (.fn 59 [1, 2]))], [.boxr (.cons .str (.cons (.int .i64) (.cons (.int .i64) (.sl (.cons .str (.cons (.sl (.cons (.int .i64) (.cons (.int .i64) (.cons .str (.cons .bool (.sl (.cons (.int .i64) (.int .i64)))))))) (.cons .bool (.cons (.int .i64) (.cons (.int .i64) (.cons .str (.cons .bool (.sl (.cons (.int .i64) (.int .i64)))))))))))))), .box [(.own 3)], .box [(.own 4)], .arr 4 .bool true, .arr 3 (.int .i64) true]⟩
def declcheck_Reach_F14 : FSh := ⟨[(1, .one (.ptr 0 0)), (3, .one (.ptr 1 0)), (4, .one (.ptr 2 0)), (5, .one (.fn 59 [1, 2])), (6, .one (.ptr 3 0)), (32, .one (.sl (.cons (.int .i64) (.cons (.int .i64) (.cons .str (.cons .bool (.sl (.cons (.int .i64) (.int .i64))))))))), (33, .one (.int .i64)), (34, .one (.int .i64))], [.boxr (.cons .str (.cons (.int .i64) (.cons (.int .i64) (.sl (.cons .str (.cons (.sl (.cons (.int .i64) (.cons (.int .i64) (.cons .str (.cons .bool (.sl (.cons (.int .i64) (.int .i64)))))))) (.cons .bool (.cons (.int .i64) (.cons (.int .i64) (.cons .str (.cons .bool (.sl (.cons (.int .i64) (.int .i64)))))))))))))), .box [(.own 4)], .box [(.own 5)], .boxr (.cons .str (.cons (.sl (.cons (.int .i64) (.cons (.int .i64) (.cons .str (.cons .bool (.sl (.cons (.int .i64) (.int .i64)))))))) (.cons .bool (.cons (.int .i64) (.cons (.int .i64) (.cons .str (.cons .bool (.sl (.cons (.int .i64) (.int .i64)))))))))), .arr 4 .bool true, .arr 3 (.int .i64) true]⟩
def declcheck_Reach_D : FD := ⟨T, lookC [(28, fc28), (59, fc59), (1000030, fcMark)], [4], (Try.f23.body.getD .skip), Try.f23.results.toList, ⟨[.row (.cons .str (.cons (.int .i64) (.cons (.int .i64) (.sl (.cons .str (.cons (.sl (.cons (.int .i64) (.cons (.int .i64) (.cons .str (.cons .bool (.sl (.cons (.int .i64) (.int .i64)))))))) (.cons .bool (.cons (.int .i64) (.cons (.int .i64) (.cons .str (.cons .bool (.sl (.cons (.int .i64) (.int .i64))))))))))))))], []⟩, ⟨[.one (.sl .bool)], []⟩, [(4, declcheck_Reach_F4), (7, declcheck_Reach_F7), (14, declcheck_Reach_F14)]⟩
def declcheck_Reach_l4 (h0 : TDecl) (l3 : (List Bool)) (l4 : (List Int)) : (Option (((List Bool) × Unit) × Unit)) := declcheck_Reach_D.lab 4 declcheck_Reach_F4 (((), (), (), (), ()), (h0, ((), ()), ((), ()), l3, l4, ()))
def declcheck_Reach_l7 (h0 : TDecl) (l3 : (List Bool)) (l4 : (List Int)) : (Option (((List Bool) × Unit) × Unit)) := declcheck_Reach_D.lab 7 declcheck_Reach_F7 (((), (), (), (), ()), (h0, ((), ()), ((), ()), l3, l4, ()))
def declcheck_Reach_l14 (t32 : (List TRule)) (t33 : Int) (t34 : Int) (h0 : TDecl) (h3 : TDeclState) (l4 : (List Bool)) (l5 : (List Int)) : (Option (((List Bool) × Unit) × Unit)) := declcheck_Reach_D.lab 14 declcheck_Reach_F14 (((), (), (), (), (), t32, t33, t34, ()), (h0, ((), ()), ((), ()), h3, l4, l5, ()))
theorem declcheck_Reach_l4_eq (h0 : TDecl) (l3 : (List Bool)) (l4 : (List Int)) : declcheck_Reach_l4 h0 l3 l4 =
  declcheck_Reach_l7 h0 l3 l4 := (FD.lab_eq _ _ _ _).trans (by kernel_rfl)
theorem declcheck_Reach_l7_eq (h0 : TDecl) (l3 : (List Bool)) (l4 : (List Int)) : declcheck_Reach_l7 h0 l3 l4 =
  if (decide ((l4.length : Int) > 0)) = true then
    if 0 ≤ (0 : Int) ∧ 0 < (l4.length : Int) then
      if 0 ≤ l4.getD 0 0 ∧ l4.getD 0 0 < (h0.2.2.2.length : Int) then
        if 0 ≤ (1 : Int) ∧ 1 ≤ (l4.length : Int) then
          declcheck_Reach_l14 (h0.2.2.2.getD (l4.getD 0 0).toNat dDeclState).2.1 ((h0.2.2.2.getD (l4.getD 0 0).toNat dDeclState).2.1.length : Int) 0 h0 (h0.2.2.2.getD (l4.getD 0 0).toNat dDeclState) l3 (l4.drop 1)
        else
          none
      else
        none
    else
      none
  else
    some ((l3, ()), ()) := (FD.lab_eq _ _ _ _).trans (by kernel_rfl)
theorem declcheck_Reach_l14_eq (t32 : (List TRule)) (t33 : Int) (t34 : Int) (h0 : TDecl) (h3 : TDeclState) (l4 : (List Bool)) (l5 : (List Int)) : declcheck_Reach_l14 t32 t33 t34 h0 h3 l4 l5 =
  if (decide (t34 < t33)) = true then
    if 0 ≤ t34 ∧ t34 < (t32.length : Int) then
      (decl_Find h0 (t32.getD t34.toNat dRule).2.2.1).bind fun y1 =>
        (declcheck_Reach_1 y1.1.1 l4 l5).bind fun y2 =>
          declcheck_Reach_l14 t32 t33 (IntKind.i64.wrap (t34 + 1)) h0 h3 y2.2.2.2.2.2.1 y2.2.2.2.2.2.2.1
    else
      none
  else
    if h3.2.2.1 = true then
      (decl_Find h0 h3.2.2.2.2.2.1).bind fun y3 =>
        (declcheck_Reach_1 y3.1.1 l4 l5).bind fun y4 =>
          declcheck_Reach_l7 h0 y4.2.2.2.2.2.1 y4.2.2.2.2.2.2.1
    else
      declcheck_Reach_l7 h0 l4 l5 := (FD.lab_eq _ _ _ _).trans (by kernel_rfl)
def declcheck_Reach (d : TDecl) : (Option (((List Bool) × Unit) × Unit)) :=
  if ((d.2.2.2.length : Int) = 0 ∨ (d.2.2.2.length : Int) = (d.2.2.2.length : Int)) ∧ 0 ≤ (d.2.2.2.length : Int) ∧ (d.2.2.2.length : Int) * 1 ≤ 140737488355328 ∧ 0 < 1 then
    if (decide (((List.replicate (d.2.2.2.length : Int).toNat false).length : Int) > 0)) = true then
      (declcheck_Reach_1 0 (List.replicate (d.2.2.2.length : Int).toNat false) []).bind fun y1 =>
        declcheck_Reach_l4 d y1.2.2.2.2.2.1 y1.2.2.2.2.2.2.1
    else
      declcheck_Reach_l4 d (List.replicate (d.2.2.2.length : Int).toNat false) []
  else
    none
def fc23 : FC := ⟨⟨[.row (.cons .str (.cons (.int .i64) (.cons (.int .i64) (.sl (.cons .str (.cons (.sl (.cons (.int .i64) (.cons (.int .i64) (.cons .str (.cons .bool (.sl (.cons (.int .i64) (.int .i64)))))))) (.cons .bool (.cons (.int .i64) (.cons (.int .i64) (.cons .str (.cons .bool (.sl (.cons (.int .i64) (.int .i64))))))))))))))], []⟩, ⟨[.one (.sl .bool)], []⟩, fun x => declcheck_Reach x.1.1⟩
theorem con23 : Contract Try.prog 23 fc23 :=
  declcheck_Reach_D.contract tok (cok_of (l := [(28, fc28), (59, fc59), (1000030, fcMark)]) ⟨con28, con59, conMark _ _, trivial⟩) mixed (fn' := Try.f23) (by kernel_rfl) (by kernel_rfl) rfl (by kernel_rfl) (fun x => (FD.fn_eq _ _).trans (by kernel_rfl))
end
end Go.Proofs.Ytgjimkgehbppbaa
end

section
/-
Ytgjimkgehbppbaa: signalbench.decl.rules, as one plain function, its equations, its contract. No condition.
-/
set_option maxRecDepth 100000
set_option linter.unusedVariables false
set_option maxHeartbeats 4000000
open Go Go.AM
namespace Go.Proofs.Ytgjimkgehbppbaa
noncomputable section
def decl_rules_F3 : FSh := ⟨[(2, .one (.ptr 0 0)), (3, .one (.ptr 1 0)), (10, .one (.sl (.cons (.int .i64) (.cons (.int .i64) (.cons .str (.cons .bool (.sl (.cons (.int .i64) (.int .i64))))))))), (11, .one (.int .i64)), (12, .one (.int .i64))], [.boxr (.cons .str (.cons (.int .i64) (.cons (.int .i64) (.sl (.cons .str (.cons (.sl (.cons (.int .i64) (.cons (.int .i64) (.cons .str (.cons .bool (.sl (.cons (.int .i64) (.int .i64)))))))) (.cons .bool (.cons (.int .i64) (.cons (.int .i64) (.cons .str (.cons .bool (.sl (.cons (.int .i64) (.int .i64)))))))))))))), .boxr (.cons .str (.cons (.sl (.cons (.int .i64) (.cons (.int .i64) (.cons .str (.cons .bool (.sl (.cons (.int .i64) (.int .i64)))))))) (.cons .bool (.cons (.int .i64) (.cons (.int .i64) (.cons .str (.cons .bool (.sl (.cons (.int .i64) (.int .i64))))))))))]⟩
def decl_rules_D : FD := ⟨T, lookC [(101, fc101), (102, fc102)], [], (Try.f85.body.getD .skip), Try.f85.results.toList, ⟨[.row (.cons .str (.cons (.int .i64) (.cons (.int .i64) (.sl (.cons .str (.cons (.sl (.cons (.int .i64) (.cons (.int .i64) (.cons .str (.cons .bool (.sl (.cons (.int .i64) (.int .i64)))))))) (.cons .bool (.cons (.int .i64) (.cons (.int .i64) (.cons .str (.cons .bool (.sl (.cons (.int .i64) (.int .i64)))))))))))))), .row (.cons .str (.cons (.sl (.cons (.int .i64) (.cons (.int .i64) (.cons .str (.cons .bool (.sl (.cons (.int .i64) (.int .i64)))))))) (.cons .bool (.cons (.int .i64) (.cons (.int .i64) (.cons .str (.cons .bool (.sl (.cons (.int .i64) (.int .i64))))))))))], []⟩, ⟨[.one (.int .i64)], []⟩, [(3, decl_rules_F3)]⟩
def decl_rules_l3 (t10 : (List TRule)) (t11 : Int) (t12 : Int) (h0 : TDecl) (h1 : TDeclState) : (Option ((Int × Unit) × Unit)) := decl_rules_D.lab 3 decl_rules_F3 (((), (), t10, t11, t12, ()), (h0, h1, ()))
theorem decl_rules_l3_eq (t10 : (List TRule)) (t11 : Int) (t12 : Int) (h0 : TDecl) (h1 : TDeclState) : decl_rules_l3 t10 t11 t12 h0 h1 =
  if (decide (t12 < t11)) = true then
    if 0 ≤ t12 ∧ t12 < (t10.length : Int) then
      if (decide ((t10.getD t12.toNat dRule).1 < 0)) = true then
        some ((2, ()), ())
      else
        if (decide ((t10.getD t12.toNat dRule).1 > (t10.getD t12.toNat dRule).2.1)) = true then
          some ((2, ()), ())
        else
          (decl_most h0).bind fun y1 =>
            if (decide ((t10.getD t12.toNat dRule).2.1 > y1.1.1)) = true then
              some ((2, ()), ())
            else
              (decl_target h0 (t10.getD t12.toNat dRule)).bind fun y2 =>
                if (y2.1.1 != 0) = true then
                  some ((y2.1.1, ()), ())
                else
                  decl_rules_l3 t10 t11 (IntKind.i64.wrap (t12 + 1)) h0 h1
    else
      none
  else
    if h1.2.2.1 = true then
      if (h1.2.2.2.1 != 0) = true then
        some ((1, ()), ())
      else
        if (h1.2.2.2.2.1 != 0) = true then
          some ((1, ()), ())
        else
          (decl_target h0 h1.2.2.2).bind fun y3 =>
            some ((y3.1.1, ()), ())
    else
      if (h1.2.2.2.1 != 0) = true then
        some ((1, ()), ())
      else
        if (h1.2.2.2.2.1 != 0) = true then
          some ((1, ()), ())
        else
          if (!(h1.2.2.2.2.2.1.toList == (strB []).toList)) = true then
            some ((1, ()), ())
          else
            if h1.2.2.2.2.2.2.1 = true then
              some ((1, ()), ())
            else
              if (decide ((h1.2.2.2.2.2.2.2.length : Int) > 0)) = true then
                some ((1, ()), ())
              else
                some ((0, ()), ()) := (FD.lab_eq _ _ _ _).trans (by kernel_rfl)
def decl_rules (d : TDecl) (s : TDeclState) : (Option ((Int × Unit) × Unit)) :=
  decl_rules_l3 s.2.1 (s.2.1.length : Int) 0 d s
def fc85 : FC := ⟨⟨[.row (.cons .str (.cons (.int .i64) (.cons (.int .i64) (.sl (.cons .str (.cons (.sl (.cons (.int .i64) (.cons (.int .i64) (.cons .str (.cons .bool (.sl (.cons (.int .i64) (.int .i64)))))))) (.cons .bool (.cons (.int .i64) (.cons (.int .i64) (.cons .str (.cons .bool (.sl (.cons (.int .i64) (.int .i64)))))))))))))), .row (.cons .str (.cons (.sl (.cons (.int .i64) (.cons (.int .i64) (.cons .str (.cons .bool (.sl (.cons (.int .i64) (.int .i64)))))))) (.cons .bool (.cons (.int .i64) (.cons (.int .i64) (.cons .str (.cons .bool (.sl (.cons (.int .i64) (.int .i64))))))))))], []⟩, ⟨[.one (.int .i64)], []⟩, fun x => decl_rules x.1.1 x.1.2.1⟩
theorem con85 : Contract Try.prog 85 fc85 :=
  decl_rules_D.contract tok (cok_of (l := [(101, fc101), (102, fc102)]) ⟨con101, con102, trivial⟩) mixed (fn' := Try.f85) (by kernel_rfl) (by kernel_rfl) rfl (by kernel_rfl) (fun x => (FD.fn_eq _ _).trans (by kernel_rfl))
end
end Go.Proofs.Ytgjimkgehbppbaa
end

section
/-
Ytgjimkgehbppbaa: decl.name, by a walk: it tells whether a string is a name; the iterator is new memory. No condition.
-/
open Go Go.AM Go.RowKit
variable [Inhabited ZMem]
namespace Go.Proofs.Ytgjimkgehbppbaa

/-- The bytes up to here may begin a name. -/
def NameTo (s : ByteArray) (pos : Nat) : Prop := pos ≤ s.size ∧ ((L s).take pos).all wordB = true ∧ (pos = 0 ∨ ∃ c r, L s = c :: r ∧ letterB c = true)

theorem rune_at (s : ByteArray) (pos : Nat) (hp : pos < s.size) : ∃ (b : UInt8) (r wd : Nat), (L s)[pos]? = some b ∧ Utf8.decode s pos = (r, wd) ∧ 1 ≤ wd ∧ ((b.toNat < 128 ∧ r = b.toNat ∧ wd = 1) ∨ (128 ≤ b.toNat ∧ 128 ≤ r)) := by
  refine ⟨s[pos]'hp, (Utf8.decode s pos).1, (Utf8.decode s pos).2, ?_, rfl, ?_, ?_⟩
  · have : pos < (L s).length := by rw [L_len]; exact hp
    rw [List.getElem?_eq_getElem this]
    rfl
  · by_cases ha : (s[pos]'hp).toNat < 128
    · rw [decode_ascii s pos hp ha]; exact Nat.le_refl _
    · exact (decode_high s pos hp (by omega)).2
  · by_cases ha : (s[pos]'hp).toNat < 128
    · rw [decode_ascii s pos hp ha]; exact .inl ⟨ha, rfl, rfl⟩
    · exact .inr ⟨by omega, (decode_high s pos hp (by omega)).1⟩

theorem wordB_num {b : UInt8} : wordB b = true ↔ ((97 ≤ b.toNat ∧ b.toNat ≤ 122) ∨ (48 ≤ b.toNat ∧ b.toNat ≤ 57) ∨ b.toNat = 95) := by
  have : b = 95 ↔ b.toNat = 95 := by rw [← UInt8.toNat_inj]; rfl
  simp [wordB, letterB, digitB, this, or_assoc]

theorem letterB_num {b : UInt8} : letterB b = true ↔ (97 ≤ b.toNat ∧ b.toNat ≤ 122) := by simp [letterB]

theorem name_needs {s : ByteArray} {pos : Nat} {b : UInt8} (h : nameB (L s) = true) (hb : (L s)[pos]? = some b) : (97 ≤ b.toNat ∧ b.toNat ≤ 122) ∨ (pos ≠ 0 ∧ ((48 ≤ b.toNat ∧ b.toNat ≤ 57) ∨ b.toNat = 95)) := by
  cases hL : L s with
  | nil => rw [hL] at hb; simp at hb
  | cons c r =>
    rw [hL, nameB_cons] at h
    simp only [Bool.and_eq_true] at h
    have h1 := List.all_eq_true.1 h.2 b (by rw [hL] at hb; exact List.mem_of_getElem? hb)
    rcases wordB_num.1 h1 with h2 | h2
    · exact .inl h2
    · by_cases hp : pos = 0
      · subst hp
        rw [hL] at hb
        simp only [List.getElem?_cons_zero, Option.some.injEq] at hb
        subst hb
        exact .inl (letterB_num.1 h.1.2)
      · exact .inr ⟨hp, h2⟩

theorem NameTo.step {s : ByteArray} {pos : Nat} {b : UInt8} (h : NameTo s pos) (hb : (L s)[pos]? = some b) (hk : (97 ≤ b.toNat ∧ b.toNat ≤ 122) ∨ (pos ≠ 0 ∧ ((48 ≤ b.toNat ∧ b.toNat ≤ 57) ∨ b.toNat = 95))) : NameTo s (pos + 1) := by
  have hlt : pos < (L s).length := (List.getElem?_eq_some_iff.1 hb).1
  have hlt' := hlt
  rw [L_len] at hlt'
  refine ⟨by omega, ?_, .inr ?_⟩
  · rw [List.take_add_one, hb, List.all_append, h.2.1]
    simp only [Option.toList_some, Bool.true_and, List.all_cons, List.all_nil, Bool.and_true]
    refine wordB_num.2 ?_
    omega
  · rcases h.2.2 with h0 | h0
    · subst h0
      cases hL : L s with
      | nil => rw [hL] at hb; simp at hb
      | cons c r =>
        rw [hL] at hb
        simp only [List.getElem?_cons_zero, Option.some.injEq] at hb
        subst hb
        exact ⟨c, r, rfl, letterB_num.2 (by omega)⟩
    · exact h0

theorem NameTo.whole {s : ByteArray} (h : NameTo s s.size) (h0 : s.size ≠ 0) (h16 : s.size ≤ 16) : nameB (L s) = true := by
  obtain ⟨_, h2, h3⟩ := h
  rcases h3 with h3 | ⟨c, r, hL, hc⟩
  · exact absurd h3 h0
  · rw [← L_len, List.take_length, hL] at h2
    have hl := size_of hL
    simp only [List.length_cons] at hl
    rw [hL, nameB_cons, hc, h2, decide_eq_true (by omega : r.length + 1 ≤ 16)]
    rfl

theorem iter_below (s : ByteArray) (w : World) (pos : Nat) : Below w.heap.size w (w.iter s pos) := (Below.refl _ _).alloc (Nat.le_refl _) _

theorem name_false {s : ByteArray} (h : nameB (L s) ≠ true) : nameB (L s) = false := by
  cases e : nameB (L s)
  · rfl
  · exact absurd e h

set_option maxRecDepth 1000000 in
theorem name_loop (s : ByteArray) (w : World) (h1 : ¬ s.toList = []) (h1' : s.toList.isEmpty = false) (h0 : s.size ≠ 0) (h2 : ¬ (16 : Int) < s.size) :
    Calls Try.prog 84 #[.string s] w fun e w' => e = .returned (.bool (nameB (L s))) ∧ Below w.heap.size w w' := by
  go_enter Try.func84, Try.ntmps84
  go_wp2
  go_loopw [] (fun w' => ∃ pos : Nat, w' = w.iter s pos ∧ NameTo s pos) (fun w' => s.size - w'.iterPos w.heap.size)
  case atStart => exact ⟨0, rfl, by omega, rfl, .inl rfl⟩
  case round =>
    obtain ⟨pos, rfl, hg⟩ := hrel
    by_cases hp : pos < s.size
    · obtain ⟨b, r, wd, hb, hd, hwd, hcase⟩ := rune_at s pos hp
      have hnx : ∀ ty, (Instr.next (.pointer (some ⟨w.heap.size, 0, none⟩)) true ty).run Try.prog (w.iter s pos) = .ok (.tuple #[.bool true, .int .i64 pos, .int .i32 r]) (w.iter s (pos + wd)) := fun ty => by
        rw [run_next_any w s pos ty hp, hd]
      clear hd
      go_wp2
      all_goals try simp only [beq_iff_eq, bne_iff_ne, ne_eq, Bool.not_eq_true', decide_eq_false_iff_not, decide_eq_true_eq, Bool.not_eq_false', beq_eq_false_iff_ne, bne_eq_false_iff_eq, Int.natCast_eq_zero] at *
      all_goals first
        | (go_ret
           refine ⟨?_, iter_below _ _ _⟩
           rw [name_false (fun hn => by have := name_needs hn hb; omega)]
           rfl)
        | (have hk : (97 ≤ b.toNat ∧ b.toNat ≤ 122) ∨ (pos ≠ 0 ∧ ((48 ≤ b.toNat ∧ b.toNat ≤ 57) ∨ b.toNat = 95)) := by omega
           have hw1 : wd = 1 := by omega
           subst hw1
           refine ⟨⟨pos + 1, ?_, hg.step hb hk⟩, ?_⟩
           · first | rfl | (subst_vars; rfl)
           · simp; omega)
    · have hnx : ∀ ty, (Instr.next (.pointer (some ⟨w.heap.size, 0, none⟩)) true ty).run Try.prog (w.iter s pos) = _ := fun ty => run_next_end w s pos ty hp
      go_wp2
      go_ret
      have hps : pos = s.size := by have := hg.1; omega
      subst hps
      rw [hg.whole h0 (by omega)]
      exact ⟨rfl, iter_below _ _ _⟩

set_option maxRecDepth 1000000 in
theorem name_none (s : ByteArray) (w : World) (h1 : s.toList = []) :
    Calls Try.prog 84 #[.string s] w fun e w' => e = .returned (.bool false) ∧ w' = w := by
  go_enter Try.func84, Try.ntmps84
  go_wp2
  all_goals first
    | (go_ret; exact ⟨rfl, rfl⟩)
    | (rename_i q; exact absurd h1 q)

set_option maxRecDepth 1000000 in
theorem name_long (s : ByteArray) (w : World) (h1 : ¬ s.toList = []) (h1' : s.toList.isEmpty = false) (h2 : (16 : Int) < s.size) :
    Calls Try.prog 84 #[.string s] w fun e w' => e = .returned (.bool false) ∧ w' = w := by
  go_enter Try.func84, Try.ntmps84
  go_wp2
  go_ret
  exact ⟨rfl, rfl⟩

theorem name_any (s : ByteArray) (w : World) : Calls Try.prog 84 #[.string s] w fun e w' => e = .returned (.bool (nameB (L s))) ∧ Below w.heap.size w w' := by
  cases hL : L s with
  | nil =>
    refine (name_none s w (by rw [toL]; exact hL)).mono ?_
    rintro e w' ⟨rfl, rfl⟩
    exact ⟨rfl, Below.refl _ _⟩
  | cons c r =>
    have hl := size_of hL
    simp only [List.length_cons] at hl
    have h1 : ¬ s.toList = [] := by rw [toL, hL]; simp
    have h1' : s.toList.isEmpty = false := by rw [toL, hL]; rfl
    by_cases h2 : s.size ≤ 16
    · rw [← hL]
      exact name_loop s w h1 h1' (by omega) (by omega)
    · refine (name_long s w h1 h1' (by omega)).mono ?_
      rintro e w' ⟨rfl, rfl⟩
      rw [nameB_cons, decide_eq_false (by omega : ¬ r.length + 1 ≤ 16)]
      exact ⟨rfl, Below.refl _ _⟩

def decl_name (s : ByteArray) : Option ((Bool × Unit) × Unit) := some ((nameB (L s), ()), ())
def fc84 : FC := ⟨⟨[.one .str], []⟩, ⟨[.one .bool], []⟩, fun x => decl_name x.1.1⟩
theorem con84 : Contract Try.prog 84 fc84 :=
  Contract.below (P := Try.prog) (f := 84) (sa := [.one .str]) (sr := [.one .bool]) (fn := Try.f84) (c := Try.f84.body.getD .skip) (by kernel_rfl) (by kernel_rfl) (by kernel_rfl) (g := fun x => some (nameB (L x.1), ())) (fun w M G x y vals hI hv hg => by
    obtain ⟨s, u⟩ := x
    obtain ⟨vs⟩ := vals
    match vs, hv with
    | [v1], hv =>
      obtain ⟨⟨rfl, _⟩, _⟩ := hv
      cases hg
      refine (name_any s w).mono ?_
      rintro e w' ⟨rfl, hb⟩
      exact ⟨_, rfl, hb, rfl, rfl⟩)

end Go.Proofs.Ytgjimkgehbppbaa
end

section
/-
Ytgjimkgehbppbaa: signalbench.decl.Check, as one plain function, its equations, its contract. No condition.
-/
set_option maxRecDepth 100000
set_option linter.unusedVariables false
set_option maxHeartbeats 4000000
open Go Go.AM
namespace Go.Proofs.Ytgjimkgehbppbaa
noncomputable section
def decl_Check_F4 : FSh := ⟨[(1, .one (.ptr 0 0)), (11, .one .bool)], [.boxr (.cons .str (.cons (.int .i64) (.cons (.int .i64) (.sl (.cons .str (.cons (.sl (.cons (.int .i64) (.cons (.int .i64) (.cons .str (.cons .bool (.sl (.cons (.int .i64) (.int .i64)))))))) (.cons .bool (.cons (.int .i64) (.cons (.int .i64) (.cons .str (.cons .bool (.sl (.cons (.int .i64) (.int .i64))))))))))))))]⟩
def decl_Check_F12 : FSh := ⟨[(1, .one (.ptr 0 0)), (38, .one (.sl (.cons .str (.cons (.sl (.cons (.int .i64) (.cons (.int .i64) (.cons .str (.cons .bool (.sl (.cons (.int .i64) (.int .i64)))))))) (.cons .bool (.cons (.int .i64) (.cons (.int .i64) (.cons .str (.cons .bool (.sl (.cons (.int .i64) (.int .i64)))))))))))), (39, .one (.int .i64)), (40, .one (.int .i64))], [.boxr (.cons .str (.cons (.int .i64) (.cons (.int .i64) (.sl (.cons .str (.cons (.sl (.cons (.int .i64) (.cons (.int .i64) (.cons .str (.cons .bool (.sl (.cons (.int .i64) (.int .i64)))))))) (.cons .bool (.cons (.int .i64) (.cons (.int .i64) (.cons .str (.cons .bool (.sl (.cons (.int .i64) (.int .i64))))))))))))))]⟩
def decl_Check_D : FD := ⟨T, lookC [(28, fc28), (84, fc84), (85, fc85)], [4], (Try.f61.body.getD .skip), Try.f61.results.toList, ⟨[.row (.cons .str (.cons (.int .i64) (.cons (.int .i64) (.sl (.cons .str (.cons (.sl (.cons (.int .i64) (.cons (.int .i64) (.cons .str (.cons .bool (.sl (.cons (.int .i64) (.int .i64)))))))) (.cons .bool (.cons (.int .i64) (.cons (.int .i64) (.cons .str (.cons .bool (.sl (.cons (.int .i64) (.int .i64))))))))))))))], []⟩, ⟨[.one (.int .i64)], []⟩, [(4, decl_Check_F4), (12, decl_Check_F12)]⟩
def decl_Check_l4 (t11 : Bool) (h0 : TDecl) : (Option ((Int × Unit) × Unit)) := decl_Check_D.lab 4 decl_Check_F4 (((), t11, ()), (h0, ()))
def decl_Check_l12 (t38 : (List TDeclState)) (t39 : Int) (t40 : Int) (h0 : TDecl) : (Option ((Int × Unit) × Unit)) := decl_Check_D.lab 12 decl_Check_F12 (((), t38, t39, t40, ()), (h0, ()))
theorem decl_Check_l4_eq (t11 : Bool) (h0 : TDecl) : decl_Check_l4 t11 h0 =
  if t11 = true then
    some ((1, ()), ())
  else
    if (decide ((h0.2.2.2.length : Int) > 32)) = true then
      some ((6, ()), ())
    else
      decl_Check_l12 h0.2.2.2 (h0.2.2.2.length : Int) 0 h0 := (FD.lab_eq _ _ _ _).trans (by kernel_rfl)
theorem decl_Check_l12_eq (t38 : (List TDeclState)) (t39 : Int) (t40 : Int) (h0 : TDecl) : decl_Check_l12 t38 t39 t40 h0 =
  if (decide (t40 < t39)) = true then
    if 0 ≤ t40 ∧ t40 < (t38.length : Int) then
      (decl_name (t38.getD t40.toNat dDeclState).1).bind fun y1 =>
        if (!y1.1.1) = true then
          some ((4, ()), ())
        else
          (decl_Find h0 (t38.getD t40.toNat dDeclState).1).bind fun y2 =>
            if (decide (y2.1.1 < t40)) = true then
              some ((9, ()), ())
            else
              if (decide (((t38.getD t40.toNat dDeclState).2.1.length : Int) > 64)) = true then
                some ((6, ()), ())
              else
                (decl_rules h0 (t38.getD t40.toNat dDeclState)).bind fun y3 =>
                  if (y3.1.1 != 0) = true then
                    some ((y3.1.1, ()), ())
                  else
                    decl_Check_l12 t38 t39 (IntKind.i64.wrap (t40 + 1)) h0
    else
      none
  else
    some ((0, ()), ()) := (FD.lab_eq _ _ _ _).trans (by kernel_rfl)
def decl_Check (d : TDecl) : (Option ((Int × Unit) × Unit)) :=
  (decl_name d.1).bind fun y1 =>
    if (!y1.1.1) = true then
      some ((4, ()), ())
    else
      if (d.2.1 != 2) = true then
        if (d.2.1 != 3) = true then
          decl_Check_l4 true d
        else
          if (d.2.2.1 != 5) = true then
            if (d.2.2.1 != 6) = true then
              decl_Check_l4 true d
            else
              decl_Check_l4 ((d.2.2.2.length : Int) == 0) d
          else
            decl_Check_l4 ((d.2.2.2.length : Int) == 0) d
      else
        if (d.2.2.1 != 5) = true then
          if (d.2.2.1 != 6) = true then
            decl_Check_l4 true d
          else
            decl_Check_l4 ((d.2.2.2.length : Int) == 0) d
        else
          decl_Check_l4 ((d.2.2.2.length : Int) == 0) d
def fc61 : FC := ⟨⟨[.row (.cons .str (.cons (.int .i64) (.cons (.int .i64) (.sl (.cons .str (.cons (.sl (.cons (.int .i64) (.cons (.int .i64) (.cons .str (.cons .bool (.sl (.cons (.int .i64) (.int .i64)))))))) (.cons .bool (.cons (.int .i64) (.cons (.int .i64) (.cons .str (.cons .bool (.sl (.cons (.int .i64) (.int .i64))))))))))))))], []⟩, ⟨[.one (.int .i64)], []⟩, fun x => decl_Check x.1.1⟩
theorem con61 : Contract Try.prog 61 fc61 :=
  decl_Check_D.contract tok (cok_of (l := [(28, fc28), (84, fc84), (85, fc85)]) ⟨con28, con84, con85, trivial⟩) mixed (fn' := Try.f61) (by kernel_rfl) (by kernel_rfl) rfl (by kernel_rfl) (fun x => (FD.fn_eq _ _).trans (by kernel_rfl))
end
end Go.Proofs.Ytgjimkgehbppbaa
end

section
/-
Ytgjimkgehbppbaa: signalbench.declcheck.Check, as one plain function, its equations, its contract. No condition.
-/
set_option maxRecDepth 100000
set_option linter.unusedVariables false
set_option maxHeartbeats 4000000
open Go Go.AM
namespace Go.Proofs.Ytgjimkgehbppbaa
noncomputable section
def declcheck_Check_F19 : FSh := ⟨[(42, .one (.sl .bool)), (43, .one (.int .i64)), (44, .one (.int .i64))], []⟩
def declcheck_Check_D : FD := ⟨T, lookC [(17, fc17), (19, fc19), (21, fc21), (23, fc23), (61, fc61)], [], (Try.f25.body.getD .skip), Try.f25.results.toList, ⟨[.row (.cons .str (.cons (.int .i64) (.cons (.int .i64) (.sl (.cons .str (.cons (.sl (.cons (.int .i64) (.cons (.int .i64) (.cons .str (.cons .bool (.sl (.cons (.int .i64) (.int .i64)))))))) (.cons .bool (.cons (.int .i64) (.cons (.int .i64) (.cons .str (.cons .bool (.sl (.cons (.int .i64) (.int .i64))))))))))))))], []⟩, ⟨[.one (.int .i64)], []⟩, [(19, declcheck_Check_F19)]⟩
def declcheck_Check_l19 (t42 : (List Bool)) (t43 : Int) (t44 : Int) : (Option ((Int × Unit) × Unit)) := declcheck_Check_D.lab 19 declcheck_Check_F19 ((t42, t43, t44, ()), ())
theorem declcheck_Check_l19_eq (t42 : (List Bool)) (t43 : Int) (t44 : Int) : declcheck_Check_l19 t42 t43 t44 =
  if (decide (t44 < t43)) = true then
    if 0 ≤ t44 ∧ t44 < (t42.length : Int) then
      if (!(t42.getD t44.toNat false)) = true then
        some ((16, ()), ())
      else
        declcheck_Check_l19 t42 t43 (IntKind.i64.wrap (t44 + 1))
    else
      none
  else
    some ((0, ()), ()) := (FD.lab_eq _ _ _ _).trans (by kernel_rfl)
def declcheck_Check (d : TDecl) : (Option ((Int × Unit) × Unit)) :=
  (decl_Check d).bind fun y1 =>
    if (y1.1.1 != 0) = true then
      some ((y1.1.1, ()), ())
    else
      (declcheck_Ambiguous d).bind fun y2 =>
        if y2.1.2.2.1 = true then
          some ((13, ()), ())
        else
          (declcheck_Missing d).bind fun y3 =>
            if y3.1.2.2.1 = true then
              some ((14, ()), ())
            else
              (declcheck_Cycle d).bind fun y4 =>
                if y4.1.2.2.1 = true then
                  some ((15, ()), ())
                else
                  (declcheck_Reach d).bind fun y5 =>
                    declcheck_Check_l19 y5.1.1 (y5.1.1.length : Int) 0
def fc25 : FC := ⟨⟨[.row (.cons .str (.cons (.int .i64) (.cons (.int .i64) (.sl (.cons .str (.cons (.sl (.cons (.int .i64) (.cons (.int .i64) (.cons .str (.cons .bool (.sl (.cons (.int .i64) (.int .i64)))))))) (.cons .bool (.cons (.int .i64) (.cons (.int .i64) (.cons .str (.cons .bool (.sl (.cons (.int .i64) (.int .i64))))))))))))))], []⟩, ⟨[.one (.int .i64)], []⟩, fun x => declcheck_Check x.1.1⟩
theorem con25 : Contract Try.prog 25 fc25 :=
  declcheck_Check_D.contract tok (cok_of (l := [(17, fc17), (19, fc19), (21, fc21), (23, fc23), (61, fc61)]) ⟨con17, con19, con21, con23, con61, trivial⟩) mixed (fn' := Try.f25) (by kernel_rfl) (by kernel_rfl) rfl (by kernel_rfl) (fun x => (FD.fn_eq _ _).trans (by kernel_rfl))
end
end Go.Proofs.Ytgjimkgehbppbaa
end

section
/-
Ytgjimkgehbppbaa: signalbench.decltab.same, as one plain function, its equations, its contract. No condition.
-/
set_option maxRecDepth 100000
set_option linter.unusedVariables false
set_option maxHeartbeats 4000000
open Go Go.AM
namespace Go.Proofs.Ytgjimkgehbppbaa
noncomputable section
def decltab_same_F6 : FSh := ⟨[(2, .one (.ptr 0 0)), (3, .one (.ptr 1 0)), (22, .one (.int .i64)), (23, .one (.int .i64))], [.boxr (.cons (.int .i64) (.sl (.cons (.int .i64) (.int .i64)))), .boxr (.cons (.int .i64) (.sl (.cons (.int .i64) (.int .i64))))]⟩
def decltab_same_D : FD := ⟨T, lookC [], [], (Try.f64.body.getD .skip), Try.f64.results.toList, ⟨[.row (.cons (.int .i64) (.sl (.cons (.int .i64) (.int .i64)))), .row (.cons (.int .i64) (.sl (.cons (.int .i64) (.int .i64))))], []⟩, ⟨[.one .bool], []⟩, [(6, decltab_same_F6)]⟩
def decltab_same_l6 (t22 : Int) (t23 : Int) (h0 : Tresult) (h1 : Tresult) : (Option ((Bool × Unit) × Unit)) := decltab_same_D.lab 6 decltab_same_F6 (((), (), t22, t23, ()), (h0, h1, ()))
theorem decltab_same_l6_eq (t22 : Int) (t23 : Int) (h0 : Tresult) (h1 : Tresult) : decltab_same_l6 t22 t23 h0 h1 =
  if (decide (t23 < t22)) = true then
    if 0 ≤ t23 ∧ t23 < (h0.2.length : Int) then
      if 0 ≤ t23 ∧ t23 < (h1.2.length : Int) then
        if (!(eqU uAct (h0.2.getD t23.toNat dAct) (h1.2.getD t23.toNat dAct))) = true then
          some ((false, ()), ())
        else
          decltab_same_l6 t22 (IntKind.i64.wrap (t23 + 1)) h0 h1
      else
        none
    else
      none
  else
    some ((true, ()), ()) := (FD.lab_eq _ _ _ _).trans (by kernel_rfl)
def decltab_same (a : Tresult) (b : Tresult) : (Option ((Bool × Unit) × Unit)) :=
  if (a.1 != b.1) = true then
    some ((false, ()), ())
  else
    if ((a.2.length : Int) != (b.2.length : Int)) = true then
      some ((false, ()), ())
    else
      decltab_same_l6 (a.2.length : Int) 0 a b
def fc64 : FC := ⟨⟨[.row (.cons (.int .i64) (.sl (.cons (.int .i64) (.int .i64)))), .row (.cons (.int .i64) (.sl (.cons (.int .i64) (.int .i64))))], []⟩, ⟨[.one .bool], []⟩, fun x => decltab_same x.1.1 x.1.2.1⟩
theorem con64 : Contract Try.prog 64 fc64 :=
  decltab_same_D.contract tok (cok_of (l := []) trivial) mixed (fn' := Try.f64) (by kernel_rfl) (by kernel_rfl) rfl (by kernel_rfl) (fun x => (FD.fn_eq _ _).trans (by kernel_rfl))
end
end Go.Proofs.Ytgjimkgehbppbaa
end

section
/-
Ytgjimkgehbppbaa: signalbench.decltab.top, as one plain function, its equations, its contract. No condition.
-/
set_option maxRecDepth 100000
set_option linter.unusedVariables false
set_option maxHeartbeats 4000000
open Go Go.AM
namespace Go.Proofs.Ytgjimkgehbppbaa
noncomputable section
def decltab_top_D : FD := ⟨T, lookC [], [], (Try.f65.body.getD .skip), Try.f65.results.toList, ⟨[.one (.int .i64)], []⟩, ⟨[.one (.int .i64)], []⟩, []⟩
def decltab_top (input : Int) : (Option ((Int × Unit) × Unit)) :=
  if (input == 2) = true then
    some ((1, ()), ())
  else
    some ((255, ()), ())
def fc65 : FC := ⟨⟨[.one (.int .i64)], []⟩, ⟨[.one (.int .i64)], []⟩, fun x => decltab_top x.1.1⟩
theorem con65 : Contract Try.prog 65 fc65 :=
  decltab_top_D.contract tok (cok_of (l := []) trivial) mixed (fn' := Try.f65) (by kernel_rfl) (by kernel_rfl) rfl (by kernel_rfl) (fun x => (FD.fn_eq _ _).trans (by kernel_rfl))
end
end Go.Proofs.Ytgjimkgehbppbaa
end

section
/-
Ytgjimkgehbppbaa: signalbench.decltab.follow, as one plain function, its equations, its contract. No condition.
-/
set_option maxRecDepth 100000
set_option linter.unusedVariables false
set_option maxHeartbeats 4000000
open Go Go.AM
namespace Go.Proofs.Ytgjimkgehbppbaa
noncomputable section
def decltab_follow_F3 : FSh := ⟨[(6, .one (.ptr 0 0)), (8, .one (.ptr 1 0))], [.box [(.int .i64), (.own 2)], .box [(.int .i64), (.own 3)], .arr 60 (.cons (.int .i64) (.int .i64)) true, .arr 60 (.cons (.int .i64) (.int .i64)) true]⟩
def decltab_follow_F5 : FSh := ⟨[(2, .one (.int .i64)), (3, .one (.ptr 0 0)), (6, .one (.ptr 1 0)), (8, .one (.ptr 2 0)), (16, .one (.int .i64)), (17, .one (.int .i64))], [.boxr (.cons .str (.cons (.int .i64) (.cons (.int .i64) (.sl (.cons .str (.cons (.sl (.cons (.int .i64) (.cons (.int .i64) (.cons .str (.cons .bool (.sl (.cons (.int .i64) (.int .i64)))))))) (.cons .bool (.cons (.int .i64) (.cons (.int .i64) (.cons .str (.cons .bool (.sl (.cons (.int .i64) (.int .i64)))))))))))))), .box [(.int .i64), (.own 3)], .box [(.int .i64), (.own 4)], .arr 60 (.cons (.int .i64) (.int .i64)) true, .arr 60 (.cons (.int .i64) (.int .i64)) true]⟩
def decltab_follow_D : FD := ⟨T, lookC [(27, fc27), (28, fc28)], [3], (Try.f66.body.getD .skip), Try.f66.results.toList, ⟨[.row (.cons .str (.cons (.int .i64) (.cons (.int .i64) (.sl (.cons .str (.cons (.sl (.cons (.int .i64) (.cons (.int .i64) (.cons .str (.cons .bool (.sl (.cons (.int .i64) (.int .i64)))))))) (.cons .bool (.cons (.int .i64) (.cons (.int .i64) (.cons .str (.cons .bool (.sl (.cons (.int .i64) (.int .i64)))))))))))))), .one (.int .i64), .one (.int .i64)], []⟩, ⟨[.row (.cons (.int .i64) (.sl (.cons (.int .i64) (.int .i64)))), .one .bool], []⟩, [(3, decltab_follow_F3), (5, decltab_follow_F5)]⟩
def decltab_follow_l3 (h0_0 : Int) (h1_0 : Int) (l2 : (List TAct)) (l3 : (List TAct)) : (Option ((Tresult × Bool × Unit) × Unit)) := decltab_follow_D.lab 3 decltab_follow_F3 (((), (), ()), ((h0_0, (), ()), (h1_0, (), ()), l2, l3, ()))
def decltab_follow_l5 (symbol : Int) (t16 : Int) (t17 : Int) (h0 : TDecl) (h1_0 : Int) (h2_0 : Int) (l3 : (List TAct)) (l4 : (List TAct)) : (Option ((Tresult × Bool × Unit) × Unit)) := decltab_follow_D.lab 5 decltab_follow_F5 ((symbol, (), (), (), t16, t17, ()), (h0, (h1_0, (), ()), (h2_0, (), ()), l3, l4, ()))
theorem decltab_follow_l3_eq (h0_0 : Int) (h1_0 : Int) (l2 : (List TAct)) (l3 : (List TAct)) : decltab_follow_l3 h0_0 h1_0 l2 l3 =
  some (((h1_0, l3), decide ((l3.length : Int) ≤ 64), ()), ()) := (FD.lab_eq _ _ _ _).trans (by kernel_rfl)
theorem decltab_follow_l5_eq (symbol : Int) (t16 : Int) (t17 : Int) (h0 : TDecl) (h1_0 : Int) (h2_0 : Int) (l3 : (List TAct)) (l4 : (List TAct)) : decltab_follow_l5 symbol t16 t17 h0 h1_0 h2_0 l3 l4 =
  if (decide (t17 < t16)) = true then
    (decl_Match h0 h2_0 symbol).bind fun y1 =>
      if (l4.length + y1.1.1.2.2.2.2.length) * 16 ≤ 140737488355328 ∧ 0 < 16 then
        (decl_Find h0 y1.1.1.2.2.1).bind fun y2 =>
          if (!y1.1.1.2.2.2.1) = true then
            decltab_follow_l3 h1_0 y2.1.1 l3 (l4 ++ y1.1.1.2.2.2.2)
          else
            decltab_follow_l5 symbol t16 (IntKind.i64.wrap (t17 + 1)) h0 h1_0 y2.1.1 l3 (l4 ++ y1.1.1.2.2.2.2)
      else
        none
  else
    decltab_follow_l3 h1_0 h2_0 l3 l4 := (FD.lab_eq _ _ _ _).trans (by kernel_rfl)
def decltab_follow (d : TDecl) (state : Int) (symbol : Int) : (Option ((Tresult × Bool × Unit) × Unit)) :=
  decltab_follow_l5 symbol (IntKind.i64.wrap ((d.2.2.2.length : Int) + 1)) 0 d 0 state [] []
def fc66 : FC := ⟨⟨[.row (.cons .str (.cons (.int .i64) (.cons (.int .i64) (.sl (.cons .str (.cons (.sl (.cons (.int .i64) (.cons (.int .i64) (.cons .str (.cons .bool (.sl (.cons (.int .i64) (.int .i64)))))))) (.cons .bool (.cons (.int .i64) (.cons (.int .i64) (.cons .str (.cons .bool (.sl (.cons (.int .i64) (.int .i64)))))))))))))), .one (.int .i64), .one (.int .i64)], []⟩, ⟨[.row (.cons (.int .i64) (.sl (.cons (.int .i64) (.int .i64)))), .one .bool], []⟩, fun x => decltab_follow x.1.1 x.1.2.1 x.1.2.2.1⟩
theorem con66 : Contract Try.prog 66 fc66 :=
  decltab_follow_D.contract tok (cok_of (l := [(27, fc27), (28, fc28)]) ⟨con27, con28, trivial⟩) mixed (fn' := Try.f66) (by kernel_rfl) (by kernel_rfl) rfl (by kernel_rfl) (fun x => (FD.fn_eq _ _).trans (by kernel_rfl))
end
end Go.Proofs.Ytgjimkgehbppbaa
end

section
/-
Ytgjimkgehbppbaa: (*signalbench.decltab.row[signalbench.decltab.result]).add, as one plain function, its equations, its contract. No condition.
-/
set_option maxRecDepth 100000
set_option linter.unusedVariables false
set_option maxHeartbeats 4000000
open Go Go.AM
namespace Go.Proofs.Ytgjimkgehbppbaa
noncomputable section
def decltab_result_add_D : FD := ⟨T, lookC [(64, fc64)], [], (Try.f67.body.getD .skip), Try.f67.results.toList, ⟨[.one (.ptr 0 0), .one (.int .i64), .row (.cons (.int .i64) (.sl (.cons (.int .i64) (.int .i64)))), .row (.cons (.int .i64) (.cons (.int .i64) (.cons (.int .i64) (.sl (.cons (.int .i64) (.int .i64))))))], [.box [(.own 1), (.int .i64), (.sl (.cons (.int .i64) (.int .i64))), (.fn 64 [])], .arr 52 (.cons (.int .i64) (.cons (.int .i64) (.cons (.int .i64) (.sl (.cons (.int .i64) (.int .i64)))))) true]⟩, ⟨[], [.box [(.own 2), (.int .i64), (.sl (.cons (.int .i64) (.int .i64))), (.fn 64 [])], .dead, .arr 52 (.cons (.int .i64) (.cons (.int .i64) (.cons (.int .i64) (.sl (.cons (.int .i64) (.int .i64)))))) true]⟩, []⟩
def decltab_result_add (symbol : Int) (x0 : Tresult) (cell : TCell) (h0_1 : Int) (h0_2 : (List TAct)) (l1 : (List TCell)) : (Option (Unit × ((Unit × Int × (List TAct) × Unit × Unit) × Unit × (List TCell) × Unit))) :=
  if (decide ((l1.length : Int) > 0)) = true then
    (decltab_same (h0_1, h0_2) x0).bind fun y1 =>
      if y1.1.1 = true then
        if 0 ≤ IntKind.i64.wrap ((l1.length : Int) - 1) ∧ IntKind.i64.wrap ((l1.length : Int) - 1) < (l1.length : Int) then
          some ((), (((), h0_1, h0_2, (), ()), (), l1.set (IntKind.i64.wrap ((l1.length : Int) - 1)).toNat ((l1.getD (IntKind.i64.wrap ((l1.length : Int) - 1)).toNat dCell).1, symbol, (l1.getD (IntKind.i64.wrap ((l1.length : Int) - 1)).toNat dCell).2.2), ()))
        else
          none
      else
        if (l1.length + 1) * 48 ≤ 140737488355328 ∧ 0 < 48 then
          some ((), (((), x0.1, x0.2, (), ()), (), l1 ++ [(symbol, symbol, cell.2.2)], ()))
        else
          none
  else
    if (l1.length + 1) * 48 ≤ 140737488355328 ∧ 0 < 48 then
      some ((), (((), x0.1, x0.2, (), ()), (), l1 ++ [(symbol, symbol, cell.2.2)], ()))
    else
      none
def fc67 : FC := ⟨⟨[.one (.ptr 0 0), .one (.int .i64), .row (.cons (.int .i64) (.sl (.cons (.int .i64) (.int .i64)))), .row (.cons (.int .i64) (.cons (.int .i64) (.cons (.int .i64) (.sl (.cons (.int .i64) (.int .i64))))))], [.box [(.own 1), (.int .i64), (.sl (.cons (.int .i64) (.int .i64))), (.fn 64 [])], .arr 52 (.cons (.int .i64) (.cons (.int .i64) (.cons (.int .i64) (.sl (.cons (.int .i64) (.int .i64)))))) true]⟩, ⟨[], [.box [(.own 2), (.int .i64), (.sl (.cons (.int .i64) (.int .i64))), (.fn 64 [])], .dead, .arr 52 (.cons (.int .i64) (.cons (.int .i64) (.cons (.int .i64) (.sl (.cons (.int .i64) (.int .i64)))))) true]⟩, fun x => decltab_result_add x.1.2.1 x.1.2.2.1 x.1.2.2.2.1 x.2.1.2.1 x.2.1.2.2.1 x.2.2.1⟩
theorem con67 : Contract Try.prog 67 fc67 :=
  decltab_result_add_D.contract tok (cok_of (l := [(64, fc64)]) ⟨con64, trivial⟩) mixed (fn' := Try.f67) (by kernel_rfl) (by kernel_rfl) rfl (by kernel_rfl) (fun x => (FD.fn_eq _ _).trans (by kernel_rfl))
end
end Go.Proofs.Ytgjimkgehbppbaa
end

section
/-
Ytgjimkgehbppbaa: signalbench.decltab.Compile, as one plain function, its equations, its contract. No condition.
-/
set_option maxRecDepth 100000
set_option linter.unusedVariables false
set_option maxHeartbeats 4000000
open Go Go.AM
namespace Go.Proofs.Ytgjimkgehbppbaa
noncomputable section
def decltab_Compile_F8 : FSh := ⟨[(1, .one (.ptr 0 0)), (2, .one (.ptr 1 0)), (5, .one (.ptr 2 0)), (26, .one (.int .i64)), (27, .one (.int .i64))], [.boxr (.cons .str (.cons (.int .i64) (.cons (.int .i64) (.sl (.cons .str (.cons (.sl (.cons (.int .i64) (.cons (.int .i64) (.cons .str (.cons .bool (.sl (.cons (.int .i64) (.int .i64)))))))) (.cons .bool (.cons (.int .i64) (.cons (.int .i64) (.cons .str (.cons .bool (.sl (.cons (.int .i64) (.int .i64)))))))))))))), .box [.str, (.int .i64), (.int .i64), (.own 3)], .box [.str, (.int .i64), (.int .i64), (.own 4)], .arr 50 (.sl (.cons (.int .i64) (.cons (.int .i64) (.cons (.int .i64) (.sl (.cons (.int .i64) (.int .i64))))))) true, .arr 50 (.sl (.cons (.int .i64) (.cons (.int .i64) (.cons (.int .i64) (.sl (.cons (.int .i64) (.int .i64))))))) true]⟩
def decltab_Compile_F16 : FSh := ⟨[(1, .one (.ptr 0 0)), (2, .one (.ptr 1 0)), (5, .one (.ptr 2 0)), (6, .one (.int .i64)), (7, .one (.ptr 3 0)), (8, .one (.int .i64)), (26, .one (.int .i64)), (27, .one (.int .i64))], [.boxr (.cons .str (.cons (.int .i64) (.cons (.int .i64) (.sl (.cons .str (.cons (.sl (.cons (.int .i64) (.cons (.int .i64) (.cons .str (.cons .bool (.sl (.cons (.int .i64) (.int .i64)))))))) (.cons .bool (.cons (.int .i64) (.cons (.int .i64) (.cons .str (.cons .bool (.sl (.cons (.int .i64) (.int .i64)))))))))))))), .box [.str, (.int .i64), (.int .i64), (.own 4)], .box [.str, (.int .i64), (.int .i64), (.own 5)], .box [(.own 6), (.int .i64), (.sl (.cons (.int .i64) (.int .i64))), (.fn 64 [])], .arr 50 (.sl (.cons (.int .i64) (.cons (.int .i64) (.cons (.int .i64) (.sl (.cons (.int .i64) (.int .i64))))))) true, .arr 50 (.sl (.cons (.int .i64) (.cons (.int .i64) (.cons (.int .i64) (.sl (.cons (.int .i64) (.int .i64))))))) true, .arr 52 (.cons (.int .i64) (.cons (.int .i64) (.cons (.int .i64) (.sl (.cons (.int .i64) (.int .i64)))))) true]⟩
def decltab_Compile_D : FD := ⟨T, lookC [(25, fc25), (64, fc64), (65, fc65), (66, fc66), (67, fc67)], [], (Try.f31.body.getD .skip), Try.f31.results.toList, ⟨[.row (.cons .str (.cons (.int .i64) (.cons (.int .i64) (.sl (.cons .str (.cons (.sl (.cons (.int .i64) (.cons (.int .i64) (.cons .str (.cons .bool (.sl (.cons (.int .i64) (.int .i64)))))))) (.cons .bool (.cons (.int .i64) (.cons (.int .i64) (.cons .str (.cons .bool (.sl (.cons (.int .i64) (.int .i64))))))))))))))], []⟩, ⟨[.row (.cons .str (.cons (.int .i64) (.cons (.int .i64) (.sl (.sl (.cons (.int .i64) (.cons (.int .i64) (.cons (.int .i64) (.sl (.cons (.int .i64) (.int .i64))))))))))), .one (.int .i64)], []⟩, [(8, decltab_Compile_F8), (16, decltab_Compile_F16)]⟩
def decltab_Compile_l8 (t26 : Int) (t27 : Int) (h0 : TDecl) (h1_0 : ByteArray) (h1_1 : Int) (h1_2 : Int) (h2_0 : ByteArray) (h2_1 : Int) (h2_2 : Int) (l3 : (List (List TCell))) (l4 : (List (List TCell))) : (Option ((TTable × Int × Unit) × Unit)) := decltab_Compile_D.lab 8 decltab_Compile_F8 (((), (), (), t26, t27, ()), (h0, (h1_0, h1_1, h1_2, (), ()), (h2_0, h2_1, h2_2, (), ()), l3, l4, ()))
def decltab_Compile_l16 (state : Int) (symbol : Int) (t26 : Int) (t27 : Int) (h0 : TDecl) (h1_0 : ByteArray) (h1_1 : Int) (h1_2 : Int) (h2_0 : ByteArray) (h2_1 : Int) (h2_2 : Int) (h3_1 : Int) (h3_2 : (List TAct)) (l4 : (List (List TCell))) (l5 : (List (List TCell))) (l6 : (List TCell)) : (Option ((TTable × Int × Unit) × Unit)) := decltab_Compile_D.lab 16 decltab_Compile_F16 (((), (), (), state, (), symbol, t26, t27, ()), (h0, (h1_0, h1_1, h1_2, (), ()), (h2_0, h2_1, h2_2, (), ()), ((), h3_1, h3_2, (), ()), l4, l5, l6, ()))
theorem decltab_Compile_l8_eq (t26 : Int) (t27 : Int) (h0 : TDecl) (h1_0 : ByteArray) (h1_1 : Int) (h1_2 : Int) (h2_0 : ByteArray) (h2_1 : Int) (h2_2 : Int) (l3 : (List (List TCell))) (l4 : (List (List TCell))) : decltab_Compile_l8 t26 t27 h0 h1_0 h1_1 h1_2 h2_0 h2_1 h2_2 l3 l4 =
  if (decide (t27 < t26)) = true then
    decltab_Compile_l16 t27 0 t26 t27 h0 h1_0 h1_1 h1_2 h2_0 h2_1 h2_2 0 [] l3 l4 []
  else
    some (((h2_0, h2_1, h2_2, l4), 0, ()), ()) := (FD.lab_eq _ _ _ _).trans (by kernel_rfl)
theorem decltab_Compile_l16_eq (state : Int) (symbol : Int) (t26 : Int) (t27 : Int) (h0 : TDecl) (h1_0 : ByteArray) (h1_1 : Int) (h1_2 : Int) (h2_0 : ByteArray) (h2_1 : Int) (h2_2 : Int) (h3_1 : Int) (h3_2 : (List TAct)) (l4 : (List (List TCell))) (l5 : (List (List TCell))) (l6 : (List TCell)) : decltab_Compile_l16 state symbol t26 t27 h0 h1_0 h1_1 h1_2 h2_0 h2_1 h2_2 h3_1 h3_2 l4 l5 l6 =
  (decltab_top h0.2.1).bind fun y1 =>
    if (decide (symbol ≤ y1.1.1)) = true then
      (decltab_follow h0 state symbol).bind fun y2 =>
        if (!y2.1.2.1) = true then
          some ((((strB []), 0, 0, []), 6, ()), ())
        else
          (decltab_result_add symbol y2.1.1 (0, 0, y2.1.1) h3_1 h3_2 l6).bind fun y3 =>
            decltab_Compile_l16 state (IntKind.i64.wrap (symbol + 1)) t26 t27 h0 h1_0 h1_1 h1_2 h2_0 h2_1 h2_2 y3.2.1.2.1 y3.2.1.2.2.1 l4 l5 y3.2.2.2.1
    else
      if (l5.length + 1) * 24 ≤ 140737488355328 ∧ 0 < 24 then
        decltab_Compile_l8 t26 (IntKind.i64.wrap (t27 + 1)) h0 h1_0 h1_1 h1_2 h2_0 h2_1 h2_2 l4 (l5 ++ [l6])
      else
        none := (FD.lab_eq _ _ _ _).trans (by kernel_rfl)
def decltab_Compile (d : TDecl) : (Option ((TTable × Int × Unit) × Unit)) :=
  (declcheck_Check d).bind fun y1 =>
    if (y1.1.1 != 0) = true then
      some ((((strB []), 0, 0, []), y1.1.1, ()), ())
    else
      decltab_Compile_l8 (d.2.2.2.length : Int) 0 d (strB []) 0 0 d.1 d.2.1 d.2.2.1 [] []
def fc31 : FC := ⟨⟨[.row (.cons .str (.cons (.int .i64) (.cons (.int .i64) (.sl (.cons .str (.cons (.sl (.cons (.int .i64) (.cons (.int .i64) (.cons .str (.cons .bool (.sl (.cons (.int .i64) (.int .i64)))))))) (.cons .bool (.cons (.int .i64) (.cons (.int .i64) (.cons .str (.cons .bool (.sl (.cons (.int .i64) (.int .i64))))))))))))))], []⟩, ⟨[.row (.cons .str (.cons (.int .i64) (.cons (.int .i64) (.sl (.sl (.cons (.int .i64) (.cons (.int .i64) (.cons (.int .i64) (.sl (.cons (.int .i64) (.int .i64))))))))))), .one (.int .i64)], []⟩, fun x => decltab_Compile x.1.1⟩
theorem con31 : Contract Try.prog 31 fc31 :=
  decltab_Compile_D.contract tok (cok_of (l := [(25, fc25), (64, fc64), (65, fc65), (66, fc66), (67, fc67)]) ⟨con25, con64, con65, con66, con67, trivial⟩) mixed (fn' := Try.f31) (by kernel_rfl) (by kernel_rfl) rfl (by kernel_rfl) (fun x => (FD.fn_eq _ _).trans (by kernel_rfl))
end
end Go.Proofs.Ytgjimkgehbppbaa
end

section
/-
Ytgjimkgehbppbaa: signalbench.declrun.Direct$1, as one plain function, its equations, its contract. No condition.
-/
set_option maxRecDepth 100000
set_option linter.unusedVariables false
set_option maxHeartbeats 4000000
open Go Go.AM
namespace Go.Proofs.Ytgjimkgehbppbaa
noncomputable section
def declrun_Direct_1_F3 : FSh := ⟨[(1, .one (.ptr 1 0)), (2, .one (.ptr 2 0)), (3, .one (.ptr 3 0)), (8, .one (.int .i64)), (9, .one (.int .i64))], [.dead, .boxr (.cons .str (.cons (.int .i64) (.cons (.int .i64) (.sl (.cons .str (.cons (.sl (.cons (.int .i64) (.cons (.int .i64) (.cons .str (.cons .bool (.sl (.cons (.int .i64) (.int .i64)))))))) (.cons .bool (.cons (.int .i64) (.cons (.int .i64) (.cons .str (.cons .bool (.sl (.cons (.int .i64) (.int .i64)))))))))))))), .box [(.int .i64), (.int .i64), (.int .i64), (.int .i64), (.int .i64), (.int .i64), (.int .i64), .str, (.int .i64), (.int .i64), (.int .i64), (.int .i64), (.int .i64), .str, (.int .i64), (.int .i64), (.own 4)], .box [(.int .i64), (.int .i64), (.int .i64), (.int .i64), (.int .i64), (.int .i64), (.int .i64), .str, (.int .i64), (.int .i64), (.int .i64), (.int .i64), (.int .i64), .str, (.int .i64), (.int .i64), (.own 5)], .arr 92 (.cons (.int .i64) (.cons (.int .i64) (.cons (.int .i64) (.cons (.int .i64) (.cons (.int .i64) (.cons .str (.int .i64))))))) true, .arr 92 (.cons (.int .i64) (.cons (.int .i64) (.cons (.int .i64) (.cons (.int .i64) (.cons (.int .i64) (.cons .str (.int .i64))))))) true]⟩
def declrun_Direct_1_D : FD := ⟨T, lookC [(27, fc27), (28, fc28), (79, fc79)], [], (Try.f78.body.getD .skip), Try.f78.results.toList, ⟨[.agg [(.int .i64), (.int .i64), (.int .i64), (.int .i64), (.int .i64), (.int .i64), (.int .i64), .str, (.int .i64), (.int .i64), (.int .i64), (.int .i64), (.int .i64), .str, (.int .i64), (.int .i64), (.own 0)], .one (.ptr 1 0)], [.arr 92 (.cons (.int .i64) (.cons (.int .i64) (.cons (.int .i64) (.cons (.int .i64) (.cons (.int .i64) (.cons .str (.int .i64))))))) true, .boxr (.cons .str (.cons (.int .i64) (.cons (.int .i64) (.sl (.cons .str (.cons (.sl (.cons (.int .i64) (.cons (.int .i64) (.cons .str (.cons .bool (.sl (.cons (.int .i64) (.int .i64)))))))) (.cons .bool (.cons (.int .i64) (.cons (.int .i64) (.cons .str (.cons .bool (.sl (.cons (.int .i64) (.int .i64))))))))))))))]⟩, ⟨[.agg [(.int .i64), (.int .i64), (.int .i64), (.int .i64), (.int .i64), (.int .i64), (.int .i64), .str, (.int .i64), (.int .i64), (.int .i64), (.int .i64), (.int .i64), .str, (.int .i64), (.int .i64), (.own 2)]], [.dead, .boxr (.cons .str (.cons (.int .i64) (.cons (.int .i64) (.sl (.cons .str (.cons (.sl (.cons (.int .i64) (.cons (.int .i64) (.cons .str (.cons .bool (.sl (.cons (.int .i64) (.int .i64)))))))) (.cons .bool (.cons (.int .i64) (.cons (.int .i64) (.cons .str (.cons .bool (.sl (.cons (.int .i64) (.int .i64)))))))))))))), .arr 92 (.cons (.int .i64) (.cons (.int .i64) (.cons (.int .i64) (.cons (.int .i64) (.cons (.int .i64) (.cons .str (.int .i64))))))) true]⟩, [(3, declrun_Direct_1_F3)]⟩
def declrun_Direct_1_l3 (t8 : Int) (t9 : Int) (h1 : TDecl) (h2_0 : Int) (h2_1 : Int) (h2_2 : Int) (h2_3 : Int) (h2_4 : Int) (h2_5 : Int) (h2_6 : Int) (h2_7 : ByteArray) (h2_8 : Int) (h2_9 : Int) (h2_10 : Int) (h2_11 : Int) (h2_12 : Int) (h2_13 : ByteArray) (h2_14 : Int) (h2_15 : Int) (h3_0 : Int) (h3_1 : Int) (h3_2 : Int) (h3_3 : Int) (h3_4 : Int) (h3_5 : Int) (h3_6 : Int) (h3_7 : ByteArray) (h3_8 : Int) (h3_9 : Int) (h3_10 : Int) (h3_11 : Int) (h3_12 : Int) (h3_13 : ByteArray) (h3_14 : Int) (h3_15 : Int) (l4 : (List TEvent)) (l5 : (List TEvent)) : (Option (((Int × Int × Int × Int × Int × Int × Int × ByteArray × Int × Int × Int × Int × Int × ByteArray × Int × Int × Unit × Unit) × Unit) × (Unit × TDecl × (List TEvent) × Unit))) := declrun_Direct_1_D.lab 3 declrun_Direct_1_F3 (((), (), (), t8, t9, ()), ((), h1, (h2_0, h2_1, h2_2, h2_3, h2_4, h2_5, h2_6, h2_7, h2_8, h2_9, h2_10, h2_11, h2_12, h2_13, h2_14, h2_15, (), ()), (h3_0, h3_1, h3_2, h3_3, h3_4, h3_5, h3_6, h3_7, h3_8, h3_9, h3_10, h3_11, h3_12, h3_13, h3_14, h3_15, (), ()), l4, l5, ()))
theorem declrun_Direct_1_l3_eq (t8 : Int) (t9 : Int) (h1 : TDecl) (h2_0 : Int) (h2_1 : Int) (h2_2 : Int) (h2_3 : Int) (h2_4 : Int) (h2_5 : Int) (h2_6 : Int) (h2_7 : ByteArray) (h2_8 : Int) (h2_9 : Int) (h2_10 : Int) (h2_11 : Int) (h2_12 : Int) (h2_13 : ByteArray) (h2_14 : Int) (h2_15 : Int) (h3_0 : Int) (h3_1 : Int) (h3_2 : Int) (h3_3 : Int) (h3_4 : Int) (h3_5 : Int) (h3_6 : Int) (h3_7 : ByteArray) (h3_8 : Int) (h3_9 : Int) (h3_10 : Int) (h3_11 : Int) (h3_12 : Int) (h3_13 : ByteArray) (h3_14 : Int) (h3_15 : Int) (l4 : (List TEvent)) (l5 : (List TEvent)) : declrun_Direct_1_l3 t8 t9 h1 h2_0 h2_1 h2_2 h2_3 h2_4 h2_5 h2_6 h2_7 h2_8 h2_9 h2_10 h2_11 h2_12 h2_13 h2_14 h2_15 h3_0 h3_1 h3_2 h3_3 h3_4 h3_5 h3_6 h3_7 h3_8 h3_9 h3_10 h3_11 h3_12 h3_13 h3_14 h3_15 l4 l5 =
  if (decide (t9 < t8)) = true then
    (decl_Match h1 h2_3 h2_11).bind fun y1 =>
      if (!y1.1.2.1) = true then
        some (((h2_0, h2_1, h2_2, h2_3, h2_4, h2_5, h2_6, h2_7, h2_8, h2_9, h2_10, h2_11, h2_12, h2_13, h2_14, h2_15, (), ()), ()), ((), h1, l4, ()))
      else
        (declrun_do h2_0 h2_1 h2_2 h2_3 h2_4 h2_5 h2_6 h2_7 h2_8 h2_9 h2_10 h2_11 h2_12 h2_13 h2_14 h2_15 y1.1.1.2.2.2.2 l4).bind fun y2 =>
          (decl_Find h1 y1.1.1.2.2.1).bind fun y3 =>
            if (!y1.1.1.2.2.2.1) = true then
              some (((y2.1.1.1, y2.1.1.2.1, y2.1.1.2.2.1, y3.1.1, y2.1.1.2.2.2.2.1, y2.1.1.2.2.2.2.2.1, y2.1.1.2.2.2.2.2.2.1, y2.1.1.2.2.2.2.2.2.2.1, y2.1.1.2.2.2.2.2.2.2.2.1, y2.1.1.2.2.2.2.2.2.2.2.2.1, y2.1.1.2.2.2.2.2.2.2.2.2.2.1, y2.1.1.2.2.2.2.2.2.2.2.2.2.2.1, y2.1.1.2.2.2.2.2.2.2.2.2.2.2.2.1, y2.1.1.2.2.2.2.2.2.2.2.2.2.2.2.2.1, y2.1.1.2.2.2.2.2.2.2.2.2.2.2.2.2.2.1, y2.1.1.2.2.2.2.2.2.2.2.2.2.2.2.2.2.2.1, (), ()), ()), ((), h1, y2.2.2.1, ()))
            else
              declrun_Direct_1_l3 t8 (IntKind.i64.wrap (t9 + 1)) h1 y2.1.1.1 y2.1.1.2.1 y2.1.1.2.2.1 y3.1.1 y2.1.1.2.2.2.2.1 y2.1.1.2.2.2.2.2.1 y2.1.1.2.2.2.2.2.2.1 y2.1.1.2.2.2.2.2.2.2.1 y2.1.1.2.2.2.2.2.2.2.2.1 y2.1.1.2.2.2.2.2.2.2.2.2.1 y2.1.1.2.2.2.2.2.2.2.2.2.2.1 y2.1.1.2.2.2.2.2.2.2.2.2.2.2.1 y2.1.1.2.2.2.2.2.2.2.2.2.2.2.2.1 y2.1.1.2.2.2.2.2.2.2.2.2.2.2.2.2.1 y2.1.1.2.2.2.2.2.2.2.2.2.2.2.2.2.2.1 y2.1.1.2.2.2.2.2.2.2.2.2.2.2.2.2.2.2.1 h3_0 h3_1 h3_2 h3_3 h3_4 h3_5 h3_6 h3_7 h3_8 h3_9 h3_10 h3_11 h3_12 h3_13 h3_14 h3_15 y2.2.2.1 l5
  else
    some (((h2_0, h2_1, h2_2, h2_3, h2_4, h2_5, h2_6, h2_7, h2_8, h2_9, h2_10, h2_11, h2_12, h2_13, h2_14, h2_15, (), ()), ()), ((), h1, l4, ())) := (FD.lab_eq _ _ _ _).trans (by kernel_rfl)
def declrun_Direct_1 (w_0 : Int) (w_1 : Int) (w_2 : Int) (w_3 : Int) (w_4 : Int) (w_5 : Int) (w_6 : Int) (w_7 : ByteArray) (w_8 : Int) (w_9 : Int) (w_10 : Int) (w_11 : Int) (w_12 : Int) (w_13 : ByteArray) (w_14 : Int) (w_15 : Int) (l0 : (List TEvent)) (h1 : TDecl) : (Option (((Int × Int × Int × Int × Int × Int × Int × ByteArray × Int × Int × Int × Int × Int × ByteArray × Int × Int × Unit × Unit) × Unit) × (Unit × TDecl × (List TEvent) × Unit))) :=
  declrun_Direct_1_l3 (h1.2.2.2.length : Int) 0 h1 w_0 w_1 w_2 w_3 w_4 w_5 w_6 w_7 w_8 w_9 w_10 w_11 w_12 w_13 w_14 w_15 0 0 0 0 0 0 0 (strB []) 0 0 0 0 0 (strB []) 0 0 l0 []
def fc78 : FC := ⟨⟨[.agg [(.int .i64), (.int .i64), (.int .i64), (.int .i64), (.int .i64), (.int .i64), (.int .i64), .str, (.int .i64), (.int .i64), (.int .i64), (.int .i64), (.int .i64), .str, (.int .i64), (.int .i64), (.own 0)], .one (.ptr 1 0)], [.arr 92 (.cons (.int .i64) (.cons (.int .i64) (.cons (.int .i64) (.cons (.int .i64) (.cons (.int .i64) (.cons .str (.int .i64))))))) true, .boxr (.cons .str (.cons (.int .i64) (.cons (.int .i64) (.sl (.cons .str (.cons (.sl (.cons (.int .i64) (.cons (.int .i64) (.cons .str (.cons .bool (.sl (.cons (.int .i64) (.int .i64)))))))) (.cons .bool (.cons (.int .i64) (.cons (.int .i64) (.cons .str (.cons .bool (.sl (.cons (.int .i64) (.int .i64))))))))))))))]⟩, ⟨[.agg [(.int .i64), (.int .i64), (.int .i64), (.int .i64), (.int .i64), (.int .i64), (.int .i64), .str, (.int .i64), (.int .i64), (.int .i64), (.int .i64), (.int .i64), .str, (.int .i64), (.int .i64), (.own 2)]], [.dead, .boxr (.cons .str (.cons (.int .i64) (.cons (.int .i64) (.sl (.cons .str (.cons (.sl (.cons (.int .i64) (.cons (.int .i64) (.cons .str (.cons .bool (.sl (.cons (.int .i64) (.int .i64)))))))) (.cons .bool (.cons (.int .i64) (.cons (.int .i64) (.cons .str (.cons .bool (.sl (.cons (.int .i64) (.int .i64)))))))))))))), .arr 92 (.cons (.int .i64) (.cons (.int .i64) (.cons (.int .i64) (.cons (.int .i64) (.cons (.int .i64) (.cons .str (.int .i64))))))) true]⟩, fun x => declrun_Direct_1 x.1.1.1 x.1.1.2.1 x.1.1.2.2.1 x.1.1.2.2.2.1 x.1.1.2.2.2.2.1 x.1.1.2.2.2.2.2.1 x.1.1.2.2.2.2.2.2.1 x.1.1.2.2.2.2.2.2.2.1 x.1.1.2.2.2.2.2.2.2.2.1 x.1.1.2.2.2.2.2.2.2.2.2.1 x.1.1.2.2.2.2.2.2.2.2.2.2.1 x.1.1.2.2.2.2.2.2.2.2.2.2.2.1 x.1.1.2.2.2.2.2.2.2.2.2.2.2.2.1 x.1.1.2.2.2.2.2.2.2.2.2.2.2.2.2.1 x.1.1.2.2.2.2.2.2.2.2.2.2.2.2.2.2.1 x.1.1.2.2.2.2.2.2.2.2.2.2.2.2.2.2.2.1 x.2.1 x.2.2.1⟩
theorem con78 : Contract Try.prog 78 fc78 :=
  declrun_Direct_1_D.contract tok (cok_of (l := [(27, fc27), (28, fc28), (79, fc79)]) ⟨con27, con28, con79, trivial⟩) mixed (fn' := Try.f78) (by kernel_rfl) (by kernel_rfl) rfl (by kernel_rfl) (fun x => (FD.fn_eq _ _).trans (by kernel_rfl))
end
end Go.Proofs.Ytgjimkgehbppbaa
end

section
/-
Ytgjimkgehbppbaa: signalbench.declrun.aborted, as one plain function, its equations, its contract. No condition.
-/
set_option maxRecDepth 100000
set_option linter.unusedVariables false
set_option maxHeartbeats 4000000
open Go Go.AM
namespace Go.Proofs.Ytgjimkgehbppbaa
noncomputable section
def declrun_aborted_D : FD := ⟨T, lookC [], [], (Try.f98.body.getD .skip), Try.f98.results.toList, ⟨[.one (.int .i64), .row (.cons (.int .i64) (.cons (.int .i64) (.cons (.int .i64) (.cons (.int .i64) (.cons (.int .i64) (.cons (.int .i64) (.cons (.int .i64) .str))))))), .one (.int .i64)], []⟩, ⟨[.one (.sl (.cons (.int .i64) (.cons (.int .i64) (.cons (.int .i64) (.cons (.int .i64) (.cons (.int .i64) (.cons .str (.int .i64))))))))], []⟩, []⟩
def declrun_aborted (output : Int) (s : TState) (to_ : Int) : (Option (((List TEvent) × Unit) × Unit)) :=
  if (s.2.2.2.2.2.2.2.toList == (strB []).toList) = true then
    some (([], ()), ())
  else
    some (([(output, s.2.2.1, if s.2.2.1 < to_ then to_ else s.2.2.1, 0, 0, (strB []), 7)], ()), ())
def fc98 : FC := ⟨⟨[.one (.int .i64), .row (.cons (.int .i64) (.cons (.int .i64) (.cons (.int .i64) (.cons (.int .i64) (.cons (.int .i64) (.cons (.int .i64) (.cons (.int .i64) .str))))))), .one (.int .i64)], []⟩, ⟨[.one (.sl (.cons (.int .i64) (.cons (.int .i64) (.cons (.int .i64) (.cons (.int .i64) (.cons (.int .i64) (.cons .str (.int .i64))))))))], []⟩, fun x => declrun_aborted x.1.1 x.1.2.1 x.1.2.2.1⟩
theorem con98 : Contract Try.prog 98 fc98 :=
  declrun_aborted_D.contract tok (cok_of (l := []) trivial) mixed (fn' := Try.f98) (by kernel_rfl) (by kernel_rfl) rfl (by kernel_rfl) (fun x => (FD.fn_eq _ _).trans (by kernel_rfl))
end
end Go.Proofs.Ytgjimkgehbppbaa
end

section
/-
Ytgjimkgehbppbaa: signalbench.declrun.step, as one plain function, its equations, its contract. No condition.
-/
set_option maxRecDepth 100000
set_option linter.unusedVariables false
set_option maxHeartbeats 4000000
open Go Go.AM
namespace Go.Proofs.Ytgjimkgehbppbaa
noncomputable section
def declrun_stepD_D : FD := ⟨T, lookC [(78, fc78), (98, fc98), (116, fc116)], [], (Try.f97.body.getD .skip), Try.f97.results.toList, ⟨[.one (.int .i64), .one (.int .i64), .row (.cons (.int .i64) (.cons (.int .i64) (.cons (.int .i64) (.cons (.int .i64) (.cons (.int .i64) (.cons (.int .i64) (.cons (.int .i64) .str))))))), .row (.cons (.int .i64) (.cons (.int .i64) (.cons (.int .i64) (.cons (.int .i64) (.cons (.int .i64) (.cons .str (.int .i64))))))), .one (.fn 78 [0])], [.boxr (.cons .str (.cons (.int .i64) (.cons (.int .i64) (.sl (.cons .str (.cons (.sl (.cons (.int .i64) (.cons (.int .i64) (.cons .str (.cons .bool (.sl (.cons (.int .i64) (.int .i64)))))))) (.cons .bool (.cons (.int .i64) (.cons (.int .i64) (.cons .str (.cons .bool (.sl (.cons (.int .i64) (.int .i64))))))))))))))]⟩, ⟨[.row (.cons (.int .i64) (.cons (.int .i64) (.cons (.int .i64) (.cons (.int .i64) (.cons (.int .i64) (.cons (.int .i64) (.cons (.int .i64) .str))))))), .one (.sl (.cons (.int .i64) (.cons (.int .i64) (.cons (.int .i64) (.cons (.int .i64) (.cons (.int .i64) (.cons .str (.int .i64))))))))], [.boxr (.cons .str (.cons (.int .i64) (.cons (.int .i64) (.sl (.cons .str (.cons (.sl (.cons (.int .i64) (.cons (.int .i64) (.cons .str (.cons .bool (.sl (.cons (.int .i64) (.int .i64)))))))) (.cons .bool (.cons (.int .i64) (.cons (.int .i64) (.cons .str (.cons .bool (.sl (.cons (.int .i64) (.int .i64))))))))))))))]⟩, []⟩
def declrun_stepD (input : Int) (output : Int) (s : TState) (e0 : TEvent) (h0 : TDecl) : (Option ((TState × (List TEvent) × Unit) × (TDecl × Unit))) :=
  (declrun_accepts input s e0).bind fun y1 =>
    if (!y1.1.1) = true then
      some ((s, [], ()), (h0, ()))
    else
      if (e0.2.2.2.2.2.2 != 0) = true then
        (declrun_aborted output s e0.2.1).bind fun y2 =>
          some (((1, e0.2.2.1, 0, 0, 0, 0, e0.2.1, (strB [])), y2.1.1, ()), (h0, ()))
      else
        (declrun_Direct_1 1 e0.2.2.1 s.2.2.1 s.2.2.2.1 s.2.2.2.2.1 s.2.2.2.2.2.1 e0.2.1 s.2.2.2.2.2.2.2 e0.1 e0.2.1 e0.2.2.1 e0.2.2.2.1 e0.2.2.2.2.1 e0.2.2.2.2.2.1 e0.2.2.2.2.2.2 output [] h0).bind fun y3 =>
          some (((y3.1.1.1, y3.1.1.2.1, y3.1.1.2.2.1, y3.1.1.2.2.2.1, y3.1.1.2.2.2.2.1, y3.1.1.2.2.2.2.2.1, y3.1.1.2.2.2.2.2.2.1, y3.1.1.2.2.2.2.2.2.2.1), y3.2.2.2.1, ()), (y3.2.2.1, ()))
def fc97D : FC := ⟨⟨[.one (.int .i64), .one (.int .i64), .row (.cons (.int .i64) (.cons (.int .i64) (.cons (.int .i64) (.cons (.int .i64) (.cons (.int .i64) (.cons (.int .i64) (.cons (.int .i64) .str))))))), .row (.cons (.int .i64) (.cons (.int .i64) (.cons (.int .i64) (.cons (.int .i64) (.cons (.int .i64) (.cons .str (.int .i64))))))), .one (.fn 78 [0])], [.boxr (.cons .str (.cons (.int .i64) (.cons (.int .i64) (.sl (.cons .str (.cons (.sl (.cons (.int .i64) (.cons (.int .i64) (.cons .str (.cons .bool (.sl (.cons (.int .i64) (.int .i64)))))))) (.cons .bool (.cons (.int .i64) (.cons (.int .i64) (.cons .str (.cons .bool (.sl (.cons (.int .i64) (.int .i64))))))))))))))]⟩, ⟨[.row (.cons (.int .i64) (.cons (.int .i64) (.cons (.int .i64) (.cons (.int .i64) (.cons (.int .i64) (.cons (.int .i64) (.cons (.int .i64) .str))))))), .one (.sl (.cons (.int .i64) (.cons (.int .i64) (.cons (.int .i64) (.cons (.int .i64) (.cons (.int .i64) (.cons .str (.int .i64))))))))], [.boxr (.cons .str (.cons (.int .i64) (.cons (.int .i64) (.sl (.cons .str (.cons (.sl (.cons (.int .i64) (.cons (.int .i64) (.cons .str (.cons .bool (.sl (.cons (.int .i64) (.int .i64)))))))) (.cons .bool (.cons (.int .i64) (.cons (.int .i64) (.cons .str (.cons .bool (.sl (.cons (.int .i64) (.int .i64))))))))))))))]⟩, fun x => declrun_stepD x.1.1 x.1.2.1 x.1.2.2.1 x.1.2.2.2.1 x.2.1⟩
theorem con97D : Contract Try.prog 97 fc97D :=
  declrun_stepD_D.contract tok (cok_of (l := [(78, fc78), (98, fc98), (116, fc116)]) ⟨con78, con98, con116, trivial⟩) mixed (fn' := Try.f97) (by kernel_rfl) (by kernel_rfl) rfl (by kernel_rfl) (fun x => (FD.fn_eq _ _).trans (by kernel_rfl))
end
end Go.Proofs.Ytgjimkgehbppbaa
end

section
/-
Ytgjimkgehbppbaa: signalbench.declrun.step, as one plain function, its equations, its contract. No condition.
-/
set_option maxRecDepth 100000
set_option linter.unusedVariables false
set_option maxHeartbeats 4000000
open Go Go.AM
namespace Go.Proofs.Ytgjimkgehbppbaa
noncomputable section
def declrun_stepT_D : FD := ⟨T, lookC [(98, fc98), (107, fc107), (116, fc116)], [], (Try.f97.body.getD .skip), Try.f97.results.toList, ⟨[.one (.int .i64), .one (.int .i64), .row (.cons (.int .i64) (.cons (.int .i64) (.cons (.int .i64) (.cons (.int .i64) (.cons (.int .i64) (.cons (.int .i64) (.cons (.int .i64) .str))))))), .row (.cons (.int .i64) (.cons (.int .i64) (.cons (.int .i64) (.cons (.int .i64) (.cons (.int .i64) (.cons .str (.int .i64))))))), .one (.fn 107 [0])], [.boxr (.cons .str (.cons (.int .i64) (.cons (.int .i64) (.sl (.sl (.cons (.int .i64) (.cons (.int .i64) (.cons (.int .i64) (.sl (.cons (.int .i64) (.int .i64)))))))))))]⟩, ⟨[.row (.cons (.int .i64) (.cons (.int .i64) (.cons (.int .i64) (.cons (.int .i64) (.cons (.int .i64) (.cons (.int .i64) (.cons (.int .i64) .str))))))), .one (.sl (.cons (.int .i64) (.cons (.int .i64) (.cons (.int .i64) (.cons (.int .i64) (.cons (.int .i64) (.cons .str (.int .i64))))))))], [.boxr (.cons .str (.cons (.int .i64) (.cons (.int .i64) (.sl (.sl (.cons (.int .i64) (.cons (.int .i64) (.cons (.int .i64) (.sl (.cons (.int .i64) (.int .i64)))))))))))]⟩, []⟩
def declrun_stepT (input : Int) (output : Int) (s : TState) (e0 : TEvent) (h0 : TTable) : (Option ((TState × (List TEvent) × Unit) × (TTable × Unit))) :=
  (declrun_accepts input s e0).bind fun y1 =>
    if (!y1.1.1) = true then
      some ((s, [], ()), (h0, ()))
    else
      if (e0.2.2.2.2.2.2 != 0) = true then
        (declrun_aborted output s e0.2.1).bind fun y2 =>
          some (((1, e0.2.2.1, 0, 0, 0, 0, e0.2.1, (strB [])), y2.1.1, ()), (h0, ()))
      else
        (declrun_look_1 1 e0.2.2.1 s.2.2.1 s.2.2.2.1 s.2.2.2.2.1 s.2.2.2.2.2.1 e0.2.1 s.2.2.2.2.2.2.2 e0.1 e0.2.1 e0.2.2.1 e0.2.2.2.1 e0.2.2.2.2.1 e0.2.2.2.2.2.1 e0.2.2.2.2.2.2 output [] h0).bind fun y3 =>
          some (((y3.1.1.1, y3.1.1.2.1, y3.1.1.2.2.1, y3.1.1.2.2.2.1, y3.1.1.2.2.2.2.1, y3.1.1.2.2.2.2.2.1, y3.1.1.2.2.2.2.2.2.1, y3.1.1.2.2.2.2.2.2.2.1), y3.2.2.2.1, ()), (y3.2.2.1, ()))
def fc97T : FC := ⟨⟨[.one (.int .i64), .one (.int .i64), .row (.cons (.int .i64) (.cons (.int .i64) (.cons (.int .i64) (.cons (.int .i64) (.cons (.int .i64) (.cons (.int .i64) (.cons (.int .i64) .str))))))), .row (.cons (.int .i64) (.cons (.int .i64) (.cons (.int .i64) (.cons (.int .i64) (.cons (.int .i64) (.cons .str (.int .i64))))))), .one (.fn 107 [0])], [.boxr (.cons .str (.cons (.int .i64) (.cons (.int .i64) (.sl (.sl (.cons (.int .i64) (.cons (.int .i64) (.cons (.int .i64) (.sl (.cons (.int .i64) (.int .i64)))))))))))]⟩, ⟨[.row (.cons (.int .i64) (.cons (.int .i64) (.cons (.int .i64) (.cons (.int .i64) (.cons (.int .i64) (.cons (.int .i64) (.cons (.int .i64) .str))))))), .one (.sl (.cons (.int .i64) (.cons (.int .i64) (.cons (.int .i64) (.cons (.int .i64) (.cons (.int .i64) (.cons .str (.int .i64))))))))], [.boxr (.cons .str (.cons (.int .i64) (.cons (.int .i64) (.sl (.sl (.cons (.int .i64) (.cons (.int .i64) (.cons (.int .i64) (.sl (.cons (.int .i64) (.int .i64)))))))))))]⟩, fun x => declrun_stepT x.1.1 x.1.2.1 x.1.2.2.1 x.1.2.2.2.1 x.2.1⟩
theorem con97T : Contract Try.prog 97 fc97T :=
  declrun_stepT_D.contract tok (cok_of (l := [(98, fc98), (107, fc107), (116, fc116)]) ⟨con98, con107, con116, trivial⟩) mixed (fn' := Try.f97) (by kernel_rfl) (by kernel_rfl) rfl (by kernel_rfl) (fun x => (FD.fn_eq _ _).trans (by kernel_rfl))
end
end Go.Proofs.Ytgjimkgehbppbaa
end

section
/-
Ytgjimkgehbppbaa: signalbench.declrun.run, as one plain function, its equations, its contract. No condition.
-/
set_option maxRecDepth 100000
set_option linter.unusedVariables false
set_option maxHeartbeats 4000000
open Go Go.AM
namespace Go.Proofs.Ytgjimkgehbppbaa
noncomputable section
def declrun_runD_F5 : FSh := ⟨[(0, .one (.int .i64)), (1, .one (.int .i64)), (3, .one (.fn 78 [0])), (9, .one (.own 1)), (10, .one (.ptr 2 0)), (15, .one (.sl (.cons (.int .i64) (.cons (.int .i64) (.cons (.int .i64) (.cons (.int .i64) (.cons (.int .i64) (.cons .str (.int .i64))))))))), (16, .one (.int .i64)), (17, .one (.int .i64))], [.boxr (.cons .str (.cons (.int .i64) (.cons (.int .i64) (.sl (.cons .str (.cons (.sl (.cons (.int .i64) (.cons (.int .i64) (.cons .str (.cons .bool (.sl (.cons (.int .i64) (.int .i64)))))))) (.cons .bool (.cons (.int .i64) (.cons (.int .i64) (.cons .str (.cons .bool (.sl (.cons (.int .i64) (.int .i64)))))))))))))), .arr 92 (.cons (.int .i64) (.cons (.int .i64) (.cons (.int .i64) (.cons (.int .i64) (.cons (.int .i64) (.cons .str (.int .i64))))))) true, .boxr (.cons (.int .i64) (.cons (.int .i64) (.cons (.int .i64) (.cons (.int .i64) (.cons (.int .i64) (.cons (.int .i64) (.cons (.int .i64) .str)))))))]⟩
def declrun_runD_D : FD := ⟨T, lookC [(78, fc78), (97, fc97T), (97, fc97D), (98, fc98)], [], (Try.f80.body.getD .skip), Try.f80.results.toList, ⟨[.one (.int .i64), .one (.int .i64), .one (.sl (.cons (.int .i64) (.cons (.int .i64) (.cons (.int .i64) (.cons (.int .i64) (.cons (.int .i64) (.cons .str (.int .i64)))))))), .one (.fn 78 [0])], [.boxr (.cons .str (.cons (.int .i64) (.cons (.int .i64) (.sl (.cons .str (.cons (.sl (.cons (.int .i64) (.cons (.int .i64) (.cons .str (.cons .bool (.sl (.cons (.int .i64) (.int .i64)))))))) (.cons .bool (.cons (.int .i64) (.cons (.int .i64) (.cons .str (.cons .bool (.sl (.cons (.int .i64) (.int .i64))))))))))))))]⟩, ⟨[.one (.sl (.cons (.int .i64) (.cons (.int .i64) (.cons (.int .i64) (.cons (.int .i64) (.cons (.int .i64) (.cons .str (.int .i64))))))))], [.boxr (.cons .str (.cons (.int .i64) (.cons (.int .i64) (.sl (.cons .str (.cons (.sl (.cons (.int .i64) (.cons (.int .i64) (.cons .str (.cons .bool (.sl (.cons (.int .i64) (.int .i64)))))))) (.cons .bool (.cons (.int .i64) (.cons (.int .i64) (.cons .str (.cons .bool (.sl (.cons (.int .i64) (.int .i64))))))))))))))]⟩, [(5, declrun_runD_F5)]⟩
def declrun_runD_l5 (input : Int) (output : Int) (t15 : (List TEvent)) (t16 : Int) (t17 : Int) (h0 : TDecl) (l1 : (List TEvent)) (h2 : TState) : (Option (((List TEvent) × Unit) × (TDecl × Unit))) := declrun_runD_D.lab 5 declrun_runD_F5 ((input, output, (), (), (), t15, t16, t17, ()), (h0, l1, h2, ()))
theorem declrun_runD_l5_eq (input : Int) (output : Int) (t15 : (List TEvent)) (t16 : Int) (t17 : Int) (h0 : TDecl) (l1 : (List TEvent)) (h2 : TState) : declrun_runD_l5 input output t15 t16 t17 h0 l1 h2 =
  if (decide (t17 < t16)) = true then
    if 0 ≤ t17 ∧ t17 < (t15.length : Int) then
      (declrun_stepD input output h2 (t15.getD t17.toNat dEvent) h0).bind fun y1 =>
        if (l1.length + y1.1.2.1.length) * 64 ≤ 140737488355328 ∧ 0 < 64 then
          declrun_runD_l5 input output t15 t16 (IntKind.i64.wrap (t17 + 1)) y1.2.1 (l1 ++ y1.1.2.1) y1.1.1
        else
          none
    else
      none
  else
    (declrun_aborted output h2 h2.2.1).bind fun y2 =>
      if (l1.length + y2.1.1.length) * 64 ≤ 140737488355328 ∧ 0 < 64 then
        some ((l1 ++ y2.1.1, ()), (h0, ()))
      else
        none := (FD.lab_eq _ _ _ _).trans (by kernel_rfl)
def declrun_runD (input : Int) (output : Int) (l : (List TEvent)) (h0 : TDecl) : (Option (((List TEvent) × Unit) × (TDecl × Unit))) :=
  declrun_runD_l5 input output l (l.length : Int) 0 h0 [] (0, 0, 0, 0, 0, 0, 0, (strB []))
def fc80D : FC := ⟨⟨[.one (.int .i64), .one (.int .i64), .one (.sl (.cons (.int .i64) (.cons (.int .i64) (.cons (.int .i64) (.cons (.int .i64) (.cons (.int .i64) (.cons .str (.int .i64)))))))), .one (.fn 78 [0])], [.boxr (.cons .str (.cons (.int .i64) (.cons (.int .i64) (.sl (.cons .str (.cons (.sl (.cons (.int .i64) (.cons (.int .i64) (.cons .str (.cons .bool (.sl (.cons (.int .i64) (.int .i64)))))))) (.cons .bool (.cons (.int .i64) (.cons (.int .i64) (.cons .str (.cons .bool (.sl (.cons (.int .i64) (.int .i64))))))))))))))]⟩, ⟨[.one (.sl (.cons (.int .i64) (.cons (.int .i64) (.cons (.int .i64) (.cons (.int .i64) (.cons (.int .i64) (.cons .str (.int .i64))))))))], [.boxr (.cons .str (.cons (.int .i64) (.cons (.int .i64) (.sl (.cons .str (.cons (.sl (.cons (.int .i64) (.cons (.int .i64) (.cons .str (.cons .bool (.sl (.cons (.int .i64) (.int .i64)))))))) (.cons .bool (.cons (.int .i64) (.cons (.int .i64) (.cons .str (.cons .bool (.sl (.cons (.int .i64) (.int .i64))))))))))))))]⟩, fun x => declrun_runD x.1.1 x.1.2.1 x.1.2.2.1 x.2.1⟩
theorem con80D : Contract Try.prog 80 fc80D :=
  declrun_runD_D.contract tok (cok_of (l := [(78, fc78), (97, fc97T), (97, fc97D), (98, fc98)]) ⟨con78, con97T, con97D, con98, trivial⟩) mixed (fn' := Try.f80) (by kernel_rfl) (by kernel_rfl) rfl (by kernel_rfl) (fun x => (FD.fn_eq _ _).trans (by kernel_rfl))
end
end Go.Proofs.Ytgjimkgehbppbaa
end

section
/-
Ytgjimkgehbppbaa: signalbench.declrun.run, as one plain function, its equations, its contract. No condition.
-/
set_option maxRecDepth 100000
set_option linter.unusedVariables false
set_option maxHeartbeats 4000000
open Go Go.AM
namespace Go.Proofs.Ytgjimkgehbppbaa
noncomputable section
def declrun_runT_F5 : FSh := ⟨[(0, .one (.int .i64)), (1, .one (.int .i64)), (3, .one (.fn 107 [0])), (9, .one (.own 1)), (10, .one (.ptr 2 0)), (15, .one (.sl (.cons (.int .i64) (.cons (.int .i64) (.cons (.int .i64) (.cons (.int .i64) (.cons (.int .i64) (.cons .str (.int .i64))))))))), (16, .one (.int .i64)), (17, .one (.int .i64))], [.boxr (.cons .str (.cons (.int .i64) (.cons (.int .i64) (.sl (.sl (.cons (.int .i64) (.cons (.int .i64) (.cons (.int .i64) (.sl (.cons (.int .i64) (.int .i64))))))))))), .arr 92 (.cons (.int .i64) (.cons (.int .i64) (.cons (.int .i64) (.cons (.int .i64) (.cons (.int .i64) (.cons .str (.int .i64))))))) true, .boxr (.cons (.int .i64) (.cons (.int .i64) (.cons (.int .i64) (.cons (.int .i64) (.cons (.int .i64) (.cons (.int .i64) (.cons (.int .i64) .str)))))))]⟩
def declrun_runT_D : FD := ⟨T, lookC [(97, fc97T), (97, fc97D), (98, fc98), (107, fc107)], [], (Try.f80.body.getD .skip), Try.f80.results.toList, ⟨[.one (.int .i64), .one (.int .i64), .one (.sl (.cons (.int .i64) (.cons (.int .i64) (.cons (.int .i64) (.cons (.int .i64) (.cons (.int .i64) (.cons .str (.int .i64)))))))), .one (.fn 107 [0])], [.boxr (.cons .str (.cons (.int .i64) (.cons (.int .i64) (.sl (.sl (.cons (.int .i64) (.cons (.int .i64) (.cons (.int .i64) (.sl (.cons (.int .i64) (.int .i64)))))))))))]⟩, ⟨[.one (.sl (.cons (.int .i64) (.cons (.int .i64) (.cons (.int .i64) (.cons (.int .i64) (.cons (.int .i64) (.cons .str (.int .i64))))))))], [.boxr (.cons .str (.cons (.int .i64) (.cons (.int .i64) (.sl (.sl (.cons (.int .i64) (.cons (.int .i64) (.cons (.int .i64) (.sl (.cons (.int .i64) (.int .i64)))))))))))]⟩, [(5, declrun_runT_F5)]⟩
def declrun_runT_l5 (input : Int) (output : Int) (t15 : (List TEvent)) (t16 : Int) (t17 : Int) (h0 : TTable) (l1 : (List TEvent)) (h2 : TState) : (Option (((List TEvent) × Unit) × (TTable × Unit))) := declrun_runT_D.lab 5 declrun_runT_F5 ((input, output, (), (), (), t15, t16, t17, ()), (h0, l1, h2, ()))
theorem declrun_runT_l5_eq (input : Int) (output : Int) (t15 : (List TEvent)) (t16 : Int) (t17 : Int) (h0 : TTable) (l1 : (List TEvent)) (h2 : TState) : declrun_runT_l5 input output t15 t16 t17 h0 l1 h2 =
  if (decide (t17 < t16)) = true then
    if 0 ≤ t17 ∧ t17 < (t15.length : Int) then
      (declrun_stepT input output h2 (t15.getD t17.toNat dEvent) h0).bind fun y1 =>
        if (l1.length + y1.1.2.1.length) * 64 ≤ 140737488355328 ∧ 0 < 64 then
          declrun_runT_l5 input output t15 t16 (IntKind.i64.wrap (t17 + 1)) y1.2.1 (l1 ++ y1.1.2.1) y1.1.1
        else
          none
    else
      none
  else
    (declrun_aborted output h2 h2.2.1).bind fun y2 =>
      if (l1.length + y2.1.1.length) * 64 ≤ 140737488355328 ∧ 0 < 64 then
        some ((l1 ++ y2.1.1, ()), (h0, ()))
      else
        none := (FD.lab_eq _ _ _ _).trans (by kernel_rfl)
def declrun_runT (input : Int) (output : Int) (l : (List TEvent)) (h0 : TTable) : (Option (((List TEvent) × Unit) × (TTable × Unit))) :=
  declrun_runT_l5 input output l (l.length : Int) 0 h0 [] (0, 0, 0, 0, 0, 0, 0, (strB []))
def fc80T : FC := ⟨⟨[.one (.int .i64), .one (.int .i64), .one (.sl (.cons (.int .i64) (.cons (.int .i64) (.cons (.int .i64) (.cons (.int .i64) (.cons (.int .i64) (.cons .str (.int .i64)))))))), .one (.fn 107 [0])], [.boxr (.cons .str (.cons (.int .i64) (.cons (.int .i64) (.sl (.sl (.cons (.int .i64) (.cons (.int .i64) (.cons (.int .i64) (.sl (.cons (.int .i64) (.int .i64)))))))))))]⟩, ⟨[.one (.sl (.cons (.int .i64) (.cons (.int .i64) (.cons (.int .i64) (.cons (.int .i64) (.cons (.int .i64) (.cons .str (.int .i64))))))))], [.boxr (.cons .str (.cons (.int .i64) (.cons (.int .i64) (.sl (.sl (.cons (.int .i64) (.cons (.int .i64) (.cons (.int .i64) (.sl (.cons (.int .i64) (.int .i64)))))))))))]⟩, fun x => declrun_runT x.1.1 x.1.2.1 x.1.2.2.1 x.2.1⟩
theorem con80T : Contract Try.prog 80 fc80T :=
  declrun_runT_D.contract tok (cok_of (l := [(97, fc97T), (97, fc97D), (98, fc98), (107, fc107)]) ⟨con97T, con97D, con98, con107, trivial⟩) mixed (fn' := Try.f80) (by kernel_rfl) (by kernel_rfl) rfl (by kernel_rfl) (fun x => (FD.fn_eq _ _).trans (by kernel_rfl))
end
end Go.Proofs.Ytgjimkgehbppbaa
end

section
/-
Ytgjimkgehbppbaa: signalbench.declrun.Direct, as one plain function, its equations, its contract. No condition.
-/
set_option maxRecDepth 100000
set_option linter.unusedVariables false
set_option maxHeartbeats 4000000
open Go Go.AM
namespace Go.Proofs.Ytgjimkgehbppbaa
noncomputable section
def declrun_Direct_D : FD := ⟨T, lookC [(25, fc25), (78, fc78), (80, fc80T), (80, fc80D)], [], (Try.f46.body.getD .skip), Try.f46.results.toList, ⟨[.row (.cons .str (.cons (.int .i64) (.cons (.int .i64) (.sl (.cons .str (.cons (.sl (.cons (.int .i64) (.cons (.int .i64) (.cons .str (.cons .bool (.sl (.cons (.int .i64) (.int .i64)))))))) (.cons .bool (.cons (.int .i64) (.cons (.int .i64) (.cons .str (.cons .bool (.sl (.cons (.int .i64) (.int .i64)))))))))))))), .one (.sl (.cons (.int .i64) (.cons (.int .i64) (.cons (.int .i64) (.cons (.int .i64) (.cons (.int .i64) (.cons .str (.int .i64))))))))], []⟩, ⟨[.one (.sl (.cons (.int .i64) (.cons (.int .i64) (.cons (.int .i64) (.cons (.int .i64) (.cons (.int .i64) (.cons .str (.int .i64)))))))), .one (.int .i64)], []⟩, []⟩
def declrun_Direct (d : TDecl) (l : (List TEvent)) : (Option (((List TEvent) × Int × Unit) × Unit)) :=
  (declcheck_Check d).bind fun y1 =>
    if (y1.1.1 != 0) = true then
      some (([], y1.1.1, ()), ())
    else
      (declrun_runD d.2.1 d.2.2.1 l d).bind fun y2 =>
        some ((y2.1.1, 0, ()), ())
def fc46 : FC := ⟨⟨[.row (.cons .str (.cons (.int .i64) (.cons (.int .i64) (.sl (.cons .str (.cons (.sl (.cons (.int .i64) (.cons (.int .i64) (.cons .str (.cons .bool (.sl (.cons (.int .i64) (.int .i64)))))))) (.cons .bool (.cons (.int .i64) (.cons (.int .i64) (.cons .str (.cons .bool (.sl (.cons (.int .i64) (.int .i64)))))))))))))), .one (.sl (.cons (.int .i64) (.cons (.int .i64) (.cons (.int .i64) (.cons (.int .i64) (.cons (.int .i64) (.cons .str (.int .i64))))))))], []⟩, ⟨[.one (.sl (.cons (.int .i64) (.cons (.int .i64) (.cons (.int .i64) (.cons (.int .i64) (.cons (.int .i64) (.cons .str (.int .i64)))))))), .one (.int .i64)], []⟩, fun x => declrun_Direct x.1.1 x.1.2.1⟩
theorem con46 : Contract Try.prog 46 fc46 :=
  declrun_Direct_D.contract tok (cok_of (l := [(25, fc25), (78, fc78), (80, fc80T), (80, fc80D)]) ⟨con25, con78, con80T, con80D, trivial⟩) mixed (fn' := Try.f46) (by kernel_rfl) (by kernel_rfl) rfl (by kernel_rfl) (fun x => (FD.fn_eq _ _).trans (by kernel_rfl))
end
end Go.Proofs.Ytgjimkgehbppbaa
end

section
/-
Ytgjimkgehbppbaa: signalbench.signalbenchlaw37.lines, as one plain function, its equations, its contract. No condition.
-/
set_option maxRecDepth 100000
set_option linter.unusedVariables false
set_option maxHeartbeats 4000000
open Go Go.AM
namespace Go.Proofs.Ytgjimkgehbppbaa
noncomputable section
def law37_lines_D : FD := ⟨T, lookC [], [], (Try.f76.body.getD .skip), Try.f76.results.toList, ⟨[], []⟩, ⟨[.row (.cons .str (.cons (.int .i64) (.cons (.int .i64) (.sl (.cons .str (.cons (.sl (.cons (.int .i64) (.cons (.int .i64) (.cons .str (.cons .bool (.sl (.cons (.int .i64) (.int .i64)))))))) (.cons .bool (.cons (.int .i64) (.cons (.int .i64) (.cons .str (.cons .bool (.sl (.cons (.int .i64) (.int .i64))))))))))))))], []⟩, []⟩
def law37_lines : (Option ((TDecl × Unit) × Unit)) :=
  some ((((strB [108, 105, 110, 101, 115]), 3, 6, [((strB [97]), [(10, 10, (strB [97]), false, [(5, 0)])], true, 0, 0, (strB [97]), false, [(2, 0)])]), ()), ())
def fc76 : FC := ⟨⟨[], []⟩, ⟨[.row (.cons .str (.cons (.int .i64) (.cons (.int .i64) (.sl (.cons .str (.cons (.sl (.cons (.int .i64) (.cons (.int .i64) (.cons .str (.cons .bool (.sl (.cons (.int .i64) (.int .i64)))))))) (.cons .bool (.cons (.int .i64) (.cons (.int .i64) (.cons .str (.cons .bool (.sl (.cons (.int .i64) (.int .i64))))))))))))))], []⟩, fun x => law37_lines⟩
theorem con76 : Contract Try.prog 76 fc76 :=
  law37_lines_D.contract tok (cok_of (l := []) trivial) mixed (fn' := Try.f76) (by kernel_rfl) (by kernel_rfl) rfl (by kernel_rfl) (fun x => (FD.fn_eq _ _).trans (by kernel_rfl))
end
end Go.Proofs.Ytgjimkgehbppbaa
end

section
/-
Ytgjimkgehbppbaa: signalbench.lex.letter, as one plain function, its equations, its contract. No condition.
-/
set_option maxRecDepth 100000
set_option linter.unusedVariables false
set_option maxHeartbeats 4000000
open Go Go.AM
namespace Go.Proofs.Ytgjimkgehbppbaa
noncomputable section
def lex_letter_D : FD := ⟨T, lookC [], [], (Try.f89.body.getD .skip), Try.f89.results.toList, ⟨[.one (.int .i32)], []⟩, ⟨[.one .bool], []⟩, []⟩
def lex_letter (c : Int) : (Option ((Bool × Unit) × Unit)) :=
  if (decide ((97 : Int) ≤ c)) = true then
    some ((decide (c ≤ 122), ()), ())
  else
    some ((false, ()), ())
def fc89 : FC := ⟨⟨[.one (.int .i32)], []⟩, ⟨[.one .bool], []⟩, fun x => lex_letter x.1.1⟩
theorem con89 : Contract Try.prog 89 fc89 :=
  lex_letter_D.contract tok (cok_of (l := []) trivial) mixed (fn' := Try.f89) (by kernel_rfl) (by kernel_rfl) rfl (by kernel_rfl) (fun x => (FD.fn_eq _ _).trans (by kernel_rfl))
end
end Go.Proofs.Ytgjimkgehbppbaa
end

section
/-
Ytgjimkgehbppbaa: signalbench.lex.word, as one plain function, its equations, its contract. No condition.
-/
set_option maxRecDepth 100000
set_option linter.unusedVariables false
set_option maxHeartbeats 4000000
open Go Go.AM
namespace Go.Proofs.Ytgjimkgehbppbaa
noncomputable section
def lex_word_D : FD := ⟨T, lookC [(89, fc89), (105, fc105)], [], (Try.f90.body.getD .skip), Try.f90.results.toList, ⟨[.one (.int .i32)], []⟩, ⟨[.one .bool], []⟩, []⟩
def lex_word (c : Int) : (Option ((Bool × Unit) × Unit)) :=
  (lex_letter c).bind fun y1 =>
    if y1.1.1 = true then
      some ((true, ()), ())
    else
      (lex_digit c).bind fun y2 =>
        if y2.1.1 = true then
          some ((true, ()), ())
        else
          some ((c == 95, ()), ())
def fc90 : FC := ⟨⟨[.one (.int .i32)], []⟩, ⟨[.one .bool], []⟩, fun x => lex_word x.1.1⟩
theorem con90 : Contract Try.prog 90 fc90 :=
  lex_word_D.contract tok (cok_of (l := [(89, fc89), (105, fc105)]) ⟨con89, con105, trivial⟩) mixed (fn' := Try.f90) (by kernel_rfl) (by kernel_rfl) rfl (by kernel_rfl) (fun x => (FD.fn_eq _ _).trans (by kernel_rfl))
end
end Go.Proofs.Ytgjimkgehbppbaa
end

section
/-
Ytgjimkgehbppbaa: signalbench.lex.Name, as one plain function, its equations, its contract. No condition.
-/
set_option maxRecDepth 100000
set_option linter.unusedVariables false
set_option maxHeartbeats 4000000
open Go Go.AM
namespace Go.Proofs.Ytgjimkgehbppbaa
noncomputable section
def lex_Name_F6 : FSh := ⟨[(0, .one .str), (19, .one (.int .i64)), (20, .one (.int .i64))], []⟩
def lex_Name_D : FD := ⟨T, lookC [(89, fc89), (90, fc90)], [], (Try.f70.body.getD .skip), Try.f70.results.toList, ⟨[.one .str], []⟩, ⟨[.one .bool], []⟩, [(6, lex_Name_F6)]⟩
def lex_Name_l6 (s : ByteArray) (t19 : Int) (t20 : Int) : (Option ((Bool × Unit) × Unit)) := lex_Name_D.lab 6 lex_Name_F6 ((s, t19, t20, ()), ())
theorem lex_Name_l6_eq (s : ByteArray) (t19 : Int) (t20 : Int) : lex_Name_l6 s t19 t20 =
  if (decide (t20 < t19)) = true then
    if 0 ≤ t20 ∧ t20 < (s.size : Int) then
      (lex_word (IntKind.i32.wrap (bt s t20))).bind fun y1 =>
        if (!y1.1.1) = true then
          some ((false, ()), ())
        else
          lex_Name_l6 s t19 (IntKind.i64.wrap (t20 + 1))
    else
      none
  else
    some ((true, ()), ()) := (FD.lab_eq _ _ _ _).trans (by kernel_rfl)
def lex_Name (s : ByteArray) : (Option ((Bool × Unit) × Unit)) :=
  if (s.toList == (strB []).toList) = true then
    some ((false, ()), ())
  else
    if (decide ((s.size : Int) > 16)) = true then
      some ((false, ()), ())
    else
      if 0 ≤ (0 : Int) ∧ 0 < (s.size : Int) then
        (lex_letter (IntKind.i32.wrap (bt s 0))).bind fun y1 =>
          if (!y1.1.1) = true then
            some ((false, ()), ())
          else
            lex_Name_l6 s (s.size : Int) 0
      else
        none
def fc70 : FC := ⟨⟨[.one .str], []⟩, ⟨[.one .bool], []⟩, fun x => lex_Name x.1.1⟩
theorem con70 : Contract Try.prog 70 fc70 :=
  lex_Name_D.contract tok (cok_of (l := [(89, fc89), (90, fc90)]) ⟨con89, con90, trivial⟩) mixed (fn' := Try.f70) (by kernel_rfl) (by kernel_rfl) rfl (by kernel_rfl) (fun x => (FD.fn_eq _ _).trans (by kernel_rfl))
end
end Go.Proofs.Ytgjimkgehbppbaa
end

section
/-
Ytgjimkgehbppbaa: signalbench.decltab.act, as one plain function, its equations, its contract. No condition.
-/
set_option maxRecDepth 100000
set_option linter.unusedVariables false
set_option maxHeartbeats 4000000
open Go Go.AM
namespace Go.Proofs.Ytgjimkgehbppbaa
noncomputable section
def decltab_act_D : FD := ⟨T, lookC [], [], (Try.f91.body.getD .skip), Try.f91.results.toList, ⟨[.row (.cons (.int .i64) (.int .i64))], []⟩, ⟨[.one .bool], []⟩, []⟩
def decltab_act (a : TAct) : (Option ((Bool × Unit) × Unit)) :=
  if (decide (a.1 < 1)) = true then
    some ((false, ()), ())
  else
    if (decide (a.1 > 6)) = true then
      some ((false, ()), ())
    else
      if (decide (a.2 < 0)) = true then
        some ((false, ()), ())
      else
        if (decide (a.2 > 255)) = true then
          some ((false, ()), ())
        else
          if (decide (a.1 ≤ 2)) = true then
            if (a.2 != 0) = true then
              some ((false, ()), ())
            else
              if (a.1 != 6) = true then
                some ((true, ()), ())
              else
                if (decide (a.2 ≥ 1)) = true then
                  some ((decide (a.2 ≤ 12), ()), ())
                else
                  some ((false, ()), ())
          else
            if (a.1 != 6) = true then
              some ((true, ()), ())
            else
              if (decide (a.2 ≥ 1)) = true then
                some ((decide (a.2 ≤ 12), ()), ())
              else
                some ((false, ()), ())
def fc91 : FC := ⟨⟨[.row (.cons (.int .i64) (.int .i64))], []⟩, ⟨[.one .bool], []⟩, fun x => decltab_act x.1.1⟩
theorem con91 : Contract Try.prog 91 fc91 :=
  decltab_act_D.contract tok (cok_of (l := []) trivial) mixed (fn' := Try.f91) (by kernel_rfl) (by kernel_rfl) rfl (by kernel_rfl) (fun x => (FD.fn_eq _ _).trans (by kernel_rfl))
end
end Go.Proofs.Ytgjimkgehbppbaa
end

section
/-
Ytgjimkgehbppbaa: signalbench.decltab.cell, as one plain function, its equations, its contract. No condition.
-/
set_option maxRecDepth 100000
set_option linter.unusedVariables false
set_option maxHeartbeats 4000000
open Go Go.AM
namespace Go.Proofs.Ytgjimkgehbppbaa
noncomputable section
def decltab_cell_F4 : FSh := ⟨[(3, .one (.ptr 0 0)), (4, .one (.ptr 1 0)), (14, .one .bool)], [.boxr (.cons .str (.cons (.int .i64) (.cons (.int .i64) (.sl (.sl (.cons (.int .i64) (.cons (.int .i64) (.cons (.int .i64) (.sl (.cons (.int .i64) (.int .i64))))))))))), .boxr (.cons (.int .i64) (.cons (.int .i64) (.cons (.int .i64) (.sl (.cons (.int .i64) (.int .i64))))))]⟩
def decltab_cell_F12 : FSh := ⟨[(43, .one (.sl (.cons (.int .i64) (.int .i64)))), (44, .one (.int .i64)), (45, .one (.int .i64))], []⟩
def decltab_cell_D : FD := ⟨T, lookC [(65, fc65), (91, fc91)], [4], (Try.f71.body.getD .skip), Try.f71.results.toList, ⟨[.row (.cons .str (.cons (.int .i64) (.cons (.int .i64) (.sl (.sl (.cons (.int .i64) (.cons (.int .i64) (.cons (.int .i64) (.sl (.cons (.int .i64) (.int .i64))))))))))), .row (.cons (.int .i64) (.cons (.int .i64) (.cons (.int .i64) (.sl (.cons (.int .i64) (.int .i64)))))), .one (.int .i64)], []⟩, ⟨[.one (.int .i64)], []⟩, [(4, decltab_cell_F4), (12, decltab_cell_F12)]⟩
def decltab_cell_l4 (t14 : Bool) (h0 : TTable) (h1 : TCell) : (Option ((Int × Unit) × Unit)) := decltab_cell_D.lab 4 decltab_cell_F4 (((), (), t14, ()), (h0, h1, ()))
def decltab_cell_l12 (t43 : (List TAct)) (t44 : Int) (t45 : Int) : (Option ((Int × Unit) × Unit)) := decltab_cell_D.lab 12 decltab_cell_F12 ((t43, t44, t45, ()), ())
theorem decltab_cell_l4_eq (t14 : Bool) (h0 : TTable) (h1 : TCell) : decltab_cell_l4 t14 h0 h1 =
  if t14 = true then
    some ((7, ()), ())
  else
    if (decide (h1.2.2.1 < 0)) = true then
      some ((8, ()), ())
    else
      if (decide (h1.2.2.1 ≥ (h0.2.2.2.length : Int))) = true then
        some ((8, ()), ())
      else
        decltab_cell_l12 h1.2.2.2 (h1.2.2.2.length : Int) 0 := (FD.lab_eq _ _ _ _).trans (by kernel_rfl)
theorem decltab_cell_l12_eq (t43 : (List TAct)) (t44 : Int) (t45 : Int) : decltab_cell_l12 t43 t44 t45 =
  if (decide (t45 < t44)) = true then
    if 0 ≤ t45 ∧ t45 < (t43.length : Int) then
      (decltab_act (t43.getD t45.toNat dAct)).bind fun y1 =>
        if (!y1.1.1) = true then
          some ((2, ()), ())
        else
          decltab_cell_l12 t43 t44 (IntKind.i64.wrap (t45 + 1))
    else
      none
  else
    some ((0, ()), ()) := (FD.lab_eq _ _ _ _).trans (by kernel_rfl)
def decltab_cell (t : TTable) (c : TCell) (first : Int) : (Option ((Int × Unit) × Unit)) :=
  if (decide ((c.2.2.2.length : Int) > 64)) = true then
    some ((6, ()), ())
  else
    if (c.1 != first) = true then
      decltab_cell_l4 true t c
    else
      if (decide (c.2.1 < c.1)) = true then
        decltab_cell_l4 true t c
      else
        (decltab_top t.2.1).bind fun y1 =>
          decltab_cell_l4 (decide (c.2.1 > y1.1.1)) t c
def fc71 : FC := ⟨⟨[.row (.cons .str (.cons (.int .i64) (.cons (.int .i64) (.sl (.sl (.cons (.int .i64) (.cons (.int .i64) (.cons (.int .i64) (.sl (.cons (.int .i64) (.int .i64))))))))))), .row (.cons (.int .i64) (.cons (.int .i64) (.cons (.int .i64) (.sl (.cons (.int .i64) (.int .i64)))))), .one (.int .i64)], []⟩, ⟨[.one (.int .i64)], []⟩, fun x => decltab_cell x.1.1 x.1.2.1 x.1.2.2.1⟩
theorem con71 : Contract Try.prog 71 fc71 :=
  decltab_cell_D.contract tok (cok_of (l := [(65, fc65), (91, fc91)]) ⟨con65, con91, trivial⟩) mixed (fn' := Try.f71) (by kernel_rfl) (by kernel_rfl) rfl (by kernel_rfl) (fun x => (FD.fn_eq _ _).trans (by kernel_rfl))
end
end Go.Proofs.Ytgjimkgehbppbaa
end

section
/-
Ytgjimkgehbppbaa: signalbench.decltab.Check, as one plain function, its equations, its contract. No condition.
-/
set_option maxRecDepth 100000
set_option linter.unusedVariables false
set_option maxHeartbeats 4000000
open Go Go.AM
namespace Go.Proofs.Ytgjimkgehbppbaa
noncomputable section
def decltab_Check_F4 : FSh := ⟨[(1, .one (.ptr 0 0)), (14, .one .bool)], [.boxr (.cons .str (.cons (.int .i64) (.cons (.int .i64) (.sl (.sl (.cons (.int .i64) (.cons (.int .i64) (.cons (.int .i64) (.sl (.cons (.int .i64) (.int .i64)))))))))))]⟩
def decltab_Check_F11 : FSh := ⟨[(1, .one (.ptr 0 0)), (43, .one (.sl (.sl (.cons (.int .i64) (.cons (.int .i64) (.cons (.int .i64) (.sl (.cons (.int .i64) (.int .i64))))))))), (44, .one (.int .i64)), (45, .one (.int .i64))], [.boxr (.cons .str (.cons (.int .i64) (.cons (.int .i64) (.sl (.sl (.cons (.int .i64) (.cons (.int .i64) (.cons (.int .i64) (.sl (.cons (.int .i64) (.int .i64)))))))))))]⟩
def decltab_Check_F19 : FSh := ⟨[(1, .one (.ptr 0 0)), (5, .one (.int .i64)), (43, .one (.sl (.sl (.cons (.int .i64) (.cons (.int .i64) (.cons (.int .i64) (.sl (.cons (.int .i64) (.int .i64))))))))), (44, .one (.int .i64)), (45, .one (.int .i64)), (49, .one (.sl (.cons (.int .i64) (.cons (.int .i64) (.cons (.int .i64) (.sl (.cons (.int .i64) (.int .i64)))))))), (50, .one (.int .i64)), (51, .one (.int .i64))], [.boxr (.cons .str (.cons (.int .i64) (.cons (.int .i64) (.sl (.sl (.cons (.int .i64) (.cons (.int .i64) (.cons (.int .i64) (.sl (.cons (.int .i64) (.int .i64)))))))))))]⟩
def decltab_Check_D : FD := ⟨T, lookC [(65, fc65), (70, fc70), (71, fc71)], [4], (Try.f36.body.getD .skip), Try.f36.results.toList, ⟨[.row (.cons .str (.cons (.int .i64) (.cons (.int .i64) (.sl (.sl (.cons (.int .i64) (.cons (.int .i64) (.cons (.int .i64) (.sl (.cons (.int .i64) (.int .i64)))))))))))], []⟩, ⟨[.one (.int .i64)], []⟩, [(4, decltab_Check_F4), (11, decltab_Check_F11), (19, decltab_Check_F19)]⟩
def decltab_Check_l4 (t14 : Bool) (h0 : TTable) : (Option ((Int × Unit) × Unit)) := decltab_Check_D.lab 4 decltab_Check_F4 (((), t14, ()), (h0, ()))
def decltab_Check_l11 (t43 : (List (List TCell))) (t44 : Int) (t45 : Int) (h0 : TTable) : (Option ((Int × Unit) × Unit)) := decltab_Check_D.lab 11 decltab_Check_F11 (((), t43, t44, t45, ()), (h0, ()))
def decltab_Check_l19 (first : Int) (t43 : (List (List TCell))) (t44 : Int) (t45 : Int) (t49 : (List TCell)) (t50 : Int) (t51 : Int) (h0 : TTable) : (Option ((Int × Unit) × Unit)) := decltab_Check_D.lab 19 decltab_Check_F19 (((), first, t43, t44, t45, t49, t50, t51, ()), (h0, ()))
theorem decltab_Check_l4_eq (t14 : Bool) (h0 : TTable) : decltab_Check_l4 t14 h0 =
  if t14 = true then
    some ((1, ()), ())
  else
    if ((h0.2.2.2.length : Int) == 0) = true then
      some ((6, ()), ())
    else
      if (decide ((h0.2.2.2.length : Int) > 32)) = true then
        some ((6, ()), ())
      else
        decltab_Check_l11 h0.2.2.2 (h0.2.2.2.length : Int) 0 h0 := (FD.lab_eq _ _ _ _).trans (by kernel_rfl)
theorem decltab_Check_l11_eq (t43 : (List (List TCell))) (t44 : Int) (t45 : Int) (h0 : TTable) : decltab_Check_l11 t43 t44 t45 h0 =
  if (decide (t45 < t44)) = true then
    if 0 ≤ t45 ∧ t45 < (t43.length : Int) then
      decltab_Check_l19 0 t43 t44 t45 (t43.getD t45.toNat []) ((t43.getD t45.toNat []).length : Int) 0 h0
    else
      none
  else
    some ((0, ()), ()) := (FD.lab_eq _ _ _ _).trans (by kernel_rfl)
theorem decltab_Check_l19_eq (first : Int) (t43 : (List (List TCell))) (t44 : Int) (t45 : Int) (t49 : (List TCell)) (t50 : Int) (t51 : Int) (h0 : TTable) : decltab_Check_l19 first t43 t44 t45 t49 t50 t51 h0 =
  if (decide (t51 < t50)) = true then
    if 0 ≤ t51 ∧ t51 < (t49.length : Int) then
      (decltab_cell h0 (t49.getD t51.toNat dCell) first).bind fun y1 =>
        if (y1.1.1 != 0) = true then
          some ((y1.1.1, ()), ())
        else
          decltab_Check_l19 (IntKind.i64.wrap ((t49.getD t51.toNat dCell).2.1 + 1)) t43 t44 t45 t49 t50 (IntKind.i64.wrap (t51 + 1)) h0
    else
      none
  else
    (decltab_top h0.2.1).bind fun y2 =>
      if (first != (IntKind.i64.wrap (y2.1.1 + 1))) = true then
        some ((14, ()), ())
      else
        decltab_Check_l11 t43 t44 (IntKind.i64.wrap (t45 + 1)) h0 := (FD.lab_eq _ _ _ _).trans (by kernel_rfl)
def decltab_Check (t : TTable) : (Option ((Int × Unit) × Unit)) :=
  (lex_Name t.1).bind fun y1 =>
    if (!y1.1.1) = true then
      some ((4, ()), ())
    else
      if (t.2.1 != 2) = true then
        if (t.2.1 != 3) = true then
          decltab_Check_l4 true t
        else
          if (t.2.2.1 != 5) = true then
            decltab_Check_l4 (t.2.2.1 != 6) t
          else
            decltab_Check_l4 false t
      else
        if (t.2.2.1 != 5) = true then
          decltab_Check_l4 (t.2.2.1 != 6) t
        else
          decltab_Check_l4 false t
def fc36 : FC := ⟨⟨[.row (.cons .str (.cons (.int .i64) (.cons (.int .i64) (.sl (.sl (.cons (.int .i64) (.cons (.int .i64) (.cons (.int .i64) (.sl (.cons (.int .i64) (.int .i64)))))))))))], []⟩, ⟨[.one (.int .i64)], []⟩, fun x => decltab_Check x.1.1⟩
theorem con36 : Contract Try.prog 36 fc36 :=
  decltab_Check_D.contract tok (cok_of (l := [(65, fc65), (70, fc70), (71, fc71)]) ⟨con65, con70, con71, trivial⟩) mixed (fn' := Try.f36) (by kernel_rfl) (by kernel_rfl) rfl (by kernel_rfl) (fun x => (FD.fn_eq _ _).trans (by kernel_rfl))
end
end Go.Proofs.Ytgjimkgehbppbaa
end

section
/-
Ytgjimkgehbppbaa: signalbench.declrun.look, as one plain function, its equations, its contract. No condition.
-/
set_option maxRecDepth 100000
set_option linter.unusedVariables false
set_option maxHeartbeats 4000000
open Go Go.AM
namespace Go.Proofs.Ytgjimkgehbppbaa
noncomputable section
def declrun_look_D : FD := ⟨T, lookC [(107, fc107)], [], (Try.f95.body.getD .skip), Try.f95.results.toList, ⟨[.row (.cons .str (.cons (.int .i64) (.cons (.int .i64) (.sl (.sl (.cons (.int .i64) (.cons (.int .i64) (.cons (.int .i64) (.sl (.cons (.int .i64) (.int .i64)))))))))))], []⟩, ⟨[.one (.fn 107 [0])], [.boxr (.cons .str (.cons (.int .i64) (.cons (.int .i64) (.sl (.sl (.cons (.int .i64) (.cons (.int .i64) (.cons (.int .i64) (.sl (.cons (.int .i64) (.int .i64)))))))))))]⟩, []⟩
def declrun_look (t : TTable) : (Option ((Unit × Unit) × (TTable × Unit))) :=
  some (((), ()), (t, ()))
def fc95 : FC := ⟨⟨[.row (.cons .str (.cons (.int .i64) (.cons (.int .i64) (.sl (.sl (.cons (.int .i64) (.cons (.int .i64) (.cons (.int .i64) (.sl (.cons (.int .i64) (.int .i64)))))))))))], []⟩, ⟨[.one (.fn 107 [0])], [.boxr (.cons .str (.cons (.int .i64) (.cons (.int .i64) (.sl (.sl (.cons (.int .i64) (.cons (.int .i64) (.cons (.int .i64) (.sl (.cons (.int .i64) (.int .i64)))))))))))]⟩, fun x => declrun_look x.1.1⟩
theorem con95 : Contract Try.prog 95 fc95 :=
  declrun_look_D.contract tok (cok_of (l := [(107, fc107)]) ⟨con107, trivial⟩) mixed (fn' := Try.f95) (by kernel_rfl) (by kernel_rfl) rfl (by kernel_rfl) (fun x => (FD.fn_eq _ _).trans (by kernel_rfl))
end
end Go.Proofs.Ytgjimkgehbppbaa
end

section
/-
Ytgjimkgehbppbaa: signalbench.declrun.Decode, as one plain function, its equations, its contract. No condition.
-/
set_option maxRecDepth 100000
set_option linter.unusedVariables false
set_option maxHeartbeats 4000000
open Go Go.AM
namespace Go.Proofs.Ytgjimkgehbppbaa
noncomputable section
def declrun_Decode_D : FD := ⟨T, lookC [(36, fc36), (80, fc80T), (80, fc80D), (95, fc95)], [], (Try.f77.body.getD .skip), Try.f77.results.toList, ⟨[.row (.cons .str (.cons (.int .i64) (.cons (.int .i64) (.sl (.sl (.cons (.int .i64) (.cons (.int .i64) (.cons (.int .i64) (.sl (.cons (.int .i64) (.int .i64))))))))))), .one (.sl (.cons (.int .i64) (.cons (.int .i64) (.cons (.int .i64) (.cons (.int .i64) (.cons (.int .i64) (.cons .str (.int .i64))))))))], []⟩, ⟨[.one (.sl (.cons (.int .i64) (.cons (.int .i64) (.cons (.int .i64) (.cons (.int .i64) (.cons (.int .i64) (.cons .str (.int .i64))))))))], []⟩, []⟩
def declrun_Decode (t : TTable) (l : (List TEvent)) : (Option (((List TEvent) × Unit) × Unit)) :=
  (decltab_Check t).bind fun y1 =>
    if (y1.1.1 != 0) = true then
      some (([], ()), ())
    else
      (declrun_look t).bind fun y2 =>
        (declrun_runT t.2.1 t.2.2.1 l y2.2.1).bind fun y3 =>
          some ((y3.1.1, ()), ())
def fc77 : FC := ⟨⟨[.row (.cons .str (.cons (.int .i64) (.cons (.int .i64) (.sl (.sl (.cons (.int .i64) (.cons (.int .i64) (.cons (.int .i64) (.sl (.cons (.int .i64) (.int .i64))))))))))), .one (.sl (.cons (.int .i64) (.cons (.int .i64) (.cons (.int .i64) (.cons (.int .i64) (.cons (.int .i64) (.cons .str (.int .i64))))))))], []⟩, ⟨[.one (.sl (.cons (.int .i64) (.cons (.int .i64) (.cons (.int .i64) (.cons (.int .i64) (.cons (.int .i64) (.cons .str (.int .i64))))))))], []⟩, fun x => declrun_Decode x.1.1 x.1.2.1⟩
theorem con77 : Contract Try.prog 77 fc77 :=
  declrun_Decode_D.contract tok (cok_of (l := [(36, fc36), (80, fc80T), (80, fc80D), (95, fc95)]) ⟨con36, con80T, con80D, con95, trivial⟩) mixed (fn' := Try.f77) (by kernel_rfl) (by kernel_rfl) rfl (by kernel_rfl) (fun x => (FD.fn_eq _ _).trans (by kernel_rfl))
end
end Go.Proofs.Ytgjimkgehbppbaa
end
