/-
The plain functions of the program that the law DeclrunDecodes reaches, that the program computes them, and what they come to. No condition.
-/
import Derived.Test.YtgjimkgehbppbabRows
import Derived.Test.YtgjimkgehbppbabChecked
import Derived.WalkKit
import Derived.Laws.RangeString
import Derived.Laws.RangeAny
import Derived.LoopTactic
import Derived.Below
import Derived.Test.YtgjimkgehbppbabAm1
import Derived.Test.YtgjimkgehbppbabAm2
import Derived.Test.YtgjimkgehbppbabAm3
set_option linter.unusedVariables false
set_option linter.unusedSimpArgs false
set_option linter.unusedSectionVars false

section
/-
Ytgjimkgehbppbab: the given measure of what is read is the machine's. No condition.
-/
namespace Go.Proofs.Ytgjimkgehbppbab
open Go

mutual
theorem bulk_eq {H : Type} : ∀ d : DataW H, Rows.uptoBulk d = AM.bulkW d
  | .lit (.string _) => by simp [Rows.uptoBulk, AM.bulkW]
  | .lit (.bool _) => by simp [Rows.uptoBulk, AM.bulkW]
  | .lit (.int _ _) => by simp [Rows.uptoBulk, AM.bulkW]
  | .lit (.float _ _) => by simp [Rows.uptoBulk, AM.bulkW]
  | .lit .nil => by simp [Rows.uptoBulk, AM.bulkW]
  | .nil => by simp [Rows.uptoBulk, AM.bulkW]
  | .ptr d => by simp [Rows.uptoBulk, AM.bulkW, bulk_eq d]
  | .slice a b => by simp [Rows.uptoBulk, AM.bulkW, bulkAll_eq a, bulkAll_eq b]
  | .agg a => by simp [Rows.uptoBulk, AM.bulkW, bulkAll_eq a]
  | .iface _ d => by simp [Rows.uptoBulk, AM.bulkW, bulk_eq d]
  | .map es => by simp [Rows.uptoBulk, AM.bulkW, bulkEntries_eq es]
  | .held _ => by simp [Rows.uptoBulk, AM.bulkW]
theorem bulkAll_eq {H : Type} : ∀ l : List (DataW H), Rows.uptoBulkAll l = AM.bulkAll l
  | [] => by simp [Rows.uptoBulkAll, AM.bulkAll]
  | d :: r => by simp [Rows.uptoBulkAll, AM.bulkAll, bulk_eq d, bulkAll_eq r]
theorem bulkEntries_eq {H : Type} : ∀ l : List (Lit × DataW H), Rows.uptoBulkEntries l = AM.bulkEntries l
  | [] => by simp [Rows.uptoBulkEntries, AM.bulkEntries]
  | x :: r => by simp [Rows.uptoBulkEntries, AM.bulkEntries, bulkEntry_eq x, bulkEntries_eq r]
theorem bulkEntry_eq {H : Type} : ∀ x : Lit × DataW H, Rows.uptoBulkEntry x = AM.bulkEntry x
  | (.string _, d) => by simp [Rows.uptoBulkEntry, AM.bulkEntry, bulk_eq d]
  | (.bool _, d) => by simp [Rows.uptoBulkEntry, AM.bulkEntry, bulk_eq d]
  | (.int _ _, d) => by simp [Rows.uptoBulkEntry, AM.bulkEntry, bulk_eq d]
  | (.float _ _, d) => by simp [Rows.uptoBulkEntry, AM.bulkEntry, bulk_eq d]
  | (.nil, d) => by simp [Rows.uptoBulkEntry, AM.bulkEntry, bulk_eq d]
end

theorem bulk_bound {H : Type} {l : List (DataW H)} (hk : Rows.uptoSmall H l = true) : AM.bulkAll l ≤ 1048576 := by
  rw [← bulkAll_eq]
  exact of_decide_eq_true hk

theorem own : ownKnob Try.prog.godebug = none := by kernel_rfl
theorem laidOut : laidOutB Try.prog = true := by kernel_rfl

end Go.Proofs.Ytgjimkgehbppbab
end

section
/-
Ytgjimkgehbppbab: the types that the functions use. No condition.
-/
set_option maxRecDepth 100000
open Go Go.AM
namespace Go.Proofs.Ytgjimkgehbppbab
noncomputable section
instance zoneI : Inhabited ZMem := noZone
abbrev TAct : Type := Int × Int
abbrev uAct : U := (.cons (.int .i64) (.int .i64))
def dAct : TAct := (0, 0)
abbrev TRule : Type := Int × Int × ByteArray × Bool × (List TAct)
abbrev uRule : U := (.cons (.int .i64) (.cons (.int .i64) (.cons .str (.cons .bool (.sl (.cons (.int .i64) (.int .i64)))))))
def dRule : TRule := (0, (0, ((strB []), (false, []))))
abbrev TDeclState : Type := ByteArray × (List TRule) × Bool × TRule
abbrev uDeclState : U := (.cons .str (.cons (.sl (.cons (.int .i64) (.cons (.int .i64) (.cons .str (.cons .bool (.sl (.cons (.int .i64) (.int .i64)))))))) (.cons .bool (.cons (.int .i64) (.cons (.int .i64) (.cons .str (.cons .bool (.sl (.cons (.int .i64) (.int .i64))))))))))
def dDeclState : TDeclState := ((strB []), ([], (false, dRule)))
abbrev TDecl : Type := ByteArray × Int × Int × (List TDeclState)
abbrev uDecl : U := (.cons .str (.cons (.int .i64) (.cons (.int .i64) (.sl (.cons .str (.cons (.sl (.cons (.int .i64) (.cons (.int .i64) (.cons .str (.cons .bool (.sl (.cons (.int .i64) (.int .i64)))))))) (.cons .bool (.cons (.int .i64) (.cons (.int .i64) (.cons .str (.cons .bool (.sl (.cons (.int .i64) (.int .i64))))))))))))))
def dDecl : TDecl := ((strB []), (0, (0, [])))
abbrev TEvent : Type := Int × Int × Int × Int × Int × ByteArray × Int
abbrev uEvent : U := (.cons (.int .i64) (.cons (.int .i64) (.cons (.int .i64) (.cons (.int .i64) (.cons (.int .i64) (.cons .str (.int .i64)))))))
def dEvent : TEvent := (0, (0, (0, (0, (0, ((strB []), 0))))))
abbrev Tresult : Type := Int × (List TAct)
abbrev uresult : U := (.cons (.int .i64) (.sl (.cons (.int .i64) (.int .i64))))
def dresult : Tresult := (0, [])
abbrev TCell : Type := Int × Int × Tresult
abbrev uCell : U := (.cons (.int .i64) (.cons (.int .i64) (.cons (.int .i64) (.sl (.cons (.int .i64) (.int .i64))))))
def dCell : TCell := (0, (0, dresult))
abbrev TTable : Type := ByteArray × Int × Int × (List (List TCell))
abbrev uTable : U := (.cons .str (.cons (.int .i64) (.cons (.int .i64) (.sl (.sl (.cons (.int .i64) (.cons (.int .i64) (.cons (.int .i64) (.sl (.cons (.int .i64) (.int .i64)))))))))))
def dTable : TTable := ((strB []), (0, (0, [])))
abbrev TState : Type := Int × Int × Int × Int × Int × Int × Int × ByteArray
abbrev uState : U := (.cons (.int .i64) (.cons (.int .i64) (.cons (.int .i64) (.cons (.int .i64) (.cons (.int .i64) (.cons (.int .i64) (.cons (.int .i64) .str)))))))
def dState : TState := (0, (0, (0, (0, (0, (0, (0, (strB []))))))))
abbrev Twork : Type := TState × TEvent × Int × (List TEvent)
abbrev uwork : U := (.cons (.cons (.int .i64) (.cons (.int .i64) (.cons (.int .i64) (.cons (.int .i64) (.cons (.int .i64) (.cons (.int .i64) (.cons (.int .i64) .str))))))) (.cons (.cons (.int .i64) (.cons (.int .i64) (.cons (.int .i64) (.cons (.int .i64) (.cons (.int .i64) (.cons .str (.int .i64))))))) (.cons (.int .i64) (.sl (.cons (.int .i64) (.cons (.int .i64) (.cons (.int .i64) (.cons (.int .i64) (.cons (.int .i64) (.cons .str (.int .i64)))))))))))
def dwork : Twork := (dState, (dEvent, (0, [])))
def TL : List (Nat × TD) := [
  (3, ⟨.int .i64, 1, 8, [.val (.int .i64 0)], some (.int .i64), false, []⟩),
  (4, ⟨.bool, 1, 1, [.val (.bool false)], some .bool, false, []⟩),
  (5, ⟨.int .u8, 1, 1, [.val (.int .u8 0)], some (.int .u8), false, []⟩),
  (9, ⟨.string, 1, 16, [.val (.string ⟨#[]⟩)], some .str, false, []⟩),
  (21, ⟨.int .i32, 1, 4, [.val (.int .i32 0)], some (.int .i32), false, []⟩),
  (22, ⟨.slice 56, 1, 24, [.val (.slice none 0 0)], some (.sl (.cons .str (.cons (.sl (.cons (.int .i64) (.cons (.int .i64) (.cons .str (.cons .bool (.sl (.cons (.int .i64) (.int .i64)))))))) (.cons .bool (.cons (.int .i64) (.cons (.int .i64) (.cons .str (.cons .bool (.sl (.cons (.int .i64) (.int .i64))))))))))), false, []⟩),
  (24, ⟨(Try.t23.desc), 4, 56, [.val (.string ⟨#[]⟩), .val (.int .i64 0), .val (.int .i64 0), .val (.slice none 0 0)], some (.cons .str (.cons (.int .i64) (.cons (.int .i64) (.sl (.cons .str (.cons (.sl (.cons (.int .i64) (.cons (.int .i64) (.cons .str (.cons .bool (.sl (.cons (.int .i64) (.int .i64)))))))) (.cons .bool (.cons (.int .i64) (.cons (.int .i64) (.cons .str (.cons .bool (.sl (.cons (.int .i64) (.int .i64)))))))))))))), false, [(0, 1), (1, 1), (2, 1), (3, 1)]⟩),
  (25, ⟨.slice 41, 1, 24, [.val (.slice none 0 0)], some (.sl (.cons (.int .i64) (.cons (.int .i64) (.cons (.int .i64) (.cons (.int .i64) (.cons (.int .i64) (.cons .str (.int .i64)))))))), false, []⟩),
  (29, ⟨.slice 62, 1, 24, [.val (.slice none 0 0)], some (.sl (.sl (.cons (.int .i64) (.cons (.int .i64) (.cons (.int .i64) (.sl (.cons (.int .i64) (.int .i64)))))))), false, []⟩),
  (31, ⟨(Try.t30.desc), 4, 56, [.val (.string ⟨#[]⟩), .val (.int .i64 0), .val (.int .i64 0), .val (.slice none 0 0)], some (.cons .str (.cons (.int .i64) (.cons (.int .i64) (.sl (.sl (.cons (.int .i64) (.cons (.int .i64) (.cons (.int .i64) (.sl (.cons (.int .i64) (.int .i64))))))))))), false, [(0, 1), (1, 1), (2, 1), (3, 1)]⟩),
  (32, ⟨.int .i64, 1, 8, [.val (.int .i64 0)], some (.int .i64), false, []⟩),
  (41, ⟨(Try.t40.desc), 7, 64, [.val (.int .i64 0), .val (.int .i64 0), .val (.int .i64 0), .val (.int .i64 0), .val (.int .i64 0), .val (.string ⟨#[]⟩), .val (.int .i64 0)], some (.cons (.int .i64) (.cons (.int .i64) (.cons (.int .i64) (.cons (.int .i64) (.cons (.int .i64) (.cons .str (.int .i64))))))), true, [(0, 1), (1, 1), (2, 1), (3, 1), (4, 1), (5, 1), (6, 1)]⟩),
  (45, ⟨(Try.t44.desc), 8, 72, [.val (.int .i64 0), .val (.int .i64 0), .val (.int .i64 0), .val (.int .i64 0), .val (.int .i64 0), .val (.int .i64 0), .val (.int .i64 0), .val (.string ⟨#[]⟩)], some (.cons (.int .i64) (.cons (.int .i64) (.cons (.int .i64) (.cons (.int .i64) (.cons (.int .i64) (.cons (.int .i64) (.cons (.int .i64) .str))))))), false, [(0, 1), (1, 1), (2, 1), (3, 1), (4, 1), (5, 1), (6, 1), (7, 1)]⟩),
  (51, ⟨.slice 54, 1, 24, [.val (.slice none 0 0)], some (.sl (.cons (.int .i64) (.cons (.int .i64) (.cons .str (.cons .bool (.sl (.cons (.int .i64) (.int .i64)))))))), false, []⟩),
  (52, ⟨.slice 90, 1, 24, [.val (.slice none 0 0)], some (.sl (.cons (.int .i64) (.int .i64))), false, []⟩),
  (54, ⟨(Try.t53.desc), 5, 64, [.val (.int .i64 0), .val (.int .i64 0), .val (.string ⟨#[]⟩), .val (.bool false), .val (.slice none 0 0)], some (.cons (.int .i64) (.cons (.int .i64) (.cons .str (.cons .bool (.sl (.cons (.int .i64) (.int .i64))))))), false, [(0, 1), (1, 1), (2, 1), (3, 1), (4, 1)]⟩),
  (56, ⟨(Try.t55.desc), 8, 112, [.val (.string ⟨#[]⟩), .val (.slice none 0 0), .val (.bool false), .val (.int .i64 0), .val (.int .i64 0), .val (.string ⟨#[]⟩), .val (.bool false), .val (.slice none 0 0)], some (.cons .str (.cons (.sl (.cons (.int .i64) (.cons (.int .i64) (.cons .str (.cons .bool (.sl (.cons (.int .i64) (.int .i64)))))))) (.cons .bool (.cons (.int .i64) (.cons (.int .i64) (.cons .str (.cons .bool (.sl (.cons (.int .i64) (.int .i64)))))))))), false, [(0, 1), (1, 1), (2, 1), (3, 5)]⟩),
  (60, ⟨.pointer 66, 1, 8, [.val (.pointer none)], none, false, []⟩),
  (61, ⟨(Try.t61.desc), 1, 8, [.val (.nilFunc)], none, false, []⟩),
  (62, ⟨.slice 72, 1, 24, [.val (.slice none 0 0)], some (.sl (.cons (.int .i64) (.cons (.int .i64) (.cons (.int .i64) (.sl (.cons (.int .i64) (.int .i64))))))), false, []⟩),
  (64, ⟨(Try.t63.desc), 2, 32, [.val (.int .i64 0), .val (.slice none 0 0)], some (.cons (.int .i64) (.sl (.cons (.int .i64) (.int .i64)))), false, [(0, 1), (1, 1)]⟩),
  (66, ⟨(Try.t65.desc), 4, 64, [.val (.slice none 0 0), .val (.int .i64 0), .val (.slice none 0 0), .val (.nilFunc)], none, false, [(0, 1), (1, 2), (3, 1)]⟩),
  (72, ⟨(Try.t71.desc), 4, 48, [.val (.int .i64 0), .val (.int .i64 0), .val (.int .i64 0), .val (.slice none 0 0)], some (.cons (.int .i64) (.cons (.int .i64) (.cons (.int .i64) (.sl (.cons (.int .i64) (.int .i64)))))), false, [(0, 1), (1, 1), (2, 1), (3, 1)]⟩),
  (74, ⟨(Try.t73.desc), 17, 168, [.val (.int .i64 0), .val (.int .i64 0), .val (.int .i64 0), .val (.int .i64 0), .val (.int .i64 0), .val (.int .i64 0), .val (.int .i64 0), .val (.string ⟨#[]⟩), .val (.int .i64 0), .val (.int .i64 0), .val (.int .i64 0), .val (.int .i64 0), .val (.int .i64 0), .val (.string ⟨#[]⟩), .val (.int .i64 0), .val (.int .i64 0), .val (.slice none 0 0)], some (.cons (.cons (.int .i64) (.cons (.int .i64) (.cons (.int .i64) (.cons (.int .i64) (.cons (.int .i64) (.cons (.int .i64) (.cons (.int .i64) .str))))))) (.cons (.cons (.int .i64) (.cons (.int .i64) (.cons (.int .i64) (.cons (.int .i64) (.cons (.int .i64) (.cons .str (.int .i64))))))) (.cons (.int .i64) (.sl (.cons (.int .i64) (.cons (.int .i64) (.cons (.int .i64) (.cons (.int .i64) (.cons (.int .i64) (.cons .str (.int .i64))))))))))), false, [(0, 8), (8, 7), (15, 1), (16, 1)]⟩),
  (79, ⟨(Try.t79.desc), 1, 8, [.val (.nilFunc)], none, false, []⟩),
  (90, ⟨(Try.t89.desc), 2, 16, [.val (.int .i64 0), .val (.int .i64 0)], some (.cons (.int .i64) (.int .i64)), true, [(0, 1), (1, 1)]⟩),
  (93, ⟨.slice 4, 1, 24, [.val (.slice none 0 0)], some (.sl .bool), false, []⟩),
  (96, ⟨(Try.t96.desc), 1, 8, [.val (.nilFunc)], none, false, []⟩),
  (98, ⟨(Try.t97.desc), 6, 48, [.val (.nilFunc), .val (.nilFunc), .val (.nilFunc), .val (.nilFunc), .val (.nilFunc), .val (.nilFunc)], none, false, [(0, 1), (1, 1), (2, 1), (3, 1), (4, 1), (5, 1)]⟩),
  (107, ⟨(Try.t107.desc), 1, 8, [.val (.nilFunc)], none, false, []⟩),
  (109, ⟨.slice 3, 1, 24, [.val (.slice none 0 0)], some (.sl (.int .i64)), false, []⟩),
  (118, ⟨.slice 5, 1, 24, [.val (.slice none 0 0)], some (.sl (.int .u8)), false, []⟩)]
def T : TT := lookT TL
theorem tokAll : AllT Try.prog TL := ⟨
  TOk.of Try.t3 (.int .i64 0) (by kernel_rfl) (by kernel_rfl) (by kernel_rfl) (by kernel_rfl) (by kernel_rfl) (by kernel_rfl) (fun fs h => nomatch h) (fun h => nomatch h),
  TOk.of Try.t4 (.bool false) (by kernel_rfl) (by kernel_rfl) (by kernel_rfl) (by kernel_rfl) (by kernel_rfl) (by kernel_rfl) (fun fs h => nomatch h) (fun h => nomatch h),
  TOk.of Try.t5 (.int .u8 0) (by kernel_rfl) (by kernel_rfl) (by kernel_rfl) (by kernel_rfl) (by kernel_rfl) (by kernel_rfl) (fun fs h => nomatch h) (fun h => nomatch h),
  TOk.of Try.t9 (.string ⟨#[]⟩) (by kernel_rfl) (by kernel_rfl) (by kernel_rfl) (by kernel_rfl) (by kernel_rfl) (by kernel_rfl) (fun fs h => nomatch h) (fun h => nomatch h),
  TOk.of Try.t21 (.int .i32 0) (by kernel_rfl) (by kernel_rfl) (by kernel_rfl) (by kernel_rfl) (by kernel_rfl) (by kernel_rfl) (fun fs h => nomatch h) (fun h => nomatch h),
  TOk.of Try.t22 (.slice none 0 0) (by kernel_rfl) (by kernel_rfl) (by kernel_rfl) (by kernel_rfl) (by kernel_rfl) (by kernel_rfl) (fun fs h => nomatch h) (fun h => nomatch h),
  TOk.of Try.t24 (.agg #[.string ⟨#[]⟩, .int .i64 0, .int .i64 0, .slice none 0 0]) (by kernel_rfl) (by kernel_rfl) (by kernel_rfl) (by kernel_rfl) (by kernel_rfl) (by kernel_rfl) (fun fs h => by cases h; kernel_rfl) (fun h => nomatch h),
  TOk.of Try.t25 (.slice none 0 0) (by kernel_rfl) (by kernel_rfl) (by kernel_rfl) (by kernel_rfl) (by kernel_rfl) (by kernel_rfl) (fun fs h => nomatch h) (fun h => nomatch h),
  TOk.of Try.t29 (.slice none 0 0) (by kernel_rfl) (by kernel_rfl) (by kernel_rfl) (by kernel_rfl) (by kernel_rfl) (by kernel_rfl) (fun fs h => nomatch h) (fun h => nomatch h),
  TOk.of Try.t31 (.agg #[.string ⟨#[]⟩, .int .i64 0, .int .i64 0, .slice none 0 0]) (by kernel_rfl) (by kernel_rfl) (by kernel_rfl) (by kernel_rfl) (by kernel_rfl) (by kernel_rfl) (fun fs h => by cases h; kernel_rfl) (fun h => nomatch h),
  TOk.of Try.t32 (.int .i64 0) (by kernel_rfl) (by kernel_rfl) (by kernel_rfl) (by kernel_rfl) (by kernel_rfl) (by kernel_rfl) (fun fs h => nomatch h) (fun h => nomatch h),
  TOk.of Try.t41 (.agg #[.int .i64 0, .int .i64 0, .int .i64 0, .int .i64 0, .int .i64 0, .string ⟨#[]⟩, .int .i64 0]) (by kernel_rfl) (by kernel_rfl) (by kernel_rfl) (by kernel_rfl) (by kernel_rfl) (by kernel_rfl) (fun fs h => by cases h; kernel_rfl) (eq_ok (fs := (Try.prog.fieldsOf 41)) rfl (by kernel_rfl) (by kernel_rfl) (by kernel_rfl) (by kernel_rfl)),
  TOk.of Try.t45 (.agg #[.int .i64 0, .int .i64 0, .int .i64 0, .int .i64 0, .int .i64 0, .int .i64 0, .int .i64 0, .string ⟨#[]⟩]) (by kernel_rfl) (by kernel_rfl) (by kernel_rfl) (by kernel_rfl) (by kernel_rfl) (by kernel_rfl) (fun fs h => by cases h; kernel_rfl) (fun h => nomatch h),
  TOk.of Try.t51 (.slice none 0 0) (by kernel_rfl) (by kernel_rfl) (by kernel_rfl) (by kernel_rfl) (by kernel_rfl) (by kernel_rfl) (fun fs h => nomatch h) (fun h => nomatch h),
  TOk.of Try.t52 (.slice none 0 0) (by kernel_rfl) (by kernel_rfl) (by kernel_rfl) (by kernel_rfl) (by kernel_rfl) (by kernel_rfl) (fun fs h => nomatch h) (fun h => nomatch h),
  TOk.of Try.t54 (.agg #[.int .i64 0, .int .i64 0, .string ⟨#[]⟩, .bool false, .slice none 0 0]) (by kernel_rfl) (by kernel_rfl) (by kernel_rfl) (by kernel_rfl) (by kernel_rfl) (by kernel_rfl) (fun fs h => by cases h; kernel_rfl) (fun h => nomatch h),
  TOk.of Try.t56 (.agg #[.string ⟨#[]⟩, .slice none 0 0, .bool false, .int .i64 0, .int .i64 0, .string ⟨#[]⟩, .bool false, .slice none 0 0]) (by kernel_rfl) (by kernel_rfl) (by kernel_rfl) (by kernel_rfl) (by kernel_rfl) (by kernel_rfl) (fun fs h => by cases h; kernel_rfl) (fun h => nomatch h),
  TOk.of Try.t60 (.pointer none) (by kernel_rfl) (by kernel_rfl) (by kernel_rfl) (by kernel_rfl) (by kernel_rfl) (by kernel_rfl) (fun fs h => nomatch h) (fun h => nomatch h),
  TOk.of Try.t61 (.nilFunc) (by kernel_rfl) (by kernel_rfl) (by kernel_rfl) (by kernel_rfl) (by kernel_rfl) (by kernel_rfl) (fun fs h => nomatch h) (fun h => nomatch h),
  TOk.of Try.t62 (.slice none 0 0) (by kernel_rfl) (by kernel_rfl) (by kernel_rfl) (by kernel_rfl) (by kernel_rfl) (by kernel_rfl) (fun fs h => nomatch h) (fun h => nomatch h),
  TOk.of Try.t64 (.agg #[.int .i64 0, .slice none 0 0]) (by kernel_rfl) (by kernel_rfl) (by kernel_rfl) (by kernel_rfl) (by kernel_rfl) (by kernel_rfl) (fun fs h => by cases h; kernel_rfl) (fun h => nomatch h),
  TOk.of Try.t66 (.agg #[.slice none 0 0, .int .i64 0, .slice none 0 0, .nilFunc]) (by kernel_rfl) (by kernel_rfl) (by kernel_rfl) (by kernel_rfl) (by kernel_rfl) (by kernel_rfl) (fun fs h => by cases h; kernel_rfl) (fun h => nomatch h),
  TOk.of Try.t72 (.agg #[.int .i64 0, .int .i64 0, .int .i64 0, .slice none 0 0]) (by kernel_rfl) (by kernel_rfl) (by kernel_rfl) (by kernel_rfl) (by kernel_rfl) (by kernel_rfl) (fun fs h => by cases h; kernel_rfl) (fun h => nomatch h),
  TOk.of Try.t74 (.agg #[.int .i64 0, .int .i64 0, .int .i64 0, .int .i64 0, .int .i64 0, .int .i64 0, .int .i64 0, .string ⟨#[]⟩, .int .i64 0, .int .i64 0, .int .i64 0, .int .i64 0, .int .i64 0, .string ⟨#[]⟩, .int .i64 0, .int .i64 0, .slice none 0 0]) (by kernel_rfl) (by kernel_rfl) (by kernel_rfl) (by kernel_rfl) (by kernel_rfl) (by kernel_rfl) (fun fs h => by cases h; kernel_rfl) (fun h => nomatch h),
  TOk.of Try.t79 (.nilFunc) (by kernel_rfl) (by kernel_rfl) (by kernel_rfl) (by kernel_rfl) (by kernel_rfl) (by kernel_rfl) (fun fs h => nomatch h) (fun h => nomatch h),
  TOk.of Try.t90 (.agg #[.int .i64 0, .int .i64 0]) (by kernel_rfl) (by kernel_rfl) (by kernel_rfl) (by kernel_rfl) (by kernel_rfl) (by kernel_rfl) (fun fs h => by cases h; kernel_rfl) (eq_ok (fs := (Try.prog.fieldsOf 90)) rfl (by kernel_rfl) (by kernel_rfl) (by kernel_rfl) (by kernel_rfl)),
  TOk.of Try.t93 (.slice none 0 0) (by kernel_rfl) (by kernel_rfl) (by kernel_rfl) (by kernel_rfl) (by kernel_rfl) (by kernel_rfl) (fun fs h => nomatch h) (fun h => nomatch h),
  TOk.of Try.t96 (.nilFunc) (by kernel_rfl) (by kernel_rfl) (by kernel_rfl) (by kernel_rfl) (by kernel_rfl) (by kernel_rfl) (fun fs h => nomatch h) (fun h => nomatch h),
  TOk.of Try.t98 (.agg #[.nilFunc, .nilFunc, .nilFunc, .nilFunc, .nilFunc, .nilFunc]) (by kernel_rfl) (by kernel_rfl) (by kernel_rfl) (by kernel_rfl) (by kernel_rfl) (by kernel_rfl) (fun fs h => by cases h; kernel_rfl) (fun h => nomatch h),
  TOk.of Try.t107 (.nilFunc) (by kernel_rfl) (by kernel_rfl) (by kernel_rfl) (by kernel_rfl) (by kernel_rfl) (by kernel_rfl) (fun fs h => nomatch h) (fun h => nomatch h),
  TOk.of Try.t109 (.slice none 0 0) (by kernel_rfl) (by kernel_rfl) (by kernel_rfl) (by kernel_rfl) (by kernel_rfl) (by kernel_rfl) (fun fs h => nomatch h) (fun h => nomatch h),
  TOk.of Try.t118 (.slice none 0 0) (by kernel_rfl) (by kernel_rfl) (by kernel_rfl) (by kernel_rfl) (by kernel_rfl) (by kernel_rfl) (fun fs h => nomatch h) (fun h => nomatch h),
  trivial⟩
theorem tok : TOK Try.prog T := tok_of tokAll
theorem mixed : Try.prog.follows .mixedOrders = true := by kernel_rfl
end
end Go.Proofs.Ytgjimkgehbppbab
end

section
/-
Ytgjimkgehbppbab: signalbench.decl.Find, as one plain function, its equations, its contract. No condition.
-/
set_option maxRecDepth 100000
set_option linter.unusedVariables false
set_option maxHeartbeats 4000000
open Go Go.AM
namespace Go.Proofs.Ytgjimkgehbppbab
noncomputable section
def decl_Find_F3 : FSh := ⟨[(1, .one .str), (8, .one (.sl (.cons .str (.cons (.sl (.cons (.int .i64) (.cons (.int .i64) (.cons .str (.cons .bool (.sl (.cons (.int .i64) (.int .i64)))))))) (.cons .bool (.cons (.int .i64) (.cons (.int .i64) (.cons .str (.cons .bool (.sl (.cons (.int .i64) (.int .i64)))))))))))), (9, .one (.int .i64)), (10, .one (.int .i64))], []⟩
def decl_Find_D : FD := ⟨T, lookC [], [], (Try.f32.body.getD .skip), Try.f32.results.toList, ⟨[.row (.cons .str (.cons (.int .i64) (.cons (.int .i64) (.sl (.cons .str (.cons (.sl (.cons (.int .i64) (.cons (.int .i64) (.cons .str (.cons .bool (.sl (.cons (.int .i64) (.int .i64)))))))) (.cons .bool (.cons (.int .i64) (.cons (.int .i64) (.cons .str (.cons .bool (.sl (.cons (.int .i64) (.int .i64)))))))))))))), .one .str], []⟩, ⟨[.one (.int .i64)], []⟩, [(3, decl_Find_F3)]⟩
def decl_Find_l3 (name : ByteArray) (t8 : (List TDeclState)) (t9 : Int) (t10 : Int) : (Option ((Int × Unit) × Unit)) := decl_Find_D.lab 3 decl_Find_F3 ((name, t8, t9, t10, ()), ())
theorem decl_Find_l3_eq (name : ByteArray) (t8 : (List TDeclState)) (t9 : Int) (t10 : Int) : decl_Find_l3 name t8 t9 t10 =
  if (decide (t10 < t9)) = true then
    if 0 ≤ t10 ∧ t10 < (t8.length : Int) then
      if ((t8.getD t10.toNat dDeclState).1.toList == name.toList) = true then
        some ((t10, ()), ())
      else
        decl_Find_l3 name t8 t9 (IntKind.i64.wrap (t10 + 1))
    else
      none
  else
    some (((-1), ()), ()) := (FD.lab_eq _ _ _ _).trans (by kernel_rfl)
def decl_Find (d : TDecl) (name : ByteArray) : (Option ((Int × Unit) × Unit)) :=
  decl_Find_l3 name d.2.2.2 (d.2.2.2.length : Int) 0
def fc32 : FC := ⟨⟨[.row (.cons .str (.cons (.int .i64) (.cons (.int .i64) (.sl (.cons .str (.cons (.sl (.cons (.int .i64) (.cons (.int .i64) (.cons .str (.cons .bool (.sl (.cons (.int .i64) (.int .i64)))))))) (.cons .bool (.cons (.int .i64) (.cons (.int .i64) (.cons .str (.cons .bool (.sl (.cons (.int .i64) (.int .i64)))))))))))))), .one .str], []⟩, ⟨[.one (.int .i64)], []⟩, fun x => decl_Find x.1.1 x.1.2.1⟩
theorem con32 : Contract Try.prog 32 fc32 :=
  decl_Find_D.contract tok (cok_of (l := []) trivial) mixed (fn' := Try.f32) (by kernel_rfl) (by kernel_rfl) rfl (by kernel_rfl) (fun x => (FD.fn_eq _ _).trans (by kernel_rfl))
end
end Go.Proofs.Ytgjimkgehbppbab
end

section
/-
Ytgjimkgehbppbab: signalbench.decl.most, as one plain function, its equations, its contract. No condition.
-/
set_option maxRecDepth 100000
set_option linter.unusedVariables false
set_option maxHeartbeats 4000000
open Go Go.AM
namespace Go.Proofs.Ytgjimkgehbppbab
noncomputable section
def decl_most_D : FD := ⟨T, lookC [], [], (Try.f85.body.getD .skip), Try.f85.results.toList, ⟨[.row (.cons .str (.cons (.int .i64) (.cons (.int .i64) (.sl (.cons .str (.cons (.sl (.cons (.int .i64) (.cons (.int .i64) (.cons .str (.cons .bool (.sl (.cons (.int .i64) (.int .i64)))))))) (.cons .bool (.cons (.int .i64) (.cons (.int .i64) (.cons .str (.cons .bool (.sl (.cons (.int .i64) (.int .i64))))))))))))))], []⟩, ⟨[.one (.int .i64)], []⟩, []⟩
def decl_most (d : TDecl) : (Option ((Int × Unit) × Unit)) :=
  if (d.2.1 == 2) = true then
    some ((1, ()), ())
  else
    some ((255, ()), ())
def fc85 : FC := ⟨⟨[.row (.cons .str (.cons (.int .i64) (.cons (.int .i64) (.sl (.cons .str (.cons (.sl (.cons (.int .i64) (.cons (.int .i64) (.cons .str (.cons .bool (.sl (.cons (.int .i64) (.int .i64)))))))) (.cons .bool (.cons (.int .i64) (.cons (.int .i64) (.cons .str (.cons .bool (.sl (.cons (.int .i64) (.int .i64))))))))))))))], []⟩, ⟨[.one (.int .i64)], []⟩, fun x => decl_most x.1.1⟩
theorem con85 : Contract Try.prog 85 fc85 :=
  decl_most_D.contract tok (cok_of (l := []) trivial) mixed (fn' := Try.f85) (by kernel_rfl) (by kernel_rfl) rfl (by kernel_rfl) (fun x => (FD.fn_eq _ _).trans (by kernel_rfl))
end
end Go.Proofs.Ytgjimkgehbppbab
end

section
/-
Ytgjimkgehbppbab: signalbench.decl.act, as one plain function, its equations, its contract. No condition.
-/
set_option maxRecDepth 100000
set_option linter.unusedVariables false
set_option maxHeartbeats 4000000
open Go Go.AM
namespace Go.Proofs.Ytgjimkgehbppbab
noncomputable section
def decl_act_F3 : FSh := ⟨[(1, .one (.ptr 0 0)), (4, .one (.int .i64)), (5, .one .bool)], [.boxr (.cons (.int .i64) (.int .i64))]⟩
def decl_act_F7 : FSh := ⟨[(1, .one (.ptr 0 0)), (4, .one (.int .i64)), (11, .one .bool)], [.boxr (.cons (.int .i64) (.int .i64))]⟩
def decl_act_D : FD := ⟨T, lookC [], [7, 3], (Try.f89.body.getD .skip), Try.f89.results.toList, ⟨[.row (.cons (.int .i64) (.int .i64))], []⟩, ⟨[.one (.int .i64)], []⟩, [(3, decl_act_F3), (7, decl_act_F7)]⟩
def decl_act_l3 (t4 : Int) (t5 : Bool) (h0 : TAct) : (Option ((Int × Unit) × Unit)) := decl_act_D.lab 3 decl_act_F3 (((), t4, t5, ()), (h0, ()))
def decl_act_l7 (t4 : Int) (t11 : Bool) (h0 : TAct) : (Option ((Int × Unit) × Unit)) := decl_act_D.lab 7 decl_act_F7 (((), t4, t11, ()), (h0, ()))
theorem decl_act_l3_eq (t4 : Int) (t5 : Bool) (h0 : TAct) : decl_act_l3 t4 t5 h0 =
  if t5 = true then
    if (h0.2 != 0) = true then
      some ((1, ()), ())
    else
      some ((0, ()), ())
  else
    if (t4 == 3) = true then
      decl_act_l7 t4 true h0
    else
      if (t4 == 4) = true then
        decl_act_l7 t4 true h0
      else
        decl_act_l7 t4 (t4 == 5) h0 := (FD.lab_eq _ _ _ _).trans (by kernel_rfl)
theorem decl_act_l7_eq (t4 : Int) (t11 : Bool) (h0 : TAct) : decl_act_l7 t4 t11 h0 =
  if t11 = true then
    if (decide (h0.2 < 0)) = true then
      some ((2, ()), ())
    else
      if (decide (h0.2 > 255)) = true then
        some ((2, ()), ())
      else
        some ((0, ()), ())
  else
    if (t4 == 6) = true then
      if (decide (h0.2 < 1)) = true then
        some ((2, ()), ())
      else
        if (decide (h0.2 > 12)) = true then
          some ((2, ()), ())
        else
          some ((0, ()), ())
    else
      some ((1, ()), ()) := (FD.lab_eq _ _ _ _).trans (by kernel_rfl)
def decl_act (a : TAct) : (Option ((Int × Unit) × Unit)) :=
  if (a.1 == 1) = true then
    decl_act_l3 a.1 true a
  else
    decl_act_l3 a.1 (a.1 == 2) a
def fc89 : FC := ⟨⟨[.row (.cons (.int .i64) (.int .i64))], []⟩, ⟨[.one (.int .i64)], []⟩, fun x => decl_act x.1.1⟩
theorem con89 : Contract Try.prog 89 fc89 :=
  decl_act_D.contract tok (cok_of (l := []) trivial) mixed (fn' := Try.f89) (by kernel_rfl) (by kernel_rfl) rfl (by kernel_rfl) (fun x => (FD.fn_eq _ _).trans (by kernel_rfl))
end
end Go.Proofs.Ytgjimkgehbppbab
end

section
/-
Ytgjimkgehbppbab: signalbench.decl.target, as one plain function, its equations, its contract. No condition.
-/
set_option maxRecDepth 100000
set_option linter.unusedVariables false
set_option maxHeartbeats 4000000
open Go Go.AM
namespace Go.Proofs.Ytgjimkgehbppbab
noncomputable section
def decl_target_F9 : FSh := ⟨[(18, .one (.sl (.cons (.int .i64) (.int .i64)))), (19, .one (.int .i64)), (20, .one (.int .i64))], []⟩
def decl_target_D : FD := ⟨T, lookC [(32, fc32), (89, fc89)], [], (Try.f86.body.getD .skip), Try.f86.results.toList, ⟨[.row (.cons .str (.cons (.int .i64) (.cons (.int .i64) (.sl (.cons .str (.cons (.sl (.cons (.int .i64) (.cons (.int .i64) (.cons .str (.cons .bool (.sl (.cons (.int .i64) (.int .i64)))))))) (.cons .bool (.cons (.int .i64) (.cons (.int .i64) (.cons .str (.cons .bool (.sl (.cons (.int .i64) (.int .i64)))))))))))))), .row (.cons (.int .i64) (.cons (.int .i64) (.cons .str (.cons .bool (.sl (.cons (.int .i64) (.int .i64)))))))], []⟩, ⟨[.one (.int .i64)], []⟩, [(9, decl_target_F9)]⟩
def decl_target_l9 (t18 : (List TAct)) (t19 : Int) (t20 : Int) : (Option ((Int × Unit) × Unit)) := decl_target_D.lab 9 decl_target_F9 ((t18, t19, t20, ()), ())
theorem decl_target_l9_eq (t18 : (List TAct)) (t19 : Int) (t20 : Int) : decl_target_l9 t18 t19 t20 =
  if (decide (t20 < t19)) = true then
    if 0 ≤ t20 ∧ t20 < (t18.length : Int) then
      (decl_act (t18.getD t20.toNat dAct)).bind fun y1 =>
        if (y1.1.1 != 0) = true then
          some ((y1.1.1, ()), ())
        else
          decl_target_l9 t18 t19 (IntKind.i64.wrap (t20 + 1))
    else
      none
  else
    some ((0, ()), ()) := (FD.lab_eq _ _ _ _).trans (by kernel_rfl)
def decl_target (d : TDecl) (r : TRule) : (Option ((Int × Unit) × Unit)) :=
  (decl_Find d r.2.2.1).bind fun y1 =>
    if (decide (y1.1.1 < 0)) = true then
      some ((8, ()), ())
    else
      if (decide ((r.2.2.2.2.length : Int) > 8)) = true then
        some ((6, ()), ())
      else
        decl_target_l9 r.2.2.2.2 (r.2.2.2.2.length : Int) 0
def fc86 : FC := ⟨⟨[.row (.cons .str (.cons (.int .i64) (.cons (.int .i64) (.sl (.cons .str (.cons (.sl (.cons (.int .i64) (.cons (.int .i64) (.cons .str (.cons .bool (.sl (.cons (.int .i64) (.int .i64)))))))) (.cons .bool (.cons (.int .i64) (.cons (.int .i64) (.cons .str (.cons .bool (.sl (.cons (.int .i64) (.int .i64)))))))))))))), .row (.cons (.int .i64) (.cons (.int .i64) (.cons .str (.cons .bool (.sl (.cons (.int .i64) (.int .i64)))))))], []⟩, ⟨[.one (.int .i64)], []⟩, fun x => decl_target x.1.1 x.1.2.1⟩
theorem con86 : Contract Try.prog 86 fc86 :=
  decl_target_D.contract tok (cok_of (l := [(32, fc32), (89, fc89)]) ⟨con32, con89, trivial⟩) mixed (fn' := Try.f86) (by kernel_rfl) (by kernel_rfl) rfl (by kernel_rfl) (fun x => (FD.fn_eq _ _).trans (by kernel_rfl))
end
end Go.Proofs.Ytgjimkgehbppbab
end

section
/-
Ytgjimkgehbppbab: signalbench.decl.rules, as one plain function, its equations, its contract. No condition.
-/
set_option maxRecDepth 100000
set_option linter.unusedVariables false
set_option maxHeartbeats 4000000
open Go Go.AM
namespace Go.Proofs.Ytgjimkgehbppbab
noncomputable section
def decl_rules_F3 : FSh := ⟨[(2, .one (.ptr 0 0)), (3, .one (.ptr 1 0)), (10, .one (.sl (.cons (.int .i64) (.cons (.int .i64) (.cons .str (.cons .bool (.sl (.cons (.int .i64) (.int .i64))))))))), (11, .one (.int .i64)), (12, .one (.int .i64))], [.boxr (.cons .str (.cons (.int .i64) (.cons (.int .i64) (.sl (.cons .str (.cons (.sl (.cons (.int .i64) (.cons (.int .i64) (.cons .str (.cons .bool (.sl (.cons (.int .i64) (.int .i64)))))))) (.cons .bool (.cons (.int .i64) (.cons (.int .i64) (.cons .str (.cons .bool (.sl (.cons (.int .i64) (.int .i64)))))))))))))), .boxr (.cons .str (.cons (.sl (.cons (.int .i64) (.cons (.int .i64) (.cons .str (.cons .bool (.sl (.cons (.int .i64) (.int .i64)))))))) (.cons .bool (.cons (.int .i64) (.cons (.int .i64) (.cons .str (.cons .bool (.sl (.cons (.int .i64) (.int .i64))))))))))]⟩
def decl_rules_D : FD := ⟨T, lookC [(85, fc85), (86, fc86)], [], (Try.f61.body.getD .skip), Try.f61.results.toList, ⟨[.row (.cons .str (.cons (.int .i64) (.cons (.int .i64) (.sl (.cons .str (.cons (.sl (.cons (.int .i64) (.cons (.int .i64) (.cons .str (.cons .bool (.sl (.cons (.int .i64) (.int .i64)))))))) (.cons .bool (.cons (.int .i64) (.cons (.int .i64) (.cons .str (.cons .bool (.sl (.cons (.int .i64) (.int .i64)))))))))))))), .row (.cons .str (.cons (.sl (.cons (.int .i64) (.cons (.int .i64) (.cons .str (.cons .bool (.sl (.cons (.int .i64) (.int .i64)))))))) (.cons .bool (.cons (.int .i64) (.cons (.int .i64) (.cons .str (.cons .bool (.sl (.cons (.int .i64) (.int .i64))))))))))], []⟩, ⟨[.one (.int .i64)], []⟩, [(3, decl_rules_F3)]⟩
def decl_rules_l3 (t10 : (List TRule)) (t11 : Int) (t12 : Int) (h0 : TDecl) (h1 : TDeclState) : (Option ((Int × Unit) × Unit)) := decl_rules_D.lab 3 decl_rules_F3 (((), (), t10, t11, t12, ()), (h0, h1, ()))
theorem decl_rules_l3_eq (t10 : (List TRule)) (t11 : Int) (t12 : Int) (h0 : TDecl) (h1 : TDeclState) : decl_rules_l3 t10 t11 t12 h0 h1 =
  if (decide (t12 < t11)) = true then
    if 0 ≤ t12 ∧ t12 < (t10.length : Int) then
      if (decide ((t10.getD t12.toNat dRule).1 < 0)) = true then
        some ((2, ()), ())
      else
        if (decide ((t10.getD t12.toNat dRule).1 > (t10.getD t12.toNat dRule).2.1)) = true then
          some ((2, ()), ())
        else
          (decl_most h0).bind fun y1 =>
            if (decide ((t10.getD t12.toNat dRule).2.1 > y1.1.1)) = true then
              some ((2, ()), ())
            else
              (decl_target h0 (t10.getD t12.toNat dRule)).bind fun y2 =>
                if (y2.1.1 != 0) = true then
                  some ((y2.1.1, ()), ())
                else
                  decl_rules_l3 t10 t11 (IntKind.i64.wrap (t12 + 1)) h0 h1
    else
      none
  else
    if h1.2.2.1 = true then
      if (h1.2.2.2.1 != 0) = true then
        some ((1, ()), ())
      else
        if (h1.2.2.2.2.1 != 0) = true then
          some ((1, ()), ())
        else
          (decl_target h0 h1.2.2.2).bind fun y3 =>
            some ((y3.1.1, ()), ())
    else
      if (h1.2.2.2.1 != 0) = true then
        some ((1, ()), ())
      else
        if (h1.2.2.2.2.1 != 0) = true then
          some ((1, ()), ())
        else
          if (!(h1.2.2.2.2.2.1.toList == (strB []).toList)) = true then
            some ((1, ()), ())
          else
            if h1.2.2.2.2.2.2.1 = true then
              some ((1, ()), ())
            else
              if (decide ((h1.2.2.2.2.2.2.2.length : Int) > 0)) = true then
                some ((1, ()), ())
              else
                some ((0, ()), ()) := (FD.lab_eq _ _ _ _).trans (by kernel_rfl)
def decl_rules (d : TDecl) (s : TDeclState) : (Option ((Int × Unit) × Unit)) :=
  decl_rules_l3 s.2.1 (s.2.1.length : Int) 0 d s
def fc61 : FC := ⟨⟨[.row (.cons .str (.cons (.int .i64) (.cons (.int .i64) (.sl (.cons .str (.cons (.sl (.cons (.int .i64) (.cons (.int .i64) (.cons .str (.cons .bool (.sl (.cons (.int .i64) (.int .i64)))))))) (.cons .bool (.cons (.int .i64) (.cons (.int .i64) (.cons .str (.cons .bool (.sl (.cons (.int .i64) (.int .i64)))))))))))))), .row (.cons .str (.cons (.sl (.cons (.int .i64) (.cons (.int .i64) (.cons .str (.cons .bool (.sl (.cons (.int .i64) (.int .i64)))))))) (.cons .bool (.cons (.int .i64) (.cons (.int .i64) (.cons .str (.cons .bool (.sl (.cons (.int .i64) (.int .i64))))))))))], []⟩, ⟨[.one (.int .i64)], []⟩, fun x => decl_rules x.1.1 x.1.2.1⟩
theorem con61 : Contract Try.prog 61 fc61 :=
  decl_rules_D.contract tok (cok_of (l := [(85, fc85), (86, fc86)]) ⟨con85, con86, trivial⟩) mixed (fn' := Try.f61) (by kernel_rfl) (by kernel_rfl) rfl (by kernel_rfl) (fun x => (FD.fn_eq _ _).trans (by kernel_rfl))
end
end Go.Proofs.Ytgjimkgehbppbab
end

section
/-
Ytgjimkgehbppbab: decl.name, by a walk: it tells whether a string is a name; the iterator is new memory. No condition.
-/
open Go Go.AM Go.RowKit
variable [Inhabited ZMem]
namespace Go.Proofs.Ytgjimkgehbppbab

/-- The bytes up to here may begin a name. -/
def NameTo (s : ByteArray) (pos : Nat) : Prop := pos ≤ s.size ∧ ((L s).take pos).all wordB = true ∧ (pos = 0 ∨ ∃ c r, L s = c :: r ∧ letterB c = true)

theorem rune_at (s : ByteArray) (pos : Nat) (hp : pos < s.size) : ∃ (b : UInt8) (r wd : Nat), (L s)[pos]? = some b ∧ Utf8.decode s pos = (r, wd) ∧ 1 ≤ wd ∧ ((b.toNat < 128 ∧ r = b.toNat ∧ wd = 1) ∨ (128 ≤ b.toNat ∧ 128 ≤ r)) := by
  refine ⟨s[pos]'hp, (Utf8.decode s pos).1, (Utf8.decode s pos).2, ?_, rfl, ?_, ?_⟩
  · have : pos < (L s).length := by rw [L_len]; exact hp
    rw [List.getElem?_eq_getElem this]
    rfl
  · by_cases ha : (s[pos]'hp).toNat < 128
    · rw [decode_ascii s pos hp ha]; exact Nat.le_refl _
    · exact (decode_high s pos hp (by omega)).2
  · by_cases ha : (s[pos]'hp).toNat < 128
    · rw [decode_ascii s pos hp ha]; exact .inl ⟨ha, rfl, rfl⟩
    · exact .inr ⟨by omega, (decode_high s pos hp (by omega)).1⟩

theorem wordB_num {b : UInt8} : wordB b = true ↔ ((97 ≤ b.toNat ∧ b.toNat ≤ 122) ∨ (48 ≤ b.toNat ∧ b.toNat ≤ 57) ∨ b.toNat = 95) := by
  have : b = 95 ↔ b.toNat = 95 := by rw [← UInt8.toNat_inj]; rfl
  simp [wordB, letterB, digitB, this, or_assoc]

theorem letterB_num {b : UInt8} : letterB b = true ↔ (97 ≤ b.toNat ∧ b.toNat ≤ 122) := by simp [letterB]

theorem name_needs {s : ByteArray} {pos : Nat} {b : UInt8} (h : nameB (L s) = true) (hb : (L s)[pos]? = some b) : (97 ≤ b.toNat ∧ b.toNat ≤ 122) ∨ (pos ≠ 0 ∧ ((48 ≤ b.toNat ∧ b.toNat ≤ 57) ∨ b.toNat = 95)) := by
  cases hL : L s with
  | nil => rw [hL] at hb; simp at hb
  | cons c r =>
    rw [hL, nameB_cons] at h
    simp only [Bool.and_eq_true] at h
    have h1 := List.all_eq_true.1 h.2 b (by rw [hL] at hb; exact List.mem_of_getElem? hb)
    rcases wordB_num.1 h1 with h2 | h2
    · exact .inl h2
    · by_cases hp : pos = 0
      · subst hp
        rw [hL] at hb
        simp only [List.getElem?_cons_zero, Option.some.injEq] at hb
        subst hb
        exact .inl (letterB_num.1 h.1.2)
      · exact .inr ⟨hp, h2⟩

theorem NameTo.step {s : ByteArray} {pos : Nat} {b : UInt8} (h : NameTo s pos) (hb : (L s)[pos]? = some b) (hk : (97 ≤ b.toNat ∧ b.toNat ≤ 122) ∨ (pos ≠ 0 ∧ ((48 ≤ b.toNat ∧ b.toNat ≤ 57) ∨ b.toNat = 95))) : NameTo s (pos + 1) := by
  have hlt : pos < (L s).length := (List.getElem?_eq_some_iff.1 hb).1
  have hlt' := hlt
  rw [L_len] at hlt'
  refine ⟨by omega, ?_, .inr ?_⟩
  · rw [List.take_add_one, hb, List.all_append, h.2.1]
    simp only [Option.toList_some, Bool.true_and, List.all_cons, List.all_nil, Bool.and_true]
    refine wordB_num.2 ?_
    omega
  · rcases h.2.2 with h0 | h0
    · subst h0
      cases hL : L s with
      | nil => rw [hL] at hb; simp at hb
      | cons c r =>
        rw [hL] at hb
        simp only [List.getElem?_cons_zero, Option.some.injEq] at hb
        subst hb
        exact ⟨c, r, rfl, letterB_num.2 (by omega)⟩
    · exact h0

theorem NameTo.whole {s : ByteArray} (h : NameTo s s.size) (h0 : s.size ≠ 0) (h16 : s.size ≤ 16) : nameB (L s) = true := by
  obtain ⟨_, h2, h3⟩ := h
  rcases h3 with h3 | ⟨c, r, hL, hc⟩
  · exact absurd h3 h0
  · rw [← L_len, List.take_length, hL] at h2
    have hl := size_of hL
    simp only [List.length_cons] at hl
    rw [hL, nameB_cons, hc, h2, decide_eq_true (by omega : r.length + 1 ≤ 16)]
    rfl

theorem iter_below (s : ByteArray) (w : World) (pos : Nat) : Below w.heap.size w (w.iter s pos) := (Below.refl _ _).alloc (Nat.le_refl _) _

theorem name_false {s : ByteArray} (h : nameB (L s) ≠ true) : nameB (L s) = false := by
  cases e : nameB (L s)
  · rfl
  · exact absurd e h

set_option maxRecDepth 1000000 in
theorem name_loop (s : ByteArray) (w : World) (h1 : ¬ s.toList = []) (h1' : s.toList.isEmpty = false) (h0 : s.size ≠ 0) (h2 : ¬ (16 : Int) < s.size) :
    Calls Try.prog 60 #[.string s] w fun e w' => e = .returned (.bool (nameB (L s))) ∧ Below w.heap.size w w' := by
  go_enter Try.func60, Try.ntmps60
  go_wp2
  go_loopw [] (fun w' => ∃ pos : Nat, w' = w.iter s pos ∧ NameTo s pos) (fun w' => s.size - w'.iterPos w.heap.size)
  case atStart => exact ⟨0, rfl, by omega, rfl, .inl rfl⟩
  case round =>
    obtain ⟨pos, rfl, hg⟩ := hrel
    by_cases hp : pos < s.size
    · obtain ⟨b, r, wd, hb, hd, hwd, hcase⟩ := rune_at s pos hp
      have hnx : ∀ ty, (Instr.next (.pointer (some ⟨w.heap.size, 0, none⟩)) true ty).run Try.prog (w.iter s pos) = .ok (.tuple #[.bool true, .int .i64 pos, .int .i32 r]) (w.iter s (pos + wd)) := fun ty => by
        rw [run_next_any w s pos ty hp, hd]
      clear hd
      go_wp2
      all_goals try simp only [beq_iff_eq, bne_iff_ne, ne_eq, Bool.not_eq_true', decide_eq_false_iff_not, decide_eq_true_eq, Bool.not_eq_false', beq_eq_false_iff_ne, bne_eq_false_iff_eq, Int.natCast_eq_zero] at *
      all_goals first
        | (go_ret
           refine ⟨?_, iter_below _ _ _⟩
           rw [name_false (fun hn => by have := name_needs hn hb; omega)]
           rfl)
        | (have hk : (97 ≤ b.toNat ∧ b.toNat ≤ 122) ∨ (pos ≠ 0 ∧ ((48 ≤ b.toNat ∧ b.toNat ≤ 57) ∨ b.toNat = 95)) := by omega
           have hw1 : wd = 1 := by omega
           subst hw1
           refine ⟨⟨pos + 1, ?_, hg.step hb hk⟩, ?_⟩
           · first | rfl | (subst_vars; rfl)
           · simp; omega)
    · have hnx : ∀ ty, (Instr.next (.pointer (some ⟨w.heap.size, 0, none⟩)) true ty).run Try.prog (w.iter s pos) = _ := fun ty => run_next_end w s pos ty hp
      go_wp2
      go_ret
      have hps : pos = s.size := by have := hg.1; omega
      subst hps
      rw [hg.whole h0 (by omega)]
      exact ⟨rfl, iter_below _ _ _⟩

set_option maxRecDepth 1000000 in
theorem name_none (s : ByteArray) (w : World) (h1 : s.toList = []) :
    Calls Try.prog 60 #[.string s] w fun e w' => e = .returned (.bool false) ∧ w' = w := by
  go_enter Try.func60, Try.ntmps60
  go_wp2
  all_goals first
    | (go_ret; exact ⟨rfl, rfl⟩)
    | (rename_i q; exact absurd h1 q)

set_option maxRecDepth 1000000 in
theorem name_long (s : ByteArray) (w : World) (h1 : ¬ s.toList = []) (h1' : s.toList.isEmpty = false) (h2 : (16 : Int) < s.size) :
    Calls Try.prog 60 #[.string s] w fun e w' => e = .returned (.bool false) ∧ w' = w := by
  go_enter Try.func60, Try.ntmps60
  go_wp2
  go_ret
  exact ⟨rfl, rfl⟩

theorem name_any (s : ByteArray) (w : World) : Calls Try.prog 60 #[.string s] w fun e w' => e = .returned (.bool (nameB (L s))) ∧ Below w.heap.size w w' := by
  cases hL : L s with
  | nil =>
    refine (name_none s w (by rw [toL]; exact hL)).mono ?_
    rintro e w' ⟨rfl, rfl⟩
    exact ⟨rfl, Below.refl _ _⟩
  | cons c r =>
    have hl := size_of hL
    simp only [List.length_cons] at hl
    have h1 : ¬ s.toList = [] := by rw [toL, hL]; simp
    have h1' : s.toList.isEmpty = false := by rw [toL, hL]; rfl
    by_cases h2 : s.size ≤ 16
    · rw [← hL]
      exact name_loop s w h1 h1' (by omega) (by omega)
    · refine (name_long s w h1 h1' (by omega)).mono ?_
      rintro e w' ⟨rfl, rfl⟩
      rw [nameB_cons, decide_eq_false (by omega : ¬ r.length + 1 ≤ 16)]
      exact ⟨rfl, Below.refl _ _⟩

def decl_name (s : ByteArray) : Option ((Bool × Unit) × Unit) := some ((nameB (L s), ()), ())
def fc60 : FC := ⟨⟨[.one .str], []⟩, ⟨[.one .bool], []⟩, fun x => decl_name x.1.1⟩
theorem con60 : Contract Try.prog 60 fc60 :=
  Contract.below (P := Try.prog) (f := 60) (sa := [.one .str]) (sr := [.one .bool]) (fn := Try.f60) (c := Try.f60.body.getD .skip) (by kernel_rfl) (by kernel_rfl) (by kernel_rfl) (g := fun x => some (nameB (L x.1), ())) (fun w M G x y vals hI hv hg => by
    obtain ⟨s, u⟩ := x
    obtain ⟨vs⟩ := vals
    match vs, hv with
    | [v1], hv =>
      obtain ⟨⟨rfl, _⟩, _⟩ := hv
      cases hg
      refine (name_any s w).mono ?_
      rintro e w' ⟨rfl, hb⟩
      exact ⟨_, rfl, hb, rfl, rfl⟩)

end Go.Proofs.Ytgjimkgehbppbab
end

section
/-
Ytgjimkgehbppbab: signalbench.decl.Check, as one plain function, its equations, its contract. No condition.
-/
set_option maxRecDepth 100000
set_option linter.unusedVariables false
set_option maxHeartbeats 4000000
open Go Go.AM
namespace Go.Proofs.Ytgjimkgehbppbab
noncomputable section
def decl_Check_F4 : FSh := ⟨[(1, .one (.ptr 0 0)), (11, .one .bool)], [.boxr (.cons .str (.cons (.int .i64) (.cons (.int .i64) (.sl (.cons .str (.cons (.sl (.cons (.int .i64) (.cons (.int .i64) (.cons .str (.cons .bool (.sl (.cons (.int .i64) (.int .i64)))))))) (.cons .bool (.cons (.int .i64) (.cons (.int .i64) (.cons .str (.cons .bool (.sl (.cons (.int .i64) (.int .i64))))))))))))))]⟩
def decl_Check_F12 : FSh := ⟨[(1, .one (.ptr 0 0)), (38, .one (.sl (.cons .str (.cons (.sl (.cons (.int .i64) (.cons (.int .i64) (.cons .str (.cons .bool (.sl (.cons (.int .i64) (.int .i64)))))))) (.cons .bool (.cons (.int .i64) (.cons (.int .i64) (.cons .str (.cons .bool (.sl (.cons (.int .i64) (.int .i64)))))))))))), (39, .one (.int .i64)), (40, .one (.int .i64))], [.boxr (.cons .str (.cons (.int .i64) (.cons (.int .i64) (.sl (.cons .str (.cons (.sl (.cons (.int .i64) (.cons (.int .i64) (.cons .str (.cons .bool (.sl (.cons (.int .i64) (.int .i64)))))))) (.cons .bool (.cons (.int .i64) (.cons (.int .i64) (.cons .str (.cons .bool (.sl (.cons (.int .i64) (.int .i64))))))))))))))]⟩
def decl_Check_D : FD := ⟨T, lookC [(32, fc32), (60, fc60), (61, fc61)], [4], (Try.f43.body.getD .skip), Try.f43.results.toList, ⟨[.row (.cons .str (.cons (.int .i64) (.cons (.int .i64) (.sl (.cons .str (.cons (.sl (.cons (.int .i64) (.cons (.int .i64) (.cons .str (.cons .bool (.sl (.cons (.int .i64) (.int .i64)))))))) (.cons .bool (.cons (.int .i64) (.cons (.int .i64) (.cons .str (.cons .bool (.sl (.cons (.int .i64) (.int .i64))))))))))))))], []⟩, ⟨[.one (.int .i64)], []⟩, [(4, decl_Check_F4), (12, decl_Check_F12)]⟩
def decl_Check_l4 (t11 : Bool) (h0 : TDecl) : (Option ((Int × Unit) × Unit)) := decl_Check_D.lab 4 decl_Check_F4 (((), t11, ()), (h0, ()))
def decl_Check_l12 (t38 : (List TDeclState)) (t39 : Int) (t40 : Int) (h0 : TDecl) : (Option ((Int × Unit) × Unit)) := decl_Check_D.lab 12 decl_Check_F12 (((), t38, t39, t40, ()), (h0, ()))
theorem decl_Check_l4_eq (t11 : Bool) (h0 : TDecl) : decl_Check_l4 t11 h0 =
  if t11 = true then
    some ((1, ()), ())
  else
    if (decide ((h0.2.2.2.length : Int) > 32)) = true then
      some ((6, ()), ())
    else
      decl_Check_l12 h0.2.2.2 (h0.2.2.2.length : Int) 0 h0 := (FD.lab_eq _ _ _ _).trans (by kernel_rfl)
theorem decl_Check_l12_eq (t38 : (List TDeclState)) (t39 : Int) (t40 : Int) (h0 : TDecl) : decl_Check_l12 t38 t39 t40 h0 =
  if (decide (t40 < t39)) = true then
    if 0 ≤ t40 ∧ t40 < (t38.length : Int) then
      (decl_name (t38.getD t40.toNat dDeclState).1).bind fun y1 =>
        if (!y1.1.1) = true then
          some ((4, ()), ())
        else
          (decl_Find h0 (t38.getD t40.toNat dDeclState).1).bind fun y2 =>
            if (decide (y2.1.1 < t40)) = true then
              some ((9, ()), ())
            else
              if (decide (((t38.getD t40.toNat dDeclState).2.1.length : Int) > 64)) = true then
                some ((6, ()), ())
              else
                (decl_rules h0 (t38.getD t40.toNat dDeclState)).bind fun y3 =>
                  if (y3.1.1 != 0) = true then
                    some ((y3.1.1, ()), ())
                  else
                    decl_Check_l12 t38 t39 (IntKind.i64.wrap (t40 + 1)) h0
    else
      none
  else
    some ((0, ()), ()) := (FD.lab_eq _ _ _ _).trans (by kernel_rfl)
def decl_Check (d : TDecl) : (Option ((Int × Unit) × Unit)) :=
  (decl_name d.1).bind fun y1 =>
    if (!y1.1.1) = true then
      some ((4, ()), ())
    else
      if (d.2.1 != 2) = true then
        if (d.2.1 != 3) = true then
          decl_Check_l4 true d
        else
          if (d.2.2.1 != 5) = true then
            if (d.2.2.1 != 6) = true then
              decl_Check_l4 true d
            else
              decl_Check_l4 ((d.2.2.2.length : Int) == 0) d
          else
            decl_Check_l4 ((d.2.2.2.length : Int) == 0) d
      else
        if (d.2.2.1 != 5) = true then
          if (d.2.2.1 != 6) = true then
            decl_Check_l4 true d
          else
            decl_Check_l4 ((d.2.2.2.length : Int) == 0) d
        else
          decl_Check_l4 ((d.2.2.2.length : Int) == 0) d
def fc43 : FC := ⟨⟨[.row (.cons .str (.cons (.int .i64) (.cons (.int .i64) (.sl (.cons .str (.cons (.sl (.cons (.int .i64) (.cons (.int .i64) (.cons .str (.cons .bool (.sl (.cons (.int .i64) (.int .i64)))))))) (.cons .bool (.cons (.int .i64) (.cons (.int .i64) (.cons .str (.cons .bool (.sl (.cons (.int .i64) (.int .i64))))))))))))))], []⟩, ⟨[.one (.int .i64)], []⟩, fun x => decl_Check x.1.1⟩
theorem con43 : Contract Try.prog 43 fc43 :=
  decl_Check_D.contract tok (cok_of (l := [(32, fc32), (60, fc60), (61, fc61)]) ⟨con32, con60, con61, trivial⟩) mixed (fn' := Try.f43) (by kernel_rfl) (by kernel_rfl) rfl (by kernel_rfl) (fun x => (FD.fn_eq _ _).trans (by kernel_rfl))
end
end Go.Proofs.Ytgjimkgehbppbab
end

section
/-
Ytgjimkgehbppbab: signalbench.declcheck.top, as one plain function, its equations, its contract. No condition.
-/
set_option maxRecDepth 100000
set_option linter.unusedVariables false
set_option maxHeartbeats 4000000
open Go Go.AM
namespace Go.Proofs.Ytgjimkgehbppbab
noncomputable section
def declcheck_top_D : FD := ⟨T, lookC [], [], (Try.f62.body.getD .skip), Try.f62.results.toList, ⟨[.row (.cons .str (.cons (.int .i64) (.cons (.int .i64) (.sl (.cons .str (.cons (.sl (.cons (.int .i64) (.cons (.int .i64) (.cons .str (.cons .bool (.sl (.cons (.int .i64) (.int .i64)))))))) (.cons .bool (.cons (.int .i64) (.cons (.int .i64) (.cons .str (.cons .bool (.sl (.cons (.int .i64) (.int .i64))))))))))))))], []⟩, ⟨[.one (.int .i64)], []⟩, []⟩
def declcheck_top (d : TDecl) : (Option ((Int × Unit) × Unit)) :=
  if (d.2.1 == 2) = true then
    some ((1, ()), ())
  else
    some ((255, ()), ())
def fc62 : FC := ⟨⟨[.row (.cons .str (.cons (.int .i64) (.cons (.int .i64) (.sl (.cons .str (.cons (.sl (.cons (.int .i64) (.cons (.int .i64) (.cons .str (.cons .bool (.sl (.cons (.int .i64) (.int .i64)))))))) (.cons .bool (.cons (.int .i64) (.cons (.int .i64) (.cons .str (.cons .bool (.sl (.cons (.int .i64) (.int .i64))))))))))))))], []⟩, ⟨[.one (.int .i64)], []⟩, fun x => declcheck_top x.1.1⟩
theorem con62 : Contract Try.prog 62 fc62 :=
  declcheck_top_D.contract tok (cok_of (l := []) trivial) mixed (fn' := Try.f62) (by kernel_rfl) (by kernel_rfl) rfl (by kernel_rfl) (fun x => (FD.fn_eq _ _).trans (by kernel_rfl))
end
end Go.Proofs.Ytgjimkgehbppbab
end

section
/-
Ytgjimkgehbppbab: signalbench.declcheck.Ambiguous, as one plain function, its equations, its contract. No condition.
-/
set_option maxRecDepth 100000
set_option linter.unusedVariables false
set_option maxHeartbeats 4000000
open Go Go.AM
namespace Go.Proofs.Ytgjimkgehbppbab
noncomputable section
def declcheck_Ambiguous_F4 : FSh := ⟨[(1, .one (.ptr 0 0)), (2, .one (.int .i64)), (3, .one (.int .i64)), (4, .one .bool), (12, .one (.sl (.cons .str (.cons (.sl (.cons (.int .i64) (.cons (.int .i64) (.cons .str (.cons .bool (.sl (.cons (.int .i64) (.int .i64)))))))) (.cons .bool (.cons (.int .i64) (.cons (.int .i64) (.cons .str (.cons .bool (.sl (.cons (.int .i64) (.int .i64)))))))))))), (13, .one (.int .i64)), (14, .one (.int .i64))], [.boxr (.cons .str (.cons (.int .i64) (.cons (.int .i64) (.sl (.cons .str (.cons (.sl (.cons (.int .i64) (.cons (.int .i64) (.cons .str (.cons .bool (.sl (.cons (.int .i64) (.int .i64)))))))) (.cons .bool (.cons (.int .i64) (.cons (.int .i64) (.cons .str (.cons .bool (.sl (.cons (.int .i64) (.int .i64))))))))))))))]⟩
def declcheck_Ambiguous_F10 : FSh := ⟨[(1, .one (.ptr 0 0)), (2, .one (.int .i64)), (3, .one (.int .i64)), (4, .one .bool), (5, .one (.int .i64)), (6, .one (.ptr 1 0)), (7, .one (.int .i64)), (12, .one (.sl (.cons .str (.cons (.sl (.cons (.int .i64) (.cons (.int .i64) (.cons .str (.cons .bool (.sl (.cons (.int .i64) (.int .i64)))))))) (.cons .bool (.cons (.int .i64) (.cons (.int .i64) (.cons .str (.cons .bool (.sl (.cons (.int .i64) (.int .i64)))))))))))), (13, .one (.int .i64)), (14, .one (.int .i64))], [.boxr (.cons .str (.cons (.int .i64) (.cons (.int .i64) (.sl (.cons .str (.cons (.sl (.cons (.int .i64) (.cons (.int .i64) (.cons .str (.cons .bool (.sl (.cons (.int .i64) (.int .i64)))))))) (.cons .bool (.cons (.int .i64) (.cons (.int .i64) (.cons .str (.cons .bool (.sl (.cons (.int .i64) (.int .i64)))))))))))))), .boxr (.cons .str (.cons (.sl (.cons (.int .i64) (.cons (.int .i64) (.cons .str (.cons .bool (.sl (.cons (.int .i64) (.int .i64)))))))) (.cons .bool (.cons (.int .i64) (.cons (.int .i64) (.cons .str (.cons .bool (.sl (.cons (.int .i64) (.int .i64))))))))))]⟩
def declcheck_Ambiguous_F16 : FSh := ⟨[(1, .one (.ptr 0 0)), (2, .one (.int .i64)), (3, .one (.int .i64)), (4, .one .bool), (5, .one (.int .i64)), (6, .one (.ptr 1 0)), (7, .one (.int .i64)), (8, .one .bool), (12, .one (.sl (.cons .str (.cons (.sl (.cons (.int .i64) (.cons (.int .i64) (.cons .str (.cons .bool (.sl (.cons (.int .i64) (.int .i64)))))))) (.cons .bool (.cons (.int .i64) (.cons (.int .i64) (.cons .str (.cons .bool (.sl (.cons (.int .i64) (.int .i64)))))))))))), (13, .one (.int .i64)), (14, .one (.int .i64)), (26, .one (.sl (.cons (.int .i64) (.cons (.int .i64) (.cons .str (.cons .bool (.sl (.cons (.int .i64) (.int .i64))))))))), (27, .one (.int .i64)), (28, .one (.int .i64))], [.boxr (.cons .str (.cons (.int .i64) (.cons (.int .i64) (.sl (.cons .str (.cons (.sl (.cons (.int .i64) (.cons (.int .i64) (.cons .str (.cons .bool (.sl (.cons (.int .i64) (.int .i64)))))))) (.cons .bool (.cons (.int .i64) (.cons (.int .i64) (.cons .str (.cons .bool (.sl (.cons (.int .i64) (.int .i64)))))))))))))), .boxr (.cons .str (.cons (.sl (.cons (.int .i64) (.cons (.int .i64) (.cons .str (.cons .bool (.sl (.cons (.int .i64) (.int .i64)))))))) (.cons .bool (.cons (.int .i64) (.cons (.int .i64) (.cons .str (.cons .bool (.sl (.cons (.int .i64) (.int .i64))))))))))]⟩
def declcheck_Ambiguous_D : FD := ⟨T, lookC [(62, fc62)], [], (Try.f44.body.getD .skip), Try.f44.results.toList, ⟨[.row (.cons .str (.cons (.int .i64) (.cons (.int .i64) (.sl (.cons .str (.cons (.sl (.cons (.int .i64) (.cons (.int .i64) (.cons .str (.cons .bool (.sl (.cons (.int .i64) (.int .i64)))))))) (.cons .bool (.cons (.int .i64) (.cons (.int .i64) (.cons .str (.cons .bool (.sl (.cons (.int .i64) (.int .i64))))))))))))))], []⟩, ⟨[.one (.int .i64), .one (.int .i64), .one .bool], []⟩, [(4, declcheck_Ambiguous_F4), (10, declcheck_Ambiguous_F10), (16, declcheck_Ambiguous_F16)]⟩
def declcheck_Ambiguous_l4 (state : Int) (symbol : Int) (found : Bool) (t12 : (List TDeclState)) (t13 : Int) (t14 : Int) (h0 : TDecl) : (Option ((Int × Int × Bool × Unit) × Unit)) := declcheck_Ambiguous_D.lab 4 declcheck_Ambiguous_F4 (((), state, symbol, found, t12, t13, t14, ()), (h0, ()))
def declcheck_Ambiguous_l10 (state : Int) (symbol : Int) (found : Bool) (i : Int) (x0 : Int) (t12 : (List TDeclState)) (t13 : Int) (t14 : Int) (h0 : TDecl) (h1 : TDeclState) : (Option ((Int × Int × Bool × Unit) × Unit)) := declcheck_Ambiguous_D.lab 10 declcheck_Ambiguous_F10 (((), state, symbol, found, i, (), x0, t12, t13, t14, ()), (h0, h1, ()))
def declcheck_Ambiguous_l16 (state : Int) (symbol : Int) (found : Bool) (i : Int) (x0 : Int) (seen : Bool) (t12 : (List TDeclState)) (t13 : Int) (t14 : Int) (t26 : (List TRule)) (t27 : Int) (t28 : Int) (h0 : TDecl) (h1 : TDeclState) : (Option ((Int × Int × Bool × Unit) × Unit)) := declcheck_Ambiguous_D.lab 16 declcheck_Ambiguous_F16 (((), state, symbol, found, i, (), x0, seen, t12, t13, t14, t26, t27, t28, ()), (h0, h1, ()))
theorem declcheck_Ambiguous_l4_eq (state : Int) (symbol : Int) (found : Bool) (t12 : (List TDeclState)) (t13 : Int) (t14 : Int) (h0 : TDecl) : declcheck_Ambiguous_l4 state symbol found t12 t13 t14 h0 =
  if (decide (t14 < t13)) = true then
    if 0 ≤ t14 ∧ t14 < (t12.length : Int) then
      declcheck_Ambiguous_l10 state symbol found t14 0 t12 t13 t14 h0 (t12.getD t14.toNat dDeclState)
    else
      none
  else
    some ((state, symbol, found, ()), ()) := (FD.lab_eq _ _ _ _).trans (by kernel_rfl)
theorem declcheck_Ambiguous_l10_eq (state : Int) (symbol : Int) (found : Bool) (i : Int) (x0 : Int) (t12 : (List TDeclState)) (t13 : Int) (t14 : Int) (h0 : TDecl) (h1 : TDeclState) : declcheck_Ambiguous_l10 state symbol found i x0 t12 t13 t14 h0 h1 =
  (declcheck_top h0).bind fun y1 =>
    if (decide (x0 ≤ y1.1.1)) = true then
      declcheck_Ambiguous_l16 state symbol found i x0 false t12 t13 t14 h1.2.1 (h1.2.1.length : Int) 0 h0 h1
    else
      declcheck_Ambiguous_l4 state symbol found t12 t13 (IntKind.i64.wrap (t14 + 1)) h0 := (FD.lab_eq _ _ _ _).trans (by kernel_rfl)
theorem declcheck_Ambiguous_l16_eq (state : Int) (symbol : Int) (found : Bool) (i : Int) (x0 : Int) (seen : Bool) (t12 : (List TDeclState)) (t13 : Int) (t14 : Int) (t26 : (List TRule)) (t27 : Int) (t28 : Int) (h0 : TDecl) (h1 : TDeclState) : declcheck_Ambiguous_l16 state symbol found i x0 seen t12 t13 t14 t26 t27 t28 h0 h1 =
  if (decide (t28 < t27)) = true then
    if 0 ≤ t28 ∧ t28 < (t26.length : Int) then
      if (decide (x0 < (t26.getD t28.toNat dRule).1)) = true then
        declcheck_Ambiguous_l16 state symbol found i x0 seen t12 t13 t14 t26 t27 (IntKind.i64.wrap (t28 + 1)) h0 h1
      else
        if (decide (x0 > (t26.getD t28.toNat dRule).2.1)) = true then
          declcheck_Ambiguous_l16 state symbol found i x0 seen t12 t13 t14 t26 t27 (IntKind.i64.wrap (t28 + 1)) h0 h1
        else
          if seen = true then
            some ((i, x0, true, ()), ())
          else
            declcheck_Ambiguous_l16 state symbol found i x0 true t12 t13 t14 t26 t27 (IntKind.i64.wrap (t28 + 1)) h0 h1
    else
      none
  else
    declcheck_Ambiguous_l10 state symbol found i (IntKind.i64.wrap (x0 + 1)) t12 t13 t14 h0 h1 := (FD.lab_eq _ _ _ _).trans (by kernel_rfl)
def declcheck_Ambiguous (d : TDecl) : (Option ((Int × Int × Bool × Unit) × Unit)) :=
  declcheck_Ambiguous_l4 0 0 false d.2.2.2 (d.2.2.2.length : Int) 0 d
def fc44 : FC := ⟨⟨[.row (.cons .str (.cons (.int .i64) (.cons (.int .i64) (.sl (.cons .str (.cons (.sl (.cons (.int .i64) (.cons (.int .i64) (.cons .str (.cons .bool (.sl (.cons (.int .i64) (.int .i64)))))))) (.cons .bool (.cons (.int .i64) (.cons (.int .i64) (.cons .str (.cons .bool (.sl (.cons (.int .i64) (.int .i64))))))))))))))], []⟩, ⟨[.one (.int .i64), .one (.int .i64), .one .bool], []⟩, fun x => declcheck_Ambiguous x.1.1⟩
theorem con44 : Contract Try.prog 44 fc44 :=
  declcheck_Ambiguous_D.contract tok (cok_of (l := [(62, fc62)]) ⟨con62, trivial⟩) mixed (fn' := Try.f44) (by kernel_rfl) (by kernel_rfl) rfl (by kernel_rfl) (fun x => (FD.fn_eq _ _).trans (by kernel_rfl))
end
end Go.Proofs.Ytgjimkgehbppbab
end

section
/-
Ytgjimkgehbppbab: signalbench.decl.own, as one plain function, its equations, its contract. No condition.
-/
set_option maxRecDepth 100000
set_option linter.unusedVariables false
set_option maxHeartbeats 4000000
open Go Go.AM
namespace Go.Proofs.Ytgjimkgehbppbab
noncomputable section
def decl_own_D : FD := ⟨T, lookC [], [], (Try.f48.body.getD .skip), Try.f48.results.toList, ⟨[.row (.cons (.int .i64) (.cons (.int .i64) (.cons .str (.cons .bool (.sl (.cons (.int .i64) (.int .i64)))))))], []⟩, ⟨[.row (.cons (.int .i64) (.cons (.int .i64) (.cons .str (.cons .bool (.sl (.cons (.int .i64) (.int .i64)))))))], []⟩, []⟩
def decl_own (r : TRule) : (Option ((TRule × Unit) × Unit)) :=
  if r.2.2.2.2.length * 16 ≤ 140737488355328 ∧ 0 < 16 then
    some ((r, ()), ())
  else
    none
def fc48 : FC := ⟨⟨[.row (.cons (.int .i64) (.cons (.int .i64) (.cons .str (.cons .bool (.sl (.cons (.int .i64) (.int .i64)))))))], []⟩, ⟨[.row (.cons (.int .i64) (.cons (.int .i64) (.cons .str (.cons .bool (.sl (.cons (.int .i64) (.int .i64)))))))], []⟩, fun x => decl_own x.1.1⟩
theorem con48 : Contract Try.prog 48 fc48 :=
  decl_own_D.contract tok (cok_of (l := []) trivial) mixed (fn' := Try.f48) (by kernel_rfl) (by kernel_rfl) rfl (by kernel_rfl) (fun x => (FD.fn_eq _ _).trans (by kernel_rfl))
end
end Go.Proofs.Ytgjimkgehbppbab
end

section
/-
Ytgjimkgehbppbab: signalbench.decl.Match, as one plain function, its equations, its contract. No condition.
-/
set_option maxRecDepth 100000
set_option linter.unusedVariables false
set_option maxHeartbeats 4000000
open Go Go.AM
namespace Go.Proofs.Ytgjimkgehbppbab
noncomputable section
def decl_Match_F7 : FSh := ⟨[(2, .one (.int .i64)), (6, .one (.ptr 0 0)), (8, .one (.ptr 1 0)), (27, .one (.sl (.cons (.int .i64) (.cons (.int .i64) (.cons .str (.cons .bool (.sl (.cons (.int .i64) (.int .i64))))))))), (28, .one (.int .i64)), (29, .one (.int .i64))], [.boxr (.cons (.int .i64) (.cons (.int .i64) (.cons .str (.cons .bool (.sl (.cons (.int .i64) (.int .i64))))))), .boxr (.cons .str (.cons (.sl (.cons (.int .i64) (.cons (.int .i64) (.cons .str (.cons .bool (.sl (.cons (.int .i64) (.int .i64)))))))) (.cons .bool (.cons (.int .i64) (.cons (.int .i64) (.cons .str (.cons .bool (.sl (.cons (.int .i64) (.int .i64))))))))))]⟩
def decl_Match_D : FD := ⟨T, lookC [(48, fc48)], [], (Try.f30.body.getD .skip), Try.f30.results.toList, ⟨[.row (.cons .str (.cons (.int .i64) (.cons (.int .i64) (.sl (.cons .str (.cons (.sl (.cons (.int .i64) (.cons (.int .i64) (.cons .str (.cons .bool (.sl (.cons (.int .i64) (.int .i64)))))))) (.cons .bool (.cons (.int .i64) (.cons (.int .i64) (.cons .str (.cons .bool (.sl (.cons (.int .i64) (.int .i64)))))))))))))), .one (.int .i64), .one (.int .i64)], []⟩, ⟨[.row (.cons (.int .i64) (.cons (.int .i64) (.cons .str (.cons .bool (.sl (.cons (.int .i64) (.int .i64))))))), .one .bool], []⟩, [(7, decl_Match_F7)]⟩
def decl_Match_l7 (symbol : Int) (t27 : (List TRule)) (t28 : Int) (t29 : Int) (h0 : TRule) (h1 : TDeclState) : (Option ((TRule × Bool × Unit) × Unit)) := decl_Match_D.lab 7 decl_Match_F7 ((symbol, (), (), t27, t28, t29, ()), (h0, h1, ()))
theorem decl_Match_l7_eq (symbol : Int) (t27 : (List TRule)) (t28 : Int) (t29 : Int) (h0 : TRule) (h1 : TDeclState) : decl_Match_l7 symbol t27 t28 t29 h0 h1 =
  if (decide (t29 < t28)) = true then
    if 0 ≤ t29 ∧ t29 < (t27.length : Int) then
      if (decide ((t27.getD t29.toNat dRule).1 ≤ symbol)) = true then
        if (decide (symbol ≤ (t27.getD t29.toNat dRule).2.1)) = true then
          (decl_own (t27.getD t29.toNat dRule)).bind fun y1 =>
            some ((y1.1.1, true, ()), ())
        else
          decl_Match_l7 symbol t27 t28 (IntKind.i64.wrap (t29 + 1)) h0 h1
      else
        decl_Match_l7 symbol t27 t28 (IntKind.i64.wrap (t29 + 1)) h0 h1
    else
      none
  else
    if h1.2.2.1 = true then
      (decl_own h1.2.2.2).bind fun y2 =>
        some ((y2.1.1, true, ()), ())
    else
      some (((0, 0, (strB []), false, []), false, ()), ()) := (FD.lab_eq _ _ _ _).trans (by kernel_rfl)
def decl_Match (d : TDecl) (state : Int) (symbol : Int) : (Option ((TRule × Bool × Unit) × Unit)) :=
  if (decide (state < 0)) = true then
    some (((0, 0, (strB []), false, []), false, ()), ())
  else
    if (decide (state ≥ (d.2.2.2.length : Int))) = true then
      some (((0, 0, (strB []), false, []), false, ()), ())
    else
      if 0 ≤ state ∧ state < (d.2.2.2.length : Int) then
        decl_Match_l7 symbol (d.2.2.2.getD state.toNat dDeclState).2.1 ((d.2.2.2.getD state.toNat dDeclState).2.1.length : Int) 0 (0, 0, (strB []), false, []) (d.2.2.2.getD state.toNat dDeclState)
      else
        none
def fc30 : FC := ⟨⟨[.row (.cons .str (.cons (.int .i64) (.cons (.int .i64) (.sl (.cons .str (.cons (.sl (.cons (.int .i64) (.cons (.int .i64) (.cons .str (.cons .bool (.sl (.cons (.int .i64) (.int .i64)))))))) (.cons .bool (.cons (.int .i64) (.cons (.int .i64) (.cons .str (.cons .bool (.sl (.cons (.int .i64) (.int .i64)))))))))))))), .one (.int .i64), .one (.int .i64)], []⟩, ⟨[.row (.cons (.int .i64) (.cons (.int .i64) (.cons .str (.cons .bool (.sl (.cons (.int .i64) (.int .i64))))))), .one .bool], []⟩, fun x => decl_Match x.1.1 x.1.2.1 x.1.2.2.1⟩
theorem con30 : Contract Try.prog 30 fc30 :=
  decl_Match_D.contract tok (cok_of (l := [(48, fc48)]) ⟨con48, trivial⟩) mixed (fn' := Try.f30) (by kernel_rfl) (by kernel_rfl) rfl (by kernel_rfl) (fun x => (FD.fn_eq _ _).trans (by kernel_rfl))
end
end Go.Proofs.Ytgjimkgehbppbab
end

section
/-
Ytgjimkgehbppbab: signalbench.declcheck.endless, as one plain function, its equations, its contract. No condition.
-/
set_option maxRecDepth 100000
set_option linter.unusedVariables false
set_option maxHeartbeats 4000000
open Go Go.AM
namespace Go.Proofs.Ytgjimkgehbppbab
noncomputable section
def declcheck_endless_F3 : FSh := ⟨[(1, .one (.int .i64)), (2, .one (.int .i64)), (3, .one (.ptr 0 0)), (7, .one (.own 1))], [.boxr (.cons .str (.cons (.int .i64) (.cons (.int .i64) (.sl (.cons .str (.cons (.sl (.cons (.int .i64) (.cons (.int .i64) (.cons .str (.cons .bool (.sl (.cons (.int .i64) (.int .i64)))))))) (.cons .bool (.cons (.int .i64) (.cons (.int .i64) (.cons .str (.cons .bool (.sl (.cons (.int .i64) (.int .i64)))))))))))))), .arr 4 .bool true]⟩
def declcheck_endless_D : FD := ⟨T, lookC [(30, fc30), (32, fc32)], [], (Try.f66.body.getD .skip), Try.f66.results.toList, ⟨[.row (.cons .str (.cons (.int .i64) (.cons (.int .i64) (.sl (.cons .str (.cons (.sl (.cons (.int .i64) (.cons (.int .i64) (.cons .str (.cons .bool (.sl (.cons (.int .i64) (.int .i64)))))))) (.cons .bool (.cons (.int .i64) (.cons (.int .i64) (.cons .str (.cons .bool (.sl (.cons (.int .i64) (.int .i64)))))))))))))), .one (.int .i64), .one (.int .i64)], []⟩, ⟨[.one .bool], []⟩, [(3, declcheck_endless_F3)]⟩
def declcheck_endless_l3 (state : Int) (symbol : Int) (h0 : TDecl) (l1 : (List Bool)) : (Option ((Bool × Unit) × Unit)) := declcheck_endless_D.lab 3 declcheck_endless_F3 ((state, symbol, (), (), ()), (h0, l1, ()))
theorem declcheck_endless_l3_eq (state : Int) (symbol : Int) (h0 : TDecl) (l1 : (List Bool)) : declcheck_endless_l3 state symbol h0 l1 =
  if (decide (state ≥ 0)) = true then
    if 0 ≤ state ∧ state < (l1.length : Int) then
      if (!(l1.getD state.toNat false)) = true then
        if 0 ≤ state ∧ state < (l1.length : Int) then
          (decl_Match h0 state symbol).bind fun y1 =>
            if (!y1.1.2.1) = true then
              some ((false, ()), ())
            else
              if (!y1.1.1.2.2.2.1) = true then
                some ((false, ()), ())
              else
                (decl_Find h0 y1.1.1.2.2.1).bind fun y2 =>
                  declcheck_endless_l3 y2.1.1 symbol h0 (l1.set state.toNat true)
        else
          none
      else
        some ((decide (state ≥ 0), ()), ())
    else
      none
  else
    some ((decide (state ≥ 0), ()), ()) := (FD.lab_eq _ _ _ _).trans (by kernel_rfl)
def declcheck_endless (d : TDecl) (state : Int) (symbol : Int) : (Option ((Bool × Unit) × Unit)) :=
  if ((d.2.2.2.length : Int) = 0 ∨ (d.2.2.2.length : Int) = (d.2.2.2.length : Int)) ∧ 0 ≤ (d.2.2.2.length : Int) ∧ (d.2.2.2.length : Int) * 1 ≤ 140737488355328 ∧ 0 < 1 then
    declcheck_endless_l3 state symbol d (List.replicate (d.2.2.2.length : Int).toNat false)
  else
    none
def fc66 : FC := ⟨⟨[.row (.cons .str (.cons (.int .i64) (.cons (.int .i64) (.sl (.cons .str (.cons (.sl (.cons (.int .i64) (.cons (.int .i64) (.cons .str (.cons .bool (.sl (.cons (.int .i64) (.int .i64)))))))) (.cons .bool (.cons (.int .i64) (.cons (.int .i64) (.cons .str (.cons .bool (.sl (.cons (.int .i64) (.int .i64)))))))))))))), .one (.int .i64), .one (.int .i64)], []⟩, ⟨[.one .bool], []⟩, fun x => declcheck_endless x.1.1 x.1.2.1 x.1.2.2.1⟩
theorem con66 : Contract Try.prog 66 fc66 :=
  declcheck_endless_D.contract tok (cok_of (l := [(30, fc30), (32, fc32)]) ⟨con30, con32, trivial⟩) mixed (fn' := Try.f66) (by kernel_rfl) (by kernel_rfl) rfl (by kernel_rfl) (fun x => (FD.fn_eq _ _).trans (by kernel_rfl))
end
end Go.Proofs.Ytgjimkgehbppbab
end

section
/-
Ytgjimkgehbppbab: signalbench.declcheck.Cycle$1, as one plain function, its equations, its contract. No condition.
-/
set_option maxRecDepth 100000
set_option linter.unusedVariables false
set_option maxHeartbeats 4000000
open Go Go.AM
namespace Go.Proofs.Ytgjimkgehbppbab
noncomputable section
def declcheck_Cycle_1_D : FD := ⟨T, lookC [(66, fc66)], [], (Try.f65.body.getD .skip), Try.f65.results.toList, ⟨[.one (.int .i64), .one (.int .i64), .one (.ptr 0 0)], [.boxr (.cons .str (.cons (.int .i64) (.cons (.int .i64) (.sl (.cons .str (.cons (.sl (.cons (.int .i64) (.cons (.int .i64) (.cons .str (.cons .bool (.sl (.cons (.int .i64) (.int .i64)))))))) (.cons .bool (.cons (.int .i64) (.cons (.int .i64) (.cons .str (.cons .bool (.sl (.cons (.int .i64) (.int .i64))))))))))))))]⟩, ⟨[.one .bool], [.boxr (.cons .str (.cons (.int .i64) (.cons (.int .i64) (.sl (.cons .str (.cons (.sl (.cons (.int .i64) (.cons (.int .i64) (.cons .str (.cons .bool (.sl (.cons (.int .i64) (.int .i64)))))))) (.cons .bool (.cons (.int .i64) (.cons (.int .i64) (.cons .str (.cons .bool (.sl (.cons (.int .i64) (.int .i64))))))))))))))]⟩, []⟩
def declcheck_Cycle_1 (state : Int) (symbol : Int) (h0 : TDecl) : (Option ((Bool × Unit) × (TDecl × Unit))) :=
  (declcheck_endless h0 state symbol).bind fun y1 =>
    some ((y1.1.1, ()), (h0, ()))
def fc65 : FC := ⟨⟨[.one (.int .i64), .one (.int .i64), .one (.ptr 0 0)], [.boxr (.cons .str (.cons (.int .i64) (.cons (.int .i64) (.sl (.cons .str (.cons (.sl (.cons (.int .i64) (.cons (.int .i64) (.cons .str (.cons .bool (.sl (.cons (.int .i64) (.int .i64)))))))) (.cons .bool (.cons (.int .i64) (.cons (.int .i64) (.cons .str (.cons .bool (.sl (.cons (.int .i64) (.int .i64))))))))))))))]⟩, ⟨[.one .bool], [.boxr (.cons .str (.cons (.int .i64) (.cons (.int .i64) (.sl (.cons .str (.cons (.sl (.cons (.int .i64) (.cons (.int .i64) (.cons .str (.cons .bool (.sl (.cons (.int .i64) (.int .i64)))))))) (.cons .bool (.cons (.int .i64) (.cons (.int .i64) (.cons .str (.cons .bool (.sl (.cons (.int .i64) (.int .i64))))))))))))))]⟩, fun x => declcheck_Cycle_1 x.1.1 x.1.2.1 x.2.1⟩
theorem con65 : Contract Try.prog 65 fc65 :=
  declcheck_Cycle_1_D.contract tok (cok_of (l := [(66, fc66)]) ⟨con66, trivial⟩) mixed (fn' := Try.f65) (by kernel_rfl) (by kernel_rfl) rfl (by kernel_rfl) (fun x => (FD.fn_eq _ _).trans (by kernel_rfl))
end
end Go.Proofs.Ytgjimkgehbppbab
end

section
/-
Ytgjimkgehbppbab: signalbench.declcheck.first, as one plain function, its equations, its contract. No condition.
-/
set_option maxRecDepth 100000
set_option linter.unusedVariables false
set_option maxHeartbeats 4000000
open Go Go.AM
namespace Go.Proofs.Ytgjimkgehbppbab
noncomputable section
def declcheck_firstC_F3 : FSh := ⟨[(1, .one (.fn 65 [0])), (2, .one (.ptr 1 0)), (11, .one (.int .i64)), (12, .one (.int .i64))], [.boxr (.cons .str (.cons (.int .i64) (.cons (.int .i64) (.sl (.cons .str (.cons (.sl (.cons (.int .i64) (.cons (.int .i64) (.cons .str (.cons .bool (.sl (.cons (.int .i64) (.int .i64)))))))) (.cons .bool (.cons (.int .i64) (.cons (.int .i64) (.cons .str (.cons .bool (.sl (.cons (.int .i64) (.int .i64)))))))))))))), .boxr (.cons .str (.cons (.int .i64) (.cons (.int .i64) (.sl (.cons .str (.cons (.sl (.cons (.int .i64) (.cons (.int .i64) (.cons .str (.cons .bool (.sl (.cons (.int .i64) (.int .i64)))))))) (.cons .bool (.cons (.int .i64) (.cons (.int .i64) (.cons .str (.cons .bool (.sl (.cons (.int .i64) (.int .i64))))))))))))))]⟩
def declcheck_firstC_F9 : FSh := ⟨[(1, .one (.fn 65 [0])), (2, .one (.ptr 1 0)), (7, .one (.int .i64)), (8, .one (.int .i64)), (11, .one (.int .i64)), (12, .one (.int .i64))], [.boxr (.cons .str (.cons (.int .i64) (.cons (.int .i64) (.sl (.cons .str (.cons (.sl (.cons (.int .i64) (.cons (.int .i64) (.cons .str (.cons .bool (.sl (.cons (.int .i64) (.int .i64)))))))) (.cons .bool (.cons (.int .i64) (.cons (.int .i64) (.cons .str (.cons .bool (.sl (.cons (.int .i64) (.int .i64)))))))))))))), .boxr (.cons .str (.cons (.int .i64) (.cons (.int .i64) (.sl (.cons .str (.cons (.sl (.cons (.int .i64) (.cons (.int .i64) (.cons .str (.cons .bool (.sl (.cons (.int .i64) (.int .i64)))))))) (.cons .bool (.cons (.int .i64) (.cons (.int .i64) (.cons .str (.cons .bool (.sl (.cons (.int .i64) (.int .i64))))))))))))))]⟩
def declcheck_firstC_D : FD := ⟨T, lookC [(62, fc62), (65, fc65)], [], (Try.f63.body.getD .skip), Try.f63.results.toList, ⟨[.row (.cons .str (.cons (.int .i64) (.cons (.int .i64) (.sl (.cons .str (.cons (.sl (.cons (.int .i64) (.cons (.int .i64) (.cons .str (.cons .bool (.sl (.cons (.int .i64) (.int .i64)))))))) (.cons .bool (.cons (.int .i64) (.cons (.int .i64) (.cons .str (.cons .bool (.sl (.cons (.int .i64) (.int .i64)))))))))))))), .one (.fn 65 [0])], [.boxr (.cons .str (.cons (.int .i64) (.cons (.int .i64) (.sl (.cons .str (.cons (.sl (.cons (.int .i64) (.cons (.int .i64) (.cons .str (.cons .bool (.sl (.cons (.int .i64) (.int .i64)))))))) (.cons .bool (.cons (.int .i64) (.cons (.int .i64) (.cons .str (.cons .bool (.sl (.cons (.int .i64) (.int .i64))))))))))))))]⟩, ⟨[.one (.int .i64), .one (.int .i64), .one .bool], [.boxr (.cons .str (.cons (.int .i64) (.cons (.int .i64) (.sl (.cons .str (.cons (.sl (.cons (.int .i64) (.cons (.int .i64) (.cons .str (.cons .bool (.sl (.cons (.int .i64) (.int .i64)))))))) (.cons .bool (.cons (.int .i64) (.cons (.int .i64) (.cons .str (.cons .bool (.sl (.cons (.int .i64) (.int .i64))))))))))))))]⟩, [(3, declcheck_firstC_F3), (9, declcheck_firstC_F9)]⟩
def declcheck_firstC_l3 (t11 : Int) (t12 : Int) (h0 : TDecl) (h1 : TDecl) : (Option ((Int × Int × Bool × Unit) × (TDecl × Unit))) := declcheck_firstC_D.lab 3 declcheck_firstC_F3 (((), (), t11, t12, ()), (h0, h1, ()))
def declcheck_firstC_l9 (i : Int) (x0 : Int) (t11 : Int) (t12 : Int) (h0 : TDecl) (h1 : TDecl) : (Option ((Int × Int × Bool × Unit) × (TDecl × Unit))) := declcheck_firstC_D.lab 9 declcheck_firstC_F9 (((), (), i, x0, t11, t12, ()), (h0, h1, ()))
theorem declcheck_firstC_l3_eq (t11 : Int) (t12 : Int) (h0 : TDecl) (h1 : TDecl) : declcheck_firstC_l3 t11 t12 h0 h1 =
  if (decide (t12 < t11)) = true then
    declcheck_firstC_l9 t12 0 t11 t12 h0 h1
  else
    some ((0, 0, false, ()), (h0, ())) := (FD.lab_eq _ _ _ _).trans (by kernel_rfl)
theorem declcheck_firstC_l9_eq (i : Int) (x0 : Int) (t11 : Int) (t12 : Int) (h0 : TDecl) (h1 : TDecl) : declcheck_firstC_l9 i x0 t11 t12 h0 h1 =
  (declcheck_top h1).bind fun y1 =>
    if (decide (x0 ≤ y1.1.1)) = true then
      (declcheck_Cycle_1 i x0 h0).bind fun y2 =>
        if y2.1.1 = true then
          some ((i, x0, true, ()), (y2.2.1, ()))
        else
          declcheck_firstC_l9 i (IntKind.i64.wrap (x0 + 1)) t11 t12 y2.2.1 h1
    else
      declcheck_firstC_l3 t11 (IntKind.i64.wrap (t12 + 1)) h0 h1 := (FD.lab_eq _ _ _ _).trans (by kernel_rfl)
def declcheck_firstC (d : TDecl) (h0 : TDecl) : (Option ((Int × Int × Bool × Unit) × (TDecl × Unit))) :=
  declcheck_firstC_l3 (d.2.2.2.length : Int) 0 h0 d
def fc63C : FC := ⟨⟨[.row (.cons .str (.cons (.int .i64) (.cons (.int .i64) (.sl (.cons .str (.cons (.sl (.cons (.int .i64) (.cons (.int .i64) (.cons .str (.cons .bool (.sl (.cons (.int .i64) (.int .i64)))))))) (.cons .bool (.cons (.int .i64) (.cons (.int .i64) (.cons .str (.cons .bool (.sl (.cons (.int .i64) (.int .i64)))))))))))))), .one (.fn 65 [0])], [.boxr (.cons .str (.cons (.int .i64) (.cons (.int .i64) (.sl (.cons .str (.cons (.sl (.cons (.int .i64) (.cons (.int .i64) (.cons .str (.cons .bool (.sl (.cons (.int .i64) (.int .i64)))))))) (.cons .bool (.cons (.int .i64) (.cons (.int .i64) (.cons .str (.cons .bool (.sl (.cons (.int .i64) (.int .i64))))))))))))))]⟩, ⟨[.one (.int .i64), .one (.int .i64), .one .bool], [.boxr (.cons .str (.cons (.int .i64) (.cons (.int .i64) (.sl (.cons .str (.cons (.sl (.cons (.int .i64) (.cons (.int .i64) (.cons .str (.cons .bool (.sl (.cons (.int .i64) (.int .i64)))))))) (.cons .bool (.cons (.int .i64) (.cons (.int .i64) (.cons .str (.cons .bool (.sl (.cons (.int .i64) (.int .i64))))))))))))))]⟩, fun x => declcheck_firstC x.1.1 x.2.1⟩
theorem con63C : Contract Try.prog 63 fc63C :=
  declcheck_firstC_D.contract tok (cok_of (l := [(62, fc62), (65, fc65)]) ⟨con62, con65, trivial⟩) mixed (fn' := Try.f63) (by kernel_rfl) (by kernel_rfl) rfl (by kernel_rfl) (fun x => (FD.fn_eq _ _).trans (by kernel_rfl))
end
end Go.Proofs.Ytgjimkgehbppbab
end

section
/-
Ytgjimkgehbppbab: signalbench.declcheck.Missing$1, as one plain function, its equations, its contract. No condition.
-/
set_option maxRecDepth 100000
set_option linter.unusedVariables false
set_option maxHeartbeats 4000000
open Go Go.AM
namespace Go.Proofs.Ytgjimkgehbppbab
noncomputable section
def declcheck_Missing_1_D : FD := ⟨T, lookC [(30, fc30)], [], (Try.f64.body.getD .skip), Try.f64.results.toList, ⟨[.one (.int .i64), .one (.int .i64), .one (.ptr 0 0)], [.boxr (.cons .str (.cons (.int .i64) (.cons (.int .i64) (.sl (.cons .str (.cons (.sl (.cons (.int .i64) (.cons (.int .i64) (.cons .str (.cons .bool (.sl (.cons (.int .i64) (.int .i64)))))))) (.cons .bool (.cons (.int .i64) (.cons (.int .i64) (.cons .str (.cons .bool (.sl (.cons (.int .i64) (.int .i64))))))))))))))]⟩, ⟨[.one .bool], [.boxr (.cons .str (.cons (.int .i64) (.cons (.int .i64) (.sl (.cons .str (.cons (.sl (.cons (.int .i64) (.cons (.int .i64) (.cons .str (.cons .bool (.sl (.cons (.int .i64) (.int .i64)))))))) (.cons .bool (.cons (.int .i64) (.cons (.int .i64) (.cons .str (.cons .bool (.sl (.cons (.int .i64) (.int .i64))))))))))))))]⟩, []⟩
def declcheck_Missing_1 (state : Int) (symbol : Int) (h0 : TDecl) : (Option ((Bool × Unit) × (TDecl × Unit))) :=
  (decl_Match h0 state symbol).bind fun y1 =>
    some ((!y1.1.2.1, ()), (h0, ()))
def fc64 : FC := ⟨⟨[.one (.int .i64), .one (.int .i64), .one (.ptr 0 0)], [.boxr (.cons .str (.cons (.int .i64) (.cons (.int .i64) (.sl (.cons .str (.cons (.sl (.cons (.int .i64) (.cons (.int .i64) (.cons .str (.cons .bool (.sl (.cons (.int .i64) (.int .i64)))))))) (.cons .bool (.cons (.int .i64) (.cons (.int .i64) (.cons .str (.cons .bool (.sl (.cons (.int .i64) (.int .i64))))))))))))))]⟩, ⟨[.one .bool], [.boxr (.cons .str (.cons (.int .i64) (.cons (.int .i64) (.sl (.cons .str (.cons (.sl (.cons (.int .i64) (.cons (.int .i64) (.cons .str (.cons .bool (.sl (.cons (.int .i64) (.int .i64)))))))) (.cons .bool (.cons (.int .i64) (.cons (.int .i64) (.cons .str (.cons .bool (.sl (.cons (.int .i64) (.int .i64))))))))))))))]⟩, fun x => declcheck_Missing_1 x.1.1 x.1.2.1 x.2.1⟩
theorem con64 : Contract Try.prog 64 fc64 :=
  declcheck_Missing_1_D.contract tok (cok_of (l := [(30, fc30)]) ⟨con30, trivial⟩) mixed (fn' := Try.f64) (by kernel_rfl) (by kernel_rfl) rfl (by kernel_rfl) (fun x => (FD.fn_eq _ _).trans (by kernel_rfl))
end
end Go.Proofs.Ytgjimkgehbppbab
end

section
/-
Ytgjimkgehbppbab: signalbench.declcheck.first, as one plain function, its equations, its contract. No condition.
-/
set_option maxRecDepth 100000
set_option linter.unusedVariables false
set_option maxHeartbeats 4000000
open Go Go.AM
namespace Go.Proofs.Ytgjimkgehbppbab
noncomputable section
def declcheck_firstM_F3 : FSh := ⟨[(1, .one (.fn 64 [0])), (2, .one (.ptr 1 0)), (11, .one (.int .i64)), (12, .one (.int .i64))], [.boxr (.cons .str (.cons (.int .i64) (.cons (.int .i64) (.sl (.cons .str (.cons (.sl (.cons (.int .i64) (.cons (.int .i64) (.cons .str (.cons .bool (.sl (.cons (.int .i64) (.int .i64)))))))) (.cons .bool (.cons (.int .i64) (.cons (.int .i64) (.cons .str (.cons .bool (.sl (.cons (.int .i64) (.int .i64)))))))))))))), .boxr (.cons .str (.cons (.int .i64) (.cons (.int .i64) (.sl (.cons .str (.cons (.sl (.cons (.int .i64) (.cons (.int .i64) (.cons .str (.cons .bool (.sl (.cons (.int .i64) (.int .i64)))))))) (.cons .bool (.cons (.int .i64) (.cons (.int .i64) (.cons .str (.cons .bool (.sl (.cons (.int .i64) (.int .i64))))))))))))))]⟩
def declcheck_firstM_F9 : FSh := ⟨[(1, .one (.fn 64 [0])), (2, .one (.ptr 1 0)), (7, .one (.int .i64)), (8, .one (.int .i64)), (11, .one (.int .i64)), (12, .one (.int .i64))], [.boxr (.cons .str (.cons (.int .i64) (.cons (.int .i64) (.sl (.cons .str (.cons (.sl (.cons (.int .i64) (.cons (.int .i64) (.cons .str (.cons .bool (.sl (.cons (.int .i64) (.int .i64)))))))) (.cons .bool (.cons (.int .i64) (.cons (.int .i64) (.cons .str (.cons .bool (.sl (.cons (.int .i64) (.int .i64)))))))))))))), .boxr (.cons .str (.cons (.int .i64) (.cons (.int .i64) (.sl (.cons .str (.cons (.sl (.cons (.int .i64) (.cons (.int .i64) (.cons .str (.cons .bool (.sl (.cons (.int .i64) (.int .i64)))))))) (.cons .bool (.cons (.int .i64) (.cons (.int .i64) (.cons .str (.cons .bool (.sl (.cons (.int .i64) (.int .i64))))))))))))))]⟩
def declcheck_firstM_D : FD := ⟨T, lookC [(62, fc62), (64, fc64)], [], (Try.f63.body.getD .skip), Try.f63.results.toList, ⟨[.row (.cons .str (.cons (.int .i64) (.cons (.int .i64) (.sl (.cons .str (.cons (.sl (.cons (.int .i64) (.cons (.int .i64) (.cons .str (.cons .bool (.sl (.cons (.int .i64) (.int .i64)))))))) (.cons .bool (.cons (.int .i64) (.cons (.int .i64) (.cons .str (.cons .bool (.sl (.cons (.int .i64) (.int .i64)))))))))))))), .one (.fn 64 [0])], [.boxr (.cons .str (.cons (.int .i64) (.cons (.int .i64) (.sl (.cons .str (.cons (.sl (.cons (.int .i64) (.cons (.int .i64) (.cons .str (.cons .bool (.sl (.cons (.int .i64) (.int .i64)))))))) (.cons .bool (.cons (.int .i64) (.cons (.int .i64) (.cons .str (.cons .bool (.sl (.cons (.int .i64) (.int .i64))))))))))))))]⟩, ⟨[.one (.int .i64), .one (.int .i64), .one .bool], [.boxr (.cons .str (.cons (.int .i64) (.cons (.int .i64) (.sl (.cons .str (.cons (.sl (.cons (.int .i64) (.cons (.int .i64) (.cons .str (.cons .bool (.sl (.cons (.int .i64) (.int .i64)))))))) (.cons .bool (.cons (.int .i64) (.cons (.int .i64) (.cons .str (.cons .bool (.sl (.cons (.int .i64) (.int .i64))))))))))))))]⟩, [(3, declcheck_firstM_F3), (9, declcheck_firstM_F9)]⟩
def declcheck_firstM_l3 (t11 : Int) (t12 : Int) (h0 : TDecl) (h1 : TDecl) : (Option ((Int × Int × Bool × Unit) × (TDecl × Unit))) := declcheck_firstM_D.lab 3 declcheck_firstM_F3 (((), (), t11, t12, ()), (h0, h1, ()))
def declcheck_firstM_l9 (i : Int) (x0 : Int) (t11 : Int) (t12 : Int) (h0 : TDecl) (h1 : TDecl) : (Option ((Int × Int × Bool × Unit) × (TDecl × Unit))) := declcheck_firstM_D.lab 9 declcheck_firstM_F9 (((), (), i, x0, t11, t12, ()), (h0, h1, ()))
theorem declcheck_firstM_l3_eq (t11 : Int) (t12 : Int) (h0 : TDecl) (h1 : TDecl) : declcheck_firstM_l3 t11 t12 h0 h1 =
  if (decide (t12 < t11)) = true then
    declcheck_firstM_l9 t12 0 t11 t12 h0 h1
  else
    some ((0, 0, false, ()), (h0, ())) := (FD.lab_eq _ _ _ _).trans (by kernel_rfl)
theorem declcheck_firstM_l9_eq (i : Int) (x0 : Int) (t11 : Int) (t12 : Int) (h0 : TDecl) (h1 : TDecl) : declcheck_firstM_l9 i x0 t11 t12 h0 h1 =
  (declcheck_top h1).bind fun y1 =>
    if (decide (x0 ≤ y1.1.1)) = true then
      (declcheck_Missing_1 i x0 h0).bind fun y2 =>
        if y2.1.1 = true then
          some ((i, x0, true, ()), (y2.2.1, ()))
        else
          declcheck_firstM_l9 i (IntKind.i64.wrap (x0 + 1)) t11 t12 y2.2.1 h1
    else
      declcheck_firstM_l3 t11 (IntKind.i64.wrap (t12 + 1)) h0 h1 := (FD.lab_eq _ _ _ _).trans (by kernel_rfl)
def declcheck_firstM (d : TDecl) (h0 : TDecl) : (Option ((Int × Int × Bool × Unit) × (TDecl × Unit))) :=
  declcheck_firstM_l3 (d.2.2.2.length : Int) 0 h0 d
def fc63M : FC := ⟨⟨[.row (.cons .str (.cons (.int .i64) (.cons (.int .i64) (.sl (.cons .str (.cons (.sl (.cons (.int .i64) (.cons (.int .i64) (.cons .str (.cons .bool (.sl (.cons (.int .i64) (.int .i64)))))))) (.cons .bool (.cons (.int .i64) (.cons (.int .i64) (.cons .str (.cons .bool (.sl (.cons (.int .i64) (.int .i64)))))))))))))), .one (.fn 64 [0])], [.boxr (.cons .str (.cons (.int .i64) (.cons (.int .i64) (.sl (.cons .str (.cons (.sl (.cons (.int .i64) (.cons (.int .i64) (.cons .str (.cons .bool (.sl (.cons (.int .i64) (.int .i64)))))))) (.cons .bool (.cons (.int .i64) (.cons (.int .i64) (.cons .str (.cons .bool (.sl (.cons (.int .i64) (.int .i64))))))))))))))]⟩, ⟨[.one (.int .i64), .one (.int .i64), .one .bool], [.boxr (.cons .str (.cons (.int .i64) (.cons (.int .i64) (.sl (.cons .str (.cons (.sl (.cons (.int .i64) (.cons (.int .i64) (.cons .str (.cons .bool (.sl (.cons (.int .i64) (.int .i64)))))))) (.cons .bool (.cons (.int .i64) (.cons (.int .i64) (.cons .str (.cons .bool (.sl (.cons (.int .i64) (.int .i64))))))))))))))]⟩, fun x => declcheck_firstM x.1.1 x.2.1⟩
theorem con63M : Contract Try.prog 63 fc63M :=
  declcheck_firstM_D.contract tok (cok_of (l := [(62, fc62), (64, fc64)]) ⟨con62, con64, trivial⟩) mixed (fn' := Try.f63) (by kernel_rfl) (by kernel_rfl) rfl (by kernel_rfl) (fun x => (FD.fn_eq _ _).trans (by kernel_rfl))
end
end Go.Proofs.Ytgjimkgehbppbab
end

section
/-
Ytgjimkgehbppbab: signalbench.declcheck.Missing, as one plain function, its equations, its contract. No condition.
-/
set_option maxRecDepth 100000
set_option linter.unusedVariables false
set_option maxHeartbeats 4000000
open Go Go.AM
namespace Go.Proofs.Ytgjimkgehbppbab
noncomputable section
def declcheck_Missing_D : FD := ⟨T, lookC [(63, fc63M), (63, fc63C), (64, fc64)], [], (Try.f45.body.getD .skip), Try.f45.results.toList, ⟨[.row (.cons .str (.cons (.int .i64) (.cons (.int .i64) (.sl (.cons .str (.cons (.sl (.cons (.int .i64) (.cons (.int .i64) (.cons .str (.cons .bool (.sl (.cons (.int .i64) (.int .i64)))))))) (.cons .bool (.cons (.int .i64) (.cons (.int .i64) (.cons .str (.cons .bool (.sl (.cons (.int .i64) (.int .i64))))))))))))))], []⟩, ⟨[.one (.int .i64), .one (.int .i64), .one .bool], []⟩, []⟩
def declcheck_Missing (d : TDecl) : (Option ((Int × Int × Bool × Unit) × Unit)) :=
  (declcheck_firstM d d).bind fun y1 =>
    some ((y1.1.1, y1.1.2.1, y1.1.2.2.1, ()), ())
def fc45 : FC := ⟨⟨[.row (.cons .str (.cons (.int .i64) (.cons (.int .i64) (.sl (.cons .str (.cons (.sl (.cons (.int .i64) (.cons (.int .i64) (.cons .str (.cons .bool (.sl (.cons (.int .i64) (.int .i64)))))))) (.cons .bool (.cons (.int .i64) (.cons (.int .i64) (.cons .str (.cons .bool (.sl (.cons (.int .i64) (.int .i64))))))))))))))], []⟩, ⟨[.one (.int .i64), .one (.int .i64), .one .bool], []⟩, fun x => declcheck_Missing x.1.1⟩
theorem con45 : Contract Try.prog 45 fc45 :=
  declcheck_Missing_D.contract tok (cok_of (l := [(63, fc63M), (63, fc63C), (64, fc64)]) ⟨con63M, con63C, con64, trivial⟩) mixed (fn' := Try.f45) (by kernel_rfl) (by kernel_rfl) rfl (by kernel_rfl) (fun x => (FD.fn_eq _ _).trans (by kernel_rfl))
end
end Go.Proofs.Ytgjimkgehbppbab
end

section
/-
Ytgjimkgehbppbab: signalbench.declcheck.Cycle, as one plain function, its equations, its contract. No condition.
-/
set_option maxRecDepth 100000
set_option linter.unusedVariables false
set_option maxHeartbeats 4000000
open Go Go.AM
namespace Go.Proofs.Ytgjimkgehbppbab
noncomputable section
def declcheck_Cycle_D : FD := ⟨T, lookC [(63, fc63M), (63, fc63C), (65, fc65)], [], (Try.f46.body.getD .skip), Try.f46.results.toList, ⟨[.row (.cons .str (.cons (.int .i64) (.cons (.int .i64) (.sl (.cons .str (.cons (.sl (.cons (.int .i64) (.cons (.int .i64) (.cons .str (.cons .bool (.sl (.cons (.int .i64) (.int .i64)))))))) (.cons .bool (.cons (.int .i64) (.cons (.int .i64) (.cons .str (.cons .bool (.sl (.cons (.int .i64) (.int .i64))))))))))))))], []⟩, ⟨[.one (.int .i64), .one (.int .i64), .one .bool], []⟩, []⟩
def declcheck_Cycle (d : TDecl) : (Option ((Int × Int × Bool × Unit) × Unit)) :=
  (declcheck_firstC d d).bind fun y1 =>
    some ((y1.1.1, y1.1.2.1, y1.1.2.2.1, ()), ())
def fc46 : FC := ⟨⟨[.row (.cons .str (.cons (.int .i64) (.cons (.int .i64) (.sl (.cons .str (.cons (.sl (.cons (.int .i64) (.cons (.int .i64) (.cons .str (.cons .bool (.sl (.cons (.int .i64) (.int .i64)))))))) (.cons .bool (.cons (.int .i64) (.cons (.int .i64) (.cons .str (.cons .bool (.sl (.cons (.int .i64) (.int .i64))))))))))))))], []⟩, ⟨[.one (.int .i64), .one (.int .i64), .one .bool], []⟩, fun x => declcheck_Cycle x.1.1⟩
theorem con46 : Contract Try.prog 46 fc46 :=
  declcheck_Cycle_D.contract tok (cok_of (l := [(63, fc63M), (63, fc63C), (65, fc65)]) ⟨con63M, con63C, con65, trivial⟩) mixed (fn' := Try.f46) (by kernel_rfl) (by kernel_rfl) rfl (by kernel_rfl) (fun x => (FD.fn_eq _ _).trans (by kernel_rfl))
end
end Go.Proofs.Ytgjimkgehbppbab
end

section
/-
Ytgjimkgehbppbab: signalbench.declcheck.Reach$1, as one plain function, its equations, its contract. No condition.
-/
set_option maxRecDepth 100000
set_option linter.unusedVariables false
set_option maxHeartbeats 4000000
open Go Go.AM
namespace Go.Proofs.Ytgjimkgehbppbab
noncomputable section
def declcheck_Reach_1_D : FD := ⟨T, lookC [], [], (Try.f67.body.getD .skip), Try.f67.results.toList, ⟨[.one (.int .i64), .one (.ptr 0 0), .one (.ptr 1 0)], [.box [(.own 2)], .box [(.own 3)], .arr 4 .bool true, .arr 3 (.int .i64) true]⟩, ⟨[], [.box [(.own 4)], .box [(.own 5)], .dead, .dead, .arr 4 .bool true, .arr 3 (.int .i64) true]⟩, []⟩
def declcheck_Reach_1 (state : Int) (l2 : (List Bool)) (l3 : (List Int)) : (Option (Unit × ((Unit × Unit) × (Unit × Unit) × Unit × Unit × (List Bool) × (List Int) × Unit))) :=
  if (decide (state ≥ 0)) = true then
    if 0 ≤ state ∧ state < (l2.length : Int) then
      if (!(l2.getD state.toNat false)) = true then
        if 0 ≤ state ∧ state < (l2.length : Int) then
          if (l3.length + 1) * 8 ≤ 140737488355328 ∧ 0 < 8 then
            some ((), (((), ()), ((), ()), (), (), l2.set state.toNat true, l3 ++ [state], ()))
          else
            none
        else
          none
      else
        some ((), (((), ()), ((), ()), (), (), l2, l3, ()))
    else
      none
  else
    some ((), (((), ()), ((), ()), (), (), l2, l3, ()))
def fc67 : FC := ⟨⟨[.one (.int .i64), .one (.ptr 0 0), .one (.ptr 1 0)], [.box [(.own 2)], .box [(.own 3)], .arr 4 .bool true, .arr 3 (.int .i64) true]⟩, ⟨[], [.box [(.own 4)], .box [(.own 5)], .dead, .dead, .arr 4 .bool true, .arr 3 (.int .i64) true]⟩, fun x => declcheck_Reach_1 x.1.1 x.2.2.2.1 x.2.2.2.2.1⟩
theorem con67 : Contract Try.prog 67 fc67 :=
  declcheck_Reach_1_D.contract tok (cok_of (l := []) trivial) mixed (fn' := Try.f67) (by kernel_rfl) (by kernel_rfl) rfl (by kernel_rfl) (fun x => (FD.fn_eq _ _).trans (by kernel_rfl))
end
end Go.Proofs.Ytgjimkgehbppbab
end

section
/-
Ytgjimkgehbppbab: signalbench.declcheck.Reach, as one plain function, its equations, its contract. No condition.
-/
set_option maxRecDepth 100000
set_option linter.unusedVariables false
set_option maxHeartbeats 4000000
open Go Go.AM
namespace Go.Proofs.Ytgjimkgehbppbab
noncomputable section
def declcheck_Reach_F4 : FSh := ⟨[(1, .one (.ptr 0 0)), (3, .one (.ptr 1 0)), (4, .one (.ptr 2 0)), (5, .one (.fn 67 [1, 2]))], [.boxr (.cons .str (.cons (.int .i64) (.cons (.int .i64) (.sl (.cons .str (.cons (.sl (.cons (.int .i64) (.cons (.int .i64) (.cons .str (.cons .bool (.sl (.cons (.int .i64) (.int .i64)))))))) (.cons .bool (.cons (.int .i64) (.cons (.int .i64) (.cons .str (.cons .bool (.sl (.cons (.int .i64) (.int .i64)))))))))))))), .box [(.own 3)], .box [(.own 4)], .arr 4 .bool true, .arr 3 (.int .i64) true]⟩
def declcheck_Reach_F7 : FSh := ⟨[(1, .one (.ptr 0 0)), (3, .one (.ptr 1 0)), (4, .one (.ptr 2 0)), (5, .one (.fn 67 [1, 2]))], [.boxr (.cons .str (.cons (.int .i64) (.cons (.int .i64) (.sl (.cons .str (.cons (.sl (.cons (.int .i64) (.cons (.int .i64) (.cons .str (.cons .bool (.sl (.cons (.int .i64) (.int .i64)))))))) (.cons .bool (.cons (.int .i64) (.cons (.int .i64) (.cons .str (.cons .bool (.sl (.cons (.int .i64) (.int .i64)))))))))))))), .box [(.own 3)], .box [(.own 4)], .arr 4 .bool true, .arr 3 (.int .i64) true]⟩
def declcheck_Reach_F14 : FSh := ⟨[(1, .one (.ptr 0 0)), (3, .one (.ptr 1 0)), (4, .one (.ptr 2 0)), (5, .one (.fn 67 [1, 2])), (6, .one (.ptr 3 0)), (32, .one (.sl (.cons (.int .i64) (.cons (.int .i64) (.cons .str (.cons .bool (.sl (.cons (.int .i64) (.int .i64))))))))), (33, .one (.int .i64)), (34, .one (.int .i64))], [.boxr (.cons .str (.cons (.int .i64) (.cons (.int .i64) (.sl (.cons .str (.cons (.sl (.cons (.int .i64) (.cons (.int .i64) (.cons .str (.cons .bool (.sl (.cons (.int .i64) (.int .i64)))))))) (.cons .bool (.cons (.int .i64) (.cons (.int .i64) (.cons .str (.cons .bool (.sl (.cons (.int .i64) (.int .i64)))))))))))))), .box [(.own 4)], .box [(.own 5)], .boxr (.cons .str (.cons (.sl (.cons (.int .i64) (.cons (.int .i64) (.cons .str (.cons .bool (.sl (.cons (.int .i64) (.int .i64)))))))) (.cons .bool (.cons (.int .i64) (.cons (.int .i64) (.cons .str (.cons .bool (.sl (.cons (.int .i64) (.int .i64)))))))))), .arr 4 .bool true, .arr 3 (.int .i64) true]⟩
def declcheck_Reach_D : FD := ⟨T, lookC [(32, fc32), (67, fc67), (1000030, fcMark)], [4], (Try.f47.body.getD .skip), Try.f47.results.toList, ⟨[.row (.cons .str (.cons (.int .i64) (.cons (.int .i64) (.sl (.cons .str (.cons (.sl (.cons (.int .i64) (.cons (.int .i64) (.cons .str (.cons .bool (.sl (.cons (.int .i64) (.int .i64)))))))) (.cons .bool (.cons (.int .i64) (.cons (.int .i64) (.cons .str (.cons .bool (.sl (.cons (.int .i64) (.int .i64))))))))))))))], []⟩, ⟨[.one (.sl .bool)], []⟩, [(4, declcheck_Reach_F4), (7, declcheck_Reach_F7), (14, declcheck_Reach_F14)]⟩
def declcheck_Reach_l4 (h0 : TDecl) (l3 : (List Bool)) (l4 : (List Int)) : (Option (((List Bool) × Unit) × Unit)) := declcheck_Reach_D.lab 4 declcheck_Reach_F4 (((), (), (), (), ()), (h0, ((), ()), ((), ()), l3, l4, ()))
def declcheck_Reach_l7 (h0 : TDecl) (l3 : (List Bool)) (l4 : (List Int)) : (Option (((List Bool) × Unit) × Unit)) := declcheck_Reach_D.lab 7 declcheck_Reach_F7 (((), (), (), (), ()), (h0, ((), ()), ((), ()), l3, l4, ()))
def declcheck_Reach_l14 (t32 : (List TRule)) (t33 : Int) (t34 : Int) (h0 : TDecl) (h3 : TDeclState) (l4 : (List Bool)) (l5 : (List Int)) : (Option (((List Bool) × Unit) × Unit)) := declcheck_Reach_D.lab 14 declcheck_Reach_F14 (((), (), (), (), (), t32, t33, t34, ()), (h0, ((), ()), ((), ()), h3, l4, l5, ()))
theorem declcheck_Reach_l4_eq (h0 : TDecl) (l3 : (List Bool)) (l4 : (List Int)) : declcheck_Reach_l4 h0 l3 l4 =
  declcheck_Reach_l7 h0 l3 l4 := (FD.lab_eq _ _ _ _).trans (by kernel_rfl)
theorem declcheck_Reach_l7_eq (h0 : TDecl) (l3 : (List Bool)) (l4 : (List Int)) : declcheck_Reach_l7 h0 l3 l4 =
  if (decide ((l4.length : Int) > 0)) = true then
    if 0 ≤ (0 : Int) ∧ 0 < (l4.length : Int) then
      if 0 ≤ l4.getD 0 0 ∧ l4.getD 0 0 < (h0.2.2.2.length : Int) then
        if 0 ≤ (1 : Int) ∧ 1 ≤ (l4.length : Int) then
          declcheck_Reach_l14 (h0.2.2.2.getD (l4.getD 0 0).toNat dDeclState).2.1 ((h0.2.2.2.getD (l4.getD 0 0).toNat dDeclState).2.1.length : Int) 0 h0 (h0.2.2.2.getD (l4.getD 0 0).toNat dDeclState) l3 (l4.drop 1)
        else
          none
      else
        none
    else
      none
  else
    some ((l3, ()), ()) := (FD.lab_eq _ _ _ _).trans (by kernel_rfl)
theorem declcheck_Reach_l14_eq (t32 : (List TRule)) (t33 : Int) (t34 : Int) (h0 : TDecl) (h3 : TDeclState) (l4 : (List Bool)) (l5 : (List Int)) : declcheck_Reach_l14 t32 t33 t34 h0 h3 l4 l5 =
  if (decide (t34 < t33)) = true then
    if 0 ≤ t34 ∧ t34 < (t32.length : Int) then
      (decl_Find h0 (t32.getD t34.toNat dRule).2.2.1).bind fun y1 =>
        (declcheck_Reach_1 y1.1.1 l4 l5).bind fun y2 =>
          declcheck_Reach_l14 t32 t33 (IntKind.i64.wrap (t34 + 1)) h0 h3 y2.2.2.2.2.2.1 y2.2.2.2.2.2.2.1
    else
      none
  else
    if h3.2.2.1 = true then
      (decl_Find h0 h3.2.2.2.2.2.1).bind fun y3 =>
        (declcheck_Reach_1 y3.1.1 l4 l5).bind fun y4 =>
          declcheck_Reach_l7 h0 y4.2.2.2.2.2.1 y4.2.2.2.2.2.2.1
    else
      declcheck_Reach_l7 h0 l4 l5 := (FD.lab_eq _ _ _ _).trans (by kernel_rfl)
def declcheck_Reach (d : TDecl) : (Option (((List Bool) × Unit) × Unit)) :=
  if ((d.2.2.2.length : Int) = 0 ∨ (d.2.2.2.length : Int) = (d.2.2.2.length : Int)) ∧ 0 ≤ (d.2.2.2.length : Int) ∧ (d.2.2.2.length : Int) * 1 ≤ 140737488355328 ∧ 0 < 1 then
    if (decide (((List.replicate (d.2.2.2.length : Int).toNat false).length : Int) > 0)) = true then
      (declcheck_Reach_1 0 (List.replicate (d.2.2.2.length : Int).toNat false) []).bind fun y1 =>
        declcheck_Reach_l4 d y1.2.2.2.2.2.1 y1.2.2.2.2.2.2.1
    else
      declcheck_Reach_l4 d (List.replicate (d.2.2.2.length : Int).toNat false) []
  else
    none
def fc47 : FC := ⟨⟨[.row (.cons .str (.cons (.int .i64) (.cons (.int .i64) (.sl (.cons .str (.cons (.sl (.cons (.int .i64) (.cons (.int .i64) (.cons .str (.cons .bool (.sl (.cons (.int .i64) (.int .i64)))))))) (.cons .bool (.cons (.int .i64) (.cons (.int .i64) (.cons .str (.cons .bool (.sl (.cons (.int .i64) (.int .i64))))))))))))))], []⟩, ⟨[.one (.sl .bool)], []⟩, fun x => declcheck_Reach x.1.1⟩
theorem con47 : Contract Try.prog 47 fc47 :=
  declcheck_Reach_D.contract tok (cok_of (l := [(32, fc32), (67, fc67), (1000030, fcMark)]) ⟨con32, con67, conMark _ _, trivial⟩) mixed (fn' := Try.f47) (by kernel_rfl) (by kernel_rfl) rfl (by kernel_rfl) (fun x => (FD.fn_eq _ _).trans (by kernel_rfl))
end
end Go.Proofs.Ytgjimkgehbppbab
end

section
/-
Ytgjimkgehbppbab: signalbench.declcheck.Check, as one plain function, its equations, its contract. No condition.
-/
set_option maxRecDepth 100000
set_option linter.unusedVariables false
set_option maxHeartbeats 4000000
open Go Go.AM
namespace Go.Proofs.Ytgjimkgehbppbab
noncomputable section
def declcheck_Check_F19 : FSh := ⟨[(42, .one (.sl .bool)), (43, .one (.int .i64)), (44, .one (.int .i64))], []⟩
def declcheck_Check_D : FD := ⟨T, lookC [(43, fc43), (44, fc44), (45, fc45), (46, fc46), (47, fc47)], [], (Try.f24.body.getD .skip), Try.f24.results.toList, ⟨[.row (.cons .str (.cons (.int .i64) (.cons (.int .i64) (.sl (.cons .str (.cons (.sl (.cons (.int .i64) (.cons (.int .i64) (.cons .str (.cons .bool (.sl (.cons (.int .i64) (.int .i64)))))))) (.cons .bool (.cons (.int .i64) (.cons (.int .i64) (.cons .str (.cons .bool (.sl (.cons (.int .i64) (.int .i64))))))))))))))], []⟩, ⟨[.one (.int .i64)], []⟩, [(19, declcheck_Check_F19)]⟩
def declcheck_Check_l19 (t42 : (List Bool)) (t43 : Int) (t44 : Int) : (Option ((Int × Unit) × Unit)) := declcheck_Check_D.lab 19 declcheck_Check_F19 ((t42, t43, t44, ()), ())
theorem declcheck_Check_l19_eq (t42 : (List Bool)) (t43 : Int) (t44 : Int) : declcheck_Check_l19 t42 t43 t44 =
  if (decide (t44 < t43)) = true then
    if 0 ≤ t44 ∧ t44 < (t42.length : Int) then
      if (!(t42.getD t44.toNat false)) = true then
        some ((16, ()), ())
      else
        declcheck_Check_l19 t42 t43 (IntKind.i64.wrap (t44 + 1))
    else
      none
  else
    some ((0, ()), ()) := (FD.lab_eq _ _ _ _).trans (by kernel_rfl)
def declcheck_Check (d : TDecl) : (Option ((Int × Unit) × Unit)) :=
  (decl_Check d).bind fun y1 =>
    if (y1.1.1 != 0) = true then
      some ((y1.1.1, ()), ())
    else
      (declcheck_Ambiguous d).bind fun y2 =>
        if y2.1.2.2.1 = true then
          some ((13, ()), ())
        else
          (declcheck_Missing d).bind fun y3 =>
            if y3.1.2.2.1 = true then
              some ((14, ()), ())
            else
              (declcheck_Cycle d).bind fun y4 =>
                if y4.1.2.2.1 = true then
                  some ((15, ()), ())
                else
                  (declcheck_Reach d).bind fun y5 =>
                    declcheck_Check_l19 y5.1.1 (y5.1.1.length : Int) 0
def fc24 : FC := ⟨⟨[.row (.cons .str (.cons (.int .i64) (.cons (.int .i64) (.sl (.cons .str (.cons (.sl (.cons (.int .i64) (.cons (.int .i64) (.cons .str (.cons .bool (.sl (.cons (.int .i64) (.int .i64)))))))) (.cons .bool (.cons (.int .i64) (.cons (.int .i64) (.cons .str (.cons .bool (.sl (.cons (.int .i64) (.int .i64))))))))))))))], []⟩, ⟨[.one (.int .i64)], []⟩, fun x => declcheck_Check x.1.1⟩
theorem con24 : Contract Try.prog 24 fc24 :=
  declcheck_Check_D.contract tok (cok_of (l := [(43, fc43), (44, fc44), (45, fc45), (46, fc46), (47, fc47)]) ⟨con43, con44, con45, con46, con47, trivial⟩) mixed (fn' := Try.f24) (by kernel_rfl) (by kernel_rfl) rfl (by kernel_rfl) (fun x => (FD.fn_eq _ _).trans (by kernel_rfl))
end
end Go.Proofs.Ytgjimkgehbppbab
end

section
/-
Ytgjimkgehbppbab: signalbench.decltab.same, as one plain function, its equations, its contract. No condition.
-/
set_option maxRecDepth 100000
set_option linter.unusedVariables false
set_option maxHeartbeats 4000000
open Go Go.AM
namespace Go.Proofs.Ytgjimkgehbppbab
noncomputable section
def decltab_same_F6 : FSh := ⟨[(2, .one (.ptr 0 0)), (3, .one (.ptr 1 0)), (22, .one (.int .i64)), (23, .one (.int .i64))], [.boxr (.cons (.int .i64) (.sl (.cons (.int .i64) (.int .i64)))), .boxr (.cons (.int .i64) (.sl (.cons (.int .i64) (.int .i64))))]⟩
def decltab_same_D : FD := ⟨T, lookC [], [], (Try.f25.body.getD .skip), Try.f25.results.toList, ⟨[.row (.cons (.int .i64) (.sl (.cons (.int .i64) (.int .i64)))), .row (.cons (.int .i64) (.sl (.cons (.int .i64) (.int .i64))))], []⟩, ⟨[.one .bool], []⟩, [(6, decltab_same_F6)]⟩
def decltab_same_l6 (t22 : Int) (t23 : Int) (h0 : Tresult) (h1 : Tresult) : (Option ((Bool × Unit) × Unit)) := decltab_same_D.lab 6 decltab_same_F6 (((), (), t22, t23, ()), (h0, h1, ()))
theorem decltab_same_l6_eq (t22 : Int) (t23 : Int) (h0 : Tresult) (h1 : Tresult) : decltab_same_l6 t22 t23 h0 h1 =
  if (decide (t23 < t22)) = true then
    if 0 ≤ t23 ∧ t23 < (h0.2.length : Int) then
      if 0 ≤ t23 ∧ t23 < (h1.2.length : Int) then
        if (!(eqU uAct (h0.2.getD t23.toNat dAct) (h1.2.getD t23.toNat dAct))) = true then
          some ((false, ()), ())
        else
          decltab_same_l6 t22 (IntKind.i64.wrap (t23 + 1)) h0 h1
      else
        none
    else
      none
  else
    some ((true, ()), ()) := (FD.lab_eq _ _ _ _).trans (by kernel_rfl)
def decltab_same (a : Tresult) (b : Tresult) : (Option ((Bool × Unit) × Unit)) :=
  if (a.1 != b.1) = true then
    some ((false, ()), ())
  else
    if ((a.2.length : Int) != (b.2.length : Int)) = true then
      some ((false, ()), ())
    else
      decltab_same_l6 (a.2.length : Int) 0 a b
def fc25 : FC := ⟨⟨[.row (.cons (.int .i64) (.sl (.cons (.int .i64) (.int .i64)))), .row (.cons (.int .i64) (.sl (.cons (.int .i64) (.int .i64))))], []⟩, ⟨[.one .bool], []⟩, fun x => decltab_same x.1.1 x.1.2.1⟩
theorem con25 : Contract Try.prog 25 fc25 :=
  decltab_same_D.contract tok (cok_of (l := []) trivial) mixed (fn' := Try.f25) (by kernel_rfl) (by kernel_rfl) rfl (by kernel_rfl) (fun x => (FD.fn_eq _ _).trans (by kernel_rfl))
end
end Go.Proofs.Ytgjimkgehbppbab
end

section
/-
Ytgjimkgehbppbab: signalbench.decltab.top, as one plain function, its equations, its contract. No condition.
-/
set_option maxRecDepth 100000
set_option linter.unusedVariables false
set_option maxHeartbeats 4000000
open Go Go.AM
namespace Go.Proofs.Ytgjimkgehbppbab
noncomputable section
def decltab_top_D : FD := ⟨T, lookC [], [], (Try.f26.body.getD .skip), Try.f26.results.toList, ⟨[.one (.int .i64)], []⟩, ⟨[.one (.int .i64)], []⟩, []⟩
def decltab_top (input : Int) : (Option ((Int × Unit) × Unit)) :=
  if (input == 2) = true then
    some ((1, ()), ())
  else
    some ((255, ()), ())
def fc26 : FC := ⟨⟨[.one (.int .i64)], []⟩, ⟨[.one (.int .i64)], []⟩, fun x => decltab_top x.1.1⟩
theorem con26 : Contract Try.prog 26 fc26 :=
  decltab_top_D.contract tok (cok_of (l := []) trivial) mixed (fn' := Try.f26) (by kernel_rfl) (by kernel_rfl) rfl (by kernel_rfl) (fun x => (FD.fn_eq _ _).trans (by kernel_rfl))
end
end Go.Proofs.Ytgjimkgehbppbab
end

section
/-
Ytgjimkgehbppbab: signalbench.decltab.follow, as one plain function, its equations, its contract. No condition.
-/
set_option maxRecDepth 100000
set_option linter.unusedVariables false
set_option maxHeartbeats 4000000
open Go Go.AM
namespace Go.Proofs.Ytgjimkgehbppbab
noncomputable section
def decltab_follow_F3 : FSh := ⟨[(6, .one (.ptr 0 0)), (8, .one (.ptr 1 0))], [.box [(.int .i64), (.own 2)], .box [(.int .i64), (.own 3)], .arr 90 (.cons (.int .i64) (.int .i64)) true, .arr 90 (.cons (.int .i64) (.int .i64)) true]⟩
def decltab_follow_F5 : FSh := ⟨[(2, .one (.int .i64)), (3, .one (.ptr 0 0)), (6, .one (.ptr 1 0)), (8, .one (.ptr 2 0)), (16, .one (.int .i64)), (17, .one (.int .i64))], [.boxr (.cons .str (.cons (.int .i64) (.cons (.int .i64) (.sl (.cons .str (.cons (.sl (.cons (.int .i64) (.cons (.int .i64) (.cons .str (.cons .bool (.sl (.cons (.int .i64) (.int .i64)))))))) (.cons .bool (.cons (.int .i64) (.cons (.int .i64) (.cons .str (.cons .bool (.sl (.cons (.int .i64) (.int .i64)))))))))))))), .box [(.int .i64), (.own 3)], .box [(.int .i64), (.own 4)], .arr 90 (.cons (.int .i64) (.int .i64)) true, .arr 90 (.cons (.int .i64) (.int .i64)) true]⟩
def decltab_follow_D : FD := ⟨T, lookC [(30, fc30), (32, fc32)], [3], (Try.f27.body.getD .skip), Try.f27.results.toList, ⟨[.row (.cons .str (.cons (.int .i64) (.cons (.int .i64) (.sl (.cons .str (.cons (.sl (.cons (.int .i64) (.cons (.int .i64) (.cons .str (.cons .bool (.sl (.cons (.int .i64) (.int .i64)))))))) (.cons .bool (.cons (.int .i64) (.cons (.int .i64) (.cons .str (.cons .bool (.sl (.cons (.int .i64) (.int .i64)))))))))))))), .one (.int .i64), .one (.int .i64)], []⟩, ⟨[.row (.cons (.int .i64) (.sl (.cons (.int .i64) (.int .i64)))), .one .bool], []⟩, [(3, decltab_follow_F3), (5, decltab_follow_F5)]⟩
def decltab_follow_l3 (h0_0 : Int) (h1_0 : Int) (l2 : (List TAct)) (l3 : (List TAct)) : (Option ((Tresult × Bool × Unit) × Unit)) := decltab_follow_D.lab 3 decltab_follow_F3 (((), (), ()), ((h0_0, (), ()), (h1_0, (), ()), l2, l3, ()))
def decltab_follow_l5 (symbol : Int) (t16 : Int) (t17 : Int) (h0 : TDecl) (h1_0 : Int) (h2_0 : Int) (l3 : (List TAct)) (l4 : (List TAct)) : (Option ((Tresult × Bool × Unit) × Unit)) := decltab_follow_D.lab 5 decltab_follow_F5 ((symbol, (), (), (), t16, t17, ()), (h0, (h1_0, (), ()), (h2_0, (), ()), l3, l4, ()))
theorem decltab_follow_l3_eq (h0_0 : Int) (h1_0 : Int) (l2 : (List TAct)) (l3 : (List TAct)) : decltab_follow_l3 h0_0 h1_0 l2 l3 =
  some (((h1_0, l3), decide ((l3.length : Int) ≤ 64), ()), ()) := (FD.lab_eq _ _ _ _).trans (by kernel_rfl)
theorem decltab_follow_l5_eq (symbol : Int) (t16 : Int) (t17 : Int) (h0 : TDecl) (h1_0 : Int) (h2_0 : Int) (l3 : (List TAct)) (l4 : (List TAct)) : decltab_follow_l5 symbol t16 t17 h0 h1_0 h2_0 l3 l4 =
  if (decide (t17 < t16)) = true then
    (decl_Match h0 h2_0 symbol).bind fun y1 =>
      if (l4.length + y1.1.1.2.2.2.2.length) * 16 ≤ 140737488355328 ∧ 0 < 16 then
        (decl_Find h0 y1.1.1.2.2.1).bind fun y2 =>
          if (!y1.1.1.2.2.2.1) = true then
            decltab_follow_l3 h1_0 y2.1.1 l3 (l4 ++ y1.1.1.2.2.2.2)
          else
            decltab_follow_l5 symbol t16 (IntKind.i64.wrap (t17 + 1)) h0 h1_0 y2.1.1 l3 (l4 ++ y1.1.1.2.2.2.2)
      else
        none
  else
    decltab_follow_l3 h1_0 h2_0 l3 l4 := (FD.lab_eq _ _ _ _).trans (by kernel_rfl)
def decltab_follow (d : TDecl) (state : Int) (symbol : Int) : (Option ((Tresult × Bool × Unit) × Unit)) :=
  decltab_follow_l5 symbol (IntKind.i64.wrap ((d.2.2.2.length : Int) + 1)) 0 d 0 state [] []
def fc27 : FC := ⟨⟨[.row (.cons .str (.cons (.int .i64) (.cons (.int .i64) (.sl (.cons .str (.cons (.sl (.cons (.int .i64) (.cons (.int .i64) (.cons .str (.cons .bool (.sl (.cons (.int .i64) (.int .i64)))))))) (.cons .bool (.cons (.int .i64) (.cons (.int .i64) (.cons .str (.cons .bool (.sl (.cons (.int .i64) (.int .i64)))))))))))))), .one (.int .i64), .one (.int .i64)], []⟩, ⟨[.row (.cons (.int .i64) (.sl (.cons (.int .i64) (.int .i64)))), .one .bool], []⟩, fun x => decltab_follow x.1.1 x.1.2.1 x.1.2.2.1⟩
theorem con27 : Contract Try.prog 27 fc27 :=
  decltab_follow_D.contract tok (cok_of (l := [(30, fc30), (32, fc32)]) ⟨con30, con32, trivial⟩) mixed (fn' := Try.f27) (by kernel_rfl) (by kernel_rfl) rfl (by kernel_rfl) (fun x => (FD.fn_eq _ _).trans (by kernel_rfl))
end
end Go.Proofs.Ytgjimkgehbppbab
end

section
/-
Ytgjimkgehbppbab: (*signalbench.decltab.row[signalbench.decltab.result]).add, as one plain function, its equations, its contract. No condition.
-/
set_option maxRecDepth 100000
set_option linter.unusedVariables false
set_option maxHeartbeats 4000000
open Go Go.AM
namespace Go.Proofs.Ytgjimkgehbppbab
noncomputable section
def decltab_result_add_D : FD := ⟨T, lookC [(25, fc25)], [], (Try.f28.body.getD .skip), Try.f28.results.toList, ⟨[.one (.ptr 0 0), .one (.int .i64), .row (.cons (.int .i64) (.sl (.cons (.int .i64) (.int .i64)))), .row (.cons (.int .i64) (.cons (.int .i64) (.cons (.int .i64) (.sl (.cons (.int .i64) (.int .i64))))))], [.box [(.own 1), (.int .i64), (.sl (.cons (.int .i64) (.int .i64))), (.fn 25 [])], .arr 72 (.cons (.int .i64) (.cons (.int .i64) (.cons (.int .i64) (.sl (.cons (.int .i64) (.int .i64)))))) true]⟩, ⟨[], [.box [(.own 2), (.int .i64), (.sl (.cons (.int .i64) (.int .i64))), (.fn 25 [])], .dead, .arr 72 (.cons (.int .i64) (.cons (.int .i64) (.cons (.int .i64) (.sl (.cons (.int .i64) (.int .i64)))))) true]⟩, []⟩
def decltab_result_add (symbol : Int) (x0 : Tresult) (cell : TCell) (h0_1 : Int) (h0_2 : (List TAct)) (l1 : (List TCell)) : (Option (Unit × ((Unit × Int × (List TAct) × Unit × Unit) × Unit × (List TCell) × Unit))) :=
  if (decide ((l1.length : Int) > 0)) = true then
    (decltab_same (h0_1, h0_2) x0).bind fun y1 =>
      if y1.1.1 = true then
        if 0 ≤ IntKind.i64.wrap ((l1.length : Int) - 1) ∧ IntKind.i64.wrap ((l1.length : Int) - 1) < (l1.length : Int) then
          some ((), (((), h0_1, h0_2, (), ()), (), l1.set (IntKind.i64.wrap ((l1.length : Int) - 1)).toNat ((l1.getD (IntKind.i64.wrap ((l1.length : Int) - 1)).toNat dCell).1, symbol, (l1.getD (IntKind.i64.wrap ((l1.length : Int) - 1)).toNat dCell).2.2), ()))
        else
          none
      else
        if (l1.length + 1) * 48 ≤ 140737488355328 ∧ 0 < 48 then
          some ((), (((), x0.1, x0.2, (), ()), (), l1 ++ [(symbol, symbol, cell.2.2)], ()))
        else
          none
  else
    if (l1.length + 1) * 48 ≤ 140737488355328 ∧ 0 < 48 then
      some ((), (((), x0.1, x0.2, (), ()), (), l1 ++ [(symbol, symbol, cell.2.2)], ()))
    else
      none
def fc28 : FC := ⟨⟨[.one (.ptr 0 0), .one (.int .i64), .row (.cons (.int .i64) (.sl (.cons (.int .i64) (.int .i64)))), .row (.cons (.int .i64) (.cons (.int .i64) (.cons (.int .i64) (.sl (.cons (.int .i64) (.int .i64))))))], [.box [(.own 1), (.int .i64), (.sl (.cons (.int .i64) (.int .i64))), (.fn 25 [])], .arr 72 (.cons (.int .i64) (.cons (.int .i64) (.cons (.int .i64) (.sl (.cons (.int .i64) (.int .i64)))))) true]⟩, ⟨[], [.box [(.own 2), (.int .i64), (.sl (.cons (.int .i64) (.int .i64))), (.fn 25 [])], .dead, .arr 72 (.cons (.int .i64) (.cons (.int .i64) (.cons (.int .i64) (.sl (.cons (.int .i64) (.int .i64)))))) true]⟩, fun x => decltab_result_add x.1.2.1 x.1.2.2.1 x.1.2.2.2.1 x.2.1.2.1 x.2.1.2.2.1 x.2.2.1⟩
theorem con28 : Contract Try.prog 28 fc28 :=
  decltab_result_add_D.contract tok (cok_of (l := [(25, fc25)]) ⟨con25, trivial⟩) mixed (fn' := Try.f28) (by kernel_rfl) (by kernel_rfl) rfl (by kernel_rfl) (fun x => (FD.fn_eq _ _).trans (by kernel_rfl))
end
end Go.Proofs.Ytgjimkgehbppbab
end

section
/-
Ytgjimkgehbppbab: signalbench.decltab.Compile, as one plain function, its equations, its contract. No condition.
-/
set_option maxRecDepth 100000
set_option linter.unusedVariables false
set_option maxHeartbeats 4000000
open Go Go.AM
namespace Go.Proofs.Ytgjimkgehbppbab
noncomputable section
def decltab_Compile_F8 : FSh := ⟨[(1, .one (.ptr 0 0)), (2, .one (.ptr 1 0)), (5, .one (.ptr 2 0)), (26, .one (.int .i64)), (27, .one (.int .i64))], [.boxr (.cons .str (.cons (.int .i64) (.cons (.int .i64) (.sl (.cons .str (.cons (.sl (.cons (.int .i64) (.cons (.int .i64) (.cons .str (.cons .bool (.sl (.cons (.int .i64) (.int .i64)))))))) (.cons .bool (.cons (.int .i64) (.cons (.int .i64) (.cons .str (.cons .bool (.sl (.cons (.int .i64) (.int .i64)))))))))))))), .box [.str, (.int .i64), (.int .i64), (.own 3)], .box [.str, (.int .i64), (.int .i64), (.own 4)], .arr 62 (.sl (.cons (.int .i64) (.cons (.int .i64) (.cons (.int .i64) (.sl (.cons (.int .i64) (.int .i64))))))) true, .arr 62 (.sl (.cons (.int .i64) (.cons (.int .i64) (.cons (.int .i64) (.sl (.cons (.int .i64) (.int .i64))))))) true]⟩
def decltab_Compile_F16 : FSh := ⟨[(1, .one (.ptr 0 0)), (2, .one (.ptr 1 0)), (5, .one (.ptr 2 0)), (6, .one (.int .i64)), (7, .one (.ptr 3 0)), (8, .one (.int .i64)), (26, .one (.int .i64)), (27, .one (.int .i64))], [.boxr (.cons .str (.cons (.int .i64) (.cons (.int .i64) (.sl (.cons .str (.cons (.sl (.cons (.int .i64) (.cons (.int .i64) (.cons .str (.cons .bool (.sl (.cons (.int .i64) (.int .i64)))))))) (.cons .bool (.cons (.int .i64) (.cons (.int .i64) (.cons .str (.cons .bool (.sl (.cons (.int .i64) (.int .i64)))))))))))))), .box [.str, (.int .i64), (.int .i64), (.own 4)], .box [.str, (.int .i64), (.int .i64), (.own 5)], .box [(.own 6), (.int .i64), (.sl (.cons (.int .i64) (.int .i64))), (.fn 25 [])], .arr 62 (.sl (.cons (.int .i64) (.cons (.int .i64) (.cons (.int .i64) (.sl (.cons (.int .i64) (.int .i64))))))) true, .arr 62 (.sl (.cons (.int .i64) (.cons (.int .i64) (.cons (.int .i64) (.sl (.cons (.int .i64) (.int .i64))))))) true, .arr 72 (.cons (.int .i64) (.cons (.int .i64) (.cons (.int .i64) (.sl (.cons (.int .i64) (.int .i64)))))) true]⟩
def decltab_Compile_D : FD := ⟨T, lookC [(24, fc24), (25, fc25), (26, fc26), (27, fc27), (28, fc28)], [], (Try.f10.body.getD .skip), Try.f10.results.toList, ⟨[.row (.cons .str (.cons (.int .i64) (.cons (.int .i64) (.sl (.cons .str (.cons (.sl (.cons (.int .i64) (.cons (.int .i64) (.cons .str (.cons .bool (.sl (.cons (.int .i64) (.int .i64)))))))) (.cons .bool (.cons (.int .i64) (.cons (.int .i64) (.cons .str (.cons .bool (.sl (.cons (.int .i64) (.int .i64))))))))))))))], []⟩, ⟨[.row (.cons .str (.cons (.int .i64) (.cons (.int .i64) (.sl (.sl (.cons (.int .i64) (.cons (.int .i64) (.cons (.int .i64) (.sl (.cons (.int .i64) (.int .i64))))))))))), .one (.int .i64)], []⟩, [(8, decltab_Compile_F8), (16, decltab_Compile_F16)]⟩
def decltab_Compile_l8 (t26 : Int) (t27 : Int) (h0 : TDecl) (h1_0 : ByteArray) (h1_1 : Int) (h1_2 : Int) (h2_0 : ByteArray) (h2_1 : Int) (h2_2 : Int) (l3 : (List (List TCell))) (l4 : (List (List TCell))) : (Option ((TTable × Int × Unit) × Unit)) := decltab_Compile_D.lab 8 decltab_Compile_F8 (((), (), (), t26, t27, ()), (h0, (h1_0, h1_1, h1_2, (), ()), (h2_0, h2_1, h2_2, (), ()), l3, l4, ()))
def decltab_Compile_l16 (state : Int) (symbol : Int) (t26 : Int) (t27 : Int) (h0 : TDecl) (h1_0 : ByteArray) (h1_1 : Int) (h1_2 : Int) (h2_0 : ByteArray) (h2_1 : Int) (h2_2 : Int) (h3_1 : Int) (h3_2 : (List TAct)) (l4 : (List (List TCell))) (l5 : (List (List TCell))) (l6 : (List TCell)) : (Option ((TTable × Int × Unit) × Unit)) := decltab_Compile_D.lab 16 decltab_Compile_F16 (((), (), (), state, (), symbol, t26, t27, ()), (h0, (h1_0, h1_1, h1_2, (), ()), (h2_0, h2_1, h2_2, (), ()), ((), h3_1, h3_2, (), ()), l4, l5, l6, ()))
theorem decltab_Compile_l8_eq (t26 : Int) (t27 : Int) (h0 : TDecl) (h1_0 : ByteArray) (h1_1 : Int) (h1_2 : Int) (h2_0 : ByteArray) (h2_1 : Int) (h2_2 : Int) (l3 : (List (List TCell))) (l4 : (List (List TCell))) : decltab_Compile_l8 t26 t27 h0 h1_0 h1_1 h1_2 h2_0 h2_1 h2_2 l3 l4 =
  if (decide (t27 < t26)) = true then
    decltab_Compile_l16 t27 0 t26 t27 h0 h1_0 h1_1 h1_2 h2_0 h2_1 h2_2 0 [] l3 l4 []
  else
    some (((h2_0, h2_1, h2_2, l4), 0, ()), ()) := (FD.lab_eq _ _ _ _).trans (by kernel_rfl)
theorem decltab_Compile_l16_eq (state : Int) (symbol : Int) (t26 : Int) (t27 : Int) (h0 : TDecl) (h1_0 : ByteArray) (h1_1 : Int) (h1_2 : Int) (h2_0 : ByteArray) (h2_1 : Int) (h2_2 : Int) (h3_1 : Int) (h3_2 : (List TAct)) (l4 : (List (List TCell))) (l5 : (List (List TCell))) (l6 : (List TCell)) : decltab_Compile_l16 state symbol t26 t27 h0 h1_0 h1_1 h1_2 h2_0 h2_1 h2_2 h3_1 h3_2 l4 l5 l6 =
  (decltab_top h0.2.1).bind fun y1 =>
    if (decide (symbol ≤ y1.1.1)) = true then
      (decltab_follow h0 state symbol).bind fun y2 =>
        if (!y2.1.2.1) = true then
          some ((((strB []), 0, 0, []), 6, ()), ())
        else
          (decltab_result_add symbol y2.1.1 (0, 0, y2.1.1) h3_1 h3_2 l6).bind fun y3 =>
            decltab_Compile_l16 state (IntKind.i64.wrap (symbol + 1)) t26 t27 h0 h1_0 h1_1 h1_2 h2_0 h2_1 h2_2 y3.2.1.2.1 y3.2.1.2.2.1 l4 l5 y3.2.2.2.1
    else
      if (l5.length + 1) * 24 ≤ 140737488355328 ∧ 0 < 24 then
        decltab_Compile_l8 t26 (IntKind.i64.wrap (t27 + 1)) h0 h1_0 h1_1 h1_2 h2_0 h2_1 h2_2 l4 (l5 ++ [l6])
      else
        none := (FD.lab_eq _ _ _ _).trans (by kernel_rfl)
def decltab_Compile (d : TDecl) : (Option ((TTable × Int × Unit) × Unit)) :=
  (declcheck_Check d).bind fun y1 =>
    if (y1.1.1 != 0) = true then
      some ((((strB []), 0, 0, []), y1.1.1, ()), ())
    else
      decltab_Compile_l8 (d.2.2.2.length : Int) 0 d (strB []) 0 0 d.1 d.2.1 d.2.2.1 [] []
def fc10 : FC := ⟨⟨[.row (.cons .str (.cons (.int .i64) (.cons (.int .i64) (.sl (.cons .str (.cons (.sl (.cons (.int .i64) (.cons (.int .i64) (.cons .str (.cons .bool (.sl (.cons (.int .i64) (.int .i64)))))))) (.cons .bool (.cons (.int .i64) (.cons (.int .i64) (.cons .str (.cons .bool (.sl (.cons (.int .i64) (.int .i64))))))))))))))], []⟩, ⟨[.row (.cons .str (.cons (.int .i64) (.cons (.int .i64) (.sl (.sl (.cons (.int .i64) (.cons (.int .i64) (.cons (.int .i64) (.sl (.cons (.int .i64) (.int .i64))))))))))), .one (.int .i64)], []⟩, fun x => decltab_Compile x.1.1⟩
theorem con10 : Contract Try.prog 10 fc10 :=
  decltab_Compile_D.contract tok (cok_of (l := [(24, fc24), (25, fc25), (26, fc26), (27, fc27), (28, fc28)]) ⟨con24, con25, con26, con27, con28, trivial⟩) mixed (fn' := Try.f10) (by kernel_rfl) (by kernel_rfl) rfl (by kernel_rfl) (fun x => (FD.fn_eq _ _).trans (by kernel_rfl))
end
end Go.Proofs.Ytgjimkgehbppbab
end

section
/-
Ytgjimkgehbppbab: signalbench.declrun.drop, as one plain function, its equations, its contract. No condition.
-/
set_option maxRecDepth 100000
set_option linter.unusedVariables false
set_option maxHeartbeats 4000000
open Go Go.AM
namespace Go.Proofs.Ytgjimkgehbppbab
noncomputable section
def declrun_drop_D : FD := ⟨T, lookC [], [], (Try.f69.body.getD .skip), Try.f69.results.toList, ⟨[.agg [(.int .i64), (.int .i64), (.int .i64), (.int .i64), (.int .i64), (.int .i64), (.int .i64), .str, (.int .i64), (.int .i64), (.int .i64), (.int .i64), (.int .i64), .str, (.int .i64), (.int .i64), (.own 0)]], [.arr 41 (.cons (.int .i64) (.cons (.int .i64) (.cons (.int .i64) (.cons (.int .i64) (.cons (.int .i64) (.cons .str (.int .i64))))))) true]⟩, ⟨[.agg [(.int .i64), (.int .i64), (.int .i64), (.int .i64), (.int .i64), (.int .i64), (.int .i64), .str, (.int .i64), (.int .i64), (.int .i64), (.int .i64), (.int .i64), .str, (.int .i64), (.int .i64), (.own 1)]], [.dead, .arr 41 (.cons (.int .i64) (.cons (.int .i64) (.cons (.int .i64) (.cons (.int .i64) (.cons (.int .i64) (.cons .str (.int .i64))))))) true]⟩, []⟩
def declrun_drop (w_0 : Int) (w_1 : Int) (w_2 : Int) (w_3 : Int) (w_4 : Int) (w_5 : Int) (w_6 : Int) (w_7 : ByteArray) (w_8 : Int) (w_9 : Int) (w_10 : Int) (w_11 : Int) (w_12 : Int) (w_13 : ByteArray) (w_14 : Int) (w_15 : Int) (l0 : (List TEvent)) : (Option (((Int × Int × Int × Int × Int × Int × Int × ByteArray × Int × Int × Int × Int × Int × ByteArray × Int × Int × Unit × Unit) × Unit) × (Unit × (List TEvent) × Unit))) :=
  some (((w_0, w_1, 0, w_3, w_4, w_5, w_6, (strB []), w_8, w_9, w_10, w_11, w_12, w_13, w_14, w_15, (), ()), ()), ((), l0, ()))
def fc69 : FC := ⟨⟨[.agg [(.int .i64), (.int .i64), (.int .i64), (.int .i64), (.int .i64), (.int .i64), (.int .i64), .str, (.int .i64), (.int .i64), (.int .i64), (.int .i64), (.int .i64), .str, (.int .i64), (.int .i64), (.own 0)]], [.arr 41 (.cons (.int .i64) (.cons (.int .i64) (.cons (.int .i64) (.cons (.int .i64) (.cons (.int .i64) (.cons .str (.int .i64))))))) true]⟩, ⟨[.agg [(.int .i64), (.int .i64), (.int .i64), (.int .i64), (.int .i64), (.int .i64), (.int .i64), .str, (.int .i64), (.int .i64), (.int .i64), (.int .i64), (.int .i64), .str, (.int .i64), (.int .i64), (.own 1)]], [.dead, .arr 41 (.cons (.int .i64) (.cons (.int .i64) (.cons (.int .i64) (.cons (.int .i64) (.cons (.int .i64) (.cons .str (.int .i64))))))) true]⟩, fun x => declrun_drop x.1.1.1 x.1.1.2.1 x.1.1.2.2.1 x.1.1.2.2.2.1 x.1.1.2.2.2.2.1 x.1.1.2.2.2.2.2.1 x.1.1.2.2.2.2.2.2.1 x.1.1.2.2.2.2.2.2.2.1 x.1.1.2.2.2.2.2.2.2.2.1 x.1.1.2.2.2.2.2.2.2.2.2.1 x.1.1.2.2.2.2.2.2.2.2.2.2.1 x.1.1.2.2.2.2.2.2.2.2.2.2.2.1 x.1.1.2.2.2.2.2.2.2.2.2.2.2.2.1 x.1.1.2.2.2.2.2.2.2.2.2.2.2.2.2.1 x.1.1.2.2.2.2.2.2.2.2.2.2.2.2.2.2.1 x.1.1.2.2.2.2.2.2.2.2.2.2.2.2.2.2.2.1 x.2.1⟩
theorem con69 : Contract Try.prog 69 fc69 :=
  declrun_drop_D.contract tok (cok_of (l := []) trivial) mixed (fn' := Try.f69) (by kernel_rfl) (by kernel_rfl) rfl (by kernel_rfl) (fun x => (FD.fn_eq _ _).trans (by kernel_rfl))
end
end Go.Proofs.Ytgjimkgehbppbab
end

section
/-
Ytgjimkgehbppbab: signalbench.declrun.all$1, as one plain function, its equations, its contract. No condition.
-/
set_option maxRecDepth 100000
set_option linter.unusedVariables false
set_option maxHeartbeats 4000000
open Go Go.AM
namespace Go.Proofs.Ytgjimkgehbppbab
noncomputable section
def declrun_all_1_D : FD := ⟨T, lookC [(69, fc69)], [], (Try.f68.body.getD .skip), Try.f68.results.toList, ⟨[.agg [(.int .i64), (.int .i64), (.int .i64), (.int .i64), (.int .i64), (.int .i64), (.int .i64), .str, (.int .i64), (.int .i64), (.int .i64), (.int .i64), (.int .i64), .str, (.int .i64), (.int .i64), (.own 0)], .one (.int .i64)], [.arr 41 (.cons (.int .i64) (.cons (.int .i64) (.cons (.int .i64) (.cons (.int .i64) (.cons (.int .i64) (.cons .str (.int .i64))))))) true]⟩, ⟨[.agg [(.int .i64), (.int .i64), (.int .i64), (.int .i64), (.int .i64), (.int .i64), (.int .i64), .str, (.int .i64), (.int .i64), (.int .i64), (.int .i64), (.int .i64), .str, (.int .i64), (.int .i64), (.own 1)]], [.dead, .arr 41 (.cons (.int .i64) (.cons (.int .i64) (.cons (.int .i64) (.cons (.int .i64) (.cons (.int .i64) (.cons .str (.int .i64))))))) true]⟩, []⟩
def declrun_all_1 (w_0 : Int) (w_1 : Int) (w_2 : Int) (w_3 : Int) (w_4 : Int) (w_5 : Int) (w_6 : Int) (w_7 : ByteArray) (w_8 : Int) (w_9 : Int) (w_10 : Int) (w_11 : Int) (w_12 : Int) (w_13 : ByteArray) (w_14 : Int) (w_15 : Int) (arg : Int) (l0 : (List TEvent)) : (Option (((Int × Int × Int × Int × Int × Int × Int × ByteArray × Int × Int × Int × Int × Int × ByteArray × Int × Int × Unit × Unit) × Unit) × (Unit × (List TEvent) × Unit))) :=
  (declrun_drop w_0 w_1 w_2 w_3 w_4 w_5 w_6 w_7 w_8 w_9 w_10 w_11 w_12 w_13 w_14 w_15 l0).bind fun y1 =>
    some (((y1.1.1.1, y1.1.1.2.1, y1.1.1.2.2.1, y1.1.1.2.2.2.1, y1.1.1.2.2.2.2.1, y1.1.1.2.2.2.2.2.1, y1.1.1.2.2.2.2.2.2.1, y1.1.1.2.2.2.2.2.2.2.1, y1.1.1.2.2.2.2.2.2.2.2.1, y1.1.1.2.2.2.2.2.2.2.2.2.1, y1.1.1.2.2.2.2.2.2.2.2.2.2.1, y1.1.1.2.2.2.2.2.2.2.2.2.2.2.1, y1.1.1.2.2.2.2.2.2.2.2.2.2.2.2.1, y1.1.1.2.2.2.2.2.2.2.2.2.2.2.2.2.1, y1.1.1.2.2.2.2.2.2.2.2.2.2.2.2.2.2.1, y1.1.1.2.2.2.2.2.2.2.2.2.2.2.2.2.2.2.1, (), ()), ()), ((), y1.2.2.1, ()))
def fc68 : FC := ⟨⟨[.agg [(.int .i64), (.int .i64), (.int .i64), (.int .i64), (.int .i64), (.int .i64), (.int .i64), .str, (.int .i64), (.int .i64), (.int .i64), (.int .i64), (.int .i64), .str, (.int .i64), (.int .i64), (.own 0)], .one (.int .i64)], [.arr 41 (.cons (.int .i64) (.cons (.int .i64) (.cons (.int .i64) (.cons (.int .i64) (.cons (.int .i64) (.cons .str (.int .i64))))))) true]⟩, ⟨[.agg [(.int .i64), (.int .i64), (.int .i64), (.int .i64), (.int .i64), (.int .i64), (.int .i64), .str, (.int .i64), (.int .i64), (.int .i64), (.int .i64), (.int .i64), .str, (.int .i64), (.int .i64), (.own 1)]], [.dead, .arr 41 (.cons (.int .i64) (.cons (.int .i64) (.cons (.int .i64) (.cons (.int .i64) (.cons (.int .i64) (.cons .str (.int .i64))))))) true]⟩, fun x => declrun_all_1 x.1.1.1 x.1.1.2.1 x.1.1.2.2.1 x.1.1.2.2.2.1 x.1.1.2.2.2.2.1 x.1.1.2.2.2.2.2.1 x.1.1.2.2.2.2.2.2.1 x.1.1.2.2.2.2.2.2.2.1 x.1.1.2.2.2.2.2.2.2.2.1 x.1.1.2.2.2.2.2.2.2.2.2.1 x.1.1.2.2.2.2.2.2.2.2.2.2.1 x.1.1.2.2.2.2.2.2.2.2.2.2.2.1 x.1.1.2.2.2.2.2.2.2.2.2.2.2.2.1 x.1.1.2.2.2.2.2.2.2.2.2.2.2.2.2.1 x.1.1.2.2.2.2.2.2.2.2.2.2.2.2.2.2.1 x.1.1.2.2.2.2.2.2.2.2.2.2.2.2.2.2.2.1 x.1.2.1 x.2.1⟩
theorem con68 : Contract Try.prog 68 fc68 :=
  declrun_all_1_D.contract tok (cok_of (l := [(69, fc69)]) ⟨con69, trivial⟩) mixed (fn' := Try.f68) (by kernel_rfl) (by kernel_rfl) rfl (by kernel_rfl) (fun x => (FD.fn_eq _ _).trans (by kernel_rfl))
end
end Go.Proofs.Ytgjimkgehbppbab
end

section
/-
Ytgjimkgehbppbab: signalbench.declrun.collect, as one plain function, its equations, its contract. No condition.
-/
set_option maxRecDepth 100000
set_option linter.unusedVariables false
set_option maxHeartbeats 4000000
open Go Go.AM
namespace Go.Proofs.Ytgjimkgehbppbab
noncomputable section
def declrun_collect_F4 : FSh := ⟨[(1, .one (.int .i64)), (2, .one (.ptr 1 0)), (4, .one (.ptr 2 0))], [.arr 41 (.cons (.int .i64) (.cons (.int .i64) (.cons (.int .i64) (.cons (.int .i64) (.cons (.int .i64) (.cons .str (.int .i64))))))) true, .box [(.int .i64), (.int .i64), (.int .i64), (.int .i64), (.int .i64), (.int .i64), (.int .i64), .str, (.int .i64), (.int .i64), (.int .i64), (.int .i64), (.int .i64), .str, (.int .i64), (.int .i64), (.own 0)], .box [(.int .i64), (.int .i64), (.int .i64), (.int .i64), (.int .i64), (.int .i64), (.int .i64), .str, (.int .i64), (.int .i64), (.int .i64), (.int .i64), (.int .i64), .str, (.int .i64), (.int .i64), (.own 3)], .arr 41 (.cons (.int .i64) (.cons (.int .i64) (.cons (.int .i64) (.cons (.int .i64) (.cons (.int .i64) (.cons .str (.int .i64))))))) true]⟩
def declrun_collect_D : FD := ⟨T, lookC [], [4], (Try.f71.body.getD .skip), Try.f71.results.toList, ⟨[.agg [(.int .i64), (.int .i64), (.int .i64), (.int .i64), (.int .i64), (.int .i64), (.int .i64), .str, (.int .i64), (.int .i64), (.int .i64), (.int .i64), (.int .i64), .str, (.int .i64), (.int .i64), (.own 0)], .one (.int .i64)], [.arr 41 (.cons (.int .i64) (.cons (.int .i64) (.cons (.int .i64) (.cons (.int .i64) (.cons (.int .i64) (.cons .str (.int .i64))))))) true]⟩, ⟨[.agg [(.int .i64), (.int .i64), (.int .i64), (.int .i64), (.int .i64), (.int .i64), (.int .i64), .str, (.int .i64), (.int .i64), (.int .i64), (.int .i64), (.int .i64), .str, (.int .i64), (.int .i64), (.own 1)]], [.dead, .arr 41 (.cons (.int .i64) (.cons (.int .i64) (.cons (.int .i64) (.cons (.int .i64) (.cons (.int .i64) (.cons .str (.int .i64))))))) true]⟩, [(4, declrun_collect_F4)]⟩
def declrun_collect_l4 (b : Int) (l0 : (List TEvent)) (h1_0 : Int) (h1_1 : Int) (h1_2 : Int) (h1_3 : Int) (h1_4 : Int) (h1_5 : Int) (h1_6 : Int) (h1_7 : ByteArray) (h1_8 : Int) (h1_9 : Int) (h1_10 : Int) (h1_11 : Int) (h1_12 : Int) (h1_13 : ByteArray) (h1_14 : Int) (h1_15 : Int) (h2_0 : Int) (h2_1 : Int) (h2_2 : Int) (h2_3 : Int) (h2_4 : Int) (h2_5 : Int) (h2_6 : Int) (h2_7 : ByteArray) (h2_8 : Int) (h2_9 : Int) (h2_10 : Int) (h2_11 : Int) (h2_12 : Int) (h2_13 : ByteArray) (h2_14 : Int) (h2_15 : Int) (l3 : (List TEvent)) : (Option (((Int × Int × Int × Int × Int × Int × Int × ByteArray × Int × Int × Int × Int × Int × ByteArray × Int × Int × Unit × Unit) × Unit) × (Unit × (List TEvent) × Unit))) := declrun_collect_D.lab 4 declrun_collect_F4 ((b, (), (), ()), (l0, (h1_0, h1_1, h1_2, h1_3, h1_4, h1_5, h1_6, h1_7, h1_8, h1_9, h1_10, h1_11, h1_12, h1_13, h1_14, h1_15, (), ()), (h2_0, h2_1, h2_2, h2_3, h2_4, h2_5, h2_6, h2_7, h2_8, h2_9, h2_10, h2_11, h2_12, h2_13, h2_14, h2_15, (), ()), l3, ()))
theorem declrun_collect_l4_eq (b : Int) (l0 : (List TEvent)) (h1_0 : Int) (h1_1 : Int) (h1_2 : Int) (h1_3 : Int) (h1_4 : Int) (h1_5 : Int) (h1_6 : Int) (h1_7 : ByteArray) (h1_8 : Int) (h1_9 : Int) (h1_10 : Int) (h1_11 : Int) (h1_12 : Int) (h1_13 : ByteArray) (h1_14 : Int) (h1_15 : Int) (h2_0 : Int) (h2_1 : Int) (h2_2 : Int) (h2_3 : Int) (h2_4 : Int) (h2_5 : Int) (h2_6 : Int) (h2_7 : ByteArray) (h2_8 : Int) (h2_9 : Int) (h2_10 : Int) (h2_11 : Int) (h2_12 : Int) (h2_13 : ByteArray) (h2_14 : Int) (h2_15 : Int) (l3 : (List TEvent)) : declrun_collect_l4 b l0 h1_0 h1_1 h1_2 h1_3 h1_4 h1_5 h1_6 h1_7 h1_8 h1_9 h1_10 h1_11 h1_12 h1_13 h1_14 h1_15 h2_0 h2_1 h2_2 h2_3 h2_4 h2_5 h2_6 h2_7 h2_8 h2_9 h2_10 h2_11 h2_12 h2_13 h2_14 h2_15 l3 =
  if h1_7.size + (strOfBytes [IntKind.u8.wrap b]).size ≤ 9223372036854775807 then
    some (((h1_0, h1_1, h1_2, h1_3, h1_4, h1_5, h1_6, h1_7 ++ (strOfBytes [IntKind.u8.wrap b]), h1_8, h1_9, h1_10, h1_11, h1_12, h1_13, h1_14, h1_15, (), ()), ()), ((), l0, ()))
  else
    none := (FD.lab_eq _ _ _ _).trans (by kernel_rfl)
def declrun_collect (w_0 : Int) (w_1 : Int) (w_2 : Int) (w_3 : Int) (w_4 : Int) (w_5 : Int) (w_6 : Int) (w_7 : ByteArray) (w_8 : Int) (w_9 : Int) (w_10 : Int) (w_11 : Int) (w_12 : Int) (w_13 : ByteArray) (w_14 : Int) (w_15 : Int) (b : Int) (l0 : (List TEvent)) : (Option (((Int × Int × Int × Int × Int × Int × Int × ByteArray × Int × Int × Int × Int × Int × ByteArray × Int × Int × Unit × Unit) × Unit) × (Unit × (List TEvent) × Unit))) :=
  if (decide ((w_7.size : Int) ≥ 4096)) = true then
    some (((w_0, w_1, w_2, w_3, w_4, w_5, w_6, w_7, w_8, w_9, w_10, w_11, w_12, w_13, w_14, w_15, (), ()), ()), ((), l0, ()))
  else
    if (w_7.toList == (strB []).toList) = true then
      declrun_collect_l4 b l0 w_0 w_1 w_9 w_3 w_4 w_5 w_6 w_7 w_8 w_9 w_10 w_11 w_12 w_13 w_14 w_15 0 0 0 0 0 0 0 (strB []) 0 0 0 0 0 (strB []) 0 0 []
    else
      declrun_collect_l4 b l0 w_0 w_1 w_2 w_3 w_4 w_5 w_6 w_7 w_8 w_9 w_10 w_11 w_12 w_13 w_14 w_15 0 0 0 0 0 0 0 (strB []) 0 0 0 0 0 (strB []) 0 0 []
def fc71 : FC := ⟨⟨[.agg [(.int .i64), (.int .i64), (.int .i64), (.int .i64), (.int .i64), (.int .i64), (.int .i64), .str, (.int .i64), (.int .i64), (.int .i64), (.int .i64), (.int .i64), .str, (.int .i64), (.int .i64), (.own 0)], .one (.int .i64)], [.arr 41 (.cons (.int .i64) (.cons (.int .i64) (.cons (.int .i64) (.cons (.int .i64) (.cons (.int .i64) (.cons .str (.int .i64))))))) true]⟩, ⟨[.agg [(.int .i64), (.int .i64), (.int .i64), (.int .i64), (.int .i64), (.int .i64), (.int .i64), .str, (.int .i64), (.int .i64), (.int .i64), (.int .i64), (.int .i64), .str, (.int .i64), (.int .i64), (.own 1)]], [.dead, .arr 41 (.cons (.int .i64) (.cons (.int .i64) (.cons (.int .i64) (.cons (.int .i64) (.cons (.int .i64) (.cons .str (.int .i64))))))) true]⟩, fun x => declrun_collect x.1.1.1 x.1.1.2.1 x.1.1.2.2.1 x.1.1.2.2.2.1 x.1.1.2.2.2.2.1 x.1.1.2.2.2.2.2.1 x.1.1.2.2.2.2.2.2.1 x.1.1.2.2.2.2.2.2.2.1 x.1.1.2.2.2.2.2.2.2.2.1 x.1.1.2.2.2.2.2.2.2.2.2.1 x.1.1.2.2.2.2.2.2.2.2.2.2.1 x.1.1.2.2.2.2.2.2.2.2.2.2.2.1 x.1.1.2.2.2.2.2.2.2.2.2.2.2.2.1 x.1.1.2.2.2.2.2.2.2.2.2.2.2.2.2.1 x.1.1.2.2.2.2.2.2.2.2.2.2.2.2.2.2.1 x.1.1.2.2.2.2.2.2.2.2.2.2.2.2.2.2.2.1 x.1.2.1 x.2.1⟩
theorem con71 : Contract Try.prog 71 fc71 :=
  declrun_collect_D.contract tok (cok_of (l := []) trivial) mixed (fn' := Try.f71) (by kernel_rfl) (by kernel_rfl) rfl (by kernel_rfl) (fun x => (FD.fn_eq _ _).trans (by kernel_rfl))
end
end Go.Proofs.Ytgjimkgehbppbab
end

section
/-
Ytgjimkgehbppbab: signalbench.declrun.all$2, as one plain function, its equations, its contract. No condition.
-/
set_option maxRecDepth 100000
set_option linter.unusedVariables false
set_option maxHeartbeats 4000000
open Go Go.AM
namespace Go.Proofs.Ytgjimkgehbppbab
noncomputable section
def declrun_all_2_D : FD := ⟨T, lookC [(71, fc71)], [], (Try.f70.body.getD .skip), Try.f70.results.toList, ⟨[.agg [(.int .i64), (.int .i64), (.int .i64), (.int .i64), (.int .i64), (.int .i64), (.int .i64), .str, (.int .i64), (.int .i64), (.int .i64), (.int .i64), (.int .i64), .str, (.int .i64), (.int .i64), (.own 0)], .one (.int .i64)], [.arr 41 (.cons (.int .i64) (.cons (.int .i64) (.cons (.int .i64) (.cons (.int .i64) (.cons (.int .i64) (.cons .str (.int .i64))))))) true]⟩, ⟨[.agg [(.int .i64), (.int .i64), (.int .i64), (.int .i64), (.int .i64), (.int .i64), (.int .i64), .str, (.int .i64), (.int .i64), (.int .i64), (.int .i64), (.int .i64), .str, (.int .i64), (.int .i64), (.own 1)]], [.dead, .arr 41 (.cons (.int .i64) (.cons (.int .i64) (.cons (.int .i64) (.cons (.int .i64) (.cons (.int .i64) (.cons .str (.int .i64))))))) true]⟩, []⟩
def declrun_all_2 (w_0 : Int) (w_1 : Int) (w_2 : Int) (w_3 : Int) (w_4 : Int) (w_5 : Int) (w_6 : Int) (w_7 : ByteArray) (w_8 : Int) (w_9 : Int) (w_10 : Int) (w_11 : Int) (w_12 : Int) (w_13 : ByteArray) (w_14 : Int) (w_15 : Int) (arg : Int) (l0 : (List TEvent)) : (Option (((Int × Int × Int × Int × Int × Int × Int × ByteArray × Int × Int × Int × Int × Int × ByteArray × Int × Int × Unit × Unit) × Unit) × (Unit × (List TEvent) × Unit))) :=
  (declrun_collect w_0 w_1 w_2 w_3 w_4 w_5 w_6 w_7 w_8 w_9 w_10 w_11 w_12 w_13 w_14 w_15 w_11 l0).bind fun y1 =>
    some (((y1.1.1.1, y1.1.1.2.1, y1.1.1.2.2.1, y1.1.1.2.2.2.1, y1.1.1.2.2.2.2.1, y1.1.1.2.2.2.2.2.1, y1.1.1.2.2.2.2.2.2.1, y1.1.1.2.2.2.2.2.2.2.1, y1.1.1.2.2.2.2.2.2.2.2.1, y1.1.1.2.2.2.2.2.2.2.2.2.1, y1.1.1.2.2.2.2.2.2.2.2.2.2.1, y1.1.1.2.2.2.2.2.2.2.2.2.2.2.1, y1.1.1.2.2.2.2.2.2.2.2.2.2.2.2.1, y1.1.1.2.2.2.2.2.2.2.2.2.2.2.2.2.1, y1.1.1.2.2.2.2.2.2.2.2.2.2.2.2.2.2.1, y1.1.1.2.2.2.2.2.2.2.2.2.2.2.2.2.2.2.1, (), ()), ()), ((), y1.2.2.1, ()))
def fc70 : FC := ⟨⟨[.agg [(.int .i64), (.int .i64), (.int .i64), (.int .i64), (.int .i64), (.int .i64), (.int .i64), .str, (.int .i64), (.int .i64), (.int .i64), (.int .i64), (.int .i64), .str, (.int .i64), (.int .i64), (.own 0)], .one (.int .i64)], [.arr 41 (.cons (.int .i64) (.cons (.int .i64) (.cons (.int .i64) (.cons (.int .i64) (.cons (.int .i64) (.cons .str (.int .i64))))))) true]⟩, ⟨[.agg [(.int .i64), (.int .i64), (.int .i64), (.int .i64), (.int .i64), (.int .i64), (.int .i64), .str, (.int .i64), (.int .i64), (.int .i64), (.int .i64), (.int .i64), .str, (.int .i64), (.int .i64), (.own 1)]], [.dead, .arr 41 (.cons (.int .i64) (.cons (.int .i64) (.cons (.int .i64) (.cons (.int .i64) (.cons (.int .i64) (.cons .str (.int .i64))))))) true]⟩, fun x => declrun_all_2 x.1.1.1 x.1.1.2.1 x.1.1.2.2.1 x.1.1.2.2.2.1 x.1.1.2.2.2.2.1 x.1.1.2.2.2.2.2.1 x.1.1.2.2.2.2.2.2.1 x.1.1.2.2.2.2.2.2.2.1 x.1.1.2.2.2.2.2.2.2.2.1 x.1.1.2.2.2.2.2.2.2.2.2.1 x.1.1.2.2.2.2.2.2.2.2.2.2.1 x.1.1.2.2.2.2.2.2.2.2.2.2.2.1 x.1.1.2.2.2.2.2.2.2.2.2.2.2.2.1 x.1.1.2.2.2.2.2.2.2.2.2.2.2.2.2.1 x.1.1.2.2.2.2.2.2.2.2.2.2.2.2.2.2.1 x.1.1.2.2.2.2.2.2.2.2.2.2.2.2.2.2.2.1 x.1.2.1 x.2.1⟩
theorem con70 : Contract Try.prog 70 fc70 :=
  declrun_all_2_D.contract tok (cok_of (l := [(71, fc71)]) ⟨con71, trivial⟩) mixed (fn' := Try.f70) (by kernel_rfl) (by kernel_rfl) rfl (by kernel_rfl) (fun x => (FD.fn_eq _ _).trans (by kernel_rfl))
end
end Go.Proofs.Ytgjimkgehbppbab
end

section
/-
Ytgjimkgehbppbab: signalbench.declrun.all$3, as one plain function, its equations, its contract. No condition.
-/
set_option maxRecDepth 100000
set_option linter.unusedVariables false
set_option maxHeartbeats 4000000
open Go Go.AM
namespace Go.Proofs.Ytgjimkgehbppbab
noncomputable section
def declrun_all_3_D : FD := ⟨T, lookC [(71, fc71)], [], (Try.f72.body.getD .skip), Try.f72.results.toList, ⟨[.agg [(.int .i64), (.int .i64), (.int .i64), (.int .i64), (.int .i64), (.int .i64), (.int .i64), .str, (.int .i64), (.int .i64), (.int .i64), (.int .i64), (.int .i64), .str, (.int .i64), (.int .i64), (.own 0)], .one (.int .i64)], [.arr 41 (.cons (.int .i64) (.cons (.int .i64) (.cons (.int .i64) (.cons (.int .i64) (.cons (.int .i64) (.cons .str (.int .i64))))))) true]⟩, ⟨[.agg [(.int .i64), (.int .i64), (.int .i64), (.int .i64), (.int .i64), (.int .i64), (.int .i64), .str, (.int .i64), (.int .i64), (.int .i64), (.int .i64), (.int .i64), .str, (.int .i64), (.int .i64), (.own 1)]], [.dead, .arr 41 (.cons (.int .i64) (.cons (.int .i64) (.cons (.int .i64) (.cons (.int .i64) (.cons (.int .i64) (.cons .str (.int .i64))))))) true]⟩, []⟩
def declrun_all_3 (w_0 : Int) (w_1 : Int) (w_2 : Int) (w_3 : Int) (w_4 : Int) (w_5 : Int) (w_6 : Int) (w_7 : ByteArray) (w_8 : Int) (w_9 : Int) (w_10 : Int) (w_11 : Int) (w_12 : Int) (w_13 : ByteArray) (w_14 : Int) (w_15 : Int) (arg : Int) (l0 : (List TEvent)) : (Option (((Int × Int × Int × Int × Int × Int × Int × ByteArray × Int × Int × Int × Int × Int × ByteArray × Int × Int × Unit × Unit) × Unit) × (Unit × (List TEvent) × Unit))) :=
  (declrun_collect w_0 w_1 w_2 w_3 w_4 w_5 w_6 w_7 w_8 w_9 w_10 w_11 w_12 w_13 w_14 w_15 (IntKind.i64.wrap (BitVec.ofInt 64 w_11 ^^^ BitVec.ofInt 64 arg).toNat) l0).bind fun y1 =>
    some (((y1.1.1.1, y1.1.1.2.1, y1.1.1.2.2.1, y1.1.1.2.2.2.1, y1.1.1.2.2.2.2.1, y1.1.1.2.2.2.2.2.1, y1.1.1.2.2.2.2.2.2.1, y1.1.1.2.2.2.2.2.2.2.1, y1.1.1.2.2.2.2.2.2.2.2.1, y1.1.1.2.2.2.2.2.2.2.2.2.1, y1.1.1.2.2.2.2.2.2.2.2.2.2.1, y1.1.1.2.2.2.2.2.2.2.2.2.2.2.1, y1.1.1.2.2.2.2.2.2.2.2.2.2.2.2.1, y1.1.1.2.2.2.2.2.2.2.2.2.2.2.2.2.1, y1.1.1.2.2.2.2.2.2.2.2.2.2.2.2.2.2.1, y1.1.1.2.2.2.2.2.2.2.2.2.2.2.2.2.2.2.1, (), ()), ()), ((), y1.2.2.1, ()))
def fc72 : FC := ⟨⟨[.agg [(.int .i64), (.int .i64), (.int .i64), (.int .i64), (.int .i64), (.int .i64), (.int .i64), .str, (.int .i64), (.int .i64), (.int .i64), (.int .i64), (.int .i64), .str, (.int .i64), (.int .i64), (.own 0)], .one (.int .i64)], [.arr 41 (.cons (.int .i64) (.cons (.int .i64) (.cons (.int .i64) (.cons (.int .i64) (.cons (.int .i64) (.cons .str (.int .i64))))))) true]⟩, ⟨[.agg [(.int .i64), (.int .i64), (.int .i64), (.int .i64), (.int .i64), (.int .i64), (.int .i64), .str, (.int .i64), (.int .i64), (.int .i64), (.int .i64), (.int .i64), .str, (.int .i64), (.int .i64), (.own 1)]], [.dead, .arr 41 (.cons (.int .i64) (.cons (.int .i64) (.cons (.int .i64) (.cons (.int .i64) (.cons (.int .i64) (.cons .str (.int .i64))))))) true]⟩, fun x => declrun_all_3 x.1.1.1 x.1.1.2.1 x.1.1.2.2.1 x.1.1.2.2.2.1 x.1.1.2.2.2.2.1 x.1.1.2.2.2.2.2.1 x.1.1.2.2.2.2.2.2.1 x.1.1.2.2.2.2.2.2.2.1 x.1.1.2.2.2.2.2.2.2.2.1 x.1.1.2.2.2.2.2.2.2.2.2.1 x.1.1.2.2.2.2.2.2.2.2.2.2.1 x.1.1.2.2.2.2.2.2.2.2.2.2.2.1 x.1.1.2.2.2.2.2.2.2.2.2.2.2.2.1 x.1.1.2.2.2.2.2.2.2.2.2.2.2.2.2.1 x.1.1.2.2.2.2.2.2.2.2.2.2.2.2.2.2.1 x.1.1.2.2.2.2.2.2.2.2.2.2.2.2.2.2.2.1 x.1.2.1 x.2.1⟩
theorem con72 : Contract Try.prog 72 fc72 :=
  declrun_all_3_D.contract tok (cok_of (l := [(71, fc71)]) ⟨con71, trivial⟩) mixed (fn' := Try.f72) (by kernel_rfl) (by kernel_rfl) rfl (by kernel_rfl) (fun x => (FD.fn_eq _ _).trans (by kernel_rfl))
end
end Go.Proofs.Ytgjimkgehbppbab
end

section
/-
Ytgjimkgehbppbab: signalbench.declrun.tell, as one plain function, its equations, its contract. No condition.
-/
set_option maxRecDepth 100000
set_option linter.unusedVariables false
set_option maxHeartbeats 4000000
open Go Go.AM
namespace Go.Proofs.Ytgjimkgehbppbab
noncomputable section
def declrun_tell_F2 : FSh := ⟨[(1, .one (.int .i64)), (2, .one (.int .i64)), (3, .one (.ptr 1 0)), (6, .one (.ptr 2 0)), (7, .one (.int .i64))], [.arr 41 (.cons (.int .i64) (.cons (.int .i64) (.cons (.int .i64) (.cons (.int .i64) (.cons (.int .i64) (.cons .str (.int .i64))))))) true, .box [(.int .i64), (.int .i64), (.int .i64), (.int .i64), (.int .i64), (.int .i64), (.int .i64), .str, (.int .i64), (.int .i64), (.int .i64), (.int .i64), (.int .i64), .str, (.int .i64), (.int .i64), (.own 0)], .box [(.int .i64), (.int .i64), (.int .i64), (.int .i64), (.int .i64), (.int .i64), (.int .i64), .str, (.int .i64), (.int .i64), (.int .i64), (.int .i64), (.int .i64), .str, (.int .i64), (.int .i64), (.own 3)], .arr 41 (.cons (.int .i64) (.cons (.int .i64) (.cons (.int .i64) (.cons (.int .i64) (.cons (.int .i64) (.cons .str (.int .i64))))))) true]⟩
def declrun_tell_D : FD := ⟨T, lookC [(69, fc69)], [2], (Try.f74.body.getD .skip), Try.f74.results.toList, ⟨[.agg [(.int .i64), (.int .i64), (.int .i64), (.int .i64), (.int .i64), (.int .i64), (.int .i64), .str, (.int .i64), (.int .i64), (.int .i64), (.int .i64), (.int .i64), .str, (.int .i64), (.int .i64), (.own 0)], .one (.int .i64), .one (.int .i64)], [.arr 41 (.cons (.int .i64) (.cons (.int .i64) (.cons (.int .i64) (.cons (.int .i64) (.cons (.int .i64) (.cons .str (.int .i64))))))) true]⟩, ⟨[.agg [(.int .i64), (.int .i64), (.int .i64), (.int .i64), (.int .i64), (.int .i64), (.int .i64), .str, (.int .i64), (.int .i64), (.int .i64), (.int .i64), (.int .i64), .str, (.int .i64), (.int .i64), (.own 1)]], [.dead, .arr 41 (.cons (.int .i64) (.cons (.int .i64) (.cons (.int .i64) (.cons (.int .i64) (.cons (.int .i64) (.cons .str (.int .i64))))))) true]⟩, [(2, declrun_tell_F2)]⟩
def declrun_tell_l2 (value : Int) (fault : Int) (from_ : Int) (l0 : (List TEvent)) (h1_0 : Int) (h1_1 : Int) (h1_2 : Int) (h1_3 : Int) (h1_4 : Int) (h1_5 : Int) (h1_6 : Int) (h1_7 : ByteArray) (h1_8 : Int) (h1_9 : Int) (h1_10 : Int) (h1_11 : Int) (h1_12 : Int) (h1_13 : ByteArray) (h1_14 : Int) (h1_15 : Int) (h2_0 : Int) (h2_1 : Int) (h2_2 : Int) (h2_3 : Int) (h2_4 : Int) (h2_5 : Int) (h2_6 : Int) (h2_7 : ByteArray) (h2_8 : Int) (h2_9 : Int) (h2_10 : Int) (h2_11 : Int) (h2_12 : Int) (h2_13 : ByteArray) (h2_14 : Int) (h2_15 : Int) (l3 : (List TEvent)) : (Option (((Int × Int × Int × Int × Int × Int × Int × ByteArray × Int × Int × Int × Int × Int × ByteArray × Int × Int × Unit × Unit) × Unit) × (Unit × (List TEvent) × Unit))) := declrun_tell_D.lab 2 declrun_tell_F2 ((value, fault, (), (), from_, ()), (l0, (h1_0, h1_1, h1_2, h1_3, h1_4, h1_5, h1_6, h1_7, h1_8, h1_9, h1_10, h1_11, h1_12, h1_13, h1_14, h1_15, (), ()), (h2_0, h2_1, h2_2, h2_3, h2_4, h2_5, h2_6, h2_7, h2_8, h2_9, h2_10, h2_11, h2_12, h2_13, h2_14, h2_15, (), ()), l3, ()))
theorem declrun_tell_l2_eq (value : Int) (fault : Int) (from_ : Int) (l0 : (List TEvent)) (h1_0 : Int) (h1_1 : Int) (h1_2 : Int) (h1_3 : Int) (h1_4 : Int) (h1_5 : Int) (h1_6 : Int) (h1_7 : ByteArray) (h1_8 : Int) (h1_9 : Int) (h1_10 : Int) (h1_11 : Int) (h1_12 : Int) (h1_13 : ByteArray) (h1_14 : Int) (h1_15 : Int) (h2_0 : Int) (h2_1 : Int) (h2_2 : Int) (h2_3 : Int) (h2_4 : Int) (h2_5 : Int) (h2_6 : Int) (h2_7 : ByteArray) (h2_8 : Int) (h2_9 : Int) (h2_10 : Int) (h2_11 : Int) (h2_12 : Int) (h2_13 : ByteArray) (h2_14 : Int) (h2_15 : Int) (l3 : (List TEvent)) : declrun_tell_l2 value fault from_ l0 h1_0 h1_1 h1_2 h1_3 h1_4 h1_5 h1_6 h1_7 h1_8 h1_9 h1_10 h1_11 h1_12 h1_13 h1_14 h1_15 h2_0 h2_1 h2_2 h2_3 h2_4 h2_5 h2_6 h2_7 h2_8 h2_9 h2_10 h2_11 h2_12 h2_13 h2_14 h2_15 l3 =
  if (l0.length + 1) * 64 ≤ 140737488355328 ∧ 0 < 64 then
    (declrun_drop h1_0 h1_1 h1_2 h1_3 h1_4 h1_5 h1_6 h1_7 h1_8 h1_9 h1_10 h1_11 h1_12 h1_13 h1_14 h1_15 (l0 ++ [(h1_15, from_, h1_10, value, 0, h1_7, fault)])).bind fun y1 =>
      some (((y1.1.1.1, y1.1.1.2.1, y1.1.1.2.2.1, y1.1.1.2.2.2.1, y1.1.1.2.2.2.2.1, y1.1.1.2.2.2.2.2.1, y1.1.1.2.2.2.2.2.2.1, y1.1.1.2.2.2.2.2.2.2.1, y1.1.1.2.2.2.2.2.2.2.2.1, y1.1.1.2.2.2.2.2.2.2.2.2.1, y1.1.1.2.2.2.2.2.2.2.2.2.2.1, y1.1.1.2.2.2.2.2.2.2.2.2.2.2.1, y1.1.1.2.2.2.2.2.2.2.2.2.2.2.2.1, y1.1.1.2.2.2.2.2.2.2.2.2.2.2.2.2.1, y1.1.1.2.2.2.2.2.2.2.2.2.2.2.2.2.2.1, y1.1.1.2.2.2.2.2.2.2.2.2.2.2.2.2.2.2.1, (), ()), ()), ((), y1.2.2.1, ()))
  else
    none := (FD.lab_eq _ _ _ _).trans (by kernel_rfl)
def declrun_tell (w_0 : Int) (w_1 : Int) (w_2 : Int) (w_3 : Int) (w_4 : Int) (w_5 : Int) (w_6 : Int) (w_7 : ByteArray) (w_8 : Int) (w_9 : Int) (w_10 : Int) (w_11 : Int) (w_12 : Int) (w_13 : ByteArray) (w_14 : Int) (w_15 : Int) (value : Int) (fault : Int) (l0 : (List TEvent)) : (Option (((Int × Int × Int × Int × Int × Int × Int × ByteArray × Int × Int × Int × Int × Int × ByteArray × Int × Int × Unit × Unit) × Unit) × (Unit × (List TEvent) × Unit))) :=
  if (!(w_7.toList == (strB []).toList)) = true then
    declrun_tell_l2 value fault w_2 l0 w_0 w_1 w_2 w_3 w_4 w_5 w_6 w_7 w_8 w_9 w_10 w_11 w_12 w_13 w_14 w_15 0 0 0 0 0 0 0 (strB []) 0 0 0 0 0 (strB []) 0 0 []
  else
    declrun_tell_l2 value fault w_9 l0 w_0 w_1 w_2 w_3 w_4 w_5 w_6 w_7 w_8 w_9 w_10 w_11 w_12 w_13 w_14 w_15 0 0 0 0 0 0 0 (strB []) 0 0 0 0 0 (strB []) 0 0 []
def fc74 : FC := ⟨⟨[.agg [(.int .i64), (.int .i64), (.int .i64), (.int .i64), (.int .i64), (.int .i64), (.int .i64), .str, (.int .i64), (.int .i64), (.int .i64), (.int .i64), (.int .i64), .str, (.int .i64), (.int .i64), (.own 0)], .one (.int .i64), .one (.int .i64)], [.arr 41 (.cons (.int .i64) (.cons (.int .i64) (.cons (.int .i64) (.cons (.int .i64) (.cons (.int .i64) (.cons .str (.int .i64))))))) true]⟩, ⟨[.agg [(.int .i64), (.int .i64), (.int .i64), (.int .i64), (.int .i64), (.int .i64), (.int .i64), .str, (.int .i64), (.int .i64), (.int .i64), (.int .i64), (.int .i64), .str, (.int .i64), (.int .i64), (.own 1)]], [.dead, .arr 41 (.cons (.int .i64) (.cons (.int .i64) (.cons (.int .i64) (.cons (.int .i64) (.cons (.int .i64) (.cons .str (.int .i64))))))) true]⟩, fun x => declrun_tell x.1.1.1 x.1.1.2.1 x.1.1.2.2.1 x.1.1.2.2.2.1 x.1.1.2.2.2.2.1 x.1.1.2.2.2.2.2.1 x.1.1.2.2.2.2.2.2.1 x.1.1.2.2.2.2.2.2.2.1 x.1.1.2.2.2.2.2.2.2.2.1 x.1.1.2.2.2.2.2.2.2.2.2.1 x.1.1.2.2.2.2.2.2.2.2.2.2.1 x.1.1.2.2.2.2.2.2.2.2.2.2.2.1 x.1.1.2.2.2.2.2.2.2.2.2.2.2.2.1 x.1.1.2.2.2.2.2.2.2.2.2.2.2.2.2.1 x.1.1.2.2.2.2.2.2.2.2.2.2.2.2.2.2.1 x.1.1.2.2.2.2.2.2.2.2.2.2.2.2.2.2.2.1 x.1.2.1 x.1.2.2.1 x.2.1⟩
theorem con74 : Contract Try.prog 74 fc74 :=
  declrun_tell_D.contract tok (cok_of (l := [(69, fc69)]) ⟨con69, trivial⟩) mixed (fn' := Try.f74) (by kernel_rfl) (by kernel_rfl) rfl (by kernel_rfl) (fun x => (FD.fn_eq _ _).trans (by kernel_rfl))
end
end Go.Proofs.Ytgjimkgehbppbab
end

section
/-
Ytgjimkgehbppbab: signalbench.declrun.all$4, as one plain function, its equations, its contract. No condition.
-/
set_option maxRecDepth 100000
set_option linter.unusedVariables false
set_option maxHeartbeats 4000000
open Go Go.AM
namespace Go.Proofs.Ytgjimkgehbppbab
noncomputable section
def declrun_all_4_D : FD := ⟨T, lookC [(74, fc74)], [], (Try.f73.body.getD .skip), Try.f73.results.toList, ⟨[.agg [(.int .i64), (.int .i64), (.int .i64), (.int .i64), (.int .i64), (.int .i64), (.int .i64), .str, (.int .i64), (.int .i64), (.int .i64), (.int .i64), (.int .i64), .str, (.int .i64), (.int .i64), (.own 0)], .one (.int .i64)], [.arr 41 (.cons (.int .i64) (.cons (.int .i64) (.cons (.int .i64) (.cons (.int .i64) (.cons (.int .i64) (.cons .str (.int .i64))))))) true]⟩, ⟨[.agg [(.int .i64), (.int .i64), (.int .i64), (.int .i64), (.int .i64), (.int .i64), (.int .i64), .str, (.int .i64), (.int .i64), (.int .i64), (.int .i64), (.int .i64), .str, (.int .i64), (.int .i64), (.own 1)]], [.dead, .arr 41 (.cons (.int .i64) (.cons (.int .i64) (.cons (.int .i64) (.cons (.int .i64) (.cons (.int .i64) (.cons .str (.int .i64))))))) true]⟩, []⟩
def declrun_all_4 (w_0 : Int) (w_1 : Int) (w_2 : Int) (w_3 : Int) (w_4 : Int) (w_5 : Int) (w_6 : Int) (w_7 : ByteArray) (w_8 : Int) (w_9 : Int) (w_10 : Int) (w_11 : Int) (w_12 : Int) (w_13 : ByteArray) (w_14 : Int) (w_15 : Int) (arg : Int) (l0 : (List TEvent)) : (Option (((Int × Int × Int × Int × Int × Int × Int × ByteArray × Int × Int × Int × Int × Int × ByteArray × Int × Int × Unit × Unit) × Unit) × (Unit × (List TEvent) × Unit))) :=
  (declrun_tell w_0 w_1 w_2 w_3 w_4 w_5 w_6 w_7 w_8 w_9 w_10 w_11 w_12 w_13 w_14 w_15 arg 0 l0).bind fun y1 =>
    some (((y1.1.1.1, y1.1.1.2.1, y1.1.1.2.2.1, y1.1.1.2.2.2.1, y1.1.1.2.2.2.2.1, y1.1.1.2.2.2.2.2.1, y1.1.1.2.2.2.2.2.2.1, y1.1.1.2.2.2.2.2.2.2.1, y1.1.1.2.2.2.2.2.2.2.2.1, y1.1.1.2.2.2.2.2.2.2.2.2.1, y1.1.1.2.2.2.2.2.2.2.2.2.2.1, y1.1.1.2.2.2.2.2.2.2.2.2.2.2.1, y1.1.1.2.2.2.2.2.2.2.2.2.2.2.2.1, y1.1.1.2.2.2.2.2.2.2.2.2.2.2.2.2.1, y1.1.1.2.2.2.2.2.2.2.2.2.2.2.2.2.2.1, y1.1.1.2.2.2.2.2.2.2.2.2.2.2.2.2.2.2.1, (), ()), ()), ((), y1.2.2.1, ()))
def fc73 : FC := ⟨⟨[.agg [(.int .i64), (.int .i64), (.int .i64), (.int .i64), (.int .i64), (.int .i64), (.int .i64), .str, (.int .i64), (.int .i64), (.int .i64), (.int .i64), (.int .i64), .str, (.int .i64), (.int .i64), (.own 0)], .one (.int .i64)], [.arr 41 (.cons (.int .i64) (.cons (.int .i64) (.cons (.int .i64) (.cons (.int .i64) (.cons (.int .i64) (.cons .str (.int .i64))))))) true]⟩, ⟨[.agg [(.int .i64), (.int .i64), (.int .i64), (.int .i64), (.int .i64), (.int .i64), (.int .i64), .str, (.int .i64), (.int .i64), (.int .i64), (.int .i64), (.int .i64), .str, (.int .i64), (.int .i64), (.own 1)]], [.dead, .arr 41 (.cons (.int .i64) (.cons (.int .i64) (.cons (.int .i64) (.cons (.int .i64) (.cons (.int .i64) (.cons .str (.int .i64))))))) true]⟩, fun x => declrun_all_4 x.1.1.1 x.1.1.2.1 x.1.1.2.2.1 x.1.1.2.2.2.1 x.1.1.2.2.2.2.1 x.1.1.2.2.2.2.2.1 x.1.1.2.2.2.2.2.2.1 x.1.1.2.2.2.2.2.2.2.1 x.1.1.2.2.2.2.2.2.2.2.1 x.1.1.2.2.2.2.2.2.2.2.2.1 x.1.1.2.2.2.2.2.2.2.2.2.2.1 x.1.1.2.2.2.2.2.2.2.2.2.2.2.1 x.1.1.2.2.2.2.2.2.2.2.2.2.2.2.1 x.1.1.2.2.2.2.2.2.2.2.2.2.2.2.2.1 x.1.1.2.2.2.2.2.2.2.2.2.2.2.2.2.2.1 x.1.1.2.2.2.2.2.2.2.2.2.2.2.2.2.2.2.1 x.1.2.1 x.2.1⟩
theorem con73 : Contract Try.prog 73 fc73 :=
  declrun_all_4_D.contract tok (cok_of (l := [(74, fc74)]) ⟨con74, trivial⟩) mixed (fn' := Try.f73) (by kernel_rfl) (by kernel_rfl) rfl (by kernel_rfl) (fun x => (FD.fn_eq _ _).trans (by kernel_rfl))
end
end Go.Proofs.Ytgjimkgehbppbab
end

section
/-
Ytgjimkgehbppbab: signalbench.declrun.all$5, as one plain function, its equations, its contract. No condition.
-/
set_option maxRecDepth 100000
set_option linter.unusedVariables false
set_option maxHeartbeats 4000000
open Go Go.AM
namespace Go.Proofs.Ytgjimkgehbppbab
noncomputable section
def declrun_all_5_D : FD := ⟨T, lookC [(74, fc74)], [], (Try.f75.body.getD .skip), Try.f75.results.toList, ⟨[.agg [(.int .i64), (.int .i64), (.int .i64), (.int .i64), (.int .i64), (.int .i64), (.int .i64), .str, (.int .i64), (.int .i64), (.int .i64), (.int .i64), (.int .i64), .str, (.int .i64), (.int .i64), (.own 0)], .one (.int .i64)], [.arr 41 (.cons (.int .i64) (.cons (.int .i64) (.cons (.int .i64) (.cons (.int .i64) (.cons (.int .i64) (.cons .str (.int .i64))))))) true]⟩, ⟨[.agg [(.int .i64), (.int .i64), (.int .i64), (.int .i64), (.int .i64), (.int .i64), (.int .i64), .str, (.int .i64), (.int .i64), (.int .i64), (.int .i64), (.int .i64), .str, (.int .i64), (.int .i64), (.own 1)]], [.dead, .arr 41 (.cons (.int .i64) (.cons (.int .i64) (.cons (.int .i64) (.cons (.int .i64) (.cons (.int .i64) (.cons .str (.int .i64))))))) true]⟩, []⟩
def declrun_all_5 (w_0 : Int) (w_1 : Int) (w_2 : Int) (w_3 : Int) (w_4 : Int) (w_5 : Int) (w_6 : Int) (w_7 : ByteArray) (w_8 : Int) (w_9 : Int) (w_10 : Int) (w_11 : Int) (w_12 : Int) (w_13 : ByteArray) (w_14 : Int) (w_15 : Int) (arg : Int) (l0 : (List TEvent)) : (Option (((Int × Int × Int × Int × Int × Int × Int × ByteArray × Int × Int × Int × Int × Int × ByteArray × Int × Int × Unit × Unit) × Unit) × (Unit × (List TEvent) × Unit))) :=
  (declrun_tell w_0 w_1 w_2 w_3 w_4 w_5 w_6 w_7 w_8 w_9 w_10 w_11 w_12 w_13 w_14 w_15 0 arg l0).bind fun y1 =>
    some (((y1.1.1.1, y1.1.1.2.1, y1.1.1.2.2.1, y1.1.1.2.2.2.1, y1.1.1.2.2.2.2.1, y1.1.1.2.2.2.2.2.1, y1.1.1.2.2.2.2.2.2.1, y1.1.1.2.2.2.2.2.2.2.1, y1.1.1.2.2.2.2.2.2.2.2.1, y1.1.1.2.2.2.2.2.2.2.2.2.1, y1.1.1.2.2.2.2.2.2.2.2.2.2.1, y1.1.1.2.2.2.2.2.2.2.2.2.2.2.1, y1.1.1.2.2.2.2.2.2.2.2.2.2.2.2.1, y1.1.1.2.2.2.2.2.2.2.2.2.2.2.2.2.1, y1.1.1.2.2.2.2.2.2.2.2.2.2.2.2.2.2.1, y1.1.1.2.2.2.2.2.2.2.2.2.2.2.2.2.2.2.1, (), ()), ()), ((), y1.2.2.1, ()))
def fc75 : FC := ⟨⟨[.agg [(.int .i64), (.int .i64), (.int .i64), (.int .i64), (.int .i64), (.int .i64), (.int .i64), .str, (.int .i64), (.int .i64), (.int .i64), (.int .i64), (.int .i64), .str, (.int .i64), (.int .i64), (.own 0)], .one (.int .i64)], [.arr 41 (.cons (.int .i64) (.cons (.int .i64) (.cons (.int .i64) (.cons (.int .i64) (.cons (.int .i64) (.cons .str (.int .i64))))))) true]⟩, ⟨[.agg [(.int .i64), (.int .i64), (.int .i64), (.int .i64), (.int .i64), (.int .i64), (.int .i64), .str, (.int .i64), (.int .i64), (.int .i64), (.int .i64), (.int .i64), .str, (.int .i64), (.int .i64), (.own 1)]], [.dead, .arr 41 (.cons (.int .i64) (.cons (.int .i64) (.cons (.int .i64) (.cons (.int .i64) (.cons (.int .i64) (.cons .str (.int .i64))))))) true]⟩, fun x => declrun_all_5 x.1.1.1 x.1.1.2.1 x.1.1.2.2.1 x.1.1.2.2.2.1 x.1.1.2.2.2.2.1 x.1.1.2.2.2.2.2.1 x.1.1.2.2.2.2.2.2.1 x.1.1.2.2.2.2.2.2.2.1 x.1.1.2.2.2.2.2.2.2.2.1 x.1.1.2.2.2.2.2.2.2.2.2.1 x.1.1.2.2.2.2.2.2.2.2.2.2.1 x.1.1.2.2.2.2.2.2.2.2.2.2.2.1 x.1.1.2.2.2.2.2.2.2.2.2.2.2.2.1 x.1.1.2.2.2.2.2.2.2.2.2.2.2.2.2.1 x.1.1.2.2.2.2.2.2.2.2.2.2.2.2.2.2.1 x.1.1.2.2.2.2.2.2.2.2.2.2.2.2.2.2.2.1 x.1.2.1 x.2.1⟩
theorem con75 : Contract Try.prog 75 fc75 :=
  declrun_all_5_D.contract tok (cok_of (l := [(74, fc74)]) ⟨con74, trivial⟩) mixed (fn' := Try.f75) (by kernel_rfl) (by kernel_rfl) rfl (by kernel_rfl) (fun x => (FD.fn_eq _ _).trans (by kernel_rfl))
end
end Go.Proofs.Ytgjimkgehbppbab
end

section
/-
Ytgjimkgehbppbab: signalbench.declrun.all, as one plain function, its equations, its contract. No condition.
-/
set_option maxRecDepth 100000
set_option linter.unusedVariables false
set_option maxHeartbeats 4000000
open Go Go.AM
namespace Go.Proofs.Ytgjimkgehbppbab
noncomputable section
def declrun_all_D : FD := ⟨T, lookC [(68, fc68), (70, fc70), (71, fc71), (72, fc72), (73, fc73), (75, fc75)], [], (Try.f49.body.getD .skip), Try.f49.results.toList, ⟨[], []⟩, ⟨[.agg [(.fn 68 []), (.fn 70 []), (.fn 72 []), (.fn 71 []), (.fn 73 []), (.fn 75 [])]], []⟩, []⟩
def declrun_all : (Option (((Unit × Unit × Unit × Unit × Unit × Unit × Unit) × Unit) × Unit)) :=
  some ((((), (), (), (), (), (), ()), ()), ())
def fc49 : FC := ⟨⟨[], []⟩, ⟨[.agg [(.fn 68 []), (.fn 70 []), (.fn 72 []), (.fn 71 []), (.fn 73 []), (.fn 75 [])]], []⟩, fun x => declrun_all⟩
theorem con49 : Contract Try.prog 49 fc49 :=
  declrun_all_D.contract tok (cok_of (l := [(68, fc68), (70, fc70), (71, fc71), (72, fc72), (73, fc73), (75, fc75)]) ⟨con68, con70, con71, con72, con73, con75, trivial⟩) mixed (fn' := Try.f49) (by kernel_rfl) (by kernel_rfl) rfl (by kernel_rfl) (fun x => (FD.fn_eq _ _).trans (by kernel_rfl))
end
end Go.Proofs.Ytgjimkgehbppbab
end

section
/-
Ytgjimkgehbppbab: signalbench.declrun.do, as one plain function, its equations, its contract. No condition.
-/
set_option maxRecDepth 100000
set_option linter.unusedVariables false
set_option maxHeartbeats 4000000
open Go Go.AM
namespace Go.Proofs.Ytgjimkgehbppbab
noncomputable section
def declrun_do_F4 : FSh := ⟨[(2, .one (.ptr 1 0)), (4, .one (.ptr 2 0)), (5, .one (.ptr 3 0)), (9, .one (.sl (.cons (.int .i64) (.int .i64)))), (10, .one (.int .i64)), (11, .one (.int .i64))], [.dead, .box [(.int .i64), (.int .i64), (.int .i64), (.int .i64), (.int .i64), (.int .i64), (.int .i64), .str, (.int .i64), (.int .i64), (.int .i64), (.int .i64), (.int .i64), .str, (.int .i64), (.int .i64), (.own 4)], .box [(.int .i64), (.int .i64), (.int .i64), (.int .i64), (.int .i64), (.int .i64), (.int .i64), .str, (.int .i64), (.int .i64), (.int .i64), (.int .i64), (.int .i64), .str, (.int .i64), (.int .i64), (.own 5)], .box [(.fn 68 []), (.fn 70 []), (.fn 72 []), (.fn 71 []), (.fn 73 []), (.fn 75 [])], .arr 41 (.cons (.int .i64) (.cons (.int .i64) (.cons (.int .i64) (.cons (.int .i64) (.cons (.int .i64) (.cons .str (.int .i64))))))) true, .arr 41 (.cons (.int .i64) (.cons (.int .i64) (.cons (.int .i64) (.cons (.int .i64) (.cons (.int .i64) (.cons .str (.int .i64))))))) true]⟩
def declrun_do_D : FD := ⟨T, lookC [(49, fc49), (68, fc68), (70, fc70), (71, fc71), (72, fc72), (73, fc73), (75, fc75)], [], (Try.f31.body.getD .skip), Try.f31.results.toList, ⟨[.agg [(.int .i64), (.int .i64), (.int .i64), (.int .i64), (.int .i64), (.int .i64), (.int .i64), .str, (.int .i64), (.int .i64), (.int .i64), (.int .i64), (.int .i64), .str, (.int .i64), (.int .i64), (.own 0)], .one (.sl (.cons (.int .i64) (.int .i64)))], [.arr 41 (.cons (.int .i64) (.cons (.int .i64) (.cons (.int .i64) (.cons (.int .i64) (.cons (.int .i64) (.cons .str (.int .i64))))))) true]⟩, ⟨[.agg [(.int .i64), (.int .i64), (.int .i64), (.int .i64), (.int .i64), (.int .i64), (.int .i64), .str, (.int .i64), (.int .i64), (.int .i64), (.int .i64), (.int .i64), .str, (.int .i64), (.int .i64), (.own 1)]], [.dead, .arr 41 (.cons (.int .i64) (.cons (.int .i64) (.cons (.int .i64) (.cons (.int .i64) (.cons (.int .i64) (.cons .str (.int .i64))))))) true]⟩, [(4, declrun_do_F4)]⟩
def declrun_do_l4 (t9 : (List TAct)) (t10 : Int) (t11 : Int) (h1_0 : Int) (h1_1 : Int) (h1_2 : Int) (h1_3 : Int) (h1_4 : Int) (h1_5 : Int) (h1_6 : Int) (h1_7 : ByteArray) (h1_8 : Int) (h1_9 : Int) (h1_10 : Int) (h1_11 : Int) (h1_12 : Int) (h1_13 : ByteArray) (h1_14 : Int) (h1_15 : Int) (h2_0 : Int) (h2_1 : Int) (h2_2 : Int) (h2_3 : Int) (h2_4 : Int) (h2_5 : Int) (h2_6 : Int) (h2_7 : ByteArray) (h2_8 : Int) (h2_9 : Int) (h2_10 : Int) (h2_11 : Int) (h2_12 : Int) (h2_13 : ByteArray) (h2_14 : Int) (h2_15 : Int) (l4 : (List TEvent)) (l5 : (List TEvent)) : (Option (((Int × Int × Int × Int × Int × Int × Int × ByteArray × Int × Int × Int × Int × Int × ByteArray × Int × Int × Unit × Unit) × Unit) × (Unit × (List TEvent) × Unit))) := declrun_do_D.lab 4 declrun_do_F4 (((), (), (), t9, t10, t11, ()), ((), (h1_0, h1_1, h1_2, h1_3, h1_4, h1_5, h1_6, h1_7, h1_8, h1_9, h1_10, h1_11, h1_12, h1_13, h1_14, h1_15, (), ()), (h2_0, h2_1, h2_2, h2_3, h2_4, h2_5, h2_6, h2_7, h2_8, h2_9, h2_10, h2_11, h2_12, h2_13, h2_14, h2_15, (), ()), ((), (), (), (), (), (), ()), l4, l5, ()))
theorem declrun_do_l4_eq (t9 : (List TAct)) (t10 : Int) (t11 : Int) (h1_0 : Int) (h1_1 : Int) (h1_2 : Int) (h1_3 : Int) (h1_4 : Int) (h1_5 : Int) (h1_6 : Int) (h1_7 : ByteArray) (h1_8 : Int) (h1_9 : Int) (h1_10 : Int) (h1_11 : Int) (h1_12 : Int) (h1_13 : ByteArray) (h1_14 : Int) (h1_15 : Int) (h2_0 : Int) (h2_1 : Int) (h2_2 : Int) (h2_3 : Int) (h2_4 : Int) (h2_5 : Int) (h2_6 : Int) (h2_7 : ByteArray) (h2_8 : Int) (h2_9 : Int) (h2_10 : Int) (h2_11 : Int) (h2_12 : Int) (h2_13 : ByteArray) (h2_14 : Int) (h2_15 : Int) (l4 : (List TEvent)) (l5 : (List TEvent)) : declrun_do_l4 t9 t10 t11 h1_0 h1_1 h1_2 h1_3 h1_4 h1_5 h1_6 h1_7 h1_8 h1_9 h1_10 h1_11 h1_12 h1_13 h1_14 h1_15 h2_0 h2_1 h2_2 h2_3 h2_4 h2_5 h2_6 h2_7 h2_8 h2_9 h2_10 h2_11 h2_12 h2_13 h2_14 h2_15 l4 l5 =
  if (decide (t11 < t10)) = true then
    if 0 ≤ t11 ∧ t11 < (t9.length : Int) then
      if ((t9.getD t11.toNat dAct).1 == 1) = true then
        (declrun_all_1 h1_0 h1_1 h1_2 h1_3 h1_4 h1_5 h1_6 h1_7 h1_8 h1_9 h1_10 h1_11 h1_12 h1_13 h1_14 h1_15 (t9.getD t11.toNat dAct).2 l4).bind fun y1 =>
          declrun_do_l4 t9 t10 (IntKind.i64.wrap (t11 + 1)) y1.1.1.1 y1.1.1.2.1 y1.1.1.2.2.1 y1.1.1.2.2.2.1 y1.1.1.2.2.2.2.1 y1.1.1.2.2.2.2.2.1 y1.1.1.2.2.2.2.2.2.1 y1.1.1.2.2.2.2.2.2.2.1 y1.1.1.2.2.2.2.2.2.2.2.1 y1.1.1.2.2.2.2.2.2.2.2.2.1 y1.1.1.2.2.2.2.2.2.2.2.2.2.1 y1.1.1.2.2.2.2.2.2.2.2.2.2.2.1 y1.1.1.2.2.2.2.2.2.2.2.2.2.2.2.1 y1.1.1.2.2.2.2.2.2.2.2.2.2.2.2.2.1 y1.1.1.2.2.2.2.2.2.2.2.2.2.2.2.2.2.1 y1.1.1.2.2.2.2.2.2.2.2.2.2.2.2.2.2.2.1 h2_0 h2_1 h2_2 h2_3 h2_4 h2_5 h2_6 h2_7 h2_8 h2_9 h2_10 h2_11 h2_12 h2_13 h2_14 h2_15 y1.2.2.1 l5
      else
        if ((t9.getD t11.toNat dAct).1 == 2) = true then
          (declrun_all_2 h1_0 h1_1 h1_2 h1_3 h1_4 h1_5 h1_6 h1_7 h1_8 h1_9 h1_10 h1_11 h1_12 h1_13 h1_14 h1_15 (t9.getD t11.toNat dAct).2 l4).bind fun y2 =>
            declrun_do_l4 t9 t10 (IntKind.i64.wrap (t11 + 1)) y2.1.1.1 y2.1.1.2.1 y2.1.1.2.2.1 y2.1.1.2.2.2.1 y2.1.1.2.2.2.2.1 y2.1.1.2.2.2.2.2.1 y2.1.1.2.2.2.2.2.2.1 y2.1.1.2.2.2.2.2.2.2.1 y2.1.1.2.2.2.2.2.2.2.2.1 y2.1.1.2.2.2.2.2.2.2.2.2.1 y2.1.1.2.2.2.2.2.2.2.2.2.2.1 y2.1.1.2.2.2.2.2.2.2.2.2.2.2.1 y2.1.1.2.2.2.2.2.2.2.2.2.2.2.2.1 y2.1.1.2.2.2.2.2.2.2.2.2.2.2.2.2.1 y2.1.1.2.2.2.2.2.2.2.2.2.2.2.2.2.2.1 y2.1.1.2.2.2.2.2.2.2.2.2.2.2.2.2.2.2.1 h2_0 h2_1 h2_2 h2_3 h2_4 h2_5 h2_6 h2_7 h2_8 h2_9 h2_10 h2_11 h2_12 h2_13 h2_14 h2_15 y2.2.2.1 l5
        else
          if ((t9.getD t11.toNat dAct).1 == 3) = true then
            (declrun_all_3 h1_0 h1_1 h1_2 h1_3 h1_4 h1_5 h1_6 h1_7 h1_8 h1_9 h1_10 h1_11 h1_12 h1_13 h1_14 h1_15 (t9.getD t11.toNat dAct).2 l4).bind fun y3 =>
              declrun_do_l4 t9 t10 (IntKind.i64.wrap (t11 + 1)) y3.1.1.1 y3.1.1.2.1 y3.1.1.2.2.1 y3.1.1.2.2.2.1 y3.1.1.2.2.2.2.1 y3.1.1.2.2.2.2.2.1 y3.1.1.2.2.2.2.2.2.1 y3.1.1.2.2.2.2.2.2.2.1 y3.1.1.2.2.2.2.2.2.2.2.1 y3.1.1.2.2.2.2.2.2.2.2.2.1 y3.1.1.2.2.2.2.2.2.2.2.2.2.1 y3.1.1.2.2.2.2.2.2.2.2.2.2.2.1 y3.1.1.2.2.2.2.2.2.2.2.2.2.2.2.1 y3.1.1.2.2.2.2.2.2.2.2.2.2.2.2.2.1 y3.1.1.2.2.2.2.2.2.2.2.2.2.2.2.2.2.1 y3.1.1.2.2.2.2.2.2.2.2.2.2.2.2.2.2.2.1 h2_0 h2_1 h2_2 h2_3 h2_4 h2_5 h2_6 h2_7 h2_8 h2_9 h2_10 h2_11 h2_12 h2_13 h2_14 h2_15 y3.2.2.1 l5
          else
            if ((t9.getD t11.toNat dAct).1 == 4) = true then
              (declrun_collect h1_0 h1_1 h1_2 h1_3 h1_4 h1_5 h1_6 h1_7 h1_8 h1_9 h1_10 h1_11 h1_12 h1_13 h1_14 h1_15 (t9.getD t11.toNat dAct).2 l4).bind fun y4 =>
                declrun_do_l4 t9 t10 (IntKind.i64.wrap (t11 + 1)) y4.1.1.1 y4.1.1.2.1 y4.1.1.2.2.1 y4.1.1.2.2.2.1 y4.1.1.2.2.2.2.1 y4.1.1.2.2.2.2.2.1 y4.1.1.2.2.2.2.2.2.1 y4.1.1.2.2.2.2.2.2.2.1 y4.1.1.2.2.2.2.2.2.2.2.1 y4.1.1.2.2.2.2.2.2.2.2.2.1 y4.1.1.2.2.2.2.2.2.2.2.2.2.1 y4.1.1.2.2.2.2.2.2.2.2.2.2.2.1 y4.1.1.2.2.2.2.2.2.2.2.2.2.2.2.1 y4.1.1.2.2.2.2.2.2.2.2.2.2.2.2.2.1 y4.1.1.2.2.2.2.2.2.2.2.2.2.2.2.2.2.1 y4.1.1.2.2.2.2.2.2.2.2.2.2.2.2.2.2.2.1 h2_0 h2_1 h2_2 h2_3 h2_4 h2_5 h2_6 h2_7 h2_8 h2_9 h2_10 h2_11 h2_12 h2_13 h2_14 h2_15 y4.2.2.1 l5
            else
              if ((t9.getD t11.toNat dAct).1 == 5) = true then
                (declrun_all_4 h1_0 h1_1 h1_2 h1_3 h1_4 h1_5 h1_6 h1_7 h1_8 h1_9 h1_10 h1_11 h1_12 h1_13 h1_14 h1_15 (t9.getD t11.toNat dAct).2 l4).bind fun y5 =>
                  declrun_do_l4 t9 t10 (IntKind.i64.wrap (t11 + 1)) y5.1.1.1 y5.1.1.2.1 y5.1.1.2.2.1 y5.1.1.2.2.2.1 y5.1.1.2.2.2.2.1 y5.1.1.2.2.2.2.2.1 y5.1.1.2.2.2.2.2.2.1 y5.1.1.2.2.2.2.2.2.2.1 y5.1.1.2.2.2.2.2.2.2.2.1 y5.1.1.2.2.2.2.2.2.2.2.2.1 y5.1.1.2.2.2.2.2.2.2.2.2.2.1 y5.1.1.2.2.2.2.2.2.2.2.2.2.2.1 y5.1.1.2.2.2.2.2.2.2.2.2.2.2.2.1 y5.1.1.2.2.2.2.2.2.2.2.2.2.2.2.2.1 y5.1.1.2.2.2.2.2.2.2.2.2.2.2.2.2.2.1 y5.1.1.2.2.2.2.2.2.2.2.2.2.2.2.2.2.2.1 h2_0 h2_1 h2_2 h2_3 h2_4 h2_5 h2_6 h2_7 h2_8 h2_9 h2_10 h2_11 h2_12 h2_13 h2_14 h2_15 y5.2.2.1 l5
              else
                if ((t9.getD t11.toNat dAct).1 == 6) = true then
                  (declrun_all_5 h1_0 h1_1 h1_2 h1_3 h1_4 h1_5 h1_6 h1_7 h1_8 h1_9 h1_10 h1_11 h1_12 h1_13 h1_14 h1_15 (t9.getD t11.toNat dAct).2 l4).bind fun y6 =>
                    declrun_do_l4 t9 t10 (IntKind.i64.wrap (t11 + 1)) y6.1.1.1 y6.1.1.2.1 y6.1.1.2.2.1 y6.1.1.2.2.2.1 y6.1.1.2.2.2.2.1 y6.1.1.2.2.2.2.2.1 y6.1.1.2.2.2.2.2.2.1 y6.1.1.2.2.2.2.2.2.2.1 y6.1.1.2.2.2.2.2.2.2.2.1 y6.1.1.2.2.2.2.2.2.2.2.2.1 y6.1.1.2.2.2.2.2.2.2.2.2.2.1 y6.1.1.2.2.2.2.2.2.2.2.2.2.2.1 y6.1.1.2.2.2.2.2.2.2.2.2.2.2.2.1 y6.1.1.2.2.2.2.2.2.2.2.2.2.2.2.2.1 y6.1.1.2.2.2.2.2.2.2.2.2.2.2.2.2.2.1 y6.1.1.2.2.2.2.2.2.2.2.2.2.2.2.2.2.2.1 h2_0 h2_1 h2_2 h2_3 h2_4 h2_5 h2_6 h2_7 h2_8 h2_9 h2_10 h2_11 h2_12 h2_13 h2_14 h2_15 y6.2.2.1 l5
                else
                  declrun_do_l4 t9 t10 (IntKind.i64.wrap (t11 + 1)) h1_0 h1_1 h1_2 h1_3 h1_4 h1_5 h1_6 h1_7 h1_8 h1_9 h1_10 h1_11 h1_12 h1_13 h1_14 h1_15 h2_0 h2_1 h2_2 h2_3 h2_4 h2_5 h2_6 h2_7 h2_8 h2_9 h2_10 h2_11 h2_12 h2_13 h2_14 h2_15 l4 l5
    else
      none
  else
    some (((h1_0, h1_1, h1_2, h1_3, h1_4, h1_5, h1_6, h1_7, h1_8, h1_9, h1_10, h1_11, h1_12, h1_13, h1_14, h1_15, (), ()), ()), ((), l4, ())) := (FD.lab_eq _ _ _ _).trans (by kernel_rfl)
def declrun_do (w_0 : Int) (w_1 : Int) (w_2 : Int) (w_3 : Int) (w_4 : Int) (w_5 : Int) (w_6 : Int) (w_7 : ByteArray) (w_8 : Int) (w_9 : Int) (w_10 : Int) (w_11 : Int) (w_12 : Int) (w_13 : ByteArray) (w_14 : Int) (w_15 : Int) (l : (List TAct)) (l0 : (List TEvent)) : (Option (((Int × Int × Int × Int × Int × Int × Int × ByteArray × Int × Int × Int × Int × Int × ByteArray × Int × Int × Unit × Unit) × Unit) × (Unit × (List TEvent) × Unit))) :=
  (declrun_all).bind fun y1 =>
    declrun_do_l4 l (l.length : Int) 0 w_0 w_1 w_2 w_3 w_4 w_5 w_6 w_7 w_8 w_9 w_10 w_11 w_12 w_13 w_14 w_15 0 0 0 0 0 0 0 (strB []) 0 0 0 0 0 (strB []) 0 0 l0 []
def fc31 : FC := ⟨⟨[.agg [(.int .i64), (.int .i64), (.int .i64), (.int .i64), (.int .i64), (.int .i64), (.int .i64), .str, (.int .i64), (.int .i64), (.int .i64), (.int .i64), (.int .i64), .str, (.int .i64), (.int .i64), (.own 0)], .one (.sl (.cons (.int .i64) (.int .i64)))], [.arr 41 (.cons (.int .i64) (.cons (.int .i64) (.cons (.int .i64) (.cons (.int .i64) (.cons (.int .i64) (.cons .str (.int .i64))))))) true]⟩, ⟨[.agg [(.int .i64), (.int .i64), (.int .i64), (.int .i64), (.int .i64), (.int .i64), (.int .i64), .str, (.int .i64), (.int .i64), (.int .i64), (.int .i64), (.int .i64), .str, (.int .i64), (.int .i64), (.own 1)]], [.dead, .arr 41 (.cons (.int .i64) (.cons (.int .i64) (.cons (.int .i64) (.cons (.int .i64) (.cons (.int .i64) (.cons .str (.int .i64))))))) true]⟩, fun x => declrun_do x.1.1.1 x.1.1.2.1 x.1.1.2.2.1 x.1.1.2.2.2.1 x.1.1.2.2.2.2.1 x.1.1.2.2.2.2.2.1 x.1.1.2.2.2.2.2.2.1 x.1.1.2.2.2.2.2.2.2.1 x.1.1.2.2.2.2.2.2.2.2.1 x.1.1.2.2.2.2.2.2.2.2.2.1 x.1.1.2.2.2.2.2.2.2.2.2.2.1 x.1.1.2.2.2.2.2.2.2.2.2.2.2.1 x.1.1.2.2.2.2.2.2.2.2.2.2.2.2.1 x.1.1.2.2.2.2.2.2.2.2.2.2.2.2.2.1 x.1.1.2.2.2.2.2.2.2.2.2.2.2.2.2.2.1 x.1.1.2.2.2.2.2.2.2.2.2.2.2.2.2.2.2.1 x.1.2.1 x.2.1⟩
theorem con31 : Contract Try.prog 31 fc31 :=
  declrun_do_D.contract tok (cok_of (l := [(49, fc49), (68, fc68), (70, fc70), (71, fc71), (72, fc72), (73, fc73), (75, fc75)]) ⟨con49, con68, con70, con71, con72, con73, con75, trivial⟩) mixed (fn' := Try.f31) (by kernel_rfl) (by kernel_rfl) rfl (by kernel_rfl) (fun x => (FD.fn_eq _ _).trans (by kernel_rfl))
end
end Go.Proofs.Ytgjimkgehbppbab
end

section
/-
Ytgjimkgehbppbab: signalbench.declrun.Direct$1, as one plain function, its equations, its contract. No condition.
-/
set_option maxRecDepth 100000
set_option linter.unusedVariables false
set_option maxHeartbeats 4000000
open Go Go.AM
namespace Go.Proofs.Ytgjimkgehbppbab
noncomputable section
def declrun_Direct_1_F3 : FSh := ⟨[(1, .one (.ptr 1 0)), (2, .one (.ptr 2 0)), (3, .one (.ptr 3 0)), (8, .one (.int .i64)), (9, .one (.int .i64))], [.dead, .boxr (.cons .str (.cons (.int .i64) (.cons (.int .i64) (.sl (.cons .str (.cons (.sl (.cons (.int .i64) (.cons (.int .i64) (.cons .str (.cons .bool (.sl (.cons (.int .i64) (.int .i64)))))))) (.cons .bool (.cons (.int .i64) (.cons (.int .i64) (.cons .str (.cons .bool (.sl (.cons (.int .i64) (.int .i64)))))))))))))), .box [(.int .i64), (.int .i64), (.int .i64), (.int .i64), (.int .i64), (.int .i64), (.int .i64), .str, (.int .i64), (.int .i64), (.int .i64), (.int .i64), (.int .i64), .str, (.int .i64), (.int .i64), (.own 4)], .box [(.int .i64), (.int .i64), (.int .i64), (.int .i64), (.int .i64), (.int .i64), (.int .i64), .str, (.int .i64), (.int .i64), (.int .i64), (.int .i64), (.int .i64), .str, (.int .i64), (.int .i64), (.own 5)], .arr 41 (.cons (.int .i64) (.cons (.int .i64) (.cons (.int .i64) (.cons (.int .i64) (.cons (.int .i64) (.cons .str (.int .i64))))))) true, .arr 41 (.cons (.int .i64) (.cons (.int .i64) (.cons (.int .i64) (.cons (.int .i64) (.cons (.int .i64) (.cons .str (.int .i64))))))) true]⟩
def declrun_Direct_1_D : FD := ⟨T, lookC [(30, fc30), (31, fc31), (32, fc32)], [], (Try.f29.body.getD .skip), Try.f29.results.toList, ⟨[.agg [(.int .i64), (.int .i64), (.int .i64), (.int .i64), (.int .i64), (.int .i64), (.int .i64), .str, (.int .i64), (.int .i64), (.int .i64), (.int .i64), (.int .i64), .str, (.int .i64), (.int .i64), (.own 0)], .one (.ptr 1 0)], [.arr 41 (.cons (.int .i64) (.cons (.int .i64) (.cons (.int .i64) (.cons (.int .i64) (.cons (.int .i64) (.cons .str (.int .i64))))))) true, .boxr (.cons .str (.cons (.int .i64) (.cons (.int .i64) (.sl (.cons .str (.cons (.sl (.cons (.int .i64) (.cons (.int .i64) (.cons .str (.cons .bool (.sl (.cons (.int .i64) (.int .i64)))))))) (.cons .bool (.cons (.int .i64) (.cons (.int .i64) (.cons .str (.cons .bool (.sl (.cons (.int .i64) (.int .i64))))))))))))))]⟩, ⟨[.agg [(.int .i64), (.int .i64), (.int .i64), (.int .i64), (.int .i64), (.int .i64), (.int .i64), .str, (.int .i64), (.int .i64), (.int .i64), (.int .i64), (.int .i64), .str, (.int .i64), (.int .i64), (.own 2)]], [.dead, .boxr (.cons .str (.cons (.int .i64) (.cons (.int .i64) (.sl (.cons .str (.cons (.sl (.cons (.int .i64) (.cons (.int .i64) (.cons .str (.cons .bool (.sl (.cons (.int .i64) (.int .i64)))))))) (.cons .bool (.cons (.int .i64) (.cons (.int .i64) (.cons .str (.cons .bool (.sl (.cons (.int .i64) (.int .i64)))))))))))))), .arr 41 (.cons (.int .i64) (.cons (.int .i64) (.cons (.int .i64) (.cons (.int .i64) (.cons (.int .i64) (.cons .str (.int .i64))))))) true]⟩, [(3, declrun_Direct_1_F3)]⟩
def declrun_Direct_1_l3 (t8 : Int) (t9 : Int) (h1 : TDecl) (h2_0 : Int) (h2_1 : Int) (h2_2 : Int) (h2_3 : Int) (h2_4 : Int) (h2_5 : Int) (h2_6 : Int) (h2_7 : ByteArray) (h2_8 : Int) (h2_9 : Int) (h2_10 : Int) (h2_11 : Int) (h2_12 : Int) (h2_13 : ByteArray) (h2_14 : Int) (h2_15 : Int) (h3_0 : Int) (h3_1 : Int) (h3_2 : Int) (h3_3 : Int) (h3_4 : Int) (h3_5 : Int) (h3_6 : Int) (h3_7 : ByteArray) (h3_8 : Int) (h3_9 : Int) (h3_10 : Int) (h3_11 : Int) (h3_12 : Int) (h3_13 : ByteArray) (h3_14 : Int) (h3_15 : Int) (l4 : (List TEvent)) (l5 : (List TEvent)) : (Option (((Int × Int × Int × Int × Int × Int × Int × ByteArray × Int × Int × Int × Int × Int × ByteArray × Int × Int × Unit × Unit) × Unit) × (Unit × TDecl × (List TEvent) × Unit))) := declrun_Direct_1_D.lab 3 declrun_Direct_1_F3 (((), (), (), t8, t9, ()), ((), h1, (h2_0, h2_1, h2_2, h2_3, h2_4, h2_5, h2_6, h2_7, h2_8, h2_9, h2_10, h2_11, h2_12, h2_13, h2_14, h2_15, (), ()), (h3_0, h3_1, h3_2, h3_3, h3_4, h3_5, h3_6, h3_7, h3_8, h3_9, h3_10, h3_11, h3_12, h3_13, h3_14, h3_15, (), ()), l4, l5, ()))
theorem declrun_Direct_1_l3_eq (t8 : Int) (t9 : Int) (h1 : TDecl) (h2_0 : Int) (h2_1 : Int) (h2_2 : Int) (h2_3 : Int) (h2_4 : Int) (h2_5 : Int) (h2_6 : Int) (h2_7 : ByteArray) (h2_8 : Int) (h2_9 : Int) (h2_10 : Int) (h2_11 : Int) (h2_12 : Int) (h2_13 : ByteArray) (h2_14 : Int) (h2_15 : Int) (h3_0 : Int) (h3_1 : Int) (h3_2 : Int) (h3_3 : Int) (h3_4 : Int) (h3_5 : Int) (h3_6 : Int) (h3_7 : ByteArray) (h3_8 : Int) (h3_9 : Int) (h3_10 : Int) (h3_11 : Int) (h3_12 : Int) (h3_13 : ByteArray) (h3_14 : Int) (h3_15 : Int) (l4 : (List TEvent)) (l5 : (List TEvent)) : declrun_Direct_1_l3 t8 t9 h1 h2_0 h2_1 h2_2 h2_3 h2_4 h2_5 h2_6 h2_7 h2_8 h2_9 h2_10 h2_11 h2_12 h2_13 h2_14 h2_15 h3_0 h3_1 h3_2 h3_3 h3_4 h3_5 h3_6 h3_7 h3_8 h3_9 h3_10 h3_11 h3_12 h3_13 h3_14 h3_15 l4 l5 =
  if (decide (t9 < t8)) = true then
    (decl_Match h1 h2_3 h2_11).bind fun y1 =>
      if (!y1.1.2.1) = true then
        some (((h2_0, h2_1, h2_2, h2_3, h2_4, h2_5, h2_6, h2_7, h2_8, h2_9, h2_10, h2_11, h2_12, h2_13, h2_14, h2_15, (), ()), ()), ((), h1, l4, ()))
      else
        (declrun_do h2_0 h2_1 h2_2 h2_3 h2_4 h2_5 h2_6 h2_7 h2_8 h2_9 h2_10 h2_11 h2_12 h2_13 h2_14 h2_15 y1.1.1.2.2.2.2 l4).bind fun y2 =>
          (decl_Find h1 y1.1.1.2.2.1).bind fun y3 =>
            if (!y1.1.1.2.2.2.1) = true then
              some (((y2.1.1.1, y2.1.1.2.1, y2.1.1.2.2.1, y3.1.1, y2.1.1.2.2.2.2.1, y2.1.1.2.2.2.2.2.1, y2.1.1.2.2.2.2.2.2.1, y2.1.1.2.2.2.2.2.2.2.1, y2.1.1.2.2.2.2.2.2.2.2.1, y2.1.1.2.2.2.2.2.2.2.2.2.1, y2.1.1.2.2.2.2.2.2.2.2.2.2.1, y2.1.1.2.2.2.2.2.2.2.2.2.2.2.1, y2.1.1.2.2.2.2.2.2.2.2.2.2.2.2.1, y2.1.1.2.2.2.2.2.2.2.2.2.2.2.2.2.1, y2.1.1.2.2.2.2.2.2.2.2.2.2.2.2.2.2.1, y2.1.1.2.2.2.2.2.2.2.2.2.2.2.2.2.2.2.1, (), ()), ()), ((), h1, y2.2.2.1, ()))
            else
              declrun_Direct_1_l3 t8 (IntKind.i64.wrap (t9 + 1)) h1 y2.1.1.1 y2.1.1.2.1 y2.1.1.2.2.1 y3.1.1 y2.1.1.2.2.2.2.1 y2.1.1.2.2.2.2.2.1 y2.1.1.2.2.2.2.2.2.1 y2.1.1.2.2.2.2.2.2.2.1 y2.1.1.2.2.2.2.2.2.2.2.1 y2.1.1.2.2.2.2.2.2.2.2.2.1 y2.1.1.2.2.2.2.2.2.2.2.2.2.1 y2.1.1.2.2.2.2.2.2.2.2.2.2.2.1 y2.1.1.2.2.2.2.2.2.2.2.2.2.2.2.1 y2.1.1.2.2.2.2.2.2.2.2.2.2.2.2.2.1 y2.1.1.2.2.2.2.2.2.2.2.2.2.2.2.2.2.1 y2.1.1.2.2.2.2.2.2.2.2.2.2.2.2.2.2.2.1 h3_0 h3_1 h3_2 h3_3 h3_4 h3_5 h3_6 h3_7 h3_8 h3_9 h3_10 h3_11 h3_12 h3_13 h3_14 h3_15 y2.2.2.1 l5
  else
    some (((h2_0, h2_1, h2_2, h2_3, h2_4, h2_5, h2_6, h2_7, h2_8, h2_9, h2_10, h2_11, h2_12, h2_13, h2_14, h2_15, (), ()), ()), ((), h1, l4, ())) := (FD.lab_eq _ _ _ _).trans (by kernel_rfl)
def declrun_Direct_1 (w_0 : Int) (w_1 : Int) (w_2 : Int) (w_3 : Int) (w_4 : Int) (w_5 : Int) (w_6 : Int) (w_7 : ByteArray) (w_8 : Int) (w_9 : Int) (w_10 : Int) (w_11 : Int) (w_12 : Int) (w_13 : ByteArray) (w_14 : Int) (w_15 : Int) (l0 : (List TEvent)) (h1 : TDecl) : (Option (((Int × Int × Int × Int × Int × Int × Int × ByteArray × Int × Int × Int × Int × Int × ByteArray × Int × Int × Unit × Unit) × Unit) × (Unit × TDecl × (List TEvent) × Unit))) :=
  declrun_Direct_1_l3 (h1.2.2.2.length : Int) 0 h1 w_0 w_1 w_2 w_3 w_4 w_5 w_6 w_7 w_8 w_9 w_10 w_11 w_12 w_13 w_14 w_15 0 0 0 0 0 0 0 (strB []) 0 0 0 0 0 (strB []) 0 0 l0 []
def fc29 : FC := ⟨⟨[.agg [(.int .i64), (.int .i64), (.int .i64), (.int .i64), (.int .i64), (.int .i64), (.int .i64), .str, (.int .i64), (.int .i64), (.int .i64), (.int .i64), (.int .i64), .str, (.int .i64), (.int .i64), (.own 0)], .one (.ptr 1 0)], [.arr 41 (.cons (.int .i64) (.cons (.int .i64) (.cons (.int .i64) (.cons (.int .i64) (.cons (.int .i64) (.cons .str (.int .i64))))))) true, .boxr (.cons .str (.cons (.int .i64) (.cons (.int .i64) (.sl (.cons .str (.cons (.sl (.cons (.int .i64) (.cons (.int .i64) (.cons .str (.cons .bool (.sl (.cons (.int .i64) (.int .i64)))))))) (.cons .bool (.cons (.int .i64) (.cons (.int .i64) (.cons .str (.cons .bool (.sl (.cons (.int .i64) (.int .i64))))))))))))))]⟩, ⟨[.agg [(.int .i64), (.int .i64), (.int .i64), (.int .i64), (.int .i64), (.int .i64), (.int .i64), .str, (.int .i64), (.int .i64), (.int .i64), (.int .i64), (.int .i64), .str, (.int .i64), (.int .i64), (.own 2)]], [.dead, .boxr (.cons .str (.cons (.int .i64) (.cons (.int .i64) (.sl (.cons .str (.cons (.sl (.cons (.int .i64) (.cons (.int .i64) (.cons .str (.cons .bool (.sl (.cons (.int .i64) (.int .i64)))))))) (.cons .bool (.cons (.int .i64) (.cons (.int .i64) (.cons .str (.cons .bool (.sl (.cons (.int .i64) (.int .i64)))))))))))))), .arr 41 (.cons (.int .i64) (.cons (.int .i64) (.cons (.int .i64) (.cons (.int .i64) (.cons (.int .i64) (.cons .str (.int .i64))))))) true]⟩, fun x => declrun_Direct_1 x.1.1.1 x.1.1.2.1 x.1.1.2.2.1 x.1.1.2.2.2.1 x.1.1.2.2.2.2.1 x.1.1.2.2.2.2.2.1 x.1.1.2.2.2.2.2.2.1 x.1.1.2.2.2.2.2.2.2.1 x.1.1.2.2.2.2.2.2.2.2.1 x.1.1.2.2.2.2.2.2.2.2.2.1 x.1.1.2.2.2.2.2.2.2.2.2.2.1 x.1.1.2.2.2.2.2.2.2.2.2.2.2.1 x.1.1.2.2.2.2.2.2.2.2.2.2.2.2.1 x.1.1.2.2.2.2.2.2.2.2.2.2.2.2.2.1 x.1.1.2.2.2.2.2.2.2.2.2.2.2.2.2.2.1 x.1.1.2.2.2.2.2.2.2.2.2.2.2.2.2.2.2.1 x.2.1 x.2.2.1⟩
theorem con29 : Contract Try.prog 29 fc29 :=
  declrun_Direct_1_D.contract tok (cok_of (l := [(30, fc30), (31, fc31), (32, fc32)]) ⟨con30, con31, con32, trivial⟩) mixed (fn' := Try.f29) (by kernel_rfl) (by kernel_rfl) rfl (by kernel_rfl) (fun x => (FD.fn_eq _ _).trans (by kernel_rfl))
end
end Go.Proofs.Ytgjimkgehbppbab
end

section
/-
Ytgjimkgehbppbab: signalbench.declrun.aborted, as one plain function, its equations, its contract. No condition.
-/
set_option maxRecDepth 100000
set_option linter.unusedVariables false
set_option maxHeartbeats 4000000
open Go Go.AM
namespace Go.Proofs.Ytgjimkgehbppbab
noncomputable section
def declrun_aborted_D : FD := ⟨T, lookC [], [], (Try.f42.body.getD .skip), Try.f42.results.toList, ⟨[.one (.int .i64), .row (.cons (.int .i64) (.cons (.int .i64) (.cons (.int .i64) (.cons (.int .i64) (.cons (.int .i64) (.cons (.int .i64) (.cons (.int .i64) .str))))))), .one (.int .i64)], []⟩, ⟨[.one (.sl (.cons (.int .i64) (.cons (.int .i64) (.cons (.int .i64) (.cons (.int .i64) (.cons (.int .i64) (.cons .str (.int .i64))))))))], []⟩, []⟩
def declrun_aborted (output : Int) (s : TState) (to_ : Int) : (Option (((List TEvent) × Unit) × Unit)) :=
  if (s.2.2.2.2.2.2.2.toList == (strB []).toList) = true then
    some (([], ()), ())
  else
    some (([(output, s.2.2.1, if s.2.2.1 < to_ then to_ else s.2.2.1, 0, 0, (strB []), 7)], ()), ())
def fc42 : FC := ⟨⟨[.one (.int .i64), .row (.cons (.int .i64) (.cons (.int .i64) (.cons (.int .i64) (.cons (.int .i64) (.cons (.int .i64) (.cons (.int .i64) (.cons (.int .i64) .str))))))), .one (.int .i64)], []⟩, ⟨[.one (.sl (.cons (.int .i64) (.cons (.int .i64) (.cons (.int .i64) (.cons (.int .i64) (.cons (.int .i64) (.cons .str (.int .i64))))))))], []⟩, fun x => declrun_aborted x.1.1 x.1.2.1 x.1.2.2.1⟩
theorem con42 : Contract Try.prog 42 fc42 :=
  declrun_aborted_D.contract tok (cok_of (l := []) trivial) mixed (fn' := Try.f42) (by kernel_rfl) (by kernel_rfl) rfl (by kernel_rfl) (fun x => (FD.fn_eq _ _).trans (by kernel_rfl))
end
end Go.Proofs.Ytgjimkgehbppbab
end

section
/-
Ytgjimkgehbppbab: signalbench.event.Valid, as one plain function, its equations, its contract. No condition.
-/
set_option maxRecDepth 100000
set_option linter.unusedVariables false
set_option maxHeartbeats 4000000
open Go Go.AM
namespace Go.Proofs.Ytgjimkgehbppbab
noncomputable section
def event_Valid_F4 : FSh := ⟨[(1, .one (.ptr 0 0)), (12, .one .bool)], [.boxr (.cons (.int .i64) (.cons (.int .i64) (.cons (.int .i64) (.cons (.int .i64) (.cons (.int .i64) (.cons .str (.int .i64)))))))]⟩
def event_Valid_F6 : FSh := ⟨[(1, .one (.ptr 0 0)), (28, .one .bool)], [.boxr (.cons (.int .i64) (.cons (.int .i64) (.cons (.int .i64) (.cons (.int .i64) (.cons (.int .i64) (.cons .str (.int .i64)))))))]⟩
def event_Valid_F8 : FSh := ⟨[(2, .one .bool)], []⟩
def event_Valid_D : FD := ⟨T, lookC [], [4, 6, 8], (Try.f79.body.getD .skip), Try.f79.results.toList, ⟨[.row (.cons (.int .i64) (.cons (.int .i64) (.cons (.int .i64) (.cons (.int .i64) (.cons (.int .i64) (.cons .str (.int .i64)))))))], []⟩, ⟨[.one .bool], []⟩, [(4, event_Valid_F4), (6, event_Valid_F6), (8, event_Valid_F8)]⟩
def event_Valid_l4 (t12 : Bool) (h0 : TEvent) : (Option ((Bool × Unit) × Unit)) := event_Valid_D.lab 4 event_Valid_F4 (((), t12, ()), (h0, ()))
def event_Valid_l6 (t28 : Bool) (h0 : TEvent) : (Option ((Bool × Unit) × Unit)) := event_Valid_D.lab 6 event_Valid_F6 (((), t28, ()), (h0, ()))
def event_Valid_l8 (t2 : Bool) : (Option ((Bool × Unit) × Unit)) := event_Valid_D.lab 8 event_Valid_F8 ((t2, ()), ())
theorem event_Valid_l4_eq (t12 : Bool) (h0 : TEvent) : event_Valid_l4 t12 h0 =
  if t12 = true then
    some ((false, ()), ())
  else
    if (decide (h0.2.2.2.1 < (-9007199254740992))) = true then
      event_Valid_l6 true h0
    else
      if (decide (h0.2.2.2.1 > 9007199254740992)) = true then
        event_Valid_l6 true h0
      else
        if (decide (h0.2.2.2.2.1 < (-9007199254740992))) = true then
          event_Valid_l6 true h0
        else
          event_Valid_l6 (decide (h0.2.2.2.2.1 > 9007199254740992)) h0 := by obtain ⟨k, fr, to, a, b, d, f⟩ := h0; cases a <;> cases b <;> exact (FD.lab_eq _ _ _ _).trans (by kernel_rfl)
theorem event_Valid_l6_eq (t28 : Bool) (h0 : TEvent) : event_Valid_l6 t28 h0 =
  if t28 = true then
    some ((false, ()), ())
  else
    if (decide ((h0.2.2.2.2.2.1.size : Int) ≤ 4096)) = true then
      if (decide (h0.2.2.2.2.2.2 ≥ 0)) = true then
        event_Valid_l8 (decide (h0.2.2.2.2.2.2 ≤ 12))
      else
        event_Valid_l8 false
    else
      event_Valid_l8 false := (FD.lab_eq _ _ _ _).trans (by kernel_rfl)
theorem event_Valid_l8_eq (t2 : Bool) : event_Valid_l8 t2 =
  some ((t2, ()), ()) := (FD.lab_eq _ _ _ _).trans (by kernel_rfl)
def event_Valid (e0 : TEvent) : (Option ((Bool × Unit) × Unit)) :=
  if (decide (e0.1 < 1)) = true then
    some ((false, ()), ())
  else
    if (decide (e0.1 > 8)) = true then
      some ((false, ()), ())
    else
      if (decide (e0.2.1 < 0)) = true then
        event_Valid_l4 true e0
      else
        if (decide (e0.2.1 > e0.2.2.1)) = true then
          event_Valid_l4 true e0
        else
          event_Valid_l4 (decide (e0.2.2.1 > 1099511627776)) e0
def fc79 : FC := ⟨⟨[.row (.cons (.int .i64) (.cons (.int .i64) (.cons (.int .i64) (.cons (.int .i64) (.cons (.int .i64) (.cons .str (.int .i64)))))))], []⟩, ⟨[.one .bool], []⟩, fun x => event_Valid x.1.1⟩
theorem con79 : Contract Try.prog 79 fc79 :=
  event_Valid_D.contract tok (cok_of (l := []) trivial) mixed (fn' := Try.f79) (by kernel_rfl) (by kernel_rfl) rfl (by kernel_rfl) (fun x => (FD.fn_eq _ _).trans (by kernel_rfl))
end
end Go.Proofs.Ytgjimkgehbppbab
end

section
/-
Ytgjimkgehbppbab: signalbench.declrun.accepts, as one plain function, its equations, its contract. No condition.
-/
set_option maxRecDepth 100000
set_option linter.unusedVariables false
set_option maxHeartbeats 4000000
open Go Go.AM
namespace Go.Proofs.Ytgjimkgehbppbab
noncomputable section
def declrun_accepts_F2 : FSh := ⟨[(0, .one (.int .i64)), (4, .one (.ptr 0 0)), (5, .one (.ptr 1 0)), (7, .one (.int .i64))], [.boxr (.cons (.int .i64) (.cons (.int .i64) (.cons (.int .i64) (.cons (.int .i64) (.cons (.int .i64) (.cons (.int .i64) (.cons (.int .i64) .str))))))), .boxr (.cons (.int .i64) (.cons (.int .i64) (.cons (.int .i64) (.cons (.int .i64) (.cons (.int .i64) (.cons .str (.int .i64)))))))]⟩
def declrun_accepts_D : FD := ⟨T, lookC [(79, fc79)], [2], (Try.f54.body.getD .skip), Try.f54.results.toList, ⟨[.one (.int .i64), .row (.cons (.int .i64) (.cons (.int .i64) (.cons (.int .i64) (.cons (.int .i64) (.cons (.int .i64) (.cons (.int .i64) (.cons (.int .i64) .str))))))), .row (.cons (.int .i64) (.cons (.int .i64) (.cons (.int .i64) (.cons (.int .i64) (.cons (.int .i64) (.cons .str (.int .i64)))))))], []⟩, ⟨[.one .bool], []⟩, [(2, declrun_accepts_F2)]⟩
def declrun_accepts_l2 (input : Int) (most : Int) (h0 : TState) (h1 : TEvent) : (Option ((Bool × Unit) × Unit)) := declrun_accepts_D.lab 2 declrun_accepts_F2 ((input, (), (), most, ()), (h0, h1, ()))
theorem declrun_accepts_l2_eq (input : Int) (most : Int) (h0 : TState) (h1 : TEvent) : declrun_accepts_l2 input most h0 h1 =
  (event_Valid h1).bind fun y1 =>
    if y1.1.1 = true then
      if (h1.1 == input) = true then
        if (decide (h1.2.2.2.1 ≥ 0)) = true then
          if (decide (h1.2.2.2.1 ≤ most)) = true then
            if (h0.1 == 0) = true then
              some ((true, ()), ())
            else
              some ((decide (h1.2.1 ≥ h0.2.2.2.2.2.2.1), ()), ())
          else
            some ((false, ()), ())
        else
          some ((false, ()), ())
      else
        some ((false, ()), ())
    else
      some ((false, ()), ()) := (FD.lab_eq _ _ _ _).trans (by kernel_rfl)
def declrun_accepts (input : Int) (s : TState) (e0 : TEvent) : (Option ((Bool × Unit) × Unit)) :=
  if (input == 2) = true then
    declrun_accepts_l2 input 1 s e0
  else
    declrun_accepts_l2 input 255 s e0
def fc54 : FC := ⟨⟨[.one (.int .i64), .row (.cons (.int .i64) (.cons (.int .i64) (.cons (.int .i64) (.cons (.int .i64) (.cons (.int .i64) (.cons (.int .i64) (.cons (.int .i64) .str))))))), .row (.cons (.int .i64) (.cons (.int .i64) (.cons (.int .i64) (.cons (.int .i64) (.cons (.int .i64) (.cons .str (.int .i64)))))))], []⟩, ⟨[.one .bool], []⟩, fun x => declrun_accepts x.1.1 x.1.2.1 x.1.2.2.1⟩
theorem con54 : Contract Try.prog 54 fc54 :=
  declrun_accepts_D.contract tok (cok_of (l := [(79, fc79)]) ⟨con79, trivial⟩) mixed (fn' := Try.f54) (by kernel_rfl) (by kernel_rfl) rfl (by kernel_rfl) (fun x => (FD.fn_eq _ _).trans (by kernel_rfl))
end
end Go.Proofs.Ytgjimkgehbppbab
end

section
/-
Ytgjimkgehbppbab: signalbench.declrun.step, as one plain function, its equations, its contract. No condition.
-/
set_option maxRecDepth 100000
set_option linter.unusedVariables false
set_option maxHeartbeats 4000000
open Go Go.AM
namespace Go.Proofs.Ytgjimkgehbppbab
noncomputable section
def declrun_stepD_D : FD := ⟨T, lookC [(29, fc29), (42, fc42), (54, fc54)], [], (Try.f36.body.getD .skip), Try.f36.results.toList, ⟨[.one (.int .i64), .one (.int .i64), .row (.cons (.int .i64) (.cons (.int .i64) (.cons (.int .i64) (.cons (.int .i64) (.cons (.int .i64) (.cons (.int .i64) (.cons (.int .i64) .str))))))), .row (.cons (.int .i64) (.cons (.int .i64) (.cons (.int .i64) (.cons (.int .i64) (.cons (.int .i64) (.cons .str (.int .i64))))))), .one (.fn 29 [0])], [.boxr (.cons .str (.cons (.int .i64) (.cons (.int .i64) (.sl (.cons .str (.cons (.sl (.cons (.int .i64) (.cons (.int .i64) (.cons .str (.cons .bool (.sl (.cons (.int .i64) (.int .i64)))))))) (.cons .bool (.cons (.int .i64) (.cons (.int .i64) (.cons .str (.cons .bool (.sl (.cons (.int .i64) (.int .i64))))))))))))))]⟩, ⟨[.row (.cons (.int .i64) (.cons (.int .i64) (.cons (.int .i64) (.cons (.int .i64) (.cons (.int .i64) (.cons (.int .i64) (.cons (.int .i64) .str))))))), .one (.sl (.cons (.int .i64) (.cons (.int .i64) (.cons (.int .i64) (.cons (.int .i64) (.cons (.int .i64) (.cons .str (.int .i64))))))))], [.boxr (.cons .str (.cons (.int .i64) (.cons (.int .i64) (.sl (.cons .str (.cons (.sl (.cons (.int .i64) (.cons (.int .i64) (.cons .str (.cons .bool (.sl (.cons (.int .i64) (.int .i64)))))))) (.cons .bool (.cons (.int .i64) (.cons (.int .i64) (.cons .str (.cons .bool (.sl (.cons (.int .i64) (.int .i64))))))))))))))]⟩, []⟩
def declrun_stepD (input : Int) (output : Int) (s : TState) (e0 : TEvent) (h0 : TDecl) : (Option ((TState × (List TEvent) × Unit) × (TDecl × Unit))) :=
  (declrun_accepts input s e0).bind fun y1 =>
    if (!y1.1.1) = true then
      some ((s, [], ()), (h0, ()))
    else
      if (e0.2.2.2.2.2.2 != 0) = true then
        (declrun_aborted output s e0.2.1).bind fun y2 =>
          some (((1, e0.2.2.1, 0, 0, 0, 0, e0.2.1, (strB [])), y2.1.1, ()), (h0, ()))
      else
        (declrun_Direct_1 1 e0.2.2.1 s.2.2.1 s.2.2.2.1 s.2.2.2.2.1 s.2.2.2.2.2.1 e0.2.1 s.2.2.2.2.2.2.2 e0.1 e0.2.1 e0.2.2.1 e0.2.2.2.1 e0.2.2.2.2.1 e0.2.2.2.2.2.1 e0.2.2.2.2.2.2 output [] h0).bind fun y3 =>
          some (((y3.1.1.1, y3.1.1.2.1, y3.1.1.2.2.1, y3.1.1.2.2.2.1, y3.1.1.2.2.2.2.1, y3.1.1.2.2.2.2.2.1, y3.1.1.2.2.2.2.2.2.1, y3.1.1.2.2.2.2.2.2.2.1), y3.2.2.2.1, ()), (y3.2.2.1, ()))
def fc36D : FC := ⟨⟨[.one (.int .i64), .one (.int .i64), .row (.cons (.int .i64) (.cons (.int .i64) (.cons (.int .i64) (.cons (.int .i64) (.cons (.int .i64) (.cons (.int .i64) (.cons (.int .i64) .str))))))), .row (.cons (.int .i64) (.cons (.int .i64) (.cons (.int .i64) (.cons (.int .i64) (.cons (.int .i64) (.cons .str (.int .i64))))))), .one (.fn 29 [0])], [.boxr (.cons .str (.cons (.int .i64) (.cons (.int .i64) (.sl (.cons .str (.cons (.sl (.cons (.int .i64) (.cons (.int .i64) (.cons .str (.cons .bool (.sl (.cons (.int .i64) (.int .i64)))))))) (.cons .bool (.cons (.int .i64) (.cons (.int .i64) (.cons .str (.cons .bool (.sl (.cons (.int .i64) (.int .i64))))))))))))))]⟩, ⟨[.row (.cons (.int .i64) (.cons (.int .i64) (.cons (.int .i64) (.cons (.int .i64) (.cons (.int .i64) (.cons (.int .i64) (.cons (.int .i64) .str))))))), .one (.sl (.cons (.int .i64) (.cons (.int .i64) (.cons (.int .i64) (.cons (.int .i64) (.cons (.int .i64) (.cons .str (.int .i64))))))))], [.boxr (.cons .str (.cons (.int .i64) (.cons (.int .i64) (.sl (.cons .str (.cons (.sl (.cons (.int .i64) (.cons (.int .i64) (.cons .str (.cons .bool (.sl (.cons (.int .i64) (.int .i64)))))))) (.cons .bool (.cons (.int .i64) (.cons (.int .i64) (.cons .str (.cons .bool (.sl (.cons (.int .i64) (.int .i64))))))))))))))]⟩, fun x => declrun_stepD x.1.1 x.1.2.1 x.1.2.2.1 x.1.2.2.2.1 x.2.1⟩
theorem con36D : Contract Try.prog 36 fc36D :=
  declrun_stepD_D.contract tok (cok_of (l := [(29, fc29), (42, fc42), (54, fc54)]) ⟨con29, con42, con54, trivial⟩) mixed (fn' := Try.f36) (by kernel_rfl) (by kernel_rfl) rfl (by kernel_rfl) (fun x => (FD.fn_eq _ _).trans (by kernel_rfl))
end
end Go.Proofs.Ytgjimkgehbppbab
end

section
/-
Ytgjimkgehbppbab: signalbench.decltab.Next, as one plain function, its equations, its contract. No condition.
-/
set_option maxRecDepth 100000
set_option linter.unusedVariables false
set_option maxHeartbeats 4000000
open Go Go.AM
namespace Go.Proofs.Ytgjimkgehbppbab
noncomputable section
def decltab_Next_F6 : FSh := ⟨[(2, .one (.int .i64)), (24, .one (.sl (.cons (.int .i64) (.cons (.int .i64) (.cons (.int .i64) (.sl (.cons (.int .i64) (.int .i64)))))))), (25, .one (.int .i64)), (26, .one (.int .i64))], []⟩
def decltab_Next_D : FD := ⟨T, lookC [], [], (Try.f53.body.getD .skip), Try.f53.results.toList, ⟨[.row (.cons .str (.cons (.int .i64) (.cons (.int .i64) (.sl (.sl (.cons (.int .i64) (.cons (.int .i64) (.cons (.int .i64) (.sl (.cons (.int .i64) (.int .i64))))))))))), .one (.int .i64), .one (.int .i64)], []⟩, ⟨[.one (.int .i64), .one (.sl (.cons (.int .i64) (.int .i64))), .one .bool], []⟩, [(6, decltab_Next_F6)]⟩
def decltab_Next_l6 (symbol : Int) (t24 : (List TCell)) (t25 : Int) (t26 : Int) : (Option ((Int × (List TAct) × Bool × Unit) × Unit)) := decltab_Next_D.lab 6 decltab_Next_F6 ((symbol, t24, t25, t26, ()), ())
theorem decltab_Next_l6_eq (symbol : Int) (t24 : (List TCell)) (t25 : Int) (t26 : Int) : decltab_Next_l6 symbol t24 t25 t26 =
  if (decide (t26 < t25)) = true then
    if 0 ≤ t26 ∧ t26 < (t24.length : Int) then
      if (decide ((t24.getD t26.toNat dCell).1 ≤ symbol)) = true then
        if (decide (symbol ≤ (t24.getD t26.toNat dCell).2.1)) = true then
          if (t24.getD t26.toNat dCell).2.2.2.length * 16 ≤ 140737488355328 ∧ 0 < 16 then
            some (((t24.getD t26.toNat dCell).2.2.1, (t24.getD t26.toNat dCell).2.2.2, true, ()), ())
          else
            none
        else
          decltab_Next_l6 symbol t24 t25 (IntKind.i64.wrap (t26 + 1))
      else
        decltab_Next_l6 symbol t24 t25 (IntKind.i64.wrap (t26 + 1))
    else
      none
  else
    some ((0, [], false, ()), ()) := (FD.lab_eq _ _ _ _).trans (by kernel_rfl)
def decltab_Next (t : TTable) (state : Int) (symbol : Int) : (Option ((Int × (List TAct) × Bool × Unit) × Unit)) :=
  if (decide (state < 0)) = true then
    some ((0, [], false, ()), ())
  else
    if (decide (state ≥ (t.2.2.2.length : Int))) = true then
      some ((0, [], false, ()), ())
    else
      if 0 ≤ state ∧ state < (t.2.2.2.length : Int) then
        decltab_Next_l6 symbol (t.2.2.2.getD state.toNat []) ((t.2.2.2.getD state.toNat []).length : Int) 0
      else
        none
def fc53 : FC := ⟨⟨[.row (.cons .str (.cons (.int .i64) (.cons (.int .i64) (.sl (.sl (.cons (.int .i64) (.cons (.int .i64) (.cons (.int .i64) (.sl (.cons (.int .i64) (.int .i64))))))))))), .one (.int .i64), .one (.int .i64)], []⟩, ⟨[.one (.int .i64), .one (.sl (.cons (.int .i64) (.int .i64))), .one .bool], []⟩, fun x => decltab_Next x.1.1 x.1.2.1 x.1.2.2.1⟩
theorem con53 : Contract Try.prog 53 fc53 :=
  decltab_Next_D.contract tok (cok_of (l := []) trivial) mixed (fn' := Try.f53) (by kernel_rfl) (by kernel_rfl) rfl (by kernel_rfl) (fun x => (FD.fn_eq _ _).trans (by kernel_rfl))
end
end Go.Proofs.Ytgjimkgehbppbab
end

section
/-
Ytgjimkgehbppbab: signalbench.declrun.look$1, as one plain function, its equations, its contract. No condition.
-/
set_option maxRecDepth 100000
set_option linter.unusedVariables false
set_option maxHeartbeats 4000000
open Go Go.AM
namespace Go.Proofs.Ytgjimkgehbppbab
noncomputable section
def declrun_look_1_D : FD := ⟨T, lookC [(31, fc31), (53, fc53)], [], (Try.f52.body.getD .skip), Try.f52.results.toList, ⟨[.agg [(.int .i64), (.int .i64), (.int .i64), (.int .i64), (.int .i64), (.int .i64), (.int .i64), .str, (.int .i64), (.int .i64), (.int .i64), (.int .i64), (.int .i64), .str, (.int .i64), (.int .i64), (.own 0)], .one (.ptr 1 0)], [.arr 41 (.cons (.int .i64) (.cons (.int .i64) (.cons (.int .i64) (.cons (.int .i64) (.cons (.int .i64) (.cons .str (.int .i64))))))) true, .boxr (.cons .str (.cons (.int .i64) (.cons (.int .i64) (.sl (.sl (.cons (.int .i64) (.cons (.int .i64) (.cons (.int .i64) (.sl (.cons (.int .i64) (.int .i64)))))))))))]⟩, ⟨[.agg [(.int .i64), (.int .i64), (.int .i64), (.int .i64), (.int .i64), (.int .i64), (.int .i64), .str, (.int .i64), (.int .i64), (.int .i64), (.int .i64), (.int .i64), .str, (.int .i64), (.int .i64), (.own 2)]], [.dead, .boxr (.cons .str (.cons (.int .i64) (.cons (.int .i64) (.sl (.sl (.cons (.int .i64) (.cons (.int .i64) (.cons (.int .i64) (.sl (.cons (.int .i64) (.int .i64))))))))))), .arr 41 (.cons (.int .i64) (.cons (.int .i64) (.cons (.int .i64) (.cons (.int .i64) (.cons (.int .i64) (.cons .str (.int .i64))))))) true]⟩, []⟩
def declrun_look_1 (w_0 : Int) (w_1 : Int) (w_2 : Int) (w_3 : Int) (w_4 : Int) (w_5 : Int) (w_6 : Int) (w_7 : ByteArray) (w_8 : Int) (w_9 : Int) (w_10 : Int) (w_11 : Int) (w_12 : Int) (w_13 : ByteArray) (w_14 : Int) (w_15 : Int) (l0 : (List TEvent)) (h1 : TTable) : (Option (((Int × Int × Int × Int × Int × Int × Int × ByteArray × Int × Int × Int × Int × Int × ByteArray × Int × Int × Unit × Unit) × Unit) × (Unit × TTable × (List TEvent) × Unit))) :=
  (decltab_Next h1 w_3 w_11).bind fun y1 =>
    if (!y1.1.2.2.1) = true then
      some (((w_0, w_1, w_2, w_3, w_4, w_5, w_6, w_7, w_8, w_9, w_10, w_11, w_12, w_13, w_14, w_15, (), ()), ()), ((), h1, l0, ()))
    else
      (declrun_do w_0 w_1 w_2 w_3 w_4 w_5 w_6 w_7 w_8 w_9 w_10 w_11 w_12 w_13 w_14 w_15 y1.1.2.1 l0).bind fun y2 =>
        some (((y2.1.1.1, y2.1.1.2.1, y2.1.1.2.2.1, y1.1.1, y2.1.1.2.2.2.2.1, y2.1.1.2.2.2.2.2.1, y2.1.1.2.2.2.2.2.2.1, y2.1.1.2.2.2.2.2.2.2.1, y2.1.1.2.2.2.2.2.2.2.2.1, y2.1.1.2.2.2.2.2.2.2.2.2.1, y2.1.1.2.2.2.2.2.2.2.2.2.2.1, y2.1.1.2.2.2.2.2.2.2.2.2.2.2.1, y2.1.1.2.2.2.2.2.2.2.2.2.2.2.2.1, y2.1.1.2.2.2.2.2.2.2.2.2.2.2.2.2.1, y2.1.1.2.2.2.2.2.2.2.2.2.2.2.2.2.2.1, y2.1.1.2.2.2.2.2.2.2.2.2.2.2.2.2.2.2.1, (), ()), ()), ((), h1, y2.2.2.1, ()))
def fc52 : FC := ⟨⟨[.agg [(.int .i64), (.int .i64), (.int .i64), (.int .i64), (.int .i64), (.int .i64), (.int .i64), .str, (.int .i64), (.int .i64), (.int .i64), (.int .i64), (.int .i64), .str, (.int .i64), (.int .i64), (.own 0)], .one (.ptr 1 0)], [.arr 41 (.cons (.int .i64) (.cons (.int .i64) (.cons (.int .i64) (.cons (.int .i64) (.cons (.int .i64) (.cons .str (.int .i64))))))) true, .boxr (.cons .str (.cons (.int .i64) (.cons (.int .i64) (.sl (.sl (.cons (.int .i64) (.cons (.int .i64) (.cons (.int .i64) (.sl (.cons (.int .i64) (.int .i64)))))))))))]⟩, ⟨[.agg [(.int .i64), (.int .i64), (.int .i64), (.int .i64), (.int .i64), (.int .i64), (.int .i64), .str, (.int .i64), (.int .i64), (.int .i64), (.int .i64), (.int .i64), .str, (.int .i64), (.int .i64), (.own 2)]], [.dead, .boxr (.cons .str (.cons (.int .i64) (.cons (.int .i64) (.sl (.sl (.cons (.int .i64) (.cons (.int .i64) (.cons (.int .i64) (.sl (.cons (.int .i64) (.int .i64))))))))))), .arr 41 (.cons (.int .i64) (.cons (.int .i64) (.cons (.int .i64) (.cons (.int .i64) (.cons (.int .i64) (.cons .str (.int .i64))))))) true]⟩, fun x => declrun_look_1 x.1.1.1 x.1.1.2.1 x.1.1.2.2.1 x.1.1.2.2.2.1 x.1.1.2.2.2.2.1 x.1.1.2.2.2.2.2.1 x.1.1.2.2.2.2.2.2.1 x.1.1.2.2.2.2.2.2.2.1 x.1.1.2.2.2.2.2.2.2.2.1 x.1.1.2.2.2.2.2.2.2.2.2.1 x.1.1.2.2.2.2.2.2.2.2.2.2.1 x.1.1.2.2.2.2.2.2.2.2.2.2.2.1 x.1.1.2.2.2.2.2.2.2.2.2.2.2.2.1 x.1.1.2.2.2.2.2.2.2.2.2.2.2.2.2.1 x.1.1.2.2.2.2.2.2.2.2.2.2.2.2.2.2.1 x.1.1.2.2.2.2.2.2.2.2.2.2.2.2.2.2.2.1 x.2.1 x.2.2.1⟩
theorem con52 : Contract Try.prog 52 fc52 :=
  declrun_look_1_D.contract tok (cok_of (l := [(31, fc31), (53, fc53)]) ⟨con31, con53, trivial⟩) mixed (fn' := Try.f52) (by kernel_rfl) (by kernel_rfl) rfl (by kernel_rfl) (fun x => (FD.fn_eq _ _).trans (by kernel_rfl))
end
end Go.Proofs.Ytgjimkgehbppbab
end

section
/-
Ytgjimkgehbppbab: signalbench.declrun.step, as one plain function, its equations, its contract. No condition.
-/
set_option maxRecDepth 100000
set_option linter.unusedVariables false
set_option maxHeartbeats 4000000
open Go Go.AM
namespace Go.Proofs.Ytgjimkgehbppbab
noncomputable section
def declrun_stepT_D : FD := ⟨T, lookC [(42, fc42), (52, fc52), (54, fc54)], [], (Try.f36.body.getD .skip), Try.f36.results.toList, ⟨[.one (.int .i64), .one (.int .i64), .row (.cons (.int .i64) (.cons (.int .i64) (.cons (.int .i64) (.cons (.int .i64) (.cons (.int .i64) (.cons (.int .i64) (.cons (.int .i64) .str))))))), .row (.cons (.int .i64) (.cons (.int .i64) (.cons (.int .i64) (.cons (.int .i64) (.cons (.int .i64) (.cons .str (.int .i64))))))), .one (.fn 52 [0])], [.boxr (.cons .str (.cons (.int .i64) (.cons (.int .i64) (.sl (.sl (.cons (.int .i64) (.cons (.int .i64) (.cons (.int .i64) (.sl (.cons (.int .i64) (.int .i64)))))))))))]⟩, ⟨[.row (.cons (.int .i64) (.cons (.int .i64) (.cons (.int .i64) (.cons (.int .i64) (.cons (.int .i64) (.cons (.int .i64) (.cons (.int .i64) .str))))))), .one (.sl (.cons (.int .i64) (.cons (.int .i64) (.cons (.int .i64) (.cons (.int .i64) (.cons (.int .i64) (.cons .str (.int .i64))))))))], [.boxr (.cons .str (.cons (.int .i64) (.cons (.int .i64) (.sl (.sl (.cons (.int .i64) (.cons (.int .i64) (.cons (.int .i64) (.sl (.cons (.int .i64) (.int .i64)))))))))))]⟩, []⟩
def declrun_stepT (input : Int) (output : Int) (s : TState) (e0 : TEvent) (h0 : TTable) : (Option ((TState × (List TEvent) × Unit) × (TTable × Unit))) :=
  (declrun_accepts input s e0).bind fun y1 =>
    if (!y1.1.1) = true then
      some ((s, [], ()), (h0, ()))
    else
      if (e0.2.2.2.2.2.2 != 0) = true then
        (declrun_aborted output s e0.2.1).bind fun y2 =>
          some (((1, e0.2.2.1, 0, 0, 0, 0, e0.2.1, (strB [])), y2.1.1, ()), (h0, ()))
      else
        (declrun_look_1 1 e0.2.2.1 s.2.2.1 s.2.2.2.1 s.2.2.2.2.1 s.2.2.2.2.2.1 e0.2.1 s.2.2.2.2.2.2.2 e0.1 e0.2.1 e0.2.2.1 e0.2.2.2.1 e0.2.2.2.2.1 e0.2.2.2.2.2.1 e0.2.2.2.2.2.2 output [] h0).bind fun y3 =>
          some (((y3.1.1.1, y3.1.1.2.1, y3.1.1.2.2.1, y3.1.1.2.2.2.1, y3.1.1.2.2.2.2.1, y3.1.1.2.2.2.2.2.1, y3.1.1.2.2.2.2.2.2.1, y3.1.1.2.2.2.2.2.2.2.1), y3.2.2.2.1, ()), (y3.2.2.1, ()))
def fc36T : FC := ⟨⟨[.one (.int .i64), .one (.int .i64), .row (.cons (.int .i64) (.cons (.int .i64) (.cons (.int .i64) (.cons (.int .i64) (.cons (.int .i64) (.cons (.int .i64) (.cons (.int .i64) .str))))))), .row (.cons (.int .i64) (.cons (.int .i64) (.cons (.int .i64) (.cons (.int .i64) (.cons (.int .i64) (.cons .str (.int .i64))))))), .one (.fn 52 [0])], [.boxr (.cons .str (.cons (.int .i64) (.cons (.int .i64) (.sl (.sl (.cons (.int .i64) (.cons (.int .i64) (.cons (.int .i64) (.sl (.cons (.int .i64) (.int .i64)))))))))))]⟩, ⟨[.row (.cons (.int .i64) (.cons (.int .i64) (.cons (.int .i64) (.cons (.int .i64) (.cons (.int .i64) (.cons (.int .i64) (.cons (.int .i64) .str))))))), .one (.sl (.cons (.int .i64) (.cons (.int .i64) (.cons (.int .i64) (.cons (.int .i64) (.cons (.int .i64) (.cons .str (.int .i64))))))))], [.boxr (.cons .str (.cons (.int .i64) (.cons (.int .i64) (.sl (.sl (.cons (.int .i64) (.cons (.int .i64) (.cons (.int .i64) (.sl (.cons (.int .i64) (.int .i64)))))))))))]⟩, fun x => declrun_stepT x.1.1 x.1.2.1 x.1.2.2.1 x.1.2.2.2.1 x.2.1⟩
theorem con36T : Contract Try.prog 36 fc36T :=
  declrun_stepT_D.contract tok (cok_of (l := [(42, fc42), (52, fc52), (54, fc54)]) ⟨con42, con52, con54, trivial⟩) mixed (fn' := Try.f36) (by kernel_rfl) (by kernel_rfl) rfl (by kernel_rfl) (fun x => (FD.fn_eq _ _).trans (by kernel_rfl))
end
end Go.Proofs.Ytgjimkgehbppbab
end

section
/-
Ytgjimkgehbppbab: signalbench.declrun.run, as one plain function, its equations, its contract. No condition.
-/
set_option maxRecDepth 100000
set_option linter.unusedVariables false
set_option maxHeartbeats 4000000
open Go Go.AM
namespace Go.Proofs.Ytgjimkgehbppbab
noncomputable section
def declrun_runD_F5 : FSh := ⟨[(0, .one (.int .i64)), (1, .one (.int .i64)), (3, .one (.fn 29 [0])), (9, .one (.own 1)), (10, .one (.ptr 2 0)), (15, .one (.sl (.cons (.int .i64) (.cons (.int .i64) (.cons (.int .i64) (.cons (.int .i64) (.cons (.int .i64) (.cons .str (.int .i64))))))))), (16, .one (.int .i64)), (17, .one (.int .i64))], [.boxr (.cons .str (.cons (.int .i64) (.cons (.int .i64) (.sl (.cons .str (.cons (.sl (.cons (.int .i64) (.cons (.int .i64) (.cons .str (.cons .bool (.sl (.cons (.int .i64) (.int .i64)))))))) (.cons .bool (.cons (.int .i64) (.cons (.int .i64) (.cons .str (.cons .bool (.sl (.cons (.int .i64) (.int .i64)))))))))))))), .arr 41 (.cons (.int .i64) (.cons (.int .i64) (.cons (.int .i64) (.cons (.int .i64) (.cons (.int .i64) (.cons .str (.int .i64))))))) true, .boxr (.cons (.int .i64) (.cons (.int .i64) (.cons (.int .i64) (.cons (.int .i64) (.cons (.int .i64) (.cons (.int .i64) (.cons (.int .i64) .str)))))))]⟩
def declrun_runD_D : FD := ⟨T, lookC [(29, fc29), (36, fc36T), (36, fc36D), (42, fc42)], [], (Try.f33.body.getD .skip), Try.f33.results.toList, ⟨[.one (.int .i64), .one (.int .i64), .one (.sl (.cons (.int .i64) (.cons (.int .i64) (.cons (.int .i64) (.cons (.int .i64) (.cons (.int .i64) (.cons .str (.int .i64)))))))), .one (.fn 29 [0])], [.boxr (.cons .str (.cons (.int .i64) (.cons (.int .i64) (.sl (.cons .str (.cons (.sl (.cons (.int .i64) (.cons (.int .i64) (.cons .str (.cons .bool (.sl (.cons (.int .i64) (.int .i64)))))))) (.cons .bool (.cons (.int .i64) (.cons (.int .i64) (.cons .str (.cons .bool (.sl (.cons (.int .i64) (.int .i64))))))))))))))]⟩, ⟨[.one (.sl (.cons (.int .i64) (.cons (.int .i64) (.cons (.int .i64) (.cons (.int .i64) (.cons (.int .i64) (.cons .str (.int .i64))))))))], [.boxr (.cons .str (.cons (.int .i64) (.cons (.int .i64) (.sl (.cons .str (.cons (.sl (.cons (.int .i64) (.cons (.int .i64) (.cons .str (.cons .bool (.sl (.cons (.int .i64) (.int .i64)))))))) (.cons .bool (.cons (.int .i64) (.cons (.int .i64) (.cons .str (.cons .bool (.sl (.cons (.int .i64) (.int .i64))))))))))))))]⟩, [(5, declrun_runD_F5)]⟩
def declrun_runD_l5 (input : Int) (output : Int) (t15 : (List TEvent)) (t16 : Int) (t17 : Int) (h0 : TDecl) (l1 : (List TEvent)) (h2 : TState) : (Option (((List TEvent) × Unit) × (TDecl × Unit))) := declrun_runD_D.lab 5 declrun_runD_F5 ((input, output, (), (), (), t15, t16, t17, ()), (h0, l1, h2, ()))
theorem declrun_runD_l5_eq (input : Int) (output : Int) (t15 : (List TEvent)) (t16 : Int) (t17 : Int) (h0 : TDecl) (l1 : (List TEvent)) (h2 : TState) : declrun_runD_l5 input output t15 t16 t17 h0 l1 h2 =
  if (decide (t17 < t16)) = true then
    if 0 ≤ t17 ∧ t17 < (t15.length : Int) then
      (declrun_stepD input output h2 (t15.getD t17.toNat dEvent) h0).bind fun y1 =>
        if (l1.length + y1.1.2.1.length) * 64 ≤ 140737488355328 ∧ 0 < 64 then
          declrun_runD_l5 input output t15 t16 (IntKind.i64.wrap (t17 + 1)) y1.2.1 (l1 ++ y1.1.2.1) y1.1.1
        else
          none
    else
      none
  else
    (declrun_aborted output h2 h2.2.1).bind fun y2 =>
      if (l1.length + y2.1.1.length) * 64 ≤ 140737488355328 ∧ 0 < 64 then
        some ((l1 ++ y2.1.1, ()), (h0, ()))
      else
        none := (FD.lab_eq _ _ _ _).trans (by kernel_rfl)
def declrun_runD (input : Int) (output : Int) (l : (List TEvent)) (h0 : TDecl) : (Option (((List TEvent) × Unit) × (TDecl × Unit))) :=
  declrun_runD_l5 input output l (l.length : Int) 0 h0 [] (0, 0, 0, 0, 0, 0, 0, (strB []))
def fc33D : FC := ⟨⟨[.one (.int .i64), .one (.int .i64), .one (.sl (.cons (.int .i64) (.cons (.int .i64) (.cons (.int .i64) (.cons (.int .i64) (.cons (.int .i64) (.cons .str (.int .i64)))))))), .one (.fn 29 [0])], [.boxr (.cons .str (.cons (.int .i64) (.cons (.int .i64) (.sl (.cons .str (.cons (.sl (.cons (.int .i64) (.cons (.int .i64) (.cons .str (.cons .bool (.sl (.cons (.int .i64) (.int .i64)))))))) (.cons .bool (.cons (.int .i64) (.cons (.int .i64) (.cons .str (.cons .bool (.sl (.cons (.int .i64) (.int .i64))))))))))))))]⟩, ⟨[.one (.sl (.cons (.int .i64) (.cons (.int .i64) (.cons (.int .i64) (.cons (.int .i64) (.cons (.int .i64) (.cons .str (.int .i64))))))))], [.boxr (.cons .str (.cons (.int .i64) (.cons (.int .i64) (.sl (.cons .str (.cons (.sl (.cons (.int .i64) (.cons (.int .i64) (.cons .str (.cons .bool (.sl (.cons (.int .i64) (.int .i64)))))))) (.cons .bool (.cons (.int .i64) (.cons (.int .i64) (.cons .str (.cons .bool (.sl (.cons (.int .i64) (.int .i64))))))))))))))]⟩, fun x => declrun_runD x.1.1 x.1.2.1 x.1.2.2.1 x.2.1⟩
theorem con33D : Contract Try.prog 33 fc33D :=
  declrun_runD_D.contract tok (cok_of (l := [(29, fc29), (36, fc36T), (36, fc36D), (42, fc42)]) ⟨con29, con36T, con36D, con42, trivial⟩) mixed (fn' := Try.f33) (by kernel_rfl) (by kernel_rfl) rfl (by kernel_rfl) (fun x => (FD.fn_eq _ _).trans (by kernel_rfl))
end
end Go.Proofs.Ytgjimkgehbppbab
end

section
/-
Ytgjimkgehbppbab: signalbench.declrun.run, as one plain function, its equations, its contract. No condition.
-/
set_option maxRecDepth 100000
set_option linter.unusedVariables false
set_option maxHeartbeats 4000000
open Go Go.AM
namespace Go.Proofs.Ytgjimkgehbppbab
noncomputable section
def declrun_runT_F5 : FSh := ⟨[(0, .one (.int .i64)), (1, .one (.int .i64)), (3, .one (.fn 52 [0])), (9, .one (.own 1)), (10, .one (.ptr 2 0)), (15, .one (.sl (.cons (.int .i64) (.cons (.int .i64) (.cons (.int .i64) (.cons (.int .i64) (.cons (.int .i64) (.cons .str (.int .i64))))))))), (16, .one (.int .i64)), (17, .one (.int .i64))], [.boxr (.cons .str (.cons (.int .i64) (.cons (.int .i64) (.sl (.sl (.cons (.int .i64) (.cons (.int .i64) (.cons (.int .i64) (.sl (.cons (.int .i64) (.int .i64))))))))))), .arr 41 (.cons (.int .i64) (.cons (.int .i64) (.cons (.int .i64) (.cons (.int .i64) (.cons (.int .i64) (.cons .str (.int .i64))))))) true, .boxr (.cons (.int .i64) (.cons (.int .i64) (.cons (.int .i64) (.cons (.int .i64) (.cons (.int .i64) (.cons (.int .i64) (.cons (.int .i64) .str)))))))]⟩
def declrun_runT_D : FD := ⟨T, lookC [(36, fc36T), (36, fc36D), (42, fc42), (52, fc52)], [], (Try.f33.body.getD .skip), Try.f33.results.toList, ⟨[.one (.int .i64), .one (.int .i64), .one (.sl (.cons (.int .i64) (.cons (.int .i64) (.cons (.int .i64) (.cons (.int .i64) (.cons (.int .i64) (.cons .str (.int .i64)))))))), .one (.fn 52 [0])], [.boxr (.cons .str (.cons (.int .i64) (.cons (.int .i64) (.sl (.sl (.cons (.int .i64) (.cons (.int .i64) (.cons (.int .i64) (.sl (.cons (.int .i64) (.int .i64)))))))))))]⟩, ⟨[.one (.sl (.cons (.int .i64) (.cons (.int .i64) (.cons (.int .i64) (.cons (.int .i64) (.cons (.int .i64) (.cons .str (.int .i64))))))))], [.boxr (.cons .str (.cons (.int .i64) (.cons (.int .i64) (.sl (.sl (.cons (.int .i64) (.cons (.int .i64) (.cons (.int .i64) (.sl (.cons (.int .i64) (.int .i64)))))))))))]⟩, [(5, declrun_runT_F5)]⟩
def declrun_runT_l5 (input : Int) (output : Int) (t15 : (List TEvent)) (t16 : Int) (t17 : Int) (h0 : TTable) (l1 : (List TEvent)) (h2 : TState) : (Option (((List TEvent) × Unit) × (TTable × Unit))) := declrun_runT_D.lab 5 declrun_runT_F5 ((input, output, (), (), (), t15, t16, t17, ()), (h0, l1, h2, ()))
theorem declrun_runT_l5_eq (input : Int) (output : Int) (t15 : (List TEvent)) (t16 : Int) (t17 : Int) (h0 : TTable) (l1 : (List TEvent)) (h2 : TState) : declrun_runT_l5 input output t15 t16 t17 h0 l1 h2 =
  if (decide (t17 < t16)) = true then
    if 0 ≤ t17 ∧ t17 < (t15.length : Int) then
      (declrun_stepT input output h2 (t15.getD t17.toNat dEvent) h0).bind fun y1 =>
        if (l1.length + y1.1.2.1.length) * 64 ≤ 140737488355328 ∧ 0 < 64 then
          declrun_runT_l5 input output t15 t16 (IntKind.i64.wrap (t17 + 1)) y1.2.1 (l1 ++ y1.1.2.1) y1.1.1
        else
          none
    else
      none
  else
    (declrun_aborted output h2 h2.2.1).bind fun y2 =>
      if (l1.length + y2.1.1.length) * 64 ≤ 140737488355328 ∧ 0 < 64 then
        some ((l1 ++ y2.1.1, ()), (h0, ()))
      else
        none := (FD.lab_eq _ _ _ _).trans (by kernel_rfl)
def declrun_runT (input : Int) (output : Int) (l : (List TEvent)) (h0 : TTable) : (Option (((List TEvent) × Unit) × (TTable × Unit))) :=
  declrun_runT_l5 input output l (l.length : Int) 0 h0 [] (0, 0, 0, 0, 0, 0, 0, (strB []))
def fc33T : FC := ⟨⟨[.one (.int .i64), .one (.int .i64), .one (.sl (.cons (.int .i64) (.cons (.int .i64) (.cons (.int .i64) (.cons (.int .i64) (.cons (.int .i64) (.cons .str (.int .i64)))))))), .one (.fn 52 [0])], [.boxr (.cons .str (.cons (.int .i64) (.cons (.int .i64) (.sl (.sl (.cons (.int .i64) (.cons (.int .i64) (.cons (.int .i64) (.sl (.cons (.int .i64) (.int .i64)))))))))))]⟩, ⟨[.one (.sl (.cons (.int .i64) (.cons (.int .i64) (.cons (.int .i64) (.cons (.int .i64) (.cons (.int .i64) (.cons .str (.int .i64))))))))], [.boxr (.cons .str (.cons (.int .i64) (.cons (.int .i64) (.sl (.sl (.cons (.int .i64) (.cons (.int .i64) (.cons (.int .i64) (.sl (.cons (.int .i64) (.int .i64)))))))))))]⟩, fun x => declrun_runT x.1.1 x.1.2.1 x.1.2.2.1 x.2.1⟩
theorem con33T : Contract Try.prog 33 fc33T :=
  declrun_runT_D.contract tok (cok_of (l := [(36, fc36T), (36, fc36D), (42, fc42), (52, fc52)]) ⟨con36T, con36D, con42, con52, trivial⟩) mixed (fn' := Try.f33) (by kernel_rfl) (by kernel_rfl) rfl (by kernel_rfl) (fun x => (FD.fn_eq _ _).trans (by kernel_rfl))
end
end Go.Proofs.Ytgjimkgehbppbab
end

section
/-
Ytgjimkgehbppbab: signalbench.declrun.Direct, as one plain function, its equations, its contract. No condition.
-/
set_option maxRecDepth 100000
set_option linter.unusedVariables false
set_option maxHeartbeats 4000000
open Go Go.AM
namespace Go.Proofs.Ytgjimkgehbppbab
noncomputable section
def declrun_Direct_D : FD := ⟨T, lookC [(24, fc24), (29, fc29), (33, fc33T), (33, fc33D)], [], (Try.f11.body.getD .skip), Try.f11.results.toList, ⟨[.row (.cons .str (.cons (.int .i64) (.cons (.int .i64) (.sl (.cons .str (.cons (.sl (.cons (.int .i64) (.cons (.int .i64) (.cons .str (.cons .bool (.sl (.cons (.int .i64) (.int .i64)))))))) (.cons .bool (.cons (.int .i64) (.cons (.int .i64) (.cons .str (.cons .bool (.sl (.cons (.int .i64) (.int .i64)))))))))))))), .one (.sl (.cons (.int .i64) (.cons (.int .i64) (.cons (.int .i64) (.cons (.int .i64) (.cons (.int .i64) (.cons .str (.int .i64))))))))], []⟩, ⟨[.one (.sl (.cons (.int .i64) (.cons (.int .i64) (.cons (.int .i64) (.cons (.int .i64) (.cons (.int .i64) (.cons .str (.int .i64)))))))), .one (.int .i64)], []⟩, []⟩
def declrun_Direct (d : TDecl) (l : (List TEvent)) : (Option (((List TEvent) × Int × Unit) × Unit)) :=
  (declcheck_Check d).bind fun y1 =>
    if (y1.1.1 != 0) = true then
      some (([], y1.1.1, ()), ())
    else
      (declrun_runD d.2.1 d.2.2.1 l d).bind fun y2 =>
        some ((y2.1.1, 0, ()), ())
def fc11 : FC := ⟨⟨[.row (.cons .str (.cons (.int .i64) (.cons (.int .i64) (.sl (.cons .str (.cons (.sl (.cons (.int .i64) (.cons (.int .i64) (.cons .str (.cons .bool (.sl (.cons (.int .i64) (.int .i64)))))))) (.cons .bool (.cons (.int .i64) (.cons (.int .i64) (.cons .str (.cons .bool (.sl (.cons (.int .i64) (.int .i64)))))))))))))), .one (.sl (.cons (.int .i64) (.cons (.int .i64) (.cons (.int .i64) (.cons (.int .i64) (.cons (.int .i64) (.cons .str (.int .i64))))))))], []⟩, ⟨[.one (.sl (.cons (.int .i64) (.cons (.int .i64) (.cons (.int .i64) (.cons (.int .i64) (.cons (.int .i64) (.cons .str (.int .i64)))))))), .one (.int .i64)], []⟩, fun x => declrun_Direct x.1.1 x.1.2.1⟩
theorem con11 : Contract Try.prog 11 fc11 :=
  declrun_Direct_D.contract tok (cok_of (l := [(24, fc24), (29, fc29), (33, fc33T), (33, fc33D)]) ⟨con24, con29, con33T, con33D, trivial⟩) mixed (fn' := Try.f11) (by kernel_rfl) (by kernel_rfl) rfl (by kernel_rfl) (fun x => (FD.fn_eq _ _).trans (by kernel_rfl))
end
end Go.Proofs.Ytgjimkgehbppbab
end

section
/-
Ytgjimkgehbppbab: signalbench.signalbenchref07.Same, as one plain function, its equations, its contract. No condition.
-/
set_option maxRecDepth 100000
set_option linter.unusedVariables false
set_option maxHeartbeats 4000000
open Go Go.AM
namespace Go.Proofs.Ytgjimkgehbppbab
noncomputable section
def ref07_Same_F6 : FSh := ⟨[(0, .one (.sl (.cons (.int .i64) (.cons (.int .i64) (.cons (.int .i64) (.cons (.int .i64) (.cons (.int .i64) (.cons .str (.int .i64))))))))), (1, .one (.sl (.cons (.int .i64) (.cons (.int .i64) (.cons (.int .i64) (.cons (.int .i64) (.cons (.int .i64) (.cons .str (.int .i64))))))))), (5, .one (.int .i64))], []⟩
def ref07_Same_D : FD := ⟨T, lookC [], [], (Try.f12.body.getD .skip), Try.f12.results.toList, ⟨[.one (.sl (.cons (.int .i64) (.cons (.int .i64) (.cons (.int .i64) (.cons (.int .i64) (.cons (.int .i64) (.cons .str (.int .i64)))))))), .one (.sl (.cons (.int .i64) (.cons (.int .i64) (.cons (.int .i64) (.cons (.int .i64) (.cons (.int .i64) (.cons .str (.int .i64))))))))], []⟩, ⟨[.one .bool], []⟩, [(6, ref07_Same_F6)]⟩
def ref07_Same_l6 (a : (List TEvent)) (b : (List TEvent)) (i : Int) : (Option ((Bool × Unit) × Unit)) := ref07_Same_D.lab 6 ref07_Same_F6 ((a, b, i, ()), ())
theorem ref07_Same_l6_eq (a : (List TEvent)) (b : (List TEvent)) (i : Int) : ref07_Same_l6 a b i =
  if (decide (i < (a.length : Int))) = true then
    if 0 ≤ i ∧ i < (a.length : Int) then
      if 0 ≤ i ∧ i < (b.length : Int) then
        if (!(eqU uEvent (a.getD i.toNat dEvent) (b.getD i.toNat dEvent))) = true then
          some ((false, ()), ())
        else
          ref07_Same_l6 a b (IntKind.i64.wrap (i + 1))
      else
        none
    else
      none
  else
    some ((true, ()), ()) := (FD.lab_eq _ _ _ _).trans (by kernel_rfl)
def ref07_Same (a : (List TEvent)) (b : (List TEvent)) : (Option ((Bool × Unit) × Unit)) :=
  if ((a.length : Int) != (b.length : Int)) = true then
    some ((false, ()), ())
  else
    ref07_Same_l6 a b 0
def fc12 : FC := ⟨⟨[.one (.sl (.cons (.int .i64) (.cons (.int .i64) (.cons (.int .i64) (.cons (.int .i64) (.cons (.int .i64) (.cons .str (.int .i64)))))))), .one (.sl (.cons (.int .i64) (.cons (.int .i64) (.cons (.int .i64) (.cons (.int .i64) (.cons (.int .i64) (.cons .str (.int .i64))))))))], []⟩, ⟨[.one .bool], []⟩, fun x => ref07_Same x.1.1 x.1.2.1⟩
theorem con12 : Contract Try.prog 12 fc12 :=
  ref07_Same_D.contract tok (cok_of (l := []) trivial) mixed (fn' := Try.f12) (by kernel_rfl) (by kernel_rfl) rfl (by kernel_rfl) (fun x => (FD.fn_eq _ _).trans (by kernel_rfl))
end
end Go.Proofs.Ytgjimkgehbppbab
end

section
/-
Ytgjimkgehbppbab: signalbench.lex.letter, as one plain function, its equations, its contract. No condition.
-/
set_option maxRecDepth 100000
set_option linter.unusedVariables false
set_option maxHeartbeats 4000000
open Go Go.AM
namespace Go.Proofs.Ytgjimkgehbppbab
noncomputable section
def lex_letter_D : FD := ⟨T, lookC [], [], (Try.f76.body.getD .skip), Try.f76.results.toList, ⟨[.one (.int .i32)], []⟩, ⟨[.one .bool], []⟩, []⟩
def lex_letter (c : Int) : (Option ((Bool × Unit) × Unit)) :=
  if (decide ((97 : Int) ≤ c)) = true then
    some ((decide (c ≤ 122), ()), ())
  else
    some ((false, ()), ())
def fc76 : FC := ⟨⟨[.one (.int .i32)], []⟩, ⟨[.one .bool], []⟩, fun x => lex_letter x.1.1⟩
theorem con76 : Contract Try.prog 76 fc76 :=
  lex_letter_D.contract tok (cok_of (l := []) trivial) mixed (fn' := Try.f76) (by kernel_rfl) (by kernel_rfl) rfl (by kernel_rfl) (fun x => (FD.fn_eq _ _).trans (by kernel_rfl))
end
end Go.Proofs.Ytgjimkgehbppbab
end

section
/-
Ytgjimkgehbppbab: signalbench.lex.digit, as one plain function, its equations, its contract. No condition.
-/
set_option maxRecDepth 100000
set_option linter.unusedVariables false
set_option maxHeartbeats 4000000
open Go Go.AM
namespace Go.Proofs.Ytgjimkgehbppbab
noncomputable section
def lex_digit_D : FD := ⟨T, lookC [], [], (Try.f87.body.getD .skip), Try.f87.results.toList, ⟨[.one (.int .i32)], []⟩, ⟨[.one .bool], []⟩, []⟩
def lex_digit (c : Int) : (Option ((Bool × Unit) × Unit)) :=
  if (decide ((48 : Int) ≤ c)) = true then
    some ((decide (c ≤ 57), ()), ())
  else
    some ((false, ()), ())
def fc87 : FC := ⟨⟨[.one (.int .i32)], []⟩, ⟨[.one .bool], []⟩, fun x => lex_digit x.1.1⟩
theorem con87 : Contract Try.prog 87 fc87 :=
  lex_digit_D.contract tok (cok_of (l := []) trivial) mixed (fn' := Try.f87) (by kernel_rfl) (by kernel_rfl) rfl (by kernel_rfl) (fun x => (FD.fn_eq _ _).trans (by kernel_rfl))
end
end Go.Proofs.Ytgjimkgehbppbab
end

section
/-
Ytgjimkgehbppbab: signalbench.lex.word, as one plain function, its equations, its contract. No condition.
-/
set_option maxRecDepth 100000
set_option linter.unusedVariables false
set_option maxHeartbeats 4000000
open Go Go.AM
namespace Go.Proofs.Ytgjimkgehbppbab
noncomputable section
def lex_word_D : FD := ⟨T, lookC [(76, fc76), (87, fc87)], [], (Try.f77.body.getD .skip), Try.f77.results.toList, ⟨[.one (.int .i32)], []⟩, ⟨[.one .bool], []⟩, []⟩
def lex_word (c : Int) : (Option ((Bool × Unit) × Unit)) :=
  (lex_letter c).bind fun y1 =>
    if y1.1.1 = true then
      some ((true, ()), ())
    else
      (lex_digit c).bind fun y2 =>
        if y2.1.1 = true then
          some ((true, ()), ())
        else
          some ((c == 95, ()), ())
def fc77 : FC := ⟨⟨[.one (.int .i32)], []⟩, ⟨[.one .bool], []⟩, fun x => lex_word x.1.1⟩
theorem con77 : Contract Try.prog 77 fc77 :=
  lex_word_D.contract tok (cok_of (l := [(76, fc76), (87, fc87)]) ⟨con76, con87, trivial⟩) mixed (fn' := Try.f77) (by kernel_rfl) (by kernel_rfl) rfl (by kernel_rfl) (fun x => (FD.fn_eq _ _).trans (by kernel_rfl))
end
end Go.Proofs.Ytgjimkgehbppbab
end

section
/-
Ytgjimkgehbppbab: signalbench.lex.Name, as one plain function, its equations, its contract. No condition.
-/
set_option maxRecDepth 100000
set_option linter.unusedVariables false
set_option maxHeartbeats 4000000
open Go Go.AM
namespace Go.Proofs.Ytgjimkgehbppbab
noncomputable section
def lex_Name_F6 : FSh := ⟨[(0, .one .str), (19, .one (.int .i64)), (20, .one (.int .i64))], []⟩
def lex_Name_D : FD := ⟨T, lookC [(76, fc76), (77, fc77)], [], (Try.f50.body.getD .skip), Try.f50.results.toList, ⟨[.one .str], []⟩, ⟨[.one .bool], []⟩, [(6, lex_Name_F6)]⟩
def lex_Name_l6 (s : ByteArray) (t19 : Int) (t20 : Int) : (Option ((Bool × Unit) × Unit)) := lex_Name_D.lab 6 lex_Name_F6 ((s, t19, t20, ()), ())
theorem lex_Name_l6_eq (s : ByteArray) (t19 : Int) (t20 : Int) : lex_Name_l6 s t19 t20 =
  if (decide (t20 < t19)) = true then
    if 0 ≤ t20 ∧ t20 < (s.size : Int) then
      (lex_word (IntKind.i32.wrap (bt s t20))).bind fun y1 =>
        if (!y1.1.1) = true then
          some ((false, ()), ())
        else
          lex_Name_l6 s t19 (IntKind.i64.wrap (t20 + 1))
    else
      none
  else
    some ((true, ()), ()) := (FD.lab_eq _ _ _ _).trans (by kernel_rfl)
def lex_Name (s : ByteArray) : (Option ((Bool × Unit) × Unit)) :=
  if (s.toList == (strB []).toList) = true then
    some ((false, ()), ())
  else
    if (decide ((s.size : Int) > 16)) = true then
      some ((false, ()), ())
    else
      if 0 ≤ (0 : Int) ∧ 0 < (s.size : Int) then
        (lex_letter (IntKind.i32.wrap (bt s 0))).bind fun y1 =>
          if (!y1.1.1) = true then
            some ((false, ()), ())
          else
            lex_Name_l6 s (s.size : Int) 0
      else
        none
def fc50 : FC := ⟨⟨[.one .str], []⟩, ⟨[.one .bool], []⟩, fun x => lex_Name x.1.1⟩
theorem con50 : Contract Try.prog 50 fc50 :=
  lex_Name_D.contract tok (cok_of (l := [(76, fc76), (77, fc77)]) ⟨con76, con77, trivial⟩) mixed (fn' := Try.f50) (by kernel_rfl) (by kernel_rfl) rfl (by kernel_rfl) (fun x => (FD.fn_eq _ _).trans (by kernel_rfl))
end
end Go.Proofs.Ytgjimkgehbppbab
end

section
/-
Ytgjimkgehbppbab: signalbench.decltab.act, as one plain function, its equations, its contract. No condition.
-/
set_option maxRecDepth 100000
set_option linter.unusedVariables false
set_option maxHeartbeats 4000000
open Go Go.AM
namespace Go.Proofs.Ytgjimkgehbppbab
noncomputable section
def decltab_act_D : FD := ⟨T, lookC [], [], (Try.f78.body.getD .skip), Try.f78.results.toList, ⟨[.row (.cons (.int .i64) (.int .i64))], []⟩, ⟨[.one .bool], []⟩, []⟩
def decltab_act (a : TAct) : (Option ((Bool × Unit) × Unit)) :=
  if (decide (a.1 < 1)) = true then
    some ((false, ()), ())
  else
    if (decide (a.1 > 6)) = true then
      some ((false, ()), ())
    else
      if (decide (a.2 < 0)) = true then
        some ((false, ()), ())
      else
        if (decide (a.2 > 255)) = true then
          some ((false, ()), ())
        else
          if (decide (a.1 ≤ 2)) = true then
            if (a.2 != 0) = true then
              some ((false, ()), ())
            else
              if (a.1 != 6) = true then
                some ((true, ()), ())
              else
                if (decide (a.2 ≥ 1)) = true then
                  some ((decide (a.2 ≤ 12), ()), ())
                else
                  some ((false, ()), ())
          else
            if (a.1 != 6) = true then
              some ((true, ()), ())
            else
              if (decide (a.2 ≥ 1)) = true then
                some ((decide (a.2 ≤ 12), ()), ())
              else
                some ((false, ()), ())
def fc78 : FC := ⟨⟨[.row (.cons (.int .i64) (.int .i64))], []⟩, ⟨[.one .bool], []⟩, fun x => decltab_act x.1.1⟩
theorem con78 : Contract Try.prog 78 fc78 :=
  decltab_act_D.contract tok (cok_of (l := []) trivial) mixed (fn' := Try.f78) (by kernel_rfl) (by kernel_rfl) rfl (by kernel_rfl) (fun x => (FD.fn_eq _ _).trans (by kernel_rfl))
end
end Go.Proofs.Ytgjimkgehbppbab
end

section
/-
Ytgjimkgehbppbab: signalbench.decltab.cell, as one plain function, its equations, its contract. No condition.
-/
set_option maxRecDepth 100000
set_option linter.unusedVariables false
set_option maxHeartbeats 4000000
open Go Go.AM
namespace Go.Proofs.Ytgjimkgehbppbab
noncomputable section
def decltab_cell_F4 : FSh := ⟨[(3, .one (.ptr 0 0)), (4, .one (.ptr 1 0)), (14, .one .bool)], [.boxr (.cons .str (.cons (.int .i64) (.cons (.int .i64) (.sl (.sl (.cons (.int .i64) (.cons (.int .i64) (.cons (.int .i64) (.sl (.cons (.int .i64) (.int .i64))))))))))), .boxr (.cons (.int .i64) (.cons (.int .i64) (.cons (.int .i64) (.sl (.cons (.int .i64) (.int .i64))))))]⟩
def decltab_cell_F12 : FSh := ⟨[(43, .one (.sl (.cons (.int .i64) (.int .i64)))), (44, .one (.int .i64)), (45, .one (.int .i64))], []⟩
def decltab_cell_D : FD := ⟨T, lookC [(26, fc26), (78, fc78)], [4], (Try.f51.body.getD .skip), Try.f51.results.toList, ⟨[.row (.cons .str (.cons (.int .i64) (.cons (.int .i64) (.sl (.sl (.cons (.int .i64) (.cons (.int .i64) (.cons (.int .i64) (.sl (.cons (.int .i64) (.int .i64))))))))))), .row (.cons (.int .i64) (.cons (.int .i64) (.cons (.int .i64) (.sl (.cons (.int .i64) (.int .i64)))))), .one (.int .i64)], []⟩, ⟨[.one (.int .i64)], []⟩, [(4, decltab_cell_F4), (12, decltab_cell_F12)]⟩
def decltab_cell_l4 (t14 : Bool) (h0 : TTable) (h1 : TCell) : (Option ((Int × Unit) × Unit)) := decltab_cell_D.lab 4 decltab_cell_F4 (((), (), t14, ()), (h0, h1, ()))
def decltab_cell_l12 (t43 : (List TAct)) (t44 : Int) (t45 : Int) : (Option ((Int × Unit) × Unit)) := decltab_cell_D.lab 12 decltab_cell_F12 ((t43, t44, t45, ()), ())
theorem decltab_cell_l4_eq (t14 : Bool) (h0 : TTable) (h1 : TCell) : decltab_cell_l4 t14 h0 h1 =
  if t14 = true then
    some ((7, ()), ())
  else
    if (decide (h1.2.2.1 < 0)) = true then
      some ((8, ()), ())
    else
      if (decide (h1.2.2.1 ≥ (h0.2.2.2.length : Int))) = true then
        some ((8, ()), ())
      else
        decltab_cell_l12 h1.2.2.2 (h1.2.2.2.length : Int) 0 := (FD.lab_eq _ _ _ _).trans (by kernel_rfl)
theorem decltab_cell_l12_eq (t43 : (List TAct)) (t44 : Int) (t45 : Int) : decltab_cell_l12 t43 t44 t45 =
  if (decide (t45 < t44)) = true then
    if 0 ≤ t45 ∧ t45 < (t43.length : Int) then
      (decltab_act (t43.getD t45.toNat dAct)).bind fun y1 =>
        if (!y1.1.1) = true then
          some ((2, ()), ())
        else
          decltab_cell_l12 t43 t44 (IntKind.i64.wrap (t45 + 1))
    else
      none
  else
    some ((0, ()), ()) := (FD.lab_eq _ _ _ _).trans (by kernel_rfl)
def decltab_cell (t : TTable) (c : TCell) (first : Int) : (Option ((Int × Unit) × Unit)) :=
  if (decide ((c.2.2.2.length : Int) > 64)) = true then
    some ((6, ()), ())
  else
    if (c.1 != first) = true then
      decltab_cell_l4 true t c
    else
      if (decide (c.2.1 < c.1)) = true then
        decltab_cell_l4 true t c
      else
        (decltab_top t.2.1).bind fun y1 =>
          decltab_cell_l4 (decide (c.2.1 > y1.1.1)) t c
def fc51 : FC := ⟨⟨[.row (.cons .str (.cons (.int .i64) (.cons (.int .i64) (.sl (.sl (.cons (.int .i64) (.cons (.int .i64) (.cons (.int .i64) (.sl (.cons (.int .i64) (.int .i64))))))))))), .row (.cons (.int .i64) (.cons (.int .i64) (.cons (.int .i64) (.sl (.cons (.int .i64) (.int .i64)))))), .one (.int .i64)], []⟩, ⟨[.one (.int .i64)], []⟩, fun x => decltab_cell x.1.1 x.1.2.1 x.1.2.2.1⟩
theorem con51 : Contract Try.prog 51 fc51 :=
  decltab_cell_D.contract tok (cok_of (l := [(26, fc26), (78, fc78)]) ⟨con26, con78, trivial⟩) mixed (fn' := Try.f51) (by kernel_rfl) (by kernel_rfl) rfl (by kernel_rfl) (fun x => (FD.fn_eq _ _).trans (by kernel_rfl))
end
end Go.Proofs.Ytgjimkgehbppbab
end

section
/-
Ytgjimkgehbppbab: signalbench.decltab.Check, as one plain function, its equations, its contract. No condition.
-/
set_option maxRecDepth 100000
set_option linter.unusedVariables false
set_option maxHeartbeats 4000000
open Go Go.AM
namespace Go.Proofs.Ytgjimkgehbppbab
noncomputable section
def decltab_Check_F4 : FSh := ⟨[(1, .one (.ptr 0 0)), (14, .one .bool)], [.boxr (.cons .str (.cons (.int .i64) (.cons (.int .i64) (.sl (.sl (.cons (.int .i64) (.cons (.int .i64) (.cons (.int .i64) (.sl (.cons (.int .i64) (.int .i64)))))))))))]⟩
def decltab_Check_F11 : FSh := ⟨[(1, .one (.ptr 0 0)), (43, .one (.sl (.sl (.cons (.int .i64) (.cons (.int .i64) (.cons (.int .i64) (.sl (.cons (.int .i64) (.int .i64))))))))), (44, .one (.int .i64)), (45, .one (.int .i64))], [.boxr (.cons .str (.cons (.int .i64) (.cons (.int .i64) (.sl (.sl (.cons (.int .i64) (.cons (.int .i64) (.cons (.int .i64) (.sl (.cons (.int .i64) (.int .i64)))))))))))]⟩
def decltab_Check_F19 : FSh := ⟨[(1, .one (.ptr 0 0)), (5, .one (.int .i64)), (43, .one (.sl (.sl (.cons (.int .i64) (.cons (.int .i64) (.cons (.int .i64) (.sl (.cons (.int .i64) (.int .i64))))))))), (44, .one (.int .i64)), (45, .one (.int .i64)), (49, .one (.sl (.cons (.int .i64) (.cons (.int .i64) (.cons (.int .i64) (.sl (.cons (.int .i64) (.int .i64)))))))), (50, .one (.int .i64)), (51, .one (.int .i64))], [.boxr (.cons .str (.cons (.int .i64) (.cons (.int .i64) (.sl (.sl (.cons (.int .i64) (.cons (.int .i64) (.cons (.int .i64) (.sl (.cons (.int .i64) (.int .i64)))))))))))]⟩
def decltab_Check_D : FD := ⟨T, lookC [(26, fc26), (50, fc50), (51, fc51)], [4], (Try.f34.body.getD .skip), Try.f34.results.toList, ⟨[.row (.cons .str (.cons (.int .i64) (.cons (.int .i64) (.sl (.sl (.cons (.int .i64) (.cons (.int .i64) (.cons (.int .i64) (.sl (.cons (.int .i64) (.int .i64)))))))))))], []⟩, ⟨[.one (.int .i64)], []⟩, [(4, decltab_Check_F4), (11, decltab_Check_F11), (19, decltab_Check_F19)]⟩
def decltab_Check_l4 (t14 : Bool) (h0 : TTable) : (Option ((Int × Unit) × Unit)) := decltab_Check_D.lab 4 decltab_Check_F4 (((), t14, ()), (h0, ()))
def decltab_Check_l11 (t43 : (List (List TCell))) (t44 : Int) (t45 : Int) (h0 : TTable) : (Option ((Int × Unit) × Unit)) := decltab_Check_D.lab 11 decltab_Check_F11 (((), t43, t44, t45, ()), (h0, ()))
def decltab_Check_l19 (first : Int) (t43 : (List (List TCell))) (t44 : Int) (t45 : Int) (t49 : (List TCell)) (t50 : Int) (t51 : Int) (h0 : TTable) : (Option ((Int × Unit) × Unit)) := decltab_Check_D.lab 19 decltab_Check_F19 (((), first, t43, t44, t45, t49, t50, t51, ()), (h0, ()))
theorem decltab_Check_l4_eq (t14 : Bool) (h0 : TTable) : decltab_Check_l4 t14 h0 =
  if t14 = true then
    some ((1, ()), ())
  else
    if ((h0.2.2.2.length : Int) == 0) = true then
      some ((6, ()), ())
    else
      if (decide ((h0.2.2.2.length : Int) > 32)) = true then
        some ((6, ()), ())
      else
        decltab_Check_l11 h0.2.2.2 (h0.2.2.2.length : Int) 0 h0 := (FD.lab_eq _ _ _ _).trans (by kernel_rfl)
theorem decltab_Check_l11_eq (t43 : (List (List TCell))) (t44 : Int) (t45 : Int) (h0 : TTable) : decltab_Check_l11 t43 t44 t45 h0 =
  if (decide (t45 < t44)) = true then
    if 0 ≤ t45 ∧ t45 < (t43.length : Int) then
      decltab_Check_l19 0 t43 t44 t45 (t43.getD t45.toNat []) ((t43.getD t45.toNat []).length : Int) 0 h0
    else
      none
  else
    some ((0, ()), ()) := (FD.lab_eq _ _ _ _).trans (by kernel_rfl)
theorem decltab_Check_l19_eq (first : Int) (t43 : (List (List TCell))) (t44 : Int) (t45 : Int) (t49 : (List TCell)) (t50 : Int) (t51 : Int) (h0 : TTable) : decltab_Check_l19 first t43 t44 t45 t49 t50 t51 h0 =
  if (decide (t51 < t50)) = true then
    if 0 ≤ t51 ∧ t51 < (t49.length : Int) then
      (decltab_cell h0 (t49.getD t51.toNat dCell) first).bind fun y1 =>
        if (y1.1.1 != 0) = true then
          some ((y1.1.1, ()), ())
        else
          decltab_Check_l19 (IntKind.i64.wrap ((t49.getD t51.toNat dCell).2.1 + 1)) t43 t44 t45 t49 t50 (IntKind.i64.wrap (t51 + 1)) h0
    else
      none
  else
    (decltab_top h0.2.1).bind fun y2 =>
      if (first != (IntKind.i64.wrap (y2.1.1 + 1))) = true then
        some ((14, ()), ())
      else
        decltab_Check_l11 t43 t44 (IntKind.i64.wrap (t45 + 1)) h0 := (FD.lab_eq _ _ _ _).trans (by kernel_rfl)
def decltab_Check (t : TTable) : (Option ((Int × Unit) × Unit)) :=
  (lex_Name t.1).bind fun y1 =>
    if (!y1.1.1) = true then
      some ((4, ()), ())
    else
      if (t.2.1 != 2) = true then
        if (t.2.1 != 3) = true then
          decltab_Check_l4 true t
        else
          if (t.2.2.1 != 5) = true then
            decltab_Check_l4 (t.2.2.1 != 6) t
          else
            decltab_Check_l4 false t
      else
        if (t.2.2.1 != 5) = true then
          decltab_Check_l4 (t.2.2.1 != 6) t
        else
          decltab_Check_l4 false t
def fc34 : FC := ⟨⟨[.row (.cons .str (.cons (.int .i64) (.cons (.int .i64) (.sl (.sl (.cons (.int .i64) (.cons (.int .i64) (.cons (.int .i64) (.sl (.cons (.int .i64) (.int .i64)))))))))))], []⟩, ⟨[.one (.int .i64)], []⟩, fun x => decltab_Check x.1.1⟩
theorem con34 : Contract Try.prog 34 fc34 :=
  decltab_Check_D.contract tok (cok_of (l := [(26, fc26), (50, fc50), (51, fc51)]) ⟨con26, con50, con51, trivial⟩) mixed (fn' := Try.f34) (by kernel_rfl) (by kernel_rfl) rfl (by kernel_rfl) (fun x => (FD.fn_eq _ _).trans (by kernel_rfl))
end
end Go.Proofs.Ytgjimkgehbppbab
end

section
/-
Ytgjimkgehbppbab: signalbench.declrun.look, as one plain function, its equations, its contract. No condition.
-/
set_option maxRecDepth 100000
set_option linter.unusedVariables false
set_option maxHeartbeats 4000000
open Go Go.AM
namespace Go.Proofs.Ytgjimkgehbppbab
noncomputable section
def declrun_look_D : FD := ⟨T, lookC [(52, fc52)], [], (Try.f35.body.getD .skip), Try.f35.results.toList, ⟨[.row (.cons .str (.cons (.int .i64) (.cons (.int .i64) (.sl (.sl (.cons (.int .i64) (.cons (.int .i64) (.cons (.int .i64) (.sl (.cons (.int .i64) (.int .i64)))))))))))], []⟩, ⟨[.one (.fn 52 [0])], [.boxr (.cons .str (.cons (.int .i64) (.cons (.int .i64) (.sl (.sl (.cons (.int .i64) (.cons (.int .i64) (.cons (.int .i64) (.sl (.cons (.int .i64) (.int .i64)))))))))))]⟩, []⟩
def declrun_look (t : TTable) : (Option ((Unit × Unit) × (TTable × Unit))) :=
  some (((), ()), (t, ()))
def fc35 : FC := ⟨⟨[.row (.cons .str (.cons (.int .i64) (.cons (.int .i64) (.sl (.sl (.cons (.int .i64) (.cons (.int .i64) (.cons (.int .i64) (.sl (.cons (.int .i64) (.int .i64)))))))))))], []⟩, ⟨[.one (.fn 52 [0])], [.boxr (.cons .str (.cons (.int .i64) (.cons (.int .i64) (.sl (.sl (.cons (.int .i64) (.cons (.int .i64) (.cons (.int .i64) (.sl (.cons (.int .i64) (.int .i64)))))))))))]⟩, fun x => declrun_look x.1.1⟩
theorem con35 : Contract Try.prog 35 fc35 :=
  declrun_look_D.contract tok (cok_of (l := [(52, fc52)]) ⟨con52, trivial⟩) mixed (fn' := Try.f35) (by kernel_rfl) (by kernel_rfl) rfl (by kernel_rfl) (fun x => (FD.fn_eq _ _).trans (by kernel_rfl))
end
end Go.Proofs.Ytgjimkgehbppbab
end

section
/-
Ytgjimkgehbppbab: signalbench.declrun.Decode, as one plain function, its equations, its contract. No condition.
-/
set_option maxRecDepth 100000
set_option linter.unusedVariables false
set_option maxHeartbeats 4000000
open Go Go.AM
namespace Go.Proofs.Ytgjimkgehbppbab
noncomputable section
def declrun_Decode_D : FD := ⟨T, lookC [(33, fc33T), (33, fc33D), (34, fc34), (35, fc35)], [], (Try.f13.body.getD .skip), Try.f13.results.toList, ⟨[.row (.cons .str (.cons (.int .i64) (.cons (.int .i64) (.sl (.sl (.cons (.int .i64) (.cons (.int .i64) (.cons (.int .i64) (.sl (.cons (.int .i64) (.int .i64))))))))))), .one (.sl (.cons (.int .i64) (.cons (.int .i64) (.cons (.int .i64) (.cons (.int .i64) (.cons (.int .i64) (.cons .str (.int .i64))))))))], []⟩, ⟨[.one (.sl (.cons (.int .i64) (.cons (.int .i64) (.cons (.int .i64) (.cons (.int .i64) (.cons (.int .i64) (.cons .str (.int .i64))))))))], []⟩, []⟩
def declrun_Decode (t : TTable) (l : (List TEvent)) : (Option (((List TEvent) × Unit) × Unit)) :=
  (decltab_Check t).bind fun y1 =>
    if (y1.1.1 != 0) = true then
      some (([], ()), ())
    else
      (declrun_look t).bind fun y2 =>
        (declrun_runT t.2.1 t.2.2.1 l y2.2.1).bind fun y3 =>
          some ((y3.1.1, ()), ())
def fc13 : FC := ⟨⟨[.row (.cons .str (.cons (.int .i64) (.cons (.int .i64) (.sl (.sl (.cons (.int .i64) (.cons (.int .i64) (.cons (.int .i64) (.sl (.cons (.int .i64) (.int .i64))))))))))), .one (.sl (.cons (.int .i64) (.cons (.int .i64) (.cons (.int .i64) (.cons (.int .i64) (.cons (.int .i64) (.cons .str (.int .i64))))))))], []⟩, ⟨[.one (.sl (.cons (.int .i64) (.cons (.int .i64) (.cons (.int .i64) (.cons (.int .i64) (.cons (.int .i64) (.cons .str (.int .i64))))))))], []⟩, fun x => declrun_Decode x.1.1 x.1.2.1⟩
theorem con13 : Contract Try.prog 13 fc13 :=
  declrun_Decode_D.contract tok (cok_of (l := [(33, fc33T), (33, fc33D), (34, fc34), (35, fc35)]) ⟨con33T, con33D, con34, con35, trivial⟩) mixed (fn' := Try.f13) (by kernel_rfl) (by kernel_rfl) rfl (by kernel_rfl) (fun x => (FD.fn_eq _ _).trans (by kernel_rfl))
end
end Go.Proofs.Ytgjimkgehbppbab
end

section
/-
Ytgjimkgehbppbab: signalbench.signalbenchlaw37.narrow, as one plain function, its equations, its contract. No condition.
-/
set_option maxRecDepth 100000
set_option linter.unusedVariables false
set_option maxHeartbeats 4000000
open Go Go.AM
namespace Go.Proofs.Ytgjimkgehbppbab
noncomputable section
def law37_narrow_F6 : FSh := ⟨[(1, .one (.ptr 0 0)), (3, .one (.int .i64))], [.boxr (.cons .str (.cons (.int .i64) (.cons (.int .i64) (.sl (.sl (.cons (.int .i64) (.cons (.int .i64) (.cons (.int .i64) (.sl (.cons (.int .i64) (.int .i64)))))))))))]⟩
def law37_narrow_F14 : FSh := ⟨[(1, .one (.ptr 0 0)), (3, .one (.int .i64)), (4, .one (.int .i64))], [.boxr (.cons .str (.cons (.int .i64) (.cons (.int .i64) (.sl (.sl (.cons (.int .i64) (.cons (.int .i64) (.cons (.int .i64) (.sl (.cons (.int .i64) (.int .i64)))))))))))]⟩
def law37_narrow_D : FD := ⟨T, lookC [], [], (Try.f14.body.getD .skip), Try.f14.results.toList, ⟨[.row (.cons .str (.cons (.int .i64) (.cons (.int .i64) (.sl (.sl (.cons (.int .i64) (.cons (.int .i64) (.cons (.int .i64) (.sl (.cons (.int .i64) (.int .i64)))))))))))], []⟩, ⟨[.one .bool], []⟩, [(6, law37_narrow_F6), (14, law37_narrow_F14)]⟩
def law37_narrow_l6 (i : Int) (h0 : TTable) : (Option ((Bool × Unit) × Unit)) := law37_narrow_D.lab 6 law37_narrow_F6 (((), i, ()), (h0, ()))
def law37_narrow_l14 (i : Int) (k0 : Int) (h0 : TTable) : (Option ((Bool × Unit) × Unit)) := law37_narrow_D.lab 14 law37_narrow_F14 (((), i, k0, ()), (h0, ()))
theorem law37_narrow_l6_eq (i : Int) (h0 : TTable) : law37_narrow_l6 i h0 =
  if (decide (i < (h0.2.2.2.length : Int))) = true then
    if 0 ≤ i ∧ i < (h0.2.2.2.length : Int) then
      if (decide (((h0.2.2.2.getD i.toNat []).length : Int) > 20)) = true then
        some ((false, ()), ())
      else
        law37_narrow_l14 i 0 h0
    else
      none
  else
    some ((true, ()), ()) := (FD.lab_eq _ _ _ _).trans (by kernel_rfl)
theorem law37_narrow_l14_eq (i : Int) (k0 : Int) (h0 : TTable) : law37_narrow_l14 i k0 h0 =
  if 0 ≤ i ∧ i < (h0.2.2.2.length : Int) then
    if (decide (k0 < ((h0.2.2.2.getD i.toNat []).length : Int))) = true then
      if 0 ≤ i ∧ i < (h0.2.2.2.length : Int) then
        if 0 ≤ k0 ∧ k0 < ((h0.2.2.2.getD i.toNat []).length : Int) then
          if (decide ((((h0.2.2.2.getD i.toNat []).getD k0.toNat dCell).2.2.2.length : Int) > 70)) = true then
            some ((false, ()), ())
          else
            law37_narrow_l14 i (IntKind.i64.wrap (k0 + 1)) h0
        else
          none
      else
        none
    else
      law37_narrow_l6 (IntKind.i64.wrap (i + 1)) h0
  else
    none := (FD.lab_eq _ _ _ _).trans (by kernel_rfl)
def law37_narrow (t : TTable) : (Option ((Bool × Unit) × Unit)) :=
  if (decide ((t.2.2.2.length : Int) > 8)) = true then
    some ((false, ()), ())
  else
    if (decide ((t.1.size : Int) > 20)) = true then
      some ((false, ()), ())
    else
      law37_narrow_l6 0 t
def fc14 : FC := ⟨⟨[.row (.cons .str (.cons (.int .i64) (.cons (.int .i64) (.sl (.sl (.cons (.int .i64) (.cons (.int .i64) (.cons (.int .i64) (.sl (.cons (.int .i64) (.int .i64)))))))))))], []⟩, ⟨[.one .bool], []⟩, fun x => law37_narrow x.1.1⟩
theorem con14 : Contract Try.prog 14 fc14 :=
  law37_narrow_D.contract tok (cok_of (l := []) trivial) mixed (fn' := Try.f14) (by kernel_rfl) (by kernel_rfl) rfl (by kernel_rfl) (fun x => (FD.fn_eq _ _).trans (by kernel_rfl))
end
end Go.Proofs.Ytgjimkgehbppbab
end

section
/-
Ytgjimkgehbppbab: signalbench.declrun.Start, as one plain function, its equations, its contract. No condition.
-/
set_option maxRecDepth 100000
set_option linter.unusedVariables false
set_option maxHeartbeats 4000000
open Go Go.AM
namespace Go.Proofs.Ytgjimkgehbppbab
noncomputable section
def declrun_Start_D : FD := ⟨T, lookC [], [], (Try.f15.body.getD .skip), Try.f15.results.toList, ⟨[.row (.cons .str (.cons (.int .i64) (.cons (.int .i64) (.sl (.sl (.cons (.int .i64) (.cons (.int .i64) (.cons (.int .i64) (.sl (.cons (.int .i64) (.int .i64)))))))))))], []⟩, ⟨[.row (.cons (.int .i64) (.cons (.int .i64) (.cons (.int .i64) (.cons (.int .i64) (.cons (.int .i64) (.cons (.int .i64) (.cons (.int .i64) .str)))))))], []⟩, []⟩
def declrun_Start (t : TTable) : (Option ((TState × Unit) × Unit)) :=
  some (((0, 0, 0, 0, 0, 0, 0, (strB [])), ()), ())
def fc15 : FC := ⟨⟨[.row (.cons .str (.cons (.int .i64) (.cons (.int .i64) (.sl (.sl (.cons (.int .i64) (.cons (.int .i64) (.cons (.int .i64) (.sl (.cons (.int .i64) (.int .i64)))))))))))], []⟩, ⟨[.row (.cons (.int .i64) (.cons (.int .i64) (.cons (.int .i64) (.cons (.int .i64) (.cons (.int .i64) (.cons (.int .i64) (.cons (.int .i64) .str)))))))], []⟩, fun x => declrun_Start x.1.1⟩
theorem con15 : Contract Try.prog 15 fc15 :=
  declrun_Start_D.contract tok (cok_of (l := []) trivial) mixed (fn' := Try.f15) (by kernel_rfl) (by kernel_rfl) rfl (by kernel_rfl) (fun x => (FD.fn_eq _ _).trans (by kernel_rfl))
end
end Go.Proofs.Ytgjimkgehbppbab
end

section
/-
Ytgjimkgehbppbab: signalbench.signalbenchref37.Start, as one plain function, its equations, its contract. No condition.
-/
set_option maxRecDepth 100000
set_option linter.unusedVariables false
set_option maxHeartbeats 4000000
open Go Go.AM
namespace Go.Proofs.Ytgjimkgehbppbab
noncomputable section
def ref37_Start_D : FD := ⟨T, lookC [], [], (Try.f16.body.getD .skip), Try.f16.results.toList, ⟨[.row (.cons .str (.cons (.int .i64) (.cons (.int .i64) (.sl (.sl (.cons (.int .i64) (.cons (.int .i64) (.cons (.int .i64) (.sl (.cons (.int .i64) (.int .i64)))))))))))], []⟩, ⟨[.row (.cons (.int .i64) (.cons (.int .i64) (.cons (.int .i64) (.cons (.int .i64) (.cons (.int .i64) (.cons (.int .i64) (.cons (.int .i64) .str)))))))], []⟩, []⟩
def ref37_Start (t : TTable) : (Option ((TState × Unit) × Unit)) :=
  some (((0, 0, 0, 0, 0, 0, 0, (strB [])), ()), ())
def fc16 : FC := ⟨⟨[.row (.cons .str (.cons (.int .i64) (.cons (.int .i64) (.sl (.sl (.cons (.int .i64) (.cons (.int .i64) (.cons (.int .i64) (.sl (.cons (.int .i64) (.int .i64)))))))))))], []⟩, ⟨[.row (.cons (.int .i64) (.cons (.int .i64) (.cons (.int .i64) (.cons (.int .i64) (.cons (.int .i64) (.cons (.int .i64) (.cons (.int .i64) .str)))))))], []⟩, fun x => ref37_Start x.1.1⟩
theorem con16 : Contract Try.prog 16 fc16 :=
  ref37_Start_D.contract tok (cok_of (l := []) trivial) mixed (fn' := Try.f16) (by kernel_rfl) (by kernel_rfl) rfl (by kernel_rfl) (fun x => (FD.fn_eq _ _).trans (by kernel_rfl))
end
end Go.Proofs.Ytgjimkgehbppbab
end

section
/-
Ytgjimkgehbppbab: signalbench.declrun.Step, as one plain function, its equations, its contract. No condition.
-/
set_option maxRecDepth 100000
set_option linter.unusedVariables false
set_option maxHeartbeats 4000000
open Go Go.AM
namespace Go.Proofs.Ytgjimkgehbppbab
noncomputable section
def declrun_Step_D : FD := ⟨T, lookC [(34, fc34), (35, fc35), (36, fc36T), (36, fc36D)], [], (Try.f17.body.getD .skip), Try.f17.results.toList, ⟨[.row (.cons .str (.cons (.int .i64) (.cons (.int .i64) (.sl (.sl (.cons (.int .i64) (.cons (.int .i64) (.cons (.int .i64) (.sl (.cons (.int .i64) (.int .i64))))))))))), .row (.cons (.int .i64) (.cons (.int .i64) (.cons (.int .i64) (.cons (.int .i64) (.cons (.int .i64) (.cons (.int .i64) (.cons (.int .i64) .str))))))), .row (.cons (.int .i64) (.cons (.int .i64) (.cons (.int .i64) (.cons (.int .i64) (.cons (.int .i64) (.cons .str (.int .i64)))))))], []⟩, ⟨[.row (.cons (.int .i64) (.cons (.int .i64) (.cons (.int .i64) (.cons (.int .i64) (.cons (.int .i64) (.cons (.int .i64) (.cons (.int .i64) .str))))))), .one (.sl (.cons (.int .i64) (.cons (.int .i64) (.cons (.int .i64) (.cons (.int .i64) (.cons (.int .i64) (.cons .str (.int .i64))))))))], []⟩, []⟩
def declrun_Step (t : TTable) (s : TState) (e0 : TEvent) : (Option ((TState × (List TEvent) × Unit) × Unit)) :=
  (decltab_Check t).bind fun y1 =>
    if (y1.1.1 != 0) = true then
      some ((s, [], ()), ())
    else
      (declrun_look t).bind fun y2 =>
        (declrun_stepT t.2.1 t.2.2.1 s e0 y2.2.1).bind fun y3 =>
          some ((y3.1.1, y3.1.2.1, ()), ())
def fc17 : FC := ⟨⟨[.row (.cons .str (.cons (.int .i64) (.cons (.int .i64) (.sl (.sl (.cons (.int .i64) (.cons (.int .i64) (.cons (.int .i64) (.sl (.cons (.int .i64) (.int .i64))))))))))), .row (.cons (.int .i64) (.cons (.int .i64) (.cons (.int .i64) (.cons (.int .i64) (.cons (.int .i64) (.cons (.int .i64) (.cons (.int .i64) .str))))))), .row (.cons (.int .i64) (.cons (.int .i64) (.cons (.int .i64) (.cons (.int .i64) (.cons (.int .i64) (.cons .str (.int .i64)))))))], []⟩, ⟨[.row (.cons (.int .i64) (.cons (.int .i64) (.cons (.int .i64) (.cons (.int .i64) (.cons (.int .i64) (.cons (.int .i64) (.cons (.int .i64) .str))))))), .one (.sl (.cons (.int .i64) (.cons (.int .i64) (.cons (.int .i64) (.cons (.int .i64) (.cons (.int .i64) (.cons .str (.int .i64))))))))], []⟩, fun x => declrun_Step x.1.1 x.1.2.1 x.1.2.2.1⟩
theorem con17 : Contract Try.prog 17 fc17 :=
  declrun_Step_D.contract tok (cok_of (l := [(34, fc34), (35, fc35), (36, fc36T), (36, fc36D)]) ⟨con34, con35, con36T, con36D, trivial⟩) mixed (fn' := Try.f17) (by kernel_rfl) (by kernel_rfl) rfl (by kernel_rfl) (fun x => (FD.fn_eq _ _).trans (by kernel_rfl))
end
end Go.Proofs.Ytgjimkgehbppbab
end

section
/-
Ytgjimkgehbppbab: signalbench.signalbenchref05.letter, as one plain function, its equations, its contract. No condition.
-/
set_option maxRecDepth 100000
set_option linter.unusedVariables false
set_option maxHeartbeats 4000000
open Go Go.AM
namespace Go.Proofs.Ytgjimkgehbppbab
noncomputable section
def ref05_letter_D : FD := ⟨T, lookC [], [], (Try.f80.body.getD .skip), Try.f80.results.toList, ⟨[.one (.int .u8)], []⟩, ⟨[.one .bool], []⟩, []⟩
def ref05_letter (c : Int) : (Option ((Bool × Unit) × Unit)) :=
  if (decide (c ≥ 97)) = true then
    some ((decide (c ≤ 122), ()), ())
  else
    some ((false, ()), ())
def fc80 : FC := ⟨⟨[.one (.int .u8)], []⟩, ⟨[.one .bool], []⟩, fun x => ref05_letter x.1.1⟩
theorem con80 : Contract Try.prog 80 fc80 :=
  ref05_letter_D.contract tok (cok_of (l := []) trivial) mixed (fn' := Try.f80) (by kernel_rfl) (by kernel_rfl) rfl (by kernel_rfl) (fun x => (FD.fn_eq _ _).trans (by kernel_rfl))
end
end Go.Proofs.Ytgjimkgehbppbab
end

section
/-
Ytgjimkgehbppbab: signalbench.signalbenchref05.digit, as one plain function, its equations, its contract. No condition.
-/
set_option maxRecDepth 100000
set_option linter.unusedVariables false
set_option maxHeartbeats 4000000
open Go Go.AM
namespace Go.Proofs.Ytgjimkgehbppbab
noncomputable section
def ref05_digit_D : FD := ⟨T, lookC [], [], (Try.f88.body.getD .skip), Try.f88.results.toList, ⟨[.one (.int .u8)], []⟩, ⟨[.one .bool], []⟩, []⟩
def ref05_digit (c : Int) : (Option ((Bool × Unit) × Unit)) :=
  if (decide (c ≥ 48)) = true then
    some ((decide (c ≤ 57), ()), ())
  else
    some ((false, ()), ())
def fc88 : FC := ⟨⟨[.one (.int .u8)], []⟩, ⟨[.one .bool], []⟩, fun x => ref05_digit x.1.1⟩
theorem con88 : Contract Try.prog 88 fc88 :=
  ref05_digit_D.contract tok (cok_of (l := []) trivial) mixed (fn' := Try.f88) (by kernel_rfl) (by kernel_rfl) rfl (by kernel_rfl) (fun x => (FD.fn_eq _ _).trans (by kernel_rfl))
end
end Go.Proofs.Ytgjimkgehbppbab
end

section
/-
Ytgjimkgehbppbab: signalbench.signalbenchref05.inner, as one plain function, its equations, its contract. No condition.
-/
set_option maxRecDepth 100000
set_option linter.unusedVariables false
set_option maxHeartbeats 4000000
open Go Go.AM
namespace Go.Proofs.Ytgjimkgehbppbab
noncomputable section
def ref05_inner_D : FD := ⟨T, lookC [(80, fc80), (88, fc88)], [], (Try.f81.body.getD .skip), Try.f81.results.toList, ⟨[.one (.int .u8)], []⟩, ⟨[.one .bool], []⟩, []⟩
def ref05_inner (c : Int) : (Option ((Bool × Unit) × Unit)) :=
  (ref05_letter c).bind fun y1 =>
    if y1.1.1 = true then
      some ((true, ()), ())
    else
      (ref05_digit c).bind fun y2 =>
        if y2.1.1 = true then
          some ((true, ()), ())
        else
          some ((c == 95, ()), ())
def fc81 : FC := ⟨⟨[.one (.int .u8)], []⟩, ⟨[.one .bool], []⟩, fun x => ref05_inner x.1.1⟩
theorem con81 : Contract Try.prog 81 fc81 :=
  ref05_inner_D.contract tok (cok_of (l := [(80, fc80), (88, fc88)]) ⟨con80, con88, trivial⟩) mixed (fn' := Try.f81) (by kernel_rfl) (by kernel_rfl) rfl (by kernel_rfl) (fun x => (FD.fn_eq _ _).trans (by kernel_rfl))
end
end Go.Proofs.Ytgjimkgehbppbab
end

section
/-
Ytgjimkgehbppbab: signalbench.signalbenchref05.Name, as one plain function, its equations, its contract. No condition.
-/
set_option maxRecDepth 100000
set_option linter.unusedVariables false
set_option maxHeartbeats 4000000
open Go Go.AM
namespace Go.Proofs.Ytgjimkgehbppbab
noncomputable section
def ref05_Name_F6 : FSh := ⟨[(0, .one .str), (3, .one (.int .i64))], []⟩
def ref05_Name_D : FD := ⟨T, lookC [(80, fc80), (81, fc81)], [], (Try.f55.body.getD .skip), Try.f55.results.toList, ⟨[.one .str], []⟩, ⟨[.one .bool], []⟩, [(6, ref05_Name_F6)]⟩
def ref05_Name_l6 (s : ByteArray) (i : Int) : (Option ((Bool × Unit) × Unit)) := ref05_Name_D.lab 6 ref05_Name_F6 ((s, i, ()), ())
theorem ref05_Name_l6_eq (s : ByteArray) (i : Int) : ref05_Name_l6 s i =
  if (decide (i < (s.size : Int))) = true then
    if 0 ≤ i ∧ i < (s.size : Int) then
      (ref05_inner (bt s i)).bind fun y1 =>
        if (!y1.1.1) = true then
          some ((false, ()), ())
        else
          ref05_Name_l6 s (IntKind.i64.wrap (i + 1))
    else
      none
  else
    some ((true, ()), ()) := (FD.lab_eq _ _ _ _).trans (by kernel_rfl)
def ref05_Name (s : ByteArray) : (Option ((Bool × Unit) × Unit)) :=
  if (decide ((s.size : Int) < 1)) = true then
    some ((false, ()), ())
  else
    if (decide ((s.size : Int) > 16)) = true then
      some ((false, ()), ())
    else
      if 0 ≤ (0 : Int) ∧ 0 < (s.size : Int) then
        (ref05_letter (bt s 0)).bind fun y1 =>
          if (!y1.1.1) = true then
            some ((false, ()), ())
          else
            ref05_Name_l6 s 0
      else
        none
def fc55 : FC := ⟨⟨[.one .str], []⟩, ⟨[.one .bool], []⟩, fun x => ref05_Name x.1.1⟩
theorem con55 : Contract Try.prog 55 fc55 :=
  ref05_Name_D.contract tok (cok_of (l := [(80, fc80), (81, fc81)]) ⟨con80, con81, trivial⟩) mixed (fn' := Try.f55) (by kernel_rfl) (by kernel_rfl) rfl (by kernel_rfl) (fun x => (FD.fn_eq _ _).trans (by kernel_rfl))
end
end Go.Proofs.Ytgjimkgehbppbab
end

section
/-
Ytgjimkgehbppbab: signalbench.signalbenchref36.top, as one plain function, its equations, its contract. No condition.
-/
set_option maxRecDepth 100000
set_option linter.unusedVariables false
set_option maxHeartbeats 4000000
open Go Go.AM
namespace Go.Proofs.Ytgjimkgehbppbab
noncomputable section
def ref36_top_D : FD := ⟨T, lookC [], [], (Try.f57.body.getD .skip), Try.f57.results.toList, ⟨[.one (.int .i64)], []⟩, ⟨[.one (.int .i64)], []⟩, []⟩
def ref36_top (port : Int) : (Option ((Int × Unit) × Unit)) :=
  if (port == 2) = true then
    some ((1, ()), ())
  else
    some ((255, ()), ())
def fc57 : FC := ⟨⟨[.one (.int .i64)], []⟩, ⟨[.one (.int .i64)], []⟩, fun x => ref36_top x.1.1⟩
theorem con57 : Contract Try.prog 57 fc57 :=
  ref36_top_D.contract tok (cok_of (l := []) trivial) mixed (fn' := Try.f57) (by kernel_rfl) (by kernel_rfl) rfl (by kernel_rfl) (fun x => (FD.fn_eq _ _).trans (by kernel_rfl))
end
end Go.Proofs.Ytgjimkgehbppbab
end

section
/-
Ytgjimkgehbppbab: signalbench.signalbenchref36.act, as one plain function, its equations, its contract. No condition.
-/
set_option maxRecDepth 100000
set_option linter.unusedVariables false
set_option maxHeartbeats 4000000
open Go Go.AM
namespace Go.Proofs.Ytgjimkgehbppbab
noncomputable section
def ref36_act_F3 : FSh := ⟨[(1, .one (.ptr 0 0)), (4, .one (.int .i64)), (5, .one .bool)], [.boxr (.cons (.int .i64) (.int .i64))]⟩
def ref36_act_F6 : FSh := ⟨[(1, .one (.ptr 0 0)), (4, .one (.int .i64)), (11, .one .bool)], [.boxr (.cons (.int .i64) (.int .i64))]⟩
def ref36_act_D : FD := ⟨T, lookC [], [6, 3], (Try.f82.body.getD .skip), Try.f82.results.toList, ⟨[.row (.cons (.int .i64) (.int .i64))], []⟩, ⟨[.one .bool], []⟩, [(3, ref36_act_F3), (6, ref36_act_F6)]⟩
def ref36_act_l3 (t4 : Int) (t5 : Bool) (h0 : TAct) : (Option ((Bool × Unit) × Unit)) := ref36_act_D.lab 3 ref36_act_F3 (((), t4, t5, ()), (h0, ()))
def ref36_act_l6 (t4 : Int) (t11 : Bool) (h0 : TAct) : (Option ((Bool × Unit) × Unit)) := ref36_act_D.lab 6 ref36_act_F6 (((), t4, t11, ()), (h0, ()))
theorem ref36_act_l3_eq (t4 : Int) (t5 : Bool) (h0 : TAct) : ref36_act_l3 t4 t5 h0 =
  if t5 = true then
    some ((h0.2 == 0, ()), ())
  else
    if (t4 == 3) = true then
      ref36_act_l6 t4 true h0
    else
      if (t4 == 4) = true then
        ref36_act_l6 t4 true h0
      else
        ref36_act_l6 t4 (t4 == 5) h0 := (FD.lab_eq _ _ _ _).trans (by kernel_rfl)
theorem ref36_act_l6_eq (t4 : Int) (t11 : Bool) (h0 : TAct) : ref36_act_l6 t4 t11 h0 =
  if t11 = true then
    if (decide (h0.2 ≥ 0)) = true then
      some ((decide (h0.2 ≤ 255), ()), ())
    else
      some ((false, ()), ())
  else
    if (t4 == 6) = true then
      if (decide (h0.2 ≥ 1)) = true then
        some ((decide (h0.2 ≤ 12), ()), ())
      else
        some ((false, ()), ())
    else
      some ((false, ()), ()) := (FD.lab_eq _ _ _ _).trans (by kernel_rfl)
def ref36_act (a : TAct) : (Option ((Bool × Unit) × Unit)) :=
  if (a.1 == 1) = true then
    ref36_act_l3 a.1 true a
  else
    ref36_act_l3 a.1 (a.1 == 2) a
def fc82 : FC := ⟨⟨[.row (.cons (.int .i64) (.int .i64))], []⟩, ⟨[.one .bool], []⟩, fun x => ref36_act x.1.1⟩
theorem con82 : Contract Try.prog 82 fc82 :=
  ref36_act_D.contract tok (cok_of (l := []) trivial) mixed (fn' := Try.f82) (by kernel_rfl) (by kernel_rfl) rfl (by kernel_rfl) (fun x => (FD.fn_eq _ _).trans (by kernel_rfl))
end
end Go.Proofs.Ytgjimkgehbppbab
end

section
/-
Ytgjimkgehbppbab: signalbench.signalbenchref36.cell, as one plain function, its equations, its contract. No condition.
-/
set_option maxRecDepth 100000
set_option linter.unusedVariables false
set_option maxHeartbeats 4000000
open Go Go.AM
namespace Go.Proofs.Ytgjimkgehbppbab
noncomputable section
def ref36_cell_F12 : FSh := ⟨[(4, .one (.ptr 0 0)), (7, .one (.int .i64))], [.boxr (.cons (.int .i64) (.cons (.int .i64) (.cons (.int .i64) (.sl (.cons (.int .i64) (.int .i64))))))]⟩
def ref36_cell_D : FD := ⟨T, lookC [(57, fc57), (82, fc82)], [], (Try.f56.body.getD .skip), Try.f56.results.toList, ⟨[.row (.cons .str (.cons (.int .i64) (.cons (.int .i64) (.sl (.sl (.cons (.int .i64) (.cons (.int .i64) (.cons (.int .i64) (.sl (.cons (.int .i64) (.int .i64))))))))))), .row (.cons (.int .i64) (.cons (.int .i64) (.cons (.int .i64) (.sl (.cons (.int .i64) (.int .i64)))))), .one (.int .i64)], []⟩, ⟨[.one (.int .i64)], []⟩, [(12, ref36_cell_F12)]⟩
def ref36_cell_l12 (i : Int) (h0 : TCell) : (Option ((Int × Unit) × Unit)) := ref36_cell_D.lab 12 ref36_cell_F12 (((), i, ()), (h0, ()))
theorem ref36_cell_l12_eq (i : Int) (h0 : TCell) : ref36_cell_l12 i h0 =
  if (decide (i < (h0.2.2.2.length : Int))) = true then
    if 0 ≤ i ∧ i < (h0.2.2.2.length : Int) then
      (ref36_act (h0.2.2.2.getD i.toNat dAct)).bind fun y1 =>
        if (!y1.1.1) = true then
          some ((2, ()), ())
        else
          ref36_cell_l12 (IntKind.i64.wrap (i + 1)) h0
    else
      none
  else
    some ((0, ()), ()) := (FD.lab_eq _ _ _ _).trans (by kernel_rfl)
def ref36_cell (t : TTable) (c : TCell) (before : Int) : (Option ((Int × Unit) × Unit)) :=
  if (decide ((c.2.2.2.length : Int) > 64)) = true then
    some ((6, ()), ())
  else
    if (c.1 != (IntKind.i64.wrap (before + 1))) = true then
      some ((7, ()), ())
    else
      if (decide (c.2.1 < c.1)) = true then
        some ((7, ()), ())
      else
        (ref36_top t.2.1).bind fun y1 =>
          if (decide (c.2.1 > y1.1.1)) = true then
            some ((7, ()), ())
          else
            if (decide (c.2.2.1 < 0)) = true then
              some ((8, ()), ())
            else
              if (decide (c.2.2.1 ≥ (t.2.2.2.length : Int))) = true then
                some ((8, ()), ())
              else
                ref36_cell_l12 0 c
def fc56 : FC := ⟨⟨[.row (.cons .str (.cons (.int .i64) (.cons (.int .i64) (.sl (.sl (.cons (.int .i64) (.cons (.int .i64) (.cons (.int .i64) (.sl (.cons (.int .i64) (.int .i64))))))))))), .row (.cons (.int .i64) (.cons (.int .i64) (.cons (.int .i64) (.sl (.cons (.int .i64) (.int .i64)))))), .one (.int .i64)], []⟩, ⟨[.one (.int .i64)], []⟩, fun x => ref36_cell x.1.1 x.1.2.1 x.1.2.2.1⟩
theorem con56 : Contract Try.prog 56 fc56 :=
  ref36_cell_D.contract tok (cok_of (l := [(57, fc57), (82, fc82)]) ⟨con57, con82, trivial⟩) mixed (fn' := Try.f56) (by kernel_rfl) (by kernel_rfl) rfl (by kernel_rfl) (fun x => (FD.fn_eq _ _).trans (by kernel_rfl))
end
end Go.Proofs.Ytgjimkgehbppbab
end

section
/-
Ytgjimkgehbppbab: signalbench.signalbenchref36.Check, as one plain function, its equations, its contract. No condition.
-/
set_option maxRecDepth 100000
set_option linter.unusedVariables false
set_option maxHeartbeats 4000000
open Go Go.AM
namespace Go.Proofs.Ytgjimkgehbppbab
noncomputable section
def ref36_Check_F12 : FSh := ⟨[(1, .one (.ptr 0 0)), (3, .one (.int .i64))], [.boxr (.cons .str (.cons (.int .i64) (.cons (.int .i64) (.sl (.sl (.cons (.int .i64) (.cons (.int .i64) (.cons (.int .i64) (.sl (.cons (.int .i64) (.int .i64)))))))))))]⟩
def ref36_Check_F19 : FSh := ⟨[(1, .one (.ptr 0 0)), (3, .one (.int .i64)), (4, .one (.int .i64)), (5, .one (.int .i64))], [.boxr (.cons .str (.cons (.int .i64) (.cons (.int .i64) (.sl (.sl (.cons (.int .i64) (.cons (.int .i64) (.cons (.int .i64) (.sl (.cons (.int .i64) (.int .i64)))))))))))]⟩
def ref36_Check_D : FD := ⟨T, lookC [(55, fc55), (56, fc56), (57, fc57)], [], (Try.f37.body.getD .skip), Try.f37.results.toList, ⟨[.row (.cons .str (.cons (.int .i64) (.cons (.int .i64) (.sl (.sl (.cons (.int .i64) (.cons (.int .i64) (.cons (.int .i64) (.sl (.cons (.int .i64) (.int .i64)))))))))))], []⟩, ⟨[.one (.int .i64)], []⟩, [(12, ref36_Check_F12), (19, ref36_Check_F19)]⟩
def ref36_Check_l12 (i : Int) (h0 : TTable) : (Option ((Int × Unit) × Unit)) := ref36_Check_D.lab 12 ref36_Check_F12 (((), i, ()), (h0, ()))
def ref36_Check_l19 (i : Int) (before : Int) (k0 : Int) (h0 : TTable) : (Option ((Int × Unit) × Unit)) := ref36_Check_D.lab 19 ref36_Check_F19 (((), i, before, k0, ()), (h0, ()))
theorem ref36_Check_l12_eq (i : Int) (h0 : TTable) : ref36_Check_l12 i h0 =
  if (decide (i < (h0.2.2.2.length : Int))) = true then
    ref36_Check_l19 i (-1) 0 h0
  else
    some ((0, ()), ()) := (FD.lab_eq _ _ _ _).trans (by kernel_rfl)
theorem ref36_Check_l19_eq (i : Int) (before : Int) (k0 : Int) (h0 : TTable) : ref36_Check_l19 i before k0 h0 =
  if 0 ≤ i ∧ i < (h0.2.2.2.length : Int) then
    if (decide (k0 < ((h0.2.2.2.getD i.toNat []).length : Int))) = true then
      if 0 ≤ i ∧ i < (h0.2.2.2.length : Int) then
        if 0 ≤ k0 ∧ k0 < ((h0.2.2.2.getD i.toNat []).length : Int) then
          (ref36_cell h0 ((h0.2.2.2.getD i.toNat []).getD k0.toNat dCell) before).bind fun y1 =>
            if (y1.1.1 != 0) = true then
              some ((y1.1.1, ()), ())
            else
              if 0 ≤ i ∧ i < (h0.2.2.2.length : Int) then
                if 0 ≤ k0 ∧ k0 < ((h0.2.2.2.getD i.toNat []).length : Int) then
                  ref36_Check_l19 i ((h0.2.2.2.getD i.toNat []).getD k0.toNat dCell).2.1 (IntKind.i64.wrap (k0 + 1)) h0
                else
                  none
              else
                none
        else
          none
      else
        none
    else
      (ref36_top h0.2.1).bind fun y2 =>
        if (before != y2.1.1) = true then
          some ((14, ()), ())
        else
          ref36_Check_l12 (IntKind.i64.wrap (i + 1)) h0
  else
    none := (FD.lab_eq _ _ _ _).trans (by kernel_rfl)
def ref36_Check (t : TTable) : (Option ((Int × Unit) × Unit)) :=
  (ref05_Name t.1).bind fun y1 =>
    if (!y1.1.1) = true then
      some ((4, ()), ())
    else
      if (t.2.1 != 2) = true then
        if (t.2.1 != 3) = true then
          some ((1, ()), ())
        else
          if (t.2.2.1 != 5) = true then
            if (t.2.2.1 != 6) = true then
              some ((1, ()), ())
            else
              if (decide ((t.2.2.2.length : Int) < 1)) = true then
                some ((6, ()), ())
              else
                if (decide ((t.2.2.2.length : Int) > 32)) = true then
                  some ((6, ()), ())
                else
                  ref36_Check_l12 0 t
          else
            if (decide ((t.2.2.2.length : Int) < 1)) = true then
              some ((6, ()), ())
            else
              if (decide ((t.2.2.2.length : Int) > 32)) = true then
                some ((6, ()), ())
              else
                ref36_Check_l12 0 t
      else
        if (t.2.2.1 != 5) = true then
          if (t.2.2.1 != 6) = true then
            some ((1, ()), ())
          else
            if (decide ((t.2.2.2.length : Int) < 1)) = true then
              some ((6, ()), ())
            else
              if (decide ((t.2.2.2.length : Int) > 32)) = true then
                some ((6, ()), ())
              else
                ref36_Check_l12 0 t
        else
          if (decide ((t.2.2.2.length : Int) < 1)) = true then
            some ((6, ()), ())
          else
            if (decide ((t.2.2.2.length : Int) > 32)) = true then
              some ((6, ()), ())
            else
              ref36_Check_l12 0 t
def fc37 : FC := ⟨⟨[.row (.cons .str (.cons (.int .i64) (.cons (.int .i64) (.sl (.sl (.cons (.int .i64) (.cons (.int .i64) (.cons (.int .i64) (.sl (.cons (.int .i64) (.int .i64)))))))))))], []⟩, ⟨[.one (.int .i64)], []⟩, fun x => ref36_Check x.1.1⟩
theorem con37 : Contract Try.prog 37 fc37 :=
  ref36_Check_D.contract tok (cok_of (l := [(55, fc55), (56, fc56), (57, fc57)]) ⟨con55, con56, con57, trivial⟩) mixed (fn' := Try.f37) (by kernel_rfl) (by kernel_rfl) rfl (by kernel_rfl) (fun x => (FD.fn_eq _ _).trans (by kernel_rfl))
end
end Go.Proofs.Ytgjimkgehbppbab
end

section
/-
Ytgjimkgehbppbab: signalbench.signalbenchref07.Valid, as one plain function, its equations, its contract. No condition.
-/
set_option maxRecDepth 100000
set_option linter.unusedVariables false
set_option maxHeartbeats 4000000
open Go Go.AM
namespace Go.Proofs.Ytgjimkgehbppbab
noncomputable section
def ref07_Valid_D : FD := ⟨T, lookC [], [], (Try.f58.body.getD .skip), Try.f58.results.toList, ⟨[.row (.cons (.int .i64) (.cons (.int .i64) (.cons (.int .i64) (.cons (.int .i64) (.cons (.int .i64) (.cons .str (.int .i64)))))))], []⟩, ⟨[.one .bool], []⟩, []⟩
def ref07_Valid (e0 : TEvent) : (Option ((Bool × Unit) × Unit)) :=
  if (decide (e0.1 < 1)) = true then
    some ((false, ()), ())
  else
    if (decide (e0.1 > 8)) = true then
      some ((false, ()), ())
    else
      if (decide (e0.2.1 < 0)) = true then
        some ((false, ()), ())
      else
        if (decide (e0.2.1 > e0.2.2.1)) = true then
          some ((false, ()), ())
        else
          if (decide (e0.2.2.1 > 1099511627776)) = true then
            some ((false, ()), ())
          else
            if (decide ((e0.2.2.2.2.2.1.size : Int) > 4096)) = true then
              some ((false, ()), ())
            else
              if (decide (e0.2.2.2.2.2.2 < 0)) = true then
                some ((false, ()), ())
              else
                if (decide (e0.2.2.2.2.2.2 > 12)) = true then
                  some ((false, ()), ())
                else
                  if (decide (e0.2.2.2.1 ≥ (-9007199254740992))) = true then
                    if (decide (e0.2.2.2.1 ≤ 9007199254740992)) = true then
                      if (decide (e0.2.2.2.2.1 ≥ (-9007199254740992))) = true then
                        some ((decide (e0.2.2.2.2.1 ≤ 9007199254740992), ()), ())
                      else
                        some ((false, ()), ())
                    else
                      some ((false, ()), ())
                  else
                    some ((false, ()), ())
def fc58 : FC := ⟨⟨[.row (.cons (.int .i64) (.cons (.int .i64) (.cons (.int .i64) (.cons (.int .i64) (.cons (.int .i64) (.cons .str (.int .i64)))))))], []⟩, ⟨[.one .bool], []⟩, fun x => ref07_Valid x.1.1⟩
theorem con58 : Contract Try.prog 58 fc58 :=
  ref07_Valid_D.contract tok (cok_of (l := []) trivial) mixed (fn' := Try.f58) (by kernel_rfl) (by kernel_rfl) rfl (by kernel_rfl) (fun x => (FD.fn_eq _ _).trans (by kernel_rfl))
end
end Go.Proofs.Ytgjimkgehbppbab
end

section
/-
Ytgjimkgehbppbab: signalbench.signalbenchref37.accepts, as one plain function, its equations, its contract. No condition.
-/
set_option maxRecDepth 100000
set_option linter.unusedVariables false
set_option maxHeartbeats 4000000
open Go Go.AM
namespace Go.Proofs.Ytgjimkgehbppbab
noncomputable section
def ref37_accepts_D : FD := ⟨T, lookC [(58, fc58)], [], (Try.f38.body.getD .skip), Try.f38.results.toList, ⟨[.one (.int .i64), .row (.cons (.int .i64) (.cons (.int .i64) (.cons (.int .i64) (.cons (.int .i64) (.cons (.int .i64) (.cons (.int .i64) (.cons (.int .i64) .str))))))), .row (.cons (.int .i64) (.cons (.int .i64) (.cons (.int .i64) (.cons (.int .i64) (.cons (.int .i64) (.cons .str (.int .i64)))))))], []⟩, ⟨[.one .bool], []⟩, []⟩
def ref37_accepts (input : Int) (s : TState) (e0 : TEvent) : (Option ((Bool × Unit) × Unit)) :=
  (ref07_Valid e0).bind fun y1 =>
    if (!y1.1.1) = true then
      some ((false, ()), ())
    else
      if (e0.1 != input) = true then
        some ((false, ()), ())
      else
        if (decide (e0.2.1 < s.2.1)) = true then
          some ((false, ()), ())
        else
          if (decide (e0.2.2.2.1 < 0)) = true then
            some ((false, ()), ())
          else
            if (decide (e0.2.2.2.1 > 255)) = true then
              some ((false, ()), ())
            else
              if (input == 3) = true then
                some ((true, ()), ())
              else
                some ((decide (e0.2.2.2.1 < 2), ()), ())
def fc38 : FC := ⟨⟨[.one (.int .i64), .row (.cons (.int .i64) (.cons (.int .i64) (.cons (.int .i64) (.cons (.int .i64) (.cons (.int .i64) (.cons (.int .i64) (.cons (.int .i64) .str))))))), .row (.cons (.int .i64) (.cons (.int .i64) (.cons (.int .i64) (.cons (.int .i64) (.cons (.int .i64) (.cons .str (.int .i64)))))))], []⟩, ⟨[.one .bool], []⟩, fun x => ref37_accepts x.1.1 x.1.2.1 x.1.2.2.1⟩
theorem con38 : Contract Try.prog 38 fc38 :=
  ref37_accepts_D.contract tok (cok_of (l := [(58, fc58)]) ⟨con58, trivial⟩) mixed (fn' := Try.f38) (by kernel_rfl) (by kernel_rfl) rfl (by kernel_rfl) (fun x => (FD.fn_eq _ _).trans (by kernel_rfl))
end
end Go.Proofs.Ytgjimkgehbppbab
end

section
/-
Ytgjimkgehbppbab: signalbench.signalbenchref37.aborted, as one plain function, its equations, its contract. No condition.
-/
set_option maxRecDepth 100000
set_option linter.unusedVariables false
set_option maxHeartbeats 4000000
open Go Go.AM
namespace Go.Proofs.Ytgjimkgehbppbab
noncomputable section
def ref37_aborted_F4 : FSh := ⟨[(0, .one (.int .i64)), (2, .one (.int .i64)), (4, .one (.ptr 0 0))], [.boxr (.cons (.int .i64) (.cons (.int .i64) (.cons (.int .i64) (.cons (.int .i64) (.cons (.int .i64) (.cons (.int .i64) (.cons (.int .i64) .str)))))))]⟩
def ref37_aborted_D : FD := ⟨T, lookC [], [4], (Try.f39.body.getD .skip), Try.f39.results.toList, ⟨[.one (.int .i64), .row (.cons (.int .i64) (.cons (.int .i64) (.cons (.int .i64) (.cons (.int .i64) (.cons (.int .i64) (.cons (.int .i64) (.cons (.int .i64) .str))))))), .one (.int .i64)], []⟩, ⟨[.one (.sl (.cons (.int .i64) (.cons (.int .i64) (.cons (.int .i64) (.cons (.int .i64) (.cons (.int .i64) (.cons .str (.int .i64))))))))], []⟩, [(4, ref37_aborted_F4)]⟩
def ref37_aborted_l4 (output : Int) (to_ : Int) (h0 : TState) : (Option (((List TEvent) × Unit) × Unit)) := ref37_aborted_D.lab 4 ref37_aborted_F4 ((output, to_, (), ()), (h0, ()))
theorem ref37_aborted_l4_eq (output : Int) (to_ : Int) (h0 : TState) : ref37_aborted_l4 output to_ h0 =
  some (([(output, h0.2.2.1, to_, 0, 0, (strB []), 7)], ()), ()) := (FD.lab_eq _ _ _ _).trans (by kernel_rfl)
def ref37_aborted (output : Int) (s : TState) (to_ : Int) : (Option (((List TEvent) × Unit) × Unit)) :=
  if (s.2.2.2.2.2.2.2.toList == (strB []).toList) = true then
    some (([], ()), ())
  else
    if (decide (to_ < s.2.2.1)) = true then
      ref37_aborted_l4 output s.2.2.1 s
    else
      ref37_aborted_l4 output to_ s
def fc39 : FC := ⟨⟨[.one (.int .i64), .row (.cons (.int .i64) (.cons (.int .i64) (.cons (.int .i64) (.cons (.int .i64) (.cons (.int .i64) (.cons (.int .i64) (.cons (.int .i64) .str))))))), .one (.int .i64)], []⟩, ⟨[.one (.sl (.cons (.int .i64) (.cons (.int .i64) (.cons (.int .i64) (.cons (.int .i64) (.cons (.int .i64) (.cons .str (.int .i64))))))))], []⟩, fun x => ref37_aborted x.1.1 x.1.2.1 x.1.2.2.1⟩
theorem con39 : Contract Try.prog 39 fc39 :=
  ref37_aborted_D.contract tok (cok_of (l := []) trivial) mixed (fn' := Try.f39) (by kernel_rfl) (by kernel_rfl) rfl (by kernel_rfl) (fun x => (FD.fn_eq _ _).trans (by kernel_rfl))
end
end Go.Proofs.Ytgjimkgehbppbab
end
