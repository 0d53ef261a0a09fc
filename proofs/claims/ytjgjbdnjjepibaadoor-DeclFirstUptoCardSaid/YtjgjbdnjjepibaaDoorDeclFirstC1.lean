/-
The plain functions of the program that the law DeclFirst reaches, that the program computes them, and what they come to. No condition.
-/
import Derived.Test.YtjgjbdnjjepibaaDoorRows
import Derived.Test.YtjgjbdnjjepibaaDoorChecked
import Derived.Lib.ItoaNum
import Derived.Lib.LaidTab
import Derived.WalkKit
import Derived.Laws.RangeString
import Derived.Laws.RangeAny
import Derived.LoopTactic
import Derived.Below
import Derived.Shelf.Strings.Builder1
import Derived.Shelf.Small.Strs
import Derived.Shelf.Strings.BuilderF
import Derived.Shelf.Strings.BuilderK
import Derived.Shelf.Strconv.Itoa0
import Derived.Shelf.Strconv.Itoa1
import Derived.Shelf.LaysM
import Derived.Shelf.Strconv.Itoa2
import Derived.Shelf.Strconv.Itoa3
import Derived.Shelf.Strings.Search1
import Derived.Shelf.Strings.BuilderCap
import Derived.Test.YtjgjbdnjjepibaaDoorProg
import Derived.Lib.Builder
import Derived.Lib.UnsafeStr
import Derived.Lib.Walk
import Derived.Laws.Externs
import Derived.Test.YtjgjbdnjjepibaaDoorAm1
import Derived.Test.YtjgjbdnjjepibaaDoorAm2
import Derived.Test.YtjgjbdnjjepibaaDoorAm3
set_option linter.unusedVariables false
set_option linter.unusedSimpArgs false
set_option linter.unusedSectionVars false

section
/-
YtjgjbdnjjepibaaDoor: the given measure of what is read is the machine's. No condition.
-/
namespace Go.Proofs.YtjgjbdnjjepibaaDoor
open Go

mutual
theorem bulk_eq {H : Type} : ∀ d : DataW H, Rows.uptoBulk d = AM.bulkW d
  | .lit (.string _) => by simp [Rows.uptoBulk, AM.bulkW]
  | .lit (.bool _) => by simp [Rows.uptoBulk, AM.bulkW]
  | .lit (.int _ _) => by simp [Rows.uptoBulk, AM.bulkW]
  | .lit (.float _ _) => by simp [Rows.uptoBulk, AM.bulkW]
  | .lit .nil => by simp [Rows.uptoBulk, AM.bulkW]
  | .nil => by simp [Rows.uptoBulk, AM.bulkW]
  | .ptr d => by simp [Rows.uptoBulk, AM.bulkW, bulk_eq d]
  | .slice a b => by simp [Rows.uptoBulk, AM.bulkW, bulkAll_eq a, bulkAll_eq b]
  | .agg a => by simp [Rows.uptoBulk, AM.bulkW, bulkAll_eq a]
  | .iface _ d => by simp [Rows.uptoBulk, AM.bulkW, bulk_eq d]
  | .map es => by simp [Rows.uptoBulk, AM.bulkW, bulkEntries_eq es]
  | .held _ => by simp [Rows.uptoBulk, AM.bulkW]
theorem bulkAll_eq {H : Type} : ∀ l : List (DataW H), Rows.uptoBulkAll l = AM.bulkAll l
  | [] => by simp [Rows.uptoBulkAll, AM.bulkAll]
  | d :: r => by simp [Rows.uptoBulkAll, AM.bulkAll, bulk_eq d, bulkAll_eq r]
theorem bulkEntries_eq {H : Type} : ∀ l : List (Lit × DataW H), Rows.uptoBulkEntries l = AM.bulkEntries l
  | [] => by simp [Rows.uptoBulkEntries, AM.bulkEntries]
  | x :: r => by simp [Rows.uptoBulkEntries, AM.bulkEntries, bulkEntry_eq x, bulkEntries_eq r]
theorem bulkEntry_eq {H : Type} : ∀ x : Lit × DataW H, Rows.uptoBulkEntry x = AM.bulkEntry x
  | (.string _, d) => by simp [Rows.uptoBulkEntry, AM.bulkEntry, bulk_eq d]
  | (.bool _, d) => by simp [Rows.uptoBulkEntry, AM.bulkEntry, bulk_eq d]
  | (.int _ _, d) => by simp [Rows.uptoBulkEntry, AM.bulkEntry, bulk_eq d]
  | (.float _ _, d) => by simp [Rows.uptoBulkEntry, AM.bulkEntry, bulk_eq d]
  | (.nil, d) => by simp [Rows.uptoBulkEntry, AM.bulkEntry, bulk_eq d]
end

theorem bulk_bound {H : Type} {l : List (DataW H)} (hk : Rows.uptoSmall H l = true) : AM.bulkAll l ≤ 1048576 := by
  rw [← bulkAll_eq]
  exact of_decide_eq_true hk

theorem own : ownKnob Tryd.prog.godebug = none := by kernel_rfl
theorem laidOut : laidOutB Tryd.prog = true := by kernel_rfl

end Go.Proofs.YtjgjbdnjjepibaaDoor
end

section
/-
YtjgjbdnjjepibaaDoor: the library's table that the row lists, as every state holds it. No condition.
-/
open Go Go.AM
namespace Go.Proofs.YtjgjbdnjjepibaaDoor
noncomputable section
def powCells : Array Value := (Lib.pow10Tab.map fun z => Value.int .u64 z).toArray
instance zoneI : Inhabited ZMem := ⟨fun b => if b = 1 then some powCells else none⟩

theorem zone_pow : Zone 1 = some powCells := rfl

theorem zone_tab {w : World} (h : HoldsB w 1 powCells) : Lib.TabIs Tryd.prog w "internal/strconv.uint64pow10" .u64 Lib.pow10Tab := by
  obtain ⟨t, fr, h⟩ := h
  unfold Lib.TabIs World.var?
  rw [show Tryd.prog.globalNamed "internal/strconv.uint64pow10" = some 1 by kernel_rfl]
  simp only [Option.bind_some]
  rw [h]
  rfl

theorem zone_met {w : World} (h : Lib.TabIs Tryd.prog w "internal/strconv.uint64pow10" .u64 Lib.pow10Tab) : ∀ (b : Nat) (o : Array Value), Zone b = some o → HoldsB w b o := by
  intro b o hz
  have hz' : (if b = 1 then some powCells else none) = some o := hz
  split at hz'
  · rename_i e
    subst e
    cases hz'
    unfold Lib.TabIs World.var? at h
    rw [show Tryd.prog.globalNamed "internal/strconv.uint64pow10" = some 1 by kernel_rfl] at h
    simp only [Option.bind_some] at h
    split at h
    · rename_i cs t fr hq
      cases h
      exact ⟨t, fr, hq⟩
    · cases h
  · cases hz'
end
end Go.Proofs.YtjgjbdnjjepibaaDoor
end

section
/-
YtjgjbdnjjepibaaDoor: the types that the functions use. No condition.
-/
set_option maxRecDepth 100000
open Go Go.AM
namespace Go.Proofs.YtjgjbdnjjepibaaDoor
noncomputable section
abbrev TAct : Type := Int × Int
abbrev uAct : U := (.cons (.int .i64) (.int .i64))
def dAct : TAct := (0, 0)
abbrev TRule : Type := Int × Int × ByteArray × Bool × (List TAct)
abbrev uRule : U := (.cons (.int .i64) (.cons (.int .i64) (.cons .str (.cons .bool (.sl (.cons (.int .i64) (.int .i64)))))))
def dRule : TRule := (0, (0, ((strB []), (false, []))))
abbrev TDeclState : Type := ByteArray × (List TRule) × Bool × TRule
abbrev uDeclState : U := (.cons .str (.cons (.sl (.cons (.int .i64) (.cons (.int .i64) (.cons .str (.cons .bool (.sl (.cons (.int .i64) (.int .i64)))))))) (.cons .bool (.cons (.int .i64) (.cons (.int .i64) (.cons .str (.cons .bool (.sl (.cons (.int .i64) (.int .i64))))))))))
def dDeclState : TDeclState := ((strB []), ([], (false, dRule)))
abbrev TDecl : Type := ByteArray × Int × Int × (List TDeclState)
abbrev uDecl : U := (.cons .str (.cons (.int .i64) (.cons (.int .i64) (.sl (.cons .str (.cons (.sl (.cons (.int .i64) (.cons (.int .i64) (.cons .str (.cons .bool (.sl (.cons (.int .i64) (.int .i64)))))))) (.cons .bool (.cons (.int .i64) (.cons (.int .i64) (.cons .str (.cons .bool (.sl (.cons (.int .i64) (.int .i64))))))))))))))
def dDecl : TDecl := ((strB []), (0, (0, [])))
abbrev TToken : Type := Int × ByteArray × TAct
abbrev uToken : U := (.cons (.int .i64) (.cons .str (.cons (.int .i64) (.int .i64))))
def dToken : TToken := (0, ((strB []), dAct))
abbrev Treader : Type := (List TToken) × TAct
abbrev ureader : U := (.cons (.sl (.cons (.int .i64) (.cons .str (.cons (.int .i64) (.int .i64))))) (.cons (.int .i64) (.int .i64)))
def dreader : Treader := ([], dAct)
def TL : List (Nat × TD) := [
  (3, ⟨.int .i64, 1, 8, [.val (.int .i64 0)], some (.int .i64), false, []⟩),
  (4, ⟨.bool, 1, 1, [.val (.bool false)], some .bool, false, []⟩),
  (5, ⟨.int .u8, 1, 1, [.val (.int .u8 0)], some (.int .u8), false, []⟩),
  (9, ⟨.string, 1, 16, [.val (.string ⟨#[]⟩)], some .str, false, []⟩),
  (21, ⟨.int .i32, 1, 4, [.val (.int .i32 0)], some (.int .i32), false, []⟩),
  (22, ⟨.slice 46, 1, 24, [.val (.slice none 0 0)], some (.sl (.cons .str (.cons (.sl (.cons (.int .i64) (.cons (.int .i64) (.cons .str (.cons .bool (.sl (.cons (.int .i64) (.int .i64)))))))) (.cons .bool (.cons (.int .i64) (.cons (.int .i64) (.cons .str (.cons .bool (.sl (.cons (.int .i64) (.int .i64))))))))))), false, []⟩),
  (24, ⟨(Tryd.t23.desc), 4, 56, [.val (.string ⟨#[]⟩), .val (.int .i64 0), .val (.int .i64 0), .val (.slice none 0 0)], some (.cons .str (.cons (.int .i64) (.cons (.int .i64) (.sl (.cons .str (.cons (.sl (.cons (.int .i64) (.cons (.int .i64) (.cons .str (.cons .bool (.sl (.cons (.int .i64) (.int .i64)))))))) (.cons .bool (.cons (.int .i64) (.cons (.int .i64) (.cons .str (.cons .bool (.sl (.cons (.int .i64) (.int .i64)))))))))))))), false, [(0, 1), (1, 1), (2, 1), (3, 1)]⟩),
  (27, ⟨.int .i64, 1, 8, [.val (.int .i64 0)], some (.int .i64), false, []⟩),
  (29, ⟨.array 2 3, 2, 16, [.val (.int .i64 0), .val (.int .i64 0)], some (.cons (.int .i64) (.int .i64)), false, []⟩),
  (31, ⟨.slice 54, 1, 24, [.val (.slice none 0 0)], some (.sl (.cons (.int .i64) (.int .i64))), false, []⟩),
  (33, ⟨(Tryd.t32.desc), 5, 64, [.val (.int .i64 0), .val (.int .i64 0), .val (.string ⟨#[]⟩), .val (.bool false), .val (.slice none 0 0)], some (.cons (.int .i64) (.cons (.int .i64) (.cons .str (.cons .bool (.sl (.cons (.int .i64) (.int .i64))))))), false, [(0, 1), (1, 1), (2, 1), (3, 1), (4, 1)]⟩),
  (44, ⟨.slice 33, 1, 24, [.val (.slice none 0 0)], some (.sl (.cons (.int .i64) (.cons (.int .i64) (.cons .str (.cons .bool (.sl (.cons (.int .i64) (.int .i64)))))))), false, []⟩),
  (46, ⟨(Tryd.t45.desc), 8, 112, [.val (.string ⟨#[]⟩), .val (.slice none 0 0), .val (.bool false), .val (.int .i64 0), .val (.int .i64 0), .val (.string ⟨#[]⟩), .val (.bool false), .val (.slice none 0 0)], some (.cons .str (.cons (.sl (.cons (.int .i64) (.cons (.int .i64) (.cons .str (.cons .bool (.sl (.cons (.int .i64) (.int .i64)))))))) (.cons .bool (.cons (.int .i64) (.cons (.int .i64) (.cons .str (.cons .bool (.sl (.cons (.int .i64) (.int .i64)))))))))), false, [(0, 1), (1, 1), (2, 1), (3, 5)]⟩),
  (54, ⟨(Tryd.t53.desc), 2, 16, [.val (.int .i64 0), .val (.int .i64 0)], some (.cons (.int .i64) (.int .i64)), true, [(0, 1), (1, 1)]⟩),
  (55, ⟨.pointer 58, 1, 8, [.val (.pointer none)], none, false, []⟩),
  (56, ⟨.slice 70, 1, 24, [.val (.slice none 0 0)], some (.sl (.cons (.int .i64) (.cons .str (.cons (.int .i64) (.int .i64))))), false, []⟩),
  (58, ⟨(Tryd.t57.desc), 1, 24, [.val (.slice none 0 0)], some (.sl (.cons (.int .i64) (.cons .str (.cons (.int .i64) (.int .i64))))), false, [(0, 1)]⟩),
  (66, ⟨.pointer 68, 1, 8, [.val (.pointer none)], none, false, []⟩),
  (68, ⟨(Tryd.t67.desc), 3, 40, [.val (.slice none 0 0), .val (.int .i64 0), .val (.int .i64 0)], some (.cons (.sl (.cons (.int .i64) (.cons .str (.cons (.int .i64) (.int .i64))))) (.cons (.int .i64) (.int .i64))), false, [(0, 1), (1, 1), (2, 1)]⟩),
  (70, ⟨(Tryd.t69.desc), 4, 40, [.val (.int .i64 0), .val (.string ⟨#[]⟩), .val (.int .i64 0), .val (.int .i64 0)], some (.cons (.int .i64) (.cons .str (.cons (.int .i64) (.int .i64)))), false, [(0, 1), (1, 1), (2, 1), (3, 1)]⟩),
  (79, ⟨.slice 9, 1, 24, [.val (.slice none 0 0)], some (.sl .str), false, []⟩),
  (81, ⟨.pointer 84, 1, 8, [.val (.pointer none)], none, false, []⟩),
  (82, ⟨.slice 5, 1, 24, [.val (.slice none 0 0)], some (.sl (.int .u8)), false, []⟩),
  (84, ⟨(Tryd.t83.desc), 2, 32, [.val (.pointer none), .val (.slice none 0 0)], none, false, [(0, 1), (1, 1)]⟩),
  (99, ⟨.array 7 9, 7, 112, [.val (.string ⟨#[]⟩), .val (.string ⟨#[]⟩), .val (.string ⟨#[]⟩), .val (.string ⟨#[]⟩), .val (.string ⟨#[]⟩), .val (.string ⟨#[]⟩), .val (.string ⟨#[]⟩)], some (.cons .str (.cons .str (.cons .str (.cons .str (.cons .str (.cons .str .str)))))), false, []⟩),
  (104, ⟨.pointer 5, 1, 8, [.val (.pointer none)], none, false, []⟩)]
def T : TT := lookT TL
theorem tokAll : AllT Tryd.prog TL := ⟨
  TOk.of Tryd.t3 (.int .i64 0) (by kernel_rfl) (by kernel_rfl) (by kernel_rfl) (by kernel_rfl) (by kernel_rfl) (by kernel_rfl) (fun fs h => nomatch h) (fun h => nomatch h),
  TOk.of Tryd.t4 (.bool false) (by kernel_rfl) (by kernel_rfl) (by kernel_rfl) (by kernel_rfl) (by kernel_rfl) (by kernel_rfl) (fun fs h => nomatch h) (fun h => nomatch h),
  TOk.of Tryd.t5 (.int .u8 0) (by kernel_rfl) (by kernel_rfl) (by kernel_rfl) (by kernel_rfl) (by kernel_rfl) (by kernel_rfl) (fun fs h => nomatch h) (fun h => nomatch h),
  TOk.of Tryd.t9 (.string ⟨#[]⟩) (by kernel_rfl) (by kernel_rfl) (by kernel_rfl) (by kernel_rfl) (by kernel_rfl) (by kernel_rfl) (fun fs h => nomatch h) (fun h => nomatch h),
  TOk.of Tryd.t21 (.int .i32 0) (by kernel_rfl) (by kernel_rfl) (by kernel_rfl) (by kernel_rfl) (by kernel_rfl) (by kernel_rfl) (fun fs h => nomatch h) (fun h => nomatch h),
  TOk.of Tryd.t22 (.slice none 0 0) (by kernel_rfl) (by kernel_rfl) (by kernel_rfl) (by kernel_rfl) (by kernel_rfl) (by kernel_rfl) (fun fs h => nomatch h) (fun h => nomatch h),
  TOk.of Tryd.t24 (.agg #[.string ⟨#[]⟩, .int .i64 0, .int .i64 0, .slice none 0 0]) (by kernel_rfl) (by kernel_rfl) (by kernel_rfl) (by kernel_rfl) (by kernel_rfl) (by kernel_rfl) (fun fs h => by cases h; kernel_rfl) (fun h => nomatch h),
  TOk.of Tryd.t27 (.int .i64 0) (by kernel_rfl) (by kernel_rfl) (by kernel_rfl) (by kernel_rfl) (by kernel_rfl) (by kernel_rfl) (fun fs h => nomatch h) (fun h => nomatch h),
  TOk.of Tryd.t29 (.agg #[.int .i64 0, .int .i64 0]) (by kernel_rfl) (by kernel_rfl) (by kernel_rfl) (by kernel_rfl) (by kernel_rfl) (by kernel_rfl) (fun fs h => nomatch h) (fun h => nomatch h),
  TOk.of Tryd.t31 (.slice none 0 0) (by kernel_rfl) (by kernel_rfl) (by kernel_rfl) (by kernel_rfl) (by kernel_rfl) (by kernel_rfl) (fun fs h => nomatch h) (fun h => nomatch h),
  TOk.of Tryd.t33 (.agg #[.int .i64 0, .int .i64 0, .string ⟨#[]⟩, .bool false, .slice none 0 0]) (by kernel_rfl) (by kernel_rfl) (by kernel_rfl) (by kernel_rfl) (by kernel_rfl) (by kernel_rfl) (fun fs h => by cases h; kernel_rfl) (fun h => nomatch h),
  TOk.of Tryd.t44 (.slice none 0 0) (by kernel_rfl) (by kernel_rfl) (by kernel_rfl) (by kernel_rfl) (by kernel_rfl) (by kernel_rfl) (fun fs h => nomatch h) (fun h => nomatch h),
  TOk.of Tryd.t46 (.agg #[.string ⟨#[]⟩, .slice none 0 0, .bool false, .int .i64 0, .int .i64 0, .string ⟨#[]⟩, .bool false, .slice none 0 0]) (by kernel_rfl) (by kernel_rfl) (by kernel_rfl) (by kernel_rfl) (by kernel_rfl) (by kernel_rfl) (fun fs h => by cases h; kernel_rfl) (fun h => nomatch h),
  TOk.of Tryd.t54 (.agg #[.int .i64 0, .int .i64 0]) (by kernel_rfl) (by kernel_rfl) (by kernel_rfl) (by kernel_rfl) (by kernel_rfl) (by kernel_rfl) (fun fs h => by cases h; kernel_rfl) (eq_ok (fs := (Tryd.prog.fieldsOf 54)) rfl (by kernel_rfl) (by kernel_rfl) (by kernel_rfl) (by kernel_rfl)),
  TOk.of Tryd.t55 (.pointer none) (by kernel_rfl) (by kernel_rfl) (by kernel_rfl) (by kernel_rfl) (by kernel_rfl) (by kernel_rfl) (fun fs h => nomatch h) (fun h => nomatch h),
  TOk.of Tryd.t56 (.slice none 0 0) (by kernel_rfl) (by kernel_rfl) (by kernel_rfl) (by kernel_rfl) (by kernel_rfl) (by kernel_rfl) (fun fs h => nomatch h) (fun h => nomatch h),
  TOk.of Tryd.t58 (.agg #[.slice none 0 0]) (by kernel_rfl) (by kernel_rfl) (by kernel_rfl) (by kernel_rfl) (by kernel_rfl) (by kernel_rfl) (fun fs h => by cases h; kernel_rfl) (fun h => nomatch h),
  TOk.of Tryd.t66 (.pointer none) (by kernel_rfl) (by kernel_rfl) (by kernel_rfl) (by kernel_rfl) (by kernel_rfl) (by kernel_rfl) (fun fs h => nomatch h) (fun h => nomatch h),
  TOk.of Tryd.t68 (.agg #[.slice none 0 0, .int .i64 0, .int .i64 0]) (by kernel_rfl) (by kernel_rfl) (by kernel_rfl) (by kernel_rfl) (by kernel_rfl) (by kernel_rfl) (fun fs h => by cases h; kernel_rfl) (fun h => nomatch h),
  TOk.of Tryd.t70 (.agg #[.int .i64 0, .string ⟨#[]⟩, .int .i64 0, .int .i64 0]) (by kernel_rfl) (by kernel_rfl) (by kernel_rfl) (by kernel_rfl) (by kernel_rfl) (by kernel_rfl) (fun fs h => by cases h; kernel_rfl) (fun h => nomatch h),
  TOk.of Tryd.t79 (.slice none 0 0) (by kernel_rfl) (by kernel_rfl) (by kernel_rfl) (by kernel_rfl) (by kernel_rfl) (by kernel_rfl) (fun fs h => nomatch h) (fun h => nomatch h),
  TOk.of Tryd.t81 (.pointer none) (by kernel_rfl) (by kernel_rfl) (by kernel_rfl) (by kernel_rfl) (by kernel_rfl) (by kernel_rfl) (fun fs h => nomatch h) (fun h => nomatch h),
  TOk.of Tryd.t82 (.slice none 0 0) (by kernel_rfl) (by kernel_rfl) (by kernel_rfl) (by kernel_rfl) (by kernel_rfl) (by kernel_rfl) (fun fs h => nomatch h) (fun h => nomatch h),
  TOk.of Tryd.t84 (.agg #[.pointer none, .slice none 0 0]) (by kernel_rfl) (by kernel_rfl) (by kernel_rfl) (by kernel_rfl) (by kernel_rfl) (by kernel_rfl) (fun fs h => by cases h; kernel_rfl) (fun h => nomatch h),
  TOk.of Tryd.t99 (.agg #[.string ⟨#[]⟩, .string ⟨#[]⟩, .string ⟨#[]⟩, .string ⟨#[]⟩, .string ⟨#[]⟩, .string ⟨#[]⟩, .string ⟨#[]⟩]) (by kernel_rfl) (by kernel_rfl) (by kernel_rfl) (by kernel_rfl) (by kernel_rfl) (by kernel_rfl) (fun fs h => nomatch h) (fun h => nomatch h),
  TOk.of Tryd.t104 (.pointer none) (by kernel_rfl) (by kernel_rfl) (by kernel_rfl) (by kernel_rfl) (by kernel_rfl) (by kernel_rfl) (fun fs h => nomatch h) (fun h => nomatch h),
  trivial⟩
theorem tok : TOK Tryd.prog T := tok_of tokAll
theorem mixed : Tryd.prog.follows .mixedOrders = true := by kernel_rfl
end
end Go.Proofs.YtjgjbdnjjepibaaDoor
end

section
/-
YtjgjbdnjjepibaaDoor: signalbench.decl.Find, as one plain function, its equations, its contract. No condition.
-/
set_option maxRecDepth 100000
set_option linter.unusedVariables false
set_option maxHeartbeats 4000000
open Go Go.AM
namespace Go.Proofs.YtjgjbdnjjepibaaDoor
noncomputable section
def decl_Find_F3 : FSh := ⟨[(1, .one .str), (8, .one (.sl (.cons .str (.cons (.sl (.cons (.int .i64) (.cons (.int .i64) (.cons .str (.cons .bool (.sl (.cons (.int .i64) (.int .i64)))))))) (.cons .bool (.cons (.int .i64) (.cons (.int .i64) (.cons .str (.cons .bool (.sl (.cons (.int .i64) (.int .i64)))))))))))), (9, .one (.int .i64)), (10, .one (.int .i64))], []⟩
def decl_Find_D : FD := ⟨T, lookC [], [], (Tryd.f16.body.getD .skip), Tryd.f16.results.toList, ⟨[.row (.cons .str (.cons (.int .i64) (.cons (.int .i64) (.sl (.cons .str (.cons (.sl (.cons (.int .i64) (.cons (.int .i64) (.cons .str (.cons .bool (.sl (.cons (.int .i64) (.int .i64)))))))) (.cons .bool (.cons (.int .i64) (.cons (.int .i64) (.cons .str (.cons .bool (.sl (.cons (.int .i64) (.int .i64)))))))))))))), .one .str], []⟩, ⟨[.one (.int .i64)], []⟩, [(3, decl_Find_F3)]⟩
def decl_Find_l3 (name : ByteArray) (t8 : (List TDeclState)) (t9 : Int) (t10 : Int) : (Option ((Int × Unit) × Unit)) := decl_Find_D.lab 3 decl_Find_F3 ((name, t8, t9, t10, ()), ())
theorem decl_Find_l3_eq (name : ByteArray) (t8 : (List TDeclState)) (t9 : Int) (t10 : Int) : decl_Find_l3 name t8 t9 t10 =
  if (decide (t10 < t9)) = true then
    if 0 ≤ t10 ∧ t10 < (t8.length : Int) then
      if ((t8.getD t10.toNat dDeclState).1.toList == name.toList) = true then
        some ((t10, ()), ())
      else
        decl_Find_l3 name t8 t9 (IntKind.i64.wrap (t10 + 1))
    else
      none
  else
    some (((-1), ()), ()) := (FD.lab_eq _ _ _ _).trans (by kernel_rfl)
def decl_Find (d : TDecl) (name : ByteArray) : (Option ((Int × Unit) × Unit)) :=
  decl_Find_l3 name d.2.2.2 (d.2.2.2.length : Int) 0
def fc16 : FC := ⟨⟨[.row (.cons .str (.cons (.int .i64) (.cons (.int .i64) (.sl (.cons .str (.cons (.sl (.cons (.int .i64) (.cons (.int .i64) (.cons .str (.cons .bool (.sl (.cons (.int .i64) (.int .i64)))))))) (.cons .bool (.cons (.int .i64) (.cons (.int .i64) (.cons .str (.cons .bool (.sl (.cons (.int .i64) (.int .i64)))))))))))))), .one .str], []⟩, ⟨[.one (.int .i64)], []⟩, fun x => decl_Find x.1.1 x.1.2.1⟩
theorem con16 : Contract Tryd.prog 16 fc16 :=
  decl_Find_D.contract tok (cok_of (l := []) trivial) mixed (fn' := Tryd.f16) (by kernel_rfl) (by kernel_rfl) rfl (by kernel_rfl) (fun x => (FD.fn_eq _ _).trans (by kernel_rfl))
end
end Go.Proofs.YtjgjbdnjjepibaaDoor
end

section
/-
YtjgjbdnjjepibaaDoor: signalbench.decl.most, as one plain function, its equations, its contract. No condition.
-/
set_option maxRecDepth 100000
set_option linter.unusedVariables false
set_option maxHeartbeats 4000000
open Go Go.AM
namespace Go.Proofs.YtjgjbdnjjepibaaDoor
noncomputable section
def decl_most_D : FD := ⟨T, lookC [], [], (Tryd.f39.body.getD .skip), Tryd.f39.results.toList, ⟨[.row (.cons .str (.cons (.int .i64) (.cons (.int .i64) (.sl (.cons .str (.cons (.sl (.cons (.int .i64) (.cons (.int .i64) (.cons .str (.cons .bool (.sl (.cons (.int .i64) (.int .i64)))))))) (.cons .bool (.cons (.int .i64) (.cons (.int .i64) (.cons .str (.cons .bool (.sl (.cons (.int .i64) (.int .i64))))))))))))))], []⟩, ⟨[.one (.int .i64)], []⟩, []⟩
def decl_most (d : TDecl) : (Option ((Int × Unit) × Unit)) :=
  if (d.2.1 == 2) = true then
    some ((1, ()), ())
  else
    some ((255, ()), ())
def fc39 : FC := ⟨⟨[.row (.cons .str (.cons (.int .i64) (.cons (.int .i64) (.sl (.cons .str (.cons (.sl (.cons (.int .i64) (.cons (.int .i64) (.cons .str (.cons .bool (.sl (.cons (.int .i64) (.int .i64)))))))) (.cons .bool (.cons (.int .i64) (.cons (.int .i64) (.cons .str (.cons .bool (.sl (.cons (.int .i64) (.int .i64))))))))))))))], []⟩, ⟨[.one (.int .i64)], []⟩, fun x => decl_most x.1.1⟩
theorem con39 : Contract Tryd.prog 39 fc39 :=
  decl_most_D.contract tok (cok_of (l := []) trivial) mixed (fn' := Tryd.f39) (by kernel_rfl) (by kernel_rfl) rfl (by kernel_rfl) (fun x => (FD.fn_eq _ _).trans (by kernel_rfl))
end
end Go.Proofs.YtjgjbdnjjepibaaDoor
end

section
/-
YtjgjbdnjjepibaaDoor: signalbench.decl.act, as one plain function, its equations, its contract. No condition.
-/
set_option maxRecDepth 100000
set_option linter.unusedVariables false
set_option maxHeartbeats 4000000
open Go Go.AM
namespace Go.Proofs.YtjgjbdnjjepibaaDoor
noncomputable section
def decl_act_F3 : FSh := ⟨[(1, .one (.ptr 0 0)), (4, .one (.int .i64)), (5, .one .bool)], [.boxr 54 (.cons (.int .i64) (.int .i64))]⟩
def decl_act_F7 : FSh := ⟨[(1, .one (.ptr 0 0)), (4, .one (.int .i64)), (11, .one .bool)], [.boxr 54 (.cons (.int .i64) (.int .i64))]⟩
def decl_act_D : FD := ⟨T, lookC [], [7, 3], (Tryd.f56.body.getD .skip), Tryd.f56.results.toList, ⟨[.row (.cons (.int .i64) (.int .i64))], []⟩, ⟨[.one (.int .i64)], []⟩, [(3, decl_act_F3), (7, decl_act_F7)]⟩
def decl_act_l3 (t4 : Int) (t5 : Bool) (h0 : TAct) : (Option ((Int × Unit) × Unit)) := decl_act_D.lab 3 decl_act_F3 (((), t4, t5, ()), (h0, ()))
def decl_act_l7 (t4 : Int) (t11 : Bool) (h0 : TAct) : (Option ((Int × Unit) × Unit)) := decl_act_D.lab 7 decl_act_F7 (((), t4, t11, ()), (h0, ()))
theorem decl_act_l3_eq (t4 : Int) (t5 : Bool) (h0 : TAct) : decl_act_l3 t4 t5 h0 =
  if t5 = true then
    if (h0.2 != 0) = true then
      some ((1, ()), ())
    else
      some ((0, ()), ())
  else
    if (t4 == 3) = true then
      decl_act_l7 t4 true h0
    else
      if (t4 == 4) = true then
        decl_act_l7 t4 true h0
      else
        decl_act_l7 t4 (t4 == 5) h0 := (FD.lab_eq _ _ _ _).trans (by kernel_rfl)
theorem decl_act_l7_eq (t4 : Int) (t11 : Bool) (h0 : TAct) : decl_act_l7 t4 t11 h0 =
  if t11 = true then
    if (decide (h0.2 < 0)) = true then
      some ((2, ()), ())
    else
      if (decide (h0.2 > 255)) = true then
        some ((2, ()), ())
      else
        some ((0, ()), ())
  else
    if (t4 == 6) = true then
      if (decide (h0.2 < 1)) = true then
        some ((2, ()), ())
      else
        if (decide (h0.2 > 12)) = true then
          some ((2, ()), ())
        else
          some ((0, ()), ())
    else
      some ((1, ()), ()) := (FD.lab_eq _ _ _ _).trans (by kernel_rfl)
def decl_act (a : TAct) : (Option ((Int × Unit) × Unit)) :=
  if (a.1 == 1) = true then
    decl_act_l3 a.1 true a
  else
    decl_act_l3 a.1 (a.1 == 2) a
def fc56 : FC := ⟨⟨[.row (.cons (.int .i64) (.int .i64))], []⟩, ⟨[.one (.int .i64)], []⟩, fun x => decl_act x.1.1⟩
theorem con56 : Contract Tryd.prog 56 fc56 :=
  decl_act_D.contract tok (cok_of (l := []) trivial) mixed (fn' := Tryd.f56) (by kernel_rfl) (by kernel_rfl) rfl (by kernel_rfl) (fun x => (FD.fn_eq _ _).trans (by kernel_rfl))
end
end Go.Proofs.YtjgjbdnjjepibaaDoor
end

section
/-
YtjgjbdnjjepibaaDoor: signalbench.decl.target, as one plain function, its equations, its contract. No condition.
-/
set_option maxRecDepth 100000
set_option linter.unusedVariables false
set_option maxHeartbeats 4000000
open Go Go.AM
namespace Go.Proofs.YtjgjbdnjjepibaaDoor
noncomputable section
def decl_target_F9 : FSh := ⟨[(18, .one (.sl (.cons (.int .i64) (.int .i64)))), (19, .one (.int .i64)), (20, .one (.int .i64))], []⟩
def decl_target_D : FD := ⟨T, lookC [(16, fc16), (56, fc56)], [], (Tryd.f40.body.getD .skip), Tryd.f40.results.toList, ⟨[.row (.cons .str (.cons (.int .i64) (.cons (.int .i64) (.sl (.cons .str (.cons (.sl (.cons (.int .i64) (.cons (.int .i64) (.cons .str (.cons .bool (.sl (.cons (.int .i64) (.int .i64)))))))) (.cons .bool (.cons (.int .i64) (.cons (.int .i64) (.cons .str (.cons .bool (.sl (.cons (.int .i64) (.int .i64)))))))))))))), .row (.cons (.int .i64) (.cons (.int .i64) (.cons .str (.cons .bool (.sl (.cons (.int .i64) (.int .i64)))))))], []⟩, ⟨[.one (.int .i64)], []⟩, [(9, decl_target_F9)]⟩
def decl_target_l9 (t18 : (List TAct)) (t19 : Int) (t20 : Int) : (Option ((Int × Unit) × Unit)) := decl_target_D.lab 9 decl_target_F9 ((t18, t19, t20, ()), ())
theorem decl_target_l9_eq (t18 : (List TAct)) (t19 : Int) (t20 : Int) : decl_target_l9 t18 t19 t20 =
  if (decide (t20 < t19)) = true then
    if 0 ≤ t20 ∧ t20 < (t18.length : Int) then
      (decl_act (t18.getD t20.toNat dAct)).bind fun y1 =>
        if (y1.1.1 != 0) = true then
          some ((y1.1.1, ()), ())
        else
          decl_target_l9 t18 t19 (IntKind.i64.wrap (t20 + 1))
    else
      none
  else
    some ((0, ()), ()) := (FD.lab_eq _ _ _ _).trans (by kernel_rfl)
def decl_target (d : TDecl) (r : TRule) : (Option ((Int × Unit) × Unit)) :=
  (decl_Find d r.2.2.1).bind fun y1 =>
    if (decide (y1.1.1 < 0)) = true then
      some ((8, ()), ())
    else
      if (decide ((r.2.2.2.2.length : Int) > 8)) = true then
        some ((6, ()), ())
      else
        decl_target_l9 r.2.2.2.2 (r.2.2.2.2.length : Int) 0
def fc40 : FC := ⟨⟨[.row (.cons .str (.cons (.int .i64) (.cons (.int .i64) (.sl (.cons .str (.cons (.sl (.cons (.int .i64) (.cons (.int .i64) (.cons .str (.cons .bool (.sl (.cons (.int .i64) (.int .i64)))))))) (.cons .bool (.cons (.int .i64) (.cons (.int .i64) (.cons .str (.cons .bool (.sl (.cons (.int .i64) (.int .i64)))))))))))))), .row (.cons (.int .i64) (.cons (.int .i64) (.cons .str (.cons .bool (.sl (.cons (.int .i64) (.int .i64)))))))], []⟩, ⟨[.one (.int .i64)], []⟩, fun x => decl_target x.1.1 x.1.2.1⟩
theorem con40 : Contract Tryd.prog 40 fc40 :=
  decl_target_D.contract tok (cok_of (l := [(16, fc16), (56, fc56)]) ⟨con16, con56, trivial⟩) mixed (fn' := Tryd.f40) (by kernel_rfl) (by kernel_rfl) rfl (by kernel_rfl) (fun x => (FD.fn_eq _ _).trans (by kernel_rfl))
end
end Go.Proofs.YtjgjbdnjjepibaaDoor
end

section
/-
YtjgjbdnjjepibaaDoor: signalbench.decl.rules, as one plain function, its equations, its contract. No condition.
-/
set_option maxRecDepth 100000
set_option linter.unusedVariables false
set_option maxHeartbeats 4000000
open Go Go.AM
namespace Go.Proofs.YtjgjbdnjjepibaaDoor
noncomputable section
def decl_rules_F3 : FSh := ⟨[(2, .one (.ptr 0 0)), (3, .one (.ptr 1 0)), (10, .one (.sl (.cons (.int .i64) (.cons (.int .i64) (.cons .str (.cons .bool (.sl (.cons (.int .i64) (.int .i64))))))))), (11, .one (.int .i64)), (12, .one (.int .i64))], [.boxr 24 (.cons .str (.cons (.int .i64) (.cons (.int .i64) (.sl (.cons .str (.cons (.sl (.cons (.int .i64) (.cons (.int .i64) (.cons .str (.cons .bool (.sl (.cons (.int .i64) (.int .i64)))))))) (.cons .bool (.cons (.int .i64) (.cons (.int .i64) (.cons .str (.cons .bool (.sl (.cons (.int .i64) (.int .i64)))))))))))))), .boxr 46 (.cons .str (.cons (.sl (.cons (.int .i64) (.cons (.int .i64) (.cons .str (.cons .bool (.sl (.cons (.int .i64) (.int .i64)))))))) (.cons .bool (.cons (.int .i64) (.cons (.int .i64) (.cons .str (.cons .bool (.sl (.cons (.int .i64) (.int .i64))))))))))]⟩
def decl_rules_D : FD := ⟨T, lookC [(39, fc39), (40, fc40)], [], (Tryd.f24.body.getD .skip), Tryd.f24.results.toList, ⟨[.row (.cons .str (.cons (.int .i64) (.cons (.int .i64) (.sl (.cons .str (.cons (.sl (.cons (.int .i64) (.cons (.int .i64) (.cons .str (.cons .bool (.sl (.cons (.int .i64) (.int .i64)))))))) (.cons .bool (.cons (.int .i64) (.cons (.int .i64) (.cons .str (.cons .bool (.sl (.cons (.int .i64) (.int .i64)))))))))))))), .row (.cons .str (.cons (.sl (.cons (.int .i64) (.cons (.int .i64) (.cons .str (.cons .bool (.sl (.cons (.int .i64) (.int .i64)))))))) (.cons .bool (.cons (.int .i64) (.cons (.int .i64) (.cons .str (.cons .bool (.sl (.cons (.int .i64) (.int .i64))))))))))], []⟩, ⟨[.one (.int .i64)], []⟩, [(3, decl_rules_F3)]⟩
def decl_rules_l3 (t10 : (List TRule)) (t11 : Int) (t12 : Int) (h0 : TDecl) (h1 : TDeclState) : (Option ((Int × Unit) × Unit)) := decl_rules_D.lab 3 decl_rules_F3 (((), (), t10, t11, t12, ()), (h0, h1, ()))
theorem decl_rules_l3_eq (t10 : (List TRule)) (t11 : Int) (t12 : Int) (h0 : TDecl) (h1 : TDeclState) : decl_rules_l3 t10 t11 t12 h0 h1 =
  if (decide (t12 < t11)) = true then
    if 0 ≤ t12 ∧ t12 < (t10.length : Int) then
      if (decide ((t10.getD t12.toNat dRule).1 < 0)) = true then
        some ((2, ()), ())
      else
        if (decide ((t10.getD t12.toNat dRule).1 > (t10.getD t12.toNat dRule).2.1)) = true then
          some ((2, ()), ())
        else
          (decl_most h0).bind fun y1 =>
            if (decide ((t10.getD t12.toNat dRule).2.1 > y1.1.1)) = true then
              some ((2, ()), ())
            else
              (decl_target h0 (t10.getD t12.toNat dRule)).bind fun y2 =>
                if (y2.1.1 != 0) = true then
                  some ((y2.1.1, ()), ())
                else
                  decl_rules_l3 t10 t11 (IntKind.i64.wrap (t12 + 1)) h0 h1
    else
      none
  else
    if h1.2.2.1 = true then
      if (h1.2.2.2.1 != 0) = true then
        some ((1, ()), ())
      else
        if (h1.2.2.2.2.1 != 0) = true then
          some ((1, ()), ())
        else
          (decl_target h0 h1.2.2.2).bind fun y3 =>
            some ((y3.1.1, ()), ())
    else
      if (h1.2.2.2.1 != 0) = true then
        some ((1, ()), ())
      else
        if (h1.2.2.2.2.1 != 0) = true then
          some ((1, ()), ())
        else
          if (!(h1.2.2.2.2.2.1.toList == (strB []).toList)) = true then
            some ((1, ()), ())
          else
            if h1.2.2.2.2.2.2.1 = true then
              some ((1, ()), ())
            else
              if (decide ((h1.2.2.2.2.2.2.2.length : Int) > 0)) = true then
                some ((1, ()), ())
              else
                some ((0, ()), ()) := (FD.lab_eq _ _ _ _).trans (by kernel_rfl)
def decl_rules (d : TDecl) (s : TDeclState) : (Option ((Int × Unit) × Unit)) :=
  decl_rules_l3 s.2.1 (s.2.1.length : Int) 0 d s
def fc24 : FC := ⟨⟨[.row (.cons .str (.cons (.int .i64) (.cons (.int .i64) (.sl (.cons .str (.cons (.sl (.cons (.int .i64) (.cons (.int .i64) (.cons .str (.cons .bool (.sl (.cons (.int .i64) (.int .i64)))))))) (.cons .bool (.cons (.int .i64) (.cons (.int .i64) (.cons .str (.cons .bool (.sl (.cons (.int .i64) (.int .i64)))))))))))))), .row (.cons .str (.cons (.sl (.cons (.int .i64) (.cons (.int .i64) (.cons .str (.cons .bool (.sl (.cons (.int .i64) (.int .i64)))))))) (.cons .bool (.cons (.int .i64) (.cons (.int .i64) (.cons .str (.cons .bool (.sl (.cons (.int .i64) (.int .i64))))))))))], []⟩, ⟨[.one (.int .i64)], []⟩, fun x => decl_rules x.1.1 x.1.2.1⟩
theorem con24 : Contract Tryd.prog 24 fc24 :=
  decl_rules_D.contract tok (cok_of (l := [(39, fc39), (40, fc40)]) ⟨con39, con40, trivial⟩) mixed (fn' := Tryd.f24) (by kernel_rfl) (by kernel_rfl) rfl (by kernel_rfl) (fun x => (FD.fn_eq _ _).trans (by kernel_rfl))
end
end Go.Proofs.YtjgjbdnjjepibaaDoor
end

section
/-
YtjgjbdnjjepibaaDoor: decl.name, by a walk: it tells whether a string is a name; the iterator is new memory. No condition.
-/
open Go Go.AM Go.RowKit
variable [Inhabited ZMem]
namespace Go.Proofs.YtjgjbdnjjepibaaDoor

/-- The bytes up to here may begin a name. -/
def NameTo (s : ByteArray) (pos : Nat) : Prop := pos ≤ s.size ∧ ((L s).take pos).all wordB = true ∧ (pos = 0 ∨ ∃ c r, L s = c :: r ∧ letterB c = true)

theorem rune_at (s : ByteArray) (pos : Nat) (hp : pos < s.size) : ∃ (b : UInt8) (r wd : Nat), (L s)[pos]? = some b ∧ Utf8.decode s pos = (r, wd) ∧ 1 ≤ wd ∧ ((b.toNat < 128 ∧ r = b.toNat ∧ wd = 1) ∨ (128 ≤ b.toNat ∧ 128 ≤ r)) := by
  refine ⟨s[pos]'hp, (Utf8.decode s pos).1, (Utf8.decode s pos).2, ?_, rfl, ?_, ?_⟩
  · have : pos < (L s).length := by rw [L_len]; exact hp
    rw [List.getElem?_eq_getElem this]
    rfl
  · by_cases ha : (s[pos]'hp).toNat < 128
    · rw [decode_ascii s pos hp ha]; exact Nat.le_refl _
    · exact (decode_high s pos hp (by omega)).2
  · by_cases ha : (s[pos]'hp).toNat < 128
    · rw [decode_ascii s pos hp ha]; exact .inl ⟨ha, rfl, rfl⟩
    · exact .inr ⟨by omega, (decode_high s pos hp (by omega)).1⟩

theorem wordB_num {b : UInt8} : wordB b = true ↔ ((97 ≤ b.toNat ∧ b.toNat ≤ 122) ∨ (48 ≤ b.toNat ∧ b.toNat ≤ 57) ∨ b.toNat = 95) := by
  have : b = 95 ↔ b.toNat = 95 := by rw [← UInt8.toNat_inj]; rfl
  simp [wordB, letterB, digitB, this, or_assoc]

theorem letterB_num {b : UInt8} : letterB b = true ↔ (97 ≤ b.toNat ∧ b.toNat ≤ 122) := by simp [letterB]

theorem name_needs {s : ByteArray} {pos : Nat} {b : UInt8} (h : nameB (L s) = true) (hb : (L s)[pos]? = some b) : (97 ≤ b.toNat ∧ b.toNat ≤ 122) ∨ (pos ≠ 0 ∧ ((48 ≤ b.toNat ∧ b.toNat ≤ 57) ∨ b.toNat = 95)) := by
  cases hL : L s with
  | nil => rw [hL] at hb; simp at hb
  | cons c r =>
    rw [hL, nameB_cons] at h
    simp only [Bool.and_eq_true] at h
    have h1 := List.all_eq_true.1 h.2 b (by rw [hL] at hb; exact List.mem_of_getElem? hb)
    rcases wordB_num.1 h1 with h2 | h2
    · exact .inl h2
    · by_cases hp : pos = 0
      · subst hp
        rw [hL] at hb
        simp only [List.getElem?_cons_zero, Option.some.injEq] at hb
        subst hb
        exact .inl (letterB_num.1 h.1.2)
      · exact .inr ⟨hp, h2⟩

theorem NameTo.step {s : ByteArray} {pos : Nat} {b : UInt8} (h : NameTo s pos) (hb : (L s)[pos]? = some b) (hk : (97 ≤ b.toNat ∧ b.toNat ≤ 122) ∨ (pos ≠ 0 ∧ ((48 ≤ b.toNat ∧ b.toNat ≤ 57) ∨ b.toNat = 95))) : NameTo s (pos + 1) := by
  have hlt : pos < (L s).length := (List.getElem?_eq_some_iff.1 hb).1
  have hlt' := hlt
  rw [L_len] at hlt'
  refine ⟨by omega, ?_, .inr ?_⟩
  · rw [List.take_add_one, hb, List.all_append, h.2.1]
    simp only [Option.toList_some, Bool.true_and, List.all_cons, List.all_nil, Bool.and_true]
    refine wordB_num.2 ?_
    omega
  · rcases h.2.2 with h0 | h0
    · subst h0
      cases hL : L s with
      | nil => rw [hL] at hb; simp at hb
      | cons c r =>
        rw [hL] at hb
        simp only [List.getElem?_cons_zero, Option.some.injEq] at hb
        subst hb
        exact ⟨c, r, rfl, letterB_num.2 (by omega)⟩
    · exact h0

theorem NameTo.whole {s : ByteArray} (h : NameTo s s.size) (h0 : s.size ≠ 0) (h16 : s.size ≤ 16) : nameB (L s) = true := by
  obtain ⟨_, h2, h3⟩ := h
  rcases h3 with h3 | ⟨c, r, hL, hc⟩
  · exact absurd h3 h0
  · rw [← L_len, List.take_length, hL] at h2
    have hl := size_of hL
    simp only [List.length_cons] at hl
    rw [hL, nameB_cons, hc, h2, decide_eq_true (by omega : r.length + 1 ≤ 16)]
    rfl

theorem iter_below (s : ByteArray) (w : World) (pos : Nat) : Below w.heap.size w (w.iter s pos) := (Below.refl _ _).alloc (Nat.le_refl _) _

theorem name_false {s : ByteArray} (h : nameB (L s) ≠ true) : nameB (L s) = false := by
  cases e : nameB (L s)
  · rfl
  · exact absurd e h

set_option maxRecDepth 1000000 in
theorem name_loop (s : ByteArray) (w : World) (h1 : ¬ s.toList = []) (h1' : s.toList.isEmpty = false) (h0 : s.size ≠ 0) (h2 : ¬ (16 : Int) < s.size) :
    Calls Tryd.prog 23 #[.string s] w fun e w' => e = .returned (.bool (nameB (L s))) ∧ Below w.heap.size w w' := by
  go_enter Tryd.func23, Tryd.ntmps23
  go_wp2
  go_loopw [] (fun w' => ∃ pos : Nat, w' = w.iter s pos ∧ NameTo s pos) (fun w' => s.size - w'.iterPos w.heap.size)
  case atStart => exact ⟨0, rfl, by omega, rfl, .inl rfl⟩
  case round =>
    obtain ⟨pos, rfl, hg⟩ := hrel
    by_cases hp : pos < s.size
    · obtain ⟨b, r, wd, hb, hd, hwd, hcase⟩ := rune_at s pos hp
      have hnx : ∀ ty, (Instr.next (.pointer (some ⟨w.heap.size, 0, none⟩)) true ty).run Tryd.prog (w.iter s pos) = .ok (.tuple #[.bool true, .int .i64 pos, .int .i32 r]) (w.iter s (pos + wd)) := fun ty => by
        rw [run_next_any w s pos ty hp, hd]
      clear hd
      go_wp2
      all_goals try simp only [beq_iff_eq, bne_iff_ne, ne_eq, Bool.not_eq_true', decide_eq_false_iff_not, decide_eq_true_eq, Bool.not_eq_false', beq_eq_false_iff_ne, bne_eq_false_iff_eq, Int.natCast_eq_zero] at *
      all_goals first
        | (go_ret
           refine ⟨?_, iter_below _ _ _⟩
           rw [name_false (fun hn => by have := name_needs hn hb; omega)]
           rfl)
        | (have hk : (97 ≤ b.toNat ∧ b.toNat ≤ 122) ∨ (pos ≠ 0 ∧ ((48 ≤ b.toNat ∧ b.toNat ≤ 57) ∨ b.toNat = 95)) := by omega
           have hw1 : wd = 1 := by omega
           subst hw1
           refine ⟨⟨pos + 1, ?_, hg.step hb hk⟩, ?_⟩
           · first | rfl | (subst_vars; rfl)
           · simp; omega)
    · have hnx : ∀ ty, (Instr.next (.pointer (some ⟨w.heap.size, 0, none⟩)) true ty).run Tryd.prog (w.iter s pos) = _ := fun ty => run_next_end w s pos ty hp
      go_wp2
      go_ret
      have hps : pos = s.size := by have := hg.1; omega
      subst hps
      rw [hg.whole h0 (by omega)]
      exact ⟨rfl, iter_below _ _ _⟩

set_option maxRecDepth 1000000 in
theorem name_none (s : ByteArray) (w : World) (h1 : s.toList = []) :
    Calls Tryd.prog 23 #[.string s] w fun e w' => e = .returned (.bool false) ∧ w' = w := by
  go_enter Tryd.func23, Tryd.ntmps23
  go_wp2
  all_goals first
    | (go_ret; exact ⟨rfl, rfl⟩)
    | (rename_i q; exact absurd h1 q)

set_option maxRecDepth 1000000 in
theorem name_long (s : ByteArray) (w : World) (h1 : ¬ s.toList = []) (h1' : s.toList.isEmpty = false) (h2 : (16 : Int) < s.size) :
    Calls Tryd.prog 23 #[.string s] w fun e w' => e = .returned (.bool false) ∧ w' = w := by
  go_enter Tryd.func23, Tryd.ntmps23
  go_wp2
  go_ret
  exact ⟨rfl, rfl⟩

theorem name_any (s : ByteArray) (w : World) : Calls Tryd.prog 23 #[.string s] w fun e w' => e = .returned (.bool (nameB (L s))) ∧ Below w.heap.size w w' := by
  cases hL : L s with
  | nil =>
    refine (name_none s w (by rw [toL]; exact hL)).mono ?_
    rintro e w' ⟨rfl, rfl⟩
    exact ⟨rfl, Below.refl _ _⟩
  | cons c r =>
    have hl := size_of hL
    simp only [List.length_cons] at hl
    have h1 : ¬ s.toList = [] := by rw [toL, hL]; simp
    have h1' : s.toList.isEmpty = false := by rw [toL, hL]; rfl
    by_cases h2 : s.size ≤ 16
    · rw [← hL]
      exact name_loop s w h1 h1' (by omega) (by omega)
    · refine (name_long s w h1 h1' (by omega)).mono ?_
      rintro e w' ⟨rfl, rfl⟩
      rw [nameB_cons, decide_eq_false (by omega : ¬ r.length + 1 ≤ 16)]
      exact ⟨rfl, Below.refl _ _⟩

def decl_name (s : ByteArray) : Option ((Bool × Unit) × Unit) := some ((nameB (L s), ()), ())
def fc23 : FC := ⟨⟨[.one .str], []⟩, ⟨[.one .bool], []⟩, fun x => decl_name x.1.1⟩
theorem con23 : Contract Tryd.prog 23 fc23 :=
  Contract.below (P := Tryd.prog) (f := 23) (sa := [.one .str]) (sr := [.one .bool]) (fn := Tryd.f23) (c := Tryd.f23.body.getD .skip) (by kernel_rfl) (by kernel_rfl) (by kernel_rfl) (g := fun x => some (nameB (L x.1), ())) (fun w M G x y vals hI hv hg => by
    obtain ⟨s, u⟩ := x
    obtain ⟨vs⟩ := vals
    match vs, hv with
    | [v1], hv =>
      obtain ⟨⟨rfl, _⟩, _⟩ := hv
      cases hg
      refine (name_any s w).mono ?_
      rintro e w' ⟨rfl, hb⟩
      exact ⟨_, rfl, hb, rfl, rfl⟩)

end Go.Proofs.YtjgjbdnjjepibaaDoor
end

section
/-
YtjgjbdnjjepibaaDoor: signalbench.decl.Check, as one plain function, its equations, its contract. No condition.
-/
set_option maxRecDepth 100000
set_option linter.unusedVariables false
set_option maxHeartbeats 4000000
open Go Go.AM
namespace Go.Proofs.YtjgjbdnjjepibaaDoor
noncomputable section
def decl_Check_F4 : FSh := ⟨[(1, .one (.ptr 0 0)), (11, .one .bool)], [.boxr 24 (.cons .str (.cons (.int .i64) (.cons (.int .i64) (.sl (.cons .str (.cons (.sl (.cons (.int .i64) (.cons (.int .i64) (.cons .str (.cons .bool (.sl (.cons (.int .i64) (.int .i64)))))))) (.cons .bool (.cons (.int .i64) (.cons (.int .i64) (.cons .str (.cons .bool (.sl (.cons (.int .i64) (.int .i64))))))))))))))]⟩
def decl_Check_F12 : FSh := ⟨[(1, .one (.ptr 0 0)), (38, .one (.sl (.cons .str (.cons (.sl (.cons (.int .i64) (.cons (.int .i64) (.cons .str (.cons .bool (.sl (.cons (.int .i64) (.int .i64)))))))) (.cons .bool (.cons (.int .i64) (.cons (.int .i64) (.cons .str (.cons .bool (.sl (.cons (.int .i64) (.int .i64)))))))))))), (39, .one (.int .i64)), (40, .one (.int .i64))], [.boxr 24 (.cons .str (.cons (.int .i64) (.cons (.int .i64) (.sl (.cons .str (.cons (.sl (.cons (.int .i64) (.cons (.int .i64) (.cons .str (.cons .bool (.sl (.cons (.int .i64) (.int .i64)))))))) (.cons .bool (.cons (.int .i64) (.cons (.int .i64) (.cons .str (.cons .bool (.sl (.cons (.int .i64) (.int .i64))))))))))))))]⟩
def decl_Check_D : FD := ⟨T, lookC [(16, fc16), (23, fc23), (24, fc24)], [4], (Tryd.f10.body.getD .skip), Tryd.f10.results.toList, ⟨[.row (.cons .str (.cons (.int .i64) (.cons (.int .i64) (.sl (.cons .str (.cons (.sl (.cons (.int .i64) (.cons (.int .i64) (.cons .str (.cons .bool (.sl (.cons (.int .i64) (.int .i64)))))))) (.cons .bool (.cons (.int .i64) (.cons (.int .i64) (.cons .str (.cons .bool (.sl (.cons (.int .i64) (.int .i64))))))))))))))], []⟩, ⟨[.one (.int .i64)], []⟩, [(4, decl_Check_F4), (12, decl_Check_F12)]⟩
def decl_Check_l4 (t11 : Bool) (h0 : TDecl) : (Option ((Int × Unit) × Unit)) := decl_Check_D.lab 4 decl_Check_F4 (((), t11, ()), (h0, ()))
def decl_Check_l12 (t38 : (List TDeclState)) (t39 : Int) (t40 : Int) (h0 : TDecl) : (Option ((Int × Unit) × Unit)) := decl_Check_D.lab 12 decl_Check_F12 (((), t38, t39, t40, ()), (h0, ()))
theorem decl_Check_l4_eq (t11 : Bool) (h0 : TDecl) : decl_Check_l4 t11 h0 =
  if t11 = true then
    some ((1, ()), ())
  else
    if (decide ((h0.2.2.2.length : Int) > 32)) = true then
      some ((6, ()), ())
    else
      decl_Check_l12 h0.2.2.2 (h0.2.2.2.length : Int) 0 h0 := (FD.lab_eq _ _ _ _).trans (by kernel_rfl)
theorem decl_Check_l12_eq (t38 : (List TDeclState)) (t39 : Int) (t40 : Int) (h0 : TDecl) : decl_Check_l12 t38 t39 t40 h0 =
  if (decide (t40 < t39)) = true then
    if 0 ≤ t40 ∧ t40 < (t38.length : Int) then
      (decl_name (t38.getD t40.toNat dDeclState).1).bind fun y1 =>
        if (!y1.1.1) = true then
          some ((4, ()), ())
        else
          (decl_Find h0 (t38.getD t40.toNat dDeclState).1).bind fun y2 =>
            if (decide (y2.1.1 < t40)) = true then
              some ((9, ()), ())
            else
              if (decide (((t38.getD t40.toNat dDeclState).2.1.length : Int) > 64)) = true then
                some ((6, ()), ())
              else
                (decl_rules h0 (t38.getD t40.toNat dDeclState)).bind fun y3 =>
                  if (y3.1.1 != 0) = true then
                    some ((y3.1.1, ()), ())
                  else
                    decl_Check_l12 t38 t39 (IntKind.i64.wrap (t40 + 1)) h0
    else
      none
  else
    some ((0, ()), ()) := (FD.lab_eq _ _ _ _).trans (by kernel_rfl)
def decl_Check (d : TDecl) : (Option ((Int × Unit) × Unit)) :=
  (decl_name d.1).bind fun y1 =>
    if (!y1.1.1) = true then
      some ((4, ()), ())
    else
      if (d.2.1 != 2) = true then
        if (d.2.1 != 3) = true then
          decl_Check_l4 true d
        else
          if (d.2.2.1 != 5) = true then
            if (d.2.2.1 != 6) = true then
              decl_Check_l4 true d
            else
              decl_Check_l4 ((d.2.2.2.length : Int) == 0) d
          else
            decl_Check_l4 ((d.2.2.2.length : Int) == 0) d
      else
        if (d.2.2.1 != 5) = true then
          if (d.2.2.1 != 6) = true then
            decl_Check_l4 true d
          else
            decl_Check_l4 ((d.2.2.2.length : Int) == 0) d
        else
          decl_Check_l4 ((d.2.2.2.length : Int) == 0) d
def fc10 : FC := ⟨⟨[.row (.cons .str (.cons (.int .i64) (.cons (.int .i64) (.sl (.cons .str (.cons (.sl (.cons (.int .i64) (.cons (.int .i64) (.cons .str (.cons .bool (.sl (.cons (.int .i64) (.int .i64)))))))) (.cons .bool (.cons (.int .i64) (.cons (.int .i64) (.cons .str (.cons .bool (.sl (.cons (.int .i64) (.int .i64))))))))))))))], []⟩, ⟨[.one (.int .i64)], []⟩, fun x => decl_Check x.1.1⟩
theorem con10 : Contract Tryd.prog 10 fc10 :=
  decl_Check_D.contract tok (cok_of (l := [(16, fc16), (23, fc23), (24, fc24)]) ⟨con16, con23, con24, trivial⟩) mixed (fn' := Tryd.f10) (by kernel_rfl) (by kernel_rfl) rfl (by kernel_rfl) (fun x => (FD.fn_eq _ _).trans (by kernel_rfl))
end
end Go.Proofs.YtjgjbdnjjepibaaDoor
end

section
/-
YtjgjbdnjjepibaaDoor: signalbench.signalbenchref05.letter, as one plain function, its equations, its contract. No condition.
-/
set_option maxRecDepth 100000
set_option linter.unusedVariables false
set_option maxHeartbeats 4000000
open Go Go.AM
namespace Go.Proofs.YtjgjbdnjjepibaaDoor
noncomputable section
def ref05_letter_D : FD := ⟨T, lookC [], [], (Tryd.f41.body.getD .skip), Tryd.f41.results.toList, ⟨[.one (.int .u8)], []⟩, ⟨[.one .bool], []⟩, []⟩
def ref05_letter (c : Int) : (Option ((Bool × Unit) × Unit)) :=
  if (decide (c ≥ 97)) = true then
    some ((decide (c ≤ 122), ()), ())
  else
    some ((false, ()), ())
def fc41 : FC := ⟨⟨[.one (.int .u8)], []⟩, ⟨[.one .bool], []⟩, fun x => ref05_letter x.1.1⟩
theorem con41 : Contract Tryd.prog 41 fc41 :=
  ref05_letter_D.contract tok (cok_of (l := []) trivial) mixed (fn' := Tryd.f41) (by kernel_rfl) (by kernel_rfl) rfl (by kernel_rfl) (fun x => (FD.fn_eq _ _).trans (by kernel_rfl))
end
end Go.Proofs.YtjgjbdnjjepibaaDoor
end

section
/-
YtjgjbdnjjepibaaDoor: signalbench.signalbenchref05.digit, as one plain function, its equations, its contract. No condition.
-/
set_option maxRecDepth 100000
set_option linter.unusedVariables false
set_option maxHeartbeats 4000000
open Go Go.AM
namespace Go.Proofs.YtjgjbdnjjepibaaDoor
noncomputable section
def ref05_digit_D : FD := ⟨T, lookC [], [], (Tryd.f57.body.getD .skip), Tryd.f57.results.toList, ⟨[.one (.int .u8)], []⟩, ⟨[.one .bool], []⟩, []⟩
def ref05_digit (c : Int) : (Option ((Bool × Unit) × Unit)) :=
  if (decide (c ≥ 48)) = true then
    some ((decide (c ≤ 57), ()), ())
  else
    some ((false, ()), ())
def fc57 : FC := ⟨⟨[.one (.int .u8)], []⟩, ⟨[.one .bool], []⟩, fun x => ref05_digit x.1.1⟩
theorem con57 : Contract Tryd.prog 57 fc57 :=
  ref05_digit_D.contract tok (cok_of (l := []) trivial) mixed (fn' := Tryd.f57) (by kernel_rfl) (by kernel_rfl) rfl (by kernel_rfl) (fun x => (FD.fn_eq _ _).trans (by kernel_rfl))
end
end Go.Proofs.YtjgjbdnjjepibaaDoor
end

section
/-
YtjgjbdnjjepibaaDoor: signalbench.signalbenchref05.inner, as one plain function, its equations, its contract. No condition.
-/
set_option maxRecDepth 100000
set_option linter.unusedVariables false
set_option maxHeartbeats 4000000
open Go Go.AM
namespace Go.Proofs.YtjgjbdnjjepibaaDoor
noncomputable section
def ref05_inner_D : FD := ⟨T, lookC [(41, fc41), (57, fc57)], [], (Tryd.f42.body.getD .skip), Tryd.f42.results.toList, ⟨[.one (.int .u8)], []⟩, ⟨[.one .bool], []⟩, []⟩
def ref05_inner (c : Int) : (Option ((Bool × Unit) × Unit)) :=
  (ref05_letter c).bind fun y1 =>
    if y1.1.1 = true then
      some ((true, ()), ())
    else
      (ref05_digit c).bind fun y2 =>
        if y2.1.1 = true then
          some ((true, ()), ())
        else
          some ((c == 95, ()), ())
def fc42 : FC := ⟨⟨[.one (.int .u8)], []⟩, ⟨[.one .bool], []⟩, fun x => ref05_inner x.1.1⟩
theorem con42 : Contract Tryd.prog 42 fc42 :=
  ref05_inner_D.contract tok (cok_of (l := [(41, fc41), (57, fc57)]) ⟨con41, con57, trivial⟩) mixed (fn' := Tryd.f42) (by kernel_rfl) (by kernel_rfl) rfl (by kernel_rfl) (fun x => (FD.fn_eq _ _).trans (by kernel_rfl))
end
end Go.Proofs.YtjgjbdnjjepibaaDoor
end

section
/-
YtjgjbdnjjepibaaDoor: signalbench.signalbenchref05.Name, as one plain function, its equations, its contract. No condition.
-/
set_option maxRecDepth 100000
set_option linter.unusedVariables false
set_option maxHeartbeats 4000000
open Go Go.AM
namespace Go.Proofs.YtjgjbdnjjepibaaDoor
noncomputable section
def ref05_Name_F6 : FSh := ⟨[(0, .one .str), (3, .one (.int .i64))], []⟩
def ref05_Name_D : FD := ⟨T, lookC [(41, fc41), (42, fc42)], [], (Tryd.f25.body.getD .skip), Tryd.f25.results.toList, ⟨[.one .str], []⟩, ⟨[.one .bool], []⟩, [(6, ref05_Name_F6)]⟩
def ref05_Name_l6 (s : ByteArray) (i : Int) : (Option ((Bool × Unit) × Unit)) := ref05_Name_D.lab 6 ref05_Name_F6 ((s, i, ()), ())
theorem ref05_Name_l6_eq (s : ByteArray) (i : Int) : ref05_Name_l6 s i =
  if (decide (i < (s.size : Int))) = true then
    if 0 ≤ i ∧ i < (s.size : Int) then
      (ref05_inner (bt s i)).bind fun y1 =>
        if (!y1.1.1) = true then
          some ((false, ()), ())
        else
          ref05_Name_l6 s (IntKind.i64.wrap (i + 1))
    else
      none
  else
    some ((true, ()), ()) := (FD.lab_eq _ _ _ _).trans (by kernel_rfl)
def ref05_Name (s : ByteArray) : (Option ((Bool × Unit) × Unit)) :=
  if (decide ((s.size : Int) < 1)) = true then
    some ((false, ()), ())
  else
    if (decide ((s.size : Int) > 16)) = true then
      some ((false, ()), ())
    else
      if 0 ≤ (0 : Int) ∧ 0 < (s.size : Int) then
        (ref05_letter (bt s 0)).bind fun y1 =>
          if (!y1.1.1) = true then
            some ((false, ()), ())
          else
            ref05_Name_l6 s 0
      else
        none
def fc25 : FC := ⟨⟨[.one .str], []⟩, ⟨[.one .bool], []⟩, fun x => ref05_Name x.1.1⟩
theorem con25 : Contract Tryd.prog 25 fc25 :=
  ref05_Name_D.contract tok (cok_of (l := [(41, fc41), (42, fc42)]) ⟨con41, con42, trivial⟩) mixed (fn' := Tryd.f25) (by kernel_rfl) (by kernel_rfl) rfl (by kernel_rfl) (fun x => (FD.fn_eq _ _).trans (by kernel_rfl))
end
end Go.Proofs.YtjgjbdnjjepibaaDoor
end

section
/-
YtjgjbdnjjepibaaDoor: signalbench.signalbenchref34.Find, as one plain function, its equations, its contract. No condition.
-/
set_option maxRecDepth 100000
set_option linter.unusedVariables false
set_option maxHeartbeats 4000000
open Go Go.AM
namespace Go.Proofs.YtjgjbdnjjepibaaDoor
noncomputable section
def ref34_Find_F3 : FSh := ⟨[(1, .one .str), (2, .one (.ptr 0 0)), (5, .one (.int .i64))], [.boxr 24 (.cons .str (.cons (.int .i64) (.cons (.int .i64) (.sl (.cons .str (.cons (.sl (.cons (.int .i64) (.cons (.int .i64) (.cons .str (.cons .bool (.sl (.cons (.int .i64) (.int .i64)))))))) (.cons .bool (.cons (.int .i64) (.cons (.int .i64) (.cons .str (.cons .bool (.sl (.cons (.int .i64) (.int .i64))))))))))))))]⟩
def ref34_Find_D : FD := ⟨T, lookC [], [], (Tryd.f17.body.getD .skip), Tryd.f17.results.toList, ⟨[.row (.cons .str (.cons (.int .i64) (.cons (.int .i64) (.sl (.cons .str (.cons (.sl (.cons (.int .i64) (.cons (.int .i64) (.cons .str (.cons .bool (.sl (.cons (.int .i64) (.int .i64)))))))) (.cons .bool (.cons (.int .i64) (.cons (.int .i64) (.cons .str (.cons .bool (.sl (.cons (.int .i64) (.int .i64)))))))))))))), .one .str], []⟩, ⟨[.one (.int .i64)], []⟩, [(3, ref34_Find_F3)]⟩
def ref34_Find_l3 (name : ByteArray) (k0 : Int) (h0 : TDecl) : (Option ((Int × Unit) × Unit)) := ref34_Find_D.lab 3 ref34_Find_F3 ((name, (), k0, ()), (h0, ()))
theorem ref34_Find_l3_eq (name : ByteArray) (k0 : Int) (h0 : TDecl) : ref34_Find_l3 name k0 h0 =
  if (decide (k0 < (h0.2.2.2.length : Int))) = true then
    if 0 ≤ k0 ∧ k0 < (h0.2.2.2.length : Int) then
      if ((h0.2.2.2.getD k0.toNat dDeclState).1.toList == name.toList) = true then
        some ((k0, ()), ())
      else
        ref34_Find_l3 name (IntKind.i64.wrap (k0 + 1)) h0
    else
      none
  else
    some (((-1), ()), ()) := (FD.lab_eq _ _ _ _).trans (by kernel_rfl)
def ref34_Find (d : TDecl) (name : ByteArray) : (Option ((Int × Unit) × Unit)) :=
  ref34_Find_l3 name 0 d
def fc17 : FC := ⟨⟨[.row (.cons .str (.cons (.int .i64) (.cons (.int .i64) (.sl (.cons .str (.cons (.sl (.cons (.int .i64) (.cons (.int .i64) (.cons .str (.cons .bool (.sl (.cons (.int .i64) (.int .i64)))))))) (.cons .bool (.cons (.int .i64) (.cons (.int .i64) (.cons .str (.cons .bool (.sl (.cons (.int .i64) (.int .i64)))))))))))))), .one .str], []⟩, ⟨[.one (.int .i64)], []⟩, fun x => ref34_Find x.1.1 x.1.2.1⟩
theorem con17 : Contract Tryd.prog 17 fc17 :=
  ref34_Find_D.contract tok (cok_of (l := []) trivial) mixed (fn' := Tryd.f17) (by kernel_rfl) (by kernel_rfl) rfl (by kernel_rfl) (fun x => (FD.fn_eq _ _).trans (by kernel_rfl))
end
end Go.Proofs.YtjgjbdnjjepibaaDoor
end

section
/-
YtjgjbdnjjepibaaDoor: signalbench.signalbenchref34.wrongAct, as one plain function, its equations, its contract. No condition.
-/
set_option maxRecDepth 100000
set_option linter.unusedVariables false
set_option maxHeartbeats 4000000
open Go Go.AM
namespace Go.Proofs.YtjgjbdnjjepibaaDoor
noncomputable section
def ref34_wrongAct_D : FD := ⟨T, lookC [], [], (Tryd.f58.body.getD .skip), Tryd.f58.results.toList, ⟨[.row (.cons (.int .i64) (.int .i64))], []⟩, ⟨[.one (.int .i64)], []⟩, []⟩
def ref34_wrongAct (a : TAct) : (Option ((Int × Unit) × Unit)) :=
  if (decide (a.1 < 1)) = true then
    some ((1, ()), ())
  else
    if (decide (a.1 > 6)) = true then
      some ((1, ()), ())
    else
      if (decide (a.1 ≤ 2)) = true then
        if (a.2 != 0) = true then
          some ((1, ()), ())
        else
          if (decide (a.1 ≥ 3)) = true then
            if (decide (a.1 ≤ 5)) = true then
              if (decide (a.2 < 0)) = true then
                some ((2, ()), ())
              else
                if (decide (a.2 > 255)) = true then
                  some ((2, ()), ())
                else
                  if (a.1 == 6) = true then
                    if (decide (a.2 < 1)) = true then
                      some ((2, ()), ())
                    else
                      if (decide (a.2 > 12)) = true then
                        some ((2, ()), ())
                      else
                        some ((0, ()), ())
                  else
                    some ((0, ()), ())
            else
              if (a.1 == 6) = true then
                if (decide (a.2 < 1)) = true then
                  some ((2, ()), ())
                else
                  if (decide (a.2 > 12)) = true then
                    some ((2, ()), ())
                  else
                    some ((0, ()), ())
              else
                some ((0, ()), ())
          else
            if (a.1 == 6) = true then
              if (decide (a.2 < 1)) = true then
                some ((2, ()), ())
              else
                if (decide (a.2 > 12)) = true then
                  some ((2, ()), ())
                else
                  some ((0, ()), ())
            else
              some ((0, ()), ())
      else
        if (decide (a.1 ≥ 3)) = true then
          if (decide (a.1 ≤ 5)) = true then
            if (decide (a.2 < 0)) = true then
              some ((2, ()), ())
            else
              if (decide (a.2 > 255)) = true then
                some ((2, ()), ())
              else
                if (a.1 == 6) = true then
                  if (decide (a.2 < 1)) = true then
                    some ((2, ()), ())
                  else
                    if (decide (a.2 > 12)) = true then
                      some ((2, ()), ())
                    else
                      some ((0, ()), ())
                else
                  some ((0, ()), ())
          else
            if (a.1 == 6) = true then
              if (decide (a.2 < 1)) = true then
                some ((2, ()), ())
              else
                if (decide (a.2 > 12)) = true then
                  some ((2, ()), ())
                else
                  some ((0, ()), ())
            else
              some ((0, ()), ())
        else
          if (a.1 == 6) = true then
            if (decide (a.2 < 1)) = true then
              some ((2, ()), ())
            else
              if (decide (a.2 > 12)) = true then
                some ((2, ()), ())
              else
                some ((0, ()), ())
          else
            some ((0, ()), ())
def fc58 : FC := ⟨⟨[.row (.cons (.int .i64) (.int .i64))], []⟩, ⟨[.one (.int .i64)], []⟩, fun x => ref34_wrongAct x.1.1⟩
theorem con58 : Contract Tryd.prog 58 fc58 :=
  ref34_wrongAct_D.contract tok (cok_of (l := []) trivial) mixed (fn' := Tryd.f58) (by kernel_rfl) (by kernel_rfl) rfl (by kernel_rfl) (fun x => (FD.fn_eq _ _).trans (by kernel_rfl))
end
end Go.Proofs.YtjgjbdnjjepibaaDoor
end

section
/-
YtjgjbdnjjepibaaDoor: signalbench.signalbenchref34.wrongTarget, as one plain function, its equations, its contract. No condition.
-/
set_option maxRecDepth 100000
set_option linter.unusedVariables false
set_option maxHeartbeats 4000000
open Go Go.AM
namespace Go.Proofs.YtjgjbdnjjepibaaDoor
noncomputable section
def ref34_wrongTarget_F9 : FSh := ⟨[(3, .one (.ptr 0 0)), (5, .one (.int .i64))], [.boxr 33 (.cons (.int .i64) (.cons (.int .i64) (.cons .str (.cons .bool (.sl (.cons (.int .i64) (.int .i64)))))))]⟩
def ref34_wrongTarget_D : FD := ⟨T, lookC [(17, fc17), (58, fc58)], [], (Tryd.f43.body.getD .skip), Tryd.f43.results.toList, ⟨[.row (.cons .str (.cons (.int .i64) (.cons (.int .i64) (.sl (.cons .str (.cons (.sl (.cons (.int .i64) (.cons (.int .i64) (.cons .str (.cons .bool (.sl (.cons (.int .i64) (.int .i64)))))))) (.cons .bool (.cons (.int .i64) (.cons (.int .i64) (.cons .str (.cons .bool (.sl (.cons (.int .i64) (.int .i64)))))))))))))), .row (.cons (.int .i64) (.cons (.int .i64) (.cons .str (.cons .bool (.sl (.cons (.int .i64) (.int .i64)))))))], []⟩, ⟨[.one (.int .i64)], []⟩, [(9, ref34_wrongTarget_F9)]⟩
def ref34_wrongTarget_l9 (i : Int) (h0 : TRule) : (Option ((Int × Unit) × Unit)) := ref34_wrongTarget_D.lab 9 ref34_wrongTarget_F9 (((), i, ()), (h0, ()))
theorem ref34_wrongTarget_l9_eq (i : Int) (h0 : TRule) : ref34_wrongTarget_l9 i h0 =
  if (decide (i < (h0.2.2.2.2.length : Int))) = true then
    if 0 ≤ i ∧ i < (h0.2.2.2.2.length : Int) then
      (ref34_wrongAct (h0.2.2.2.2.getD i.toNat dAct)).bind fun y1 =>
        if (y1.1.1 != 0) = true then
          some ((y1.1.1, ()), ())
        else
          ref34_wrongTarget_l9 (IntKind.i64.wrap (i + 1)) h0
    else
      none
  else
    some ((0, ()), ()) := (FD.lab_eq _ _ _ _).trans (by kernel_rfl)
def ref34_wrongTarget (d : TDecl) (r : TRule) : (Option ((Int × Unit) × Unit)) :=
  (ref34_Find d r.2.2.1).bind fun y1 =>
    if (decide (y1.1.1 < 0)) = true then
      some ((8, ()), ())
    else
      if (decide ((r.2.2.2.2.length : Int) > 8)) = true then
        some ((6, ()), ())
      else
        ref34_wrongTarget_l9 0 r
def fc43 : FC := ⟨⟨[.row (.cons .str (.cons (.int .i64) (.cons (.int .i64) (.sl (.cons .str (.cons (.sl (.cons (.int .i64) (.cons (.int .i64) (.cons .str (.cons .bool (.sl (.cons (.int .i64) (.int .i64)))))))) (.cons .bool (.cons (.int .i64) (.cons (.int .i64) (.cons .str (.cons .bool (.sl (.cons (.int .i64) (.int .i64)))))))))))))), .row (.cons (.int .i64) (.cons (.int .i64) (.cons .str (.cons .bool (.sl (.cons (.int .i64) (.int .i64)))))))], []⟩, ⟨[.one (.int .i64)], []⟩, fun x => ref34_wrongTarget x.1.1 x.1.2.1⟩
theorem con43 : Contract Tryd.prog 43 fc43 :=
  ref34_wrongTarget_D.contract tok (cok_of (l := [(17, fc17), (58, fc58)]) ⟨con17, con58, trivial⟩) mixed (fn' := Tryd.f43) (by kernel_rfl) (by kernel_rfl) rfl (by kernel_rfl) (fun x => (FD.fn_eq _ _).trans (by kernel_rfl))
end
end Go.Proofs.YtjgjbdnjjepibaaDoor
end

section
/-
YtjgjbdnjjepibaaDoor: signalbench.signalbenchref34.wrongElse, as one plain function, its equations, its contract. No condition.
-/
set_option maxRecDepth 100000
set_option linter.unusedVariables false
set_option maxHeartbeats 4000000
open Go Go.AM
namespace Go.Proofs.YtjgjbdnjjepibaaDoor
noncomputable section
def ref34_wrongElse_D : FD := ⟨T, lookC [(43, fc43)], [], (Tryd.f44.body.getD .skip), Tryd.f44.results.toList, ⟨[.row (.cons .str (.cons (.int .i64) (.cons (.int .i64) (.sl (.cons .str (.cons (.sl (.cons (.int .i64) (.cons (.int .i64) (.cons .str (.cons .bool (.sl (.cons (.int .i64) (.int .i64)))))))) (.cons .bool (.cons (.int .i64) (.cons (.int .i64) (.cons .str (.cons .bool (.sl (.cons (.int .i64) (.int .i64)))))))))))))), .row (.cons .str (.cons (.sl (.cons (.int .i64) (.cons (.int .i64) (.cons .str (.cons .bool (.sl (.cons (.int .i64) (.int .i64)))))))) (.cons .bool (.cons (.int .i64) (.cons (.int .i64) (.cons .str (.cons .bool (.sl (.cons (.int .i64) (.int .i64))))))))))], []⟩, ⟨[.one (.int .i64)], []⟩, []⟩
def ref34_wrongElse (d : TDecl) (s : TDeclState) : (Option ((Int × Unit) × Unit)) :=
  if (!s.2.2.1) = true then
    if (s.2.2.2.1 != 0) = true then
      some ((1, ()), ())
    else
      if (s.2.2.2.2.1 != 0) = true then
        some ((1, ()), ())
      else
        if (!(s.2.2.2.2.2.1.toList == (strB []).toList)) = true then
          some ((1, ()), ())
        else
          if s.2.2.2.2.2.2.1 = true then
            some ((1, ()), ())
          else
            if (decide ((s.2.2.2.2.2.2.2.length : Int) > 0)) = true then
              some ((1, ()), ())
            else
              some ((0, ()), ())
  else
    if (s.2.2.2.1 != 0) = true then
      some ((1, ()), ())
    else
      if (s.2.2.2.2.1 != 0) = true then
        some ((1, ()), ())
      else
        (ref34_wrongTarget d s.2.2.2).bind fun y1 =>
          some ((y1.1.1, ()), ())
def fc44 : FC := ⟨⟨[.row (.cons .str (.cons (.int .i64) (.cons (.int .i64) (.sl (.cons .str (.cons (.sl (.cons (.int .i64) (.cons (.int .i64) (.cons .str (.cons .bool (.sl (.cons (.int .i64) (.int .i64)))))))) (.cons .bool (.cons (.int .i64) (.cons (.int .i64) (.cons .str (.cons .bool (.sl (.cons (.int .i64) (.int .i64)))))))))))))), .row (.cons .str (.cons (.sl (.cons (.int .i64) (.cons (.int .i64) (.cons .str (.cons .bool (.sl (.cons (.int .i64) (.int .i64)))))))) (.cons .bool (.cons (.int .i64) (.cons (.int .i64) (.cons .str (.cons .bool (.sl (.cons (.int .i64) (.int .i64))))))))))], []⟩, ⟨[.one (.int .i64)], []⟩, fun x => ref34_wrongElse x.1.1 x.1.2.1⟩
theorem con44 : Contract Tryd.prog 44 fc44 :=
  ref34_wrongElse_D.contract tok (cok_of (l := [(43, fc43)]) ⟨con43, trivial⟩) mixed (fn' := Tryd.f44) (by kernel_rfl) (by kernel_rfl) rfl (by kernel_rfl) (fun x => (FD.fn_eq _ _).trans (by kernel_rfl))
end
end Go.Proofs.YtjgjbdnjjepibaaDoor
end

section
/-
YtjgjbdnjjepibaaDoor: signalbench.signalbenchref34.wrongState, as one plain function, its equations, its contract. No condition.
-/
set_option maxRecDepth 100000
set_option linter.unusedVariables false
set_option maxHeartbeats 4000000
open Go Go.AM
namespace Go.Proofs.YtjgjbdnjjepibaaDoor
noncomputable section
def ref34_wrongState_F12 : FSh := ⟨[(2, .one (.ptr 0 0)), (5, .one (.ptr 1 0)), (6, .one (.int .i64))], [.boxr 24 (.cons .str (.cons (.int .i64) (.cons (.int .i64) (.sl (.cons .str (.cons (.sl (.cons (.int .i64) (.cons (.int .i64) (.cons .str (.cons .bool (.sl (.cons (.int .i64) (.int .i64)))))))) (.cons .bool (.cons (.int .i64) (.cons (.int .i64) (.cons .str (.cons .bool (.sl (.cons (.int .i64) (.int .i64)))))))))))))), .boxr 46 (.cons .str (.cons (.sl (.cons (.int .i64) (.cons (.int .i64) (.cons .str (.cons .bool (.sl (.cons (.int .i64) (.int .i64)))))))) (.cons .bool (.cons (.int .i64) (.cons (.int .i64) (.cons .str (.cons .bool (.sl (.cons (.int .i64) (.int .i64))))))))))]⟩
def ref34_wrongState_F16 : FSh := ⟨[(2, .one (.ptr 0 0)), (5, .one (.ptr 1 0)), (6, .one (.int .i64)), (7, .one (.int .i64))], [.boxr 24 (.cons .str (.cons (.int .i64) (.cons (.int .i64) (.sl (.cons .str (.cons (.sl (.cons (.int .i64) (.cons (.int .i64) (.cons .str (.cons .bool (.sl (.cons (.int .i64) (.int .i64)))))))) (.cons .bool (.cons (.int .i64) (.cons (.int .i64) (.cons .str (.cons .bool (.sl (.cons (.int .i64) (.int .i64)))))))))))))), .boxr 46 (.cons .str (.cons (.sl (.cons (.int .i64) (.cons (.int .i64) (.cons .str (.cons .bool (.sl (.cons (.int .i64) (.int .i64)))))))) (.cons .bool (.cons (.int .i64) (.cons (.int .i64) (.cons .str (.cons .bool (.sl (.cons (.int .i64) (.int .i64))))))))))]⟩
def ref34_wrongState_D : FD := ⟨T, lookC [(17, fc17), (25, fc25), (43, fc43), (44, fc44)], [12], (Tryd.f26.body.getD .skip), Tryd.f26.results.toList, ⟨[.row (.cons .str (.cons (.int .i64) (.cons (.int .i64) (.sl (.cons .str (.cons (.sl (.cons (.int .i64) (.cons (.int .i64) (.cons .str (.cons .bool (.sl (.cons (.int .i64) (.int .i64)))))))) (.cons .bool (.cons (.int .i64) (.cons (.int .i64) (.cons .str (.cons .bool (.sl (.cons (.int .i64) (.int .i64)))))))))))))), .one (.int .i64)], []⟩, ⟨[.one (.int .i64)], []⟩, [(12, ref34_wrongState_F12), (16, ref34_wrongState_F16)]⟩
def ref34_wrongState_l12 (most : Int) (h0 : TDecl) (h1 : TDeclState) : (Option ((Int × Unit) × Unit)) := ref34_wrongState_D.lab 12 ref34_wrongState_F12 (((), (), most, ()), (h0, h1, ()))
def ref34_wrongState_l16 (most : Int) (i : Int) (h0 : TDecl) (h1 : TDeclState) : (Option ((Int × Unit) × Unit)) := ref34_wrongState_D.lab 16 ref34_wrongState_F16 (((), (), most, i, ()), (h0, h1, ()))
theorem ref34_wrongState_l12_eq (most : Int) (h0 : TDecl) (h1 : TDeclState) : ref34_wrongState_l12 most h0 h1 =
  ref34_wrongState_l16 most 0 h0 h1 := (FD.lab_eq _ _ _ _).trans (by kernel_rfl)
theorem ref34_wrongState_l16_eq (most : Int) (i : Int) (h0 : TDecl) (h1 : TDeclState) : ref34_wrongState_l16 most i h0 h1 =
  if (decide (i < (h1.2.1.length : Int))) = true then
    if 0 ≤ i ∧ i < (h1.2.1.length : Int) then
      if (decide ((h1.2.1.getD i.toNat dRule).1 < 0)) = true then
        some ((2, ()), ())
      else
        if (decide ((h1.2.1.getD i.toNat dRule).1 > (h1.2.1.getD i.toNat dRule).2.1)) = true then
          some ((2, ()), ())
        else
          if (decide ((h1.2.1.getD i.toNat dRule).2.1 > most)) = true then
            some ((2, ()), ())
          else
            (ref34_wrongTarget h0 (h1.2.1.getD i.toNat dRule)).bind fun y1 =>
              if (y1.1.1 != 0) = true then
                some ((y1.1.1, ()), ())
              else
                ref34_wrongState_l16 most (IntKind.i64.wrap (i + 1)) h0 h1
    else
      none
  else
    (ref34_wrongElse h0 h1).bind fun y2 =>
      some ((y2.1.1, ()), ()) := (FD.lab_eq _ _ _ _).trans (by kernel_rfl)
def ref34_wrongState (d : TDecl) (k0 : Int) : (Option ((Int × Unit) × Unit)) :=
  if 0 ≤ k0 ∧ k0 < (d.2.2.2.length : Int) then
    (ref05_Name (d.2.2.2.getD k0.toNat dDeclState).1).bind fun y1 =>
      if (!y1.1.1) = true then
        some ((4, ()), ())
      else
        (ref34_Find d (d.2.2.2.getD k0.toNat dDeclState).1).bind fun y2 =>
          if (decide (y2.1.1 < k0)) = true then
            some ((9, ()), ())
          else
            if (decide (((d.2.2.2.getD k0.toNat dDeclState).2.1.length : Int) > 64)) = true then
              some ((6, ()), ())
            else
              if (d.2.1 == 2) = true then
                ref34_wrongState_l12 1 d (d.2.2.2.getD k0.toNat dDeclState)
              else
                ref34_wrongState_l12 255 d (d.2.2.2.getD k0.toNat dDeclState)
  else
    none
def fc26 : FC := ⟨⟨[.row (.cons .str (.cons (.int .i64) (.cons (.int .i64) (.sl (.cons .str (.cons (.sl (.cons (.int .i64) (.cons (.int .i64) (.cons .str (.cons .bool (.sl (.cons (.int .i64) (.int .i64)))))))) (.cons .bool (.cons (.int .i64) (.cons (.int .i64) (.cons .str (.cons .bool (.sl (.cons (.int .i64) (.int .i64)))))))))))))), .one (.int .i64)], []⟩, ⟨[.one (.int .i64)], []⟩, fun x => ref34_wrongState x.1.1 x.1.2.1⟩
theorem con26 : Contract Tryd.prog 26 fc26 :=
  ref34_wrongState_D.contract tok (cok_of (l := [(17, fc17), (25, fc25), (43, fc43), (44, fc44)]) ⟨con17, con25, con43, con44, trivial⟩) mixed (fn' := Tryd.f26) (by kernel_rfl) (by kernel_rfl) rfl (by kernel_rfl) (fun x => (FD.fn_eq _ _).trans (by kernel_rfl))
end
end Go.Proofs.YtjgjbdnjjepibaaDoor
end

section
/-
YtjgjbdnjjepibaaDoor: signalbench.signalbenchref34.Check, as one plain function, its equations, its contract. No condition.
-/
set_option maxRecDepth 100000
set_option linter.unusedVariables false
set_option maxHeartbeats 4000000
open Go Go.AM
namespace Go.Proofs.YtjgjbdnjjepibaaDoor
noncomputable section
def ref34_Check_F12 : FSh := ⟨[(1, .one (.ptr 0 0)), (3, .one (.int .i64))], [.boxr 24 (.cons .str (.cons (.int .i64) (.cons (.int .i64) (.sl (.cons .str (.cons (.sl (.cons (.int .i64) (.cons (.int .i64) (.cons .str (.cons .bool (.sl (.cons (.int .i64) (.int .i64)))))))) (.cons .bool (.cons (.int .i64) (.cons (.int .i64) (.cons .str (.cons .bool (.sl (.cons (.int .i64) (.int .i64))))))))))))))]⟩
def ref34_Check_D : FD := ⟨T, lookC [(25, fc25), (26, fc26)], [], (Tryd.f11.body.getD .skip), Tryd.f11.results.toList, ⟨[.row (.cons .str (.cons (.int .i64) (.cons (.int .i64) (.sl (.cons .str (.cons (.sl (.cons (.int .i64) (.cons (.int .i64) (.cons .str (.cons .bool (.sl (.cons (.int .i64) (.int .i64)))))))) (.cons .bool (.cons (.int .i64) (.cons (.int .i64) (.cons .str (.cons .bool (.sl (.cons (.int .i64) (.int .i64))))))))))))))], []⟩, ⟨[.one (.int .i64)], []⟩, [(12, ref34_Check_F12)]⟩
def ref34_Check_l12 (k0 : Int) (h0 : TDecl) : (Option ((Int × Unit) × Unit)) := ref34_Check_D.lab 12 ref34_Check_F12 (((), k0, ()), (h0, ()))
theorem ref34_Check_l12_eq (k0 : Int) (h0 : TDecl) : ref34_Check_l12 k0 h0 =
  if (decide (k0 < (h0.2.2.2.length : Int))) = true then
    (ref34_wrongState h0 k0).bind fun y1 =>
      if (y1.1.1 != 0) = true then
        some ((y1.1.1, ()), ())
      else
        ref34_Check_l12 (IntKind.i64.wrap (k0 + 1)) h0
  else
    some ((0, ()), ()) := (FD.lab_eq _ _ _ _).trans (by kernel_rfl)
def ref34_Check (d : TDecl) : (Option ((Int × Unit) × Unit)) :=
  (ref05_Name d.1).bind fun y1 =>
    if (!y1.1.1) = true then
      some ((4, ()), ())
    else
      if (d.2.1 != 2) = true then
        if (d.2.1 != 3) = true then
          some ((1, ()), ())
        else
          if (d.2.2.1 != 5) = true then
            if (d.2.2.1 != 6) = true then
              some ((1, ()), ())
            else
              if ((d.2.2.2.length : Int) == 0) = true then
                some ((1, ()), ())
              else
                if (decide ((d.2.2.2.length : Int) > 32)) = true then
                  some ((6, ()), ())
                else
                  ref34_Check_l12 0 d
          else
            if ((d.2.2.2.length : Int) == 0) = true then
              some ((1, ()), ())
            else
              if (decide ((d.2.2.2.length : Int) > 32)) = true then
                some ((6, ()), ())
              else
                ref34_Check_l12 0 d
      else
        if (d.2.2.1 != 5) = true then
          if (d.2.2.1 != 6) = true then
            some ((1, ()), ())
          else
            if ((d.2.2.2.length : Int) == 0) = true then
              some ((1, ()), ())
            else
              if (decide ((d.2.2.2.length : Int) > 32)) = true then
                some ((6, ()), ())
              else
                ref34_Check_l12 0 d
        else
          if ((d.2.2.2.length : Int) == 0) = true then
            some ((1, ()), ())
          else
            if (decide ((d.2.2.2.length : Int) > 32)) = true then
              some ((6, ()), ())
            else
              ref34_Check_l12 0 d
def fc11 : FC := ⟨⟨[.row (.cons .str (.cons (.int .i64) (.cons (.int .i64) (.sl (.cons .str (.cons (.sl (.cons (.int .i64) (.cons (.int .i64) (.cons .str (.cons .bool (.sl (.cons (.int .i64) (.int .i64)))))))) (.cons .bool (.cons (.int .i64) (.cons (.int .i64) (.cons .str (.cons .bool (.sl (.cons (.int .i64) (.int .i64))))))))))))))], []⟩, ⟨[.one (.int .i64)], []⟩, fun x => ref34_Check x.1.1⟩
theorem con11 : Contract Tryd.prog 11 fc11 :=
  ref34_Check_D.contract tok (cok_of (l := [(25, fc25), (26, fc26)]) ⟨con25, con26, trivial⟩) mixed (fn' := Tryd.f11) (by kernel_rfl) (by kernel_rfl) rfl (by kernel_rfl) (fun x => (FD.fn_eq _ _).trans (by kernel_rfl))
end
end Go.Proofs.YtjgjbdnjjepibaaDoor
end

section
/-
YtjgjbdnjjepibaaDoor: signalbench.signalbenchlaw34.named, as one plain function, its equations, its contract. No condition.
-/
set_option maxRecDepth 100000
set_option linter.unusedVariables false
set_option maxHeartbeats 4000000
open Go Go.AM
namespace Go.Proofs.YtjgjbdnjjepibaaDoor
noncomputable section
def law34_named_D : FD := ⟨T, lookC [], [], (Tryd.f12.body.getD .skip), Tryd.f12.results.toList, ⟨[.one .str], []⟩, ⟨[.one .bool], []⟩, []⟩
def law34_named (s : ByteArray) : (Option ((Bool × Unit) × Unit)) :=
  some ((decide ((s.size : Int) ≤ 20), ()), ())
def fc12 : FC := ⟨⟨[.one .str], []⟩, ⟨[.one .bool], []⟩, fun x => law34_named x.1.1⟩
theorem con12 : Contract Tryd.prog 12 fc12 :=
  law34_named_D.contract tok (cok_of (l := []) trivial) mixed (fn' := Tryd.f12) (by kernel_rfl) (by kernel_rfl) rfl (by kernel_rfl) (fun x => (FD.fn_eq _ _).trans (by kernel_rfl))
end
end Go.Proofs.YtjgjbdnjjepibaaDoor
end

section
/-
YtjgjbdnjjepibaaDoor: signalbench.decl.own, as one plain function, its equations, its contract. No condition.
-/
set_option maxRecDepth 100000
set_option linter.unusedVariables false
set_option maxHeartbeats 4000000
open Go Go.AM
namespace Go.Proofs.YtjgjbdnjjepibaaDoor
noncomputable section
def decl_own_D : FD := ⟨T, lookC [], [], (Tryd.f27.body.getD .skip), Tryd.f27.results.toList, ⟨[.row (.cons (.int .i64) (.cons (.int .i64) (.cons .str (.cons .bool (.sl (.cons (.int .i64) (.int .i64)))))))], []⟩, ⟨[.row (.cons (.int .i64) (.cons (.int .i64) (.cons .str (.cons .bool (.sl (.cons (.int .i64) (.int .i64)))))))], []⟩, []⟩
def decl_own (r : TRule) : (Option ((TRule × Unit) × Unit)) :=
  if r.2.2.2.2.length * 16 ≤ 140737488355328 ∧ 0 < 16 then
    some ((r, ()), ())
  else
    none
def fc27 : FC := ⟨⟨[.row (.cons (.int .i64) (.cons (.int .i64) (.cons .str (.cons .bool (.sl (.cons (.int .i64) (.int .i64)))))))], []⟩, ⟨[.row (.cons (.int .i64) (.cons (.int .i64) (.cons .str (.cons .bool (.sl (.cons (.int .i64) (.int .i64)))))))], []⟩, fun x => decl_own x.1.1⟩
theorem con27 : Contract Tryd.prog 27 fc27 :=
  decl_own_D.contract tok (cok_of (l := []) trivial) mixed (fn' := Tryd.f27) (by kernel_rfl) (by kernel_rfl) rfl (by kernel_rfl) (fun x => (FD.fn_eq _ _).trans (by kernel_rfl))
end
end Go.Proofs.YtjgjbdnjjepibaaDoor
end

section
/-
YtjgjbdnjjepibaaDoor: signalbench.decl.Match, as one plain function, its equations, its contract. No condition.
-/
set_option maxRecDepth 100000
set_option linter.unusedVariables false
set_option maxHeartbeats 4000000
open Go Go.AM
namespace Go.Proofs.YtjgjbdnjjepibaaDoor
noncomputable section
def decl_Match_F7 : FSh := ⟨[(2, .one (.int .i64)), (6, .one (.ptr 0 0)), (8, .one (.ptr 1 0)), (27, .one (.sl (.cons (.int .i64) (.cons (.int .i64) (.cons .str (.cons .bool (.sl (.cons (.int .i64) (.int .i64))))))))), (28, .one (.int .i64)), (29, .one (.int .i64))], [.boxr 33 (.cons (.int .i64) (.cons (.int .i64) (.cons .str (.cons .bool (.sl (.cons (.int .i64) (.int .i64))))))), .boxr 46 (.cons .str (.cons (.sl (.cons (.int .i64) (.cons (.int .i64) (.cons .str (.cons .bool (.sl (.cons (.int .i64) (.int .i64)))))))) (.cons .bool (.cons (.int .i64) (.cons (.int .i64) (.cons .str (.cons .bool (.sl (.cons (.int .i64) (.int .i64))))))))))]⟩
def decl_Match_D : FD := ⟨T, lookC [(27, fc27)], [], (Tryd.f13.body.getD .skip), Tryd.f13.results.toList, ⟨[.row (.cons .str (.cons (.int .i64) (.cons (.int .i64) (.sl (.cons .str (.cons (.sl (.cons (.int .i64) (.cons (.int .i64) (.cons .str (.cons .bool (.sl (.cons (.int .i64) (.int .i64)))))))) (.cons .bool (.cons (.int .i64) (.cons (.int .i64) (.cons .str (.cons .bool (.sl (.cons (.int .i64) (.int .i64)))))))))))))), .one (.int .i64), .one (.int .i64)], []⟩, ⟨[.row (.cons (.int .i64) (.cons (.int .i64) (.cons .str (.cons .bool (.sl (.cons (.int .i64) (.int .i64))))))), .one .bool], []⟩, [(7, decl_Match_F7)]⟩
def decl_Match_l7 (symbol : Int) (t27 : (List TRule)) (t28 : Int) (t29 : Int) (h0 : TRule) (h1 : TDeclState) : (Option ((TRule × Bool × Unit) × Unit)) := decl_Match_D.lab 7 decl_Match_F7 ((symbol, (), (), t27, t28, t29, ()), (h0, h1, ()))
theorem decl_Match_l7_eq (symbol : Int) (t27 : (List TRule)) (t28 : Int) (t29 : Int) (h0 : TRule) (h1 : TDeclState) : decl_Match_l7 symbol t27 t28 t29 h0 h1 =
  if (decide (t29 < t28)) = true then
    if 0 ≤ t29 ∧ t29 < (t27.length : Int) then
      if (decide ((t27.getD t29.toNat dRule).1 ≤ symbol)) = true then
        if (decide (symbol ≤ (t27.getD t29.toNat dRule).2.1)) = true then
          (decl_own (t27.getD t29.toNat dRule)).bind fun y1 =>
            some ((y1.1.1, true, ()), ())
        else
          decl_Match_l7 symbol t27 t28 (IntKind.i64.wrap (t29 + 1)) h0 h1
      else
        decl_Match_l7 symbol t27 t28 (IntKind.i64.wrap (t29 + 1)) h0 h1
    else
      none
  else
    if h1.2.2.1 = true then
      (decl_own h1.2.2.2).bind fun y2 =>
        some ((y2.1.1, true, ()), ())
    else
      some (((0, 0, (strB []), false, []), false, ()), ()) := (FD.lab_eq _ _ _ _).trans (by kernel_rfl)
def decl_Match (d : TDecl) (state : Int) (symbol : Int) : (Option ((TRule × Bool × Unit) × Unit)) :=
  if (decide (state < 0)) = true then
    some (((0, 0, (strB []), false, []), false, ()), ())
  else
    if (decide (state ≥ (d.2.2.2.length : Int))) = true then
      some (((0, 0, (strB []), false, []), false, ()), ())
    else
      if 0 ≤ state ∧ state < (d.2.2.2.length : Int) then
        decl_Match_l7 symbol (d.2.2.2.getD state.toNat dDeclState).2.1 ((d.2.2.2.getD state.toNat dDeclState).2.1.length : Int) 0 (0, 0, (strB []), false, []) (d.2.2.2.getD state.toNat dDeclState)
      else
        none
def fc13 : FC := ⟨⟨[.row (.cons .str (.cons (.int .i64) (.cons (.int .i64) (.sl (.cons .str (.cons (.sl (.cons (.int .i64) (.cons (.int .i64) (.cons .str (.cons .bool (.sl (.cons (.int .i64) (.int .i64)))))))) (.cons .bool (.cons (.int .i64) (.cons (.int .i64) (.cons .str (.cons .bool (.sl (.cons (.int .i64) (.int .i64)))))))))))))), .one (.int .i64), .one (.int .i64)], []⟩, ⟨[.row (.cons (.int .i64) (.cons (.int .i64) (.cons .str (.cons .bool (.sl (.cons (.int .i64) (.int .i64))))))), .one .bool], []⟩, fun x => decl_Match x.1.1 x.1.2.1 x.1.2.2.1⟩
theorem con13 : Contract Tryd.prog 13 fc13 :=
  decl_Match_D.contract tok (cok_of (l := [(27, fc27)]) ⟨con27, trivial⟩) mixed (fn' := Tryd.f13) (by kernel_rfl) (by kernel_rfl) rfl (by kernel_rfl) (fun x => (FD.fn_eq _ _).trans (by kernel_rfl))
end
end Go.Proofs.YtjgjbdnjjepibaaDoor
end

section
/-
YtjgjbdnjjepibaaDoor: signalbench.signalbenchref34.Match, as one plain function, its equations, its contract. No condition.
-/
set_option maxRecDepth 100000
set_option linter.unusedVariables false
set_option maxHeartbeats 4000000
open Go Go.AM
namespace Go.Proofs.YtjgjbdnjjepibaaDoor
noncomputable section
def ref34_Match_F7 : FSh := ⟨[(2, .one (.int .i64)), (6, .one (.ptr 0 0)), (8, .one (.ptr 1 0)), (9, .one (.int .i64))], [.boxr 33 (.cons (.int .i64) (.cons (.int .i64) (.cons .str (.cons .bool (.sl (.cons (.int .i64) (.int .i64))))))), .boxr 46 (.cons .str (.cons (.sl (.cons (.int .i64) (.cons (.int .i64) (.cons .str (.cons .bool (.sl (.cons (.int .i64) (.int .i64)))))))) (.cons .bool (.cons (.int .i64) (.cons (.int .i64) (.cons .str (.cons .bool (.sl (.cons (.int .i64) (.int .i64))))))))))]⟩
def ref34_Match_D : FD := ⟨T, lookC [], [], (Tryd.f14.body.getD .skip), Tryd.f14.results.toList, ⟨[.row (.cons .str (.cons (.int .i64) (.cons (.int .i64) (.sl (.cons .str (.cons (.sl (.cons (.int .i64) (.cons (.int .i64) (.cons .str (.cons .bool (.sl (.cons (.int .i64) (.int .i64)))))))) (.cons .bool (.cons (.int .i64) (.cons (.int .i64) (.cons .str (.cons .bool (.sl (.cons (.int .i64) (.int .i64)))))))))))))), .one (.int .i64), .one (.int .i64)], []⟩, ⟨[.row (.cons (.int .i64) (.cons (.int .i64) (.cons .str (.cons .bool (.sl (.cons (.int .i64) (.int .i64))))))), .one .bool], []⟩, [(7, ref34_Match_F7)]⟩
def ref34_Match_l7 (symbol : Int) (i : Int) (h0 : TRule) (h1 : TDeclState) : (Option ((TRule × Bool × Unit) × Unit)) := ref34_Match_D.lab 7 ref34_Match_F7 ((symbol, (), (), i, ()), (h0, h1, ()))
theorem ref34_Match_l7_eq (symbol : Int) (i : Int) (h0 : TRule) (h1 : TDeclState) : ref34_Match_l7 symbol i h0 h1 =
  if (decide (i < (h1.2.1.length : Int))) = true then
    if 0 ≤ i ∧ i < (h1.2.1.length : Int) then
      if (decide ((h1.2.1.getD i.toNat dRule).1 ≤ symbol)) = true then
        if 0 ≤ i ∧ i < (h1.2.1.length : Int) then
          if (decide (symbol ≤ (h1.2.1.getD i.toNat dRule).2.1)) = true then
            if 0 ≤ i ∧ i < (h1.2.1.length : Int) then
              some (((h1.2.1.getD i.toNat dRule), true, ()), ())
            else
              none
          else
            ref34_Match_l7 symbol (IntKind.i64.wrap (i + 1)) h0 h1
        else
          none
      else
        ref34_Match_l7 symbol (IntKind.i64.wrap (i + 1)) h0 h1
    else
      none
  else
    if h1.2.2.1 = true then
      some ((h1.2.2.2, true, ()), ())
    else
      some (((0, 0, (strB []), false, []), false, ()), ()) := (FD.lab_eq _ _ _ _).trans (by kernel_rfl)
def ref34_Match (d : TDecl) (state : Int) (symbol : Int) : (Option ((TRule × Bool × Unit) × Unit)) :=
  if (decide (state < 0)) = true then
    some (((0, 0, (strB []), false, []), false, ()), ())
  else
    if (decide (state ≥ (d.2.2.2.length : Int))) = true then
      some (((0, 0, (strB []), false, []), false, ()), ())
    else
      if 0 ≤ state ∧ state < (d.2.2.2.length : Int) then
        ref34_Match_l7 symbol 0 (0, 0, (strB []), false, []) (d.2.2.2.getD state.toNat dDeclState)
      else
        none
def fc14 : FC := ⟨⟨[.row (.cons .str (.cons (.int .i64) (.cons (.int .i64) (.sl (.cons .str (.cons (.sl (.cons (.int .i64) (.cons (.int .i64) (.cons .str (.cons .bool (.sl (.cons (.int .i64) (.int .i64)))))))) (.cons .bool (.cons (.int .i64) (.cons (.int .i64) (.cons .str (.cons .bool (.sl (.cons (.int .i64) (.int .i64)))))))))))))), .one (.int .i64), .one (.int .i64)], []⟩, ⟨[.row (.cons (.int .i64) (.cons (.int .i64) (.cons .str (.cons .bool (.sl (.cons (.int .i64) (.int .i64))))))), .one .bool], []⟩, fun x => ref34_Match x.1.1 x.1.2.1 x.1.2.2.1⟩
theorem con14 : Contract Tryd.prog 14 fc14 :=
  ref34_Match_D.contract tok (cok_of (l := []) trivial) mixed (fn' := Tryd.f14) (by kernel_rfl) (by kernel_rfl) rfl (by kernel_rfl) (fun x => (FD.fn_eq _ _).trans (by kernel_rfl))
end
end Go.Proofs.YtjgjbdnjjepibaaDoor
end

section
/-
YtjgjbdnjjepibaaDoor: signalbench.signalbenchref34.SameRule, as one plain function, its equations, its contract. No condition.
-/
set_option maxRecDepth 100000
set_option linter.unusedVariables false
set_option maxHeartbeats 4000000
open Go Go.AM
namespace Go.Proofs.YtjgjbdnjjepibaaDoor
noncomputable section
def ref34_SameRule_F6 : FSh := ⟨[(2, .one (.ptr 0 0)), (3, .one (.ptr 1 0)), (5, .one (.int .i64))], [.boxr 33 (.cons (.int .i64) (.cons (.int .i64) (.cons .str (.cons .bool (.sl (.cons (.int .i64) (.int .i64))))))), .boxr 33 (.cons (.int .i64) (.cons (.int .i64) (.cons .str (.cons .bool (.sl (.cons (.int .i64) (.int .i64)))))))]⟩
def ref34_SameRule_D : FD := ⟨T, lookC [], [], (Tryd.f15.body.getD .skip), Tryd.f15.results.toList, ⟨[.row (.cons (.int .i64) (.cons (.int .i64) (.cons .str (.cons .bool (.sl (.cons (.int .i64) (.int .i64))))))), .row (.cons (.int .i64) (.cons (.int .i64) (.cons .str (.cons .bool (.sl (.cons (.int .i64) (.int .i64)))))))], []⟩, ⟨[.one .bool], []⟩, [(6, ref34_SameRule_F6)]⟩
def ref34_SameRule_l6 (i : Int) (h0 : TRule) (h1 : TRule) : (Option ((Bool × Unit) × Unit)) := ref34_SameRule_D.lab 6 ref34_SameRule_F6 (((), (), i, ()), (h0, h1, ()))
theorem ref34_SameRule_l6_eq (i : Int) (h0 : TRule) (h1 : TRule) : ref34_SameRule_l6 i h0 h1 =
  if (decide (i < (h0.2.2.2.2.length : Int))) = true then
    if 0 ≤ i ∧ i < (h0.2.2.2.2.length : Int) then
      if 0 ≤ i ∧ i < (h1.2.2.2.2.length : Int) then
        if (!(eqU uAct (h0.2.2.2.2.getD i.toNat dAct) (h1.2.2.2.2.getD i.toNat dAct))) = true then
          some ((false, ()), ())
        else
          ref34_SameRule_l6 (IntKind.i64.wrap (i + 1)) h0 h1
      else
        none
    else
      none
  else
    some ((true, ()), ()) := (FD.lab_eq _ _ _ _).trans (by kernel_rfl)
def ref34_SameRule (a : TRule) (b : TRule) : (Option ((Bool × Unit) × Unit)) :=
  if (a.1 != b.1) = true then
    some ((false, ()), ())
  else
    if (a.2.1 != b.2.1) = true then
      some ((false, ()), ())
    else
      if (!(a.2.2.1.toList == b.2.2.1.toList)) = true then
        some ((false, ()), ())
      else
        if (!(a.2.2.2.1 == b.2.2.2.1)) = true then
          some ((false, ()), ())
        else
          if ((a.2.2.2.2.length : Int) != (b.2.2.2.2.length : Int)) = true then
            some ((false, ()), ())
          else
            ref34_SameRule_l6 0 a b
def fc15 : FC := ⟨⟨[.row (.cons (.int .i64) (.cons (.int .i64) (.cons .str (.cons .bool (.sl (.cons (.int .i64) (.int .i64))))))), .row (.cons (.int .i64) (.cons (.int .i64) (.cons .str (.cons .bool (.sl (.cons (.int .i64) (.int .i64)))))))], []⟩, ⟨[.one .bool], []⟩, fun x => ref34_SameRule x.1.1 x.1.2.1⟩
theorem con15 : Contract Tryd.prog 15 fc15 :=
  ref34_SameRule_D.contract tok (cok_of (l := []) trivial) mixed (fn' := Tryd.f15) (by kernel_rfl) (by kernel_rfl) rfl (by kernel_rfl) (fun x => (FD.fn_eq _ _).trans (by kernel_rfl))
end
end Go.Proofs.YtjgjbdnjjepibaaDoor
end

section
/-
YtjgjbdnjjepibaaDoor: (*signalbench.decl.writer).words, as one plain function, its equations, its contract. No condition.
-/
set_option maxRecDepth 100000
set_option linter.unusedVariables false
set_option maxHeartbeats 4000000
open Go Go.AM
namespace Go.Proofs.YtjgjbdnjjepibaaDoor
noncomputable section
def decl_writer_words_F1 : FSh := ⟨[(0, .one (.ptr 0 0)), (6, .one (.sl .str)), (7, .one (.int .i64)), (8, .one (.int .i64))], [.box 58 [(.own 2)], .dead, .arr 70 (.cons (.int .i64) (.cons .str (.cons (.int .i64) (.int .i64)))) true]⟩
def decl_writer_words_D : FD := ⟨T, lookC [], [], (Tryd.f28.body.getD .skip), Tryd.f28.results.toList, ⟨[.one (.ptr 0 0), .one (.sl .str)], [.box 58 [(.own 1)], .arr 70 (.cons (.int .i64) (.cons .str (.cons (.int .i64) (.int .i64)))) true]⟩, ⟨[], [.box 58 [(.own 2)], .dead, .arr 70 (.cons (.int .i64) (.cons .str (.cons (.int .i64) (.int .i64)))) true]⟩, [(1, decl_writer_words_F1)]⟩
def decl_writer_words_l1 (t6 : (List ByteArray)) (t7 : Int) (t8 : Int) (l2 : (List TToken)) : (Option (Unit × ((Unit × Unit) × Unit × (List TToken) × Unit))) := decl_writer_words_D.lab 1 decl_writer_words_F1 (((), t6, t7, t8, ()), (((), ()), (), l2, ()))
theorem decl_writer_words_l1_eq (t6 : (List ByteArray)) (t7 : Int) (t8 : Int) (l2 : (List TToken)) : decl_writer_words_l1 t6 t7 t8 l2 =
  if (decide (t8 < t7)) = true then
    if 0 ≤ t8 ∧ t8 < (t6.length : Int) then
      if (l2.length + 1) * 40 ≤ 140737488355328 ∧ 0 < 40 then
        decl_writer_words_l1 t6 t7 (IntKind.i64.wrap (t8 + 1)) (l2 ++ [(1, t6.getD t8.toNat (strB []), 0, 0)])
      else
        none
    else
      none
  else
    some ((), (((), ()), (), l2, ())) := (FD.lab_eq _ _ _ _).trans (by kernel_rfl)
def decl_writer_words (l : (List ByteArray)) (l1 : (List TToken)) : (Option (Unit × ((Unit × Unit) × Unit × (List TToken) × Unit))) :=
  decl_writer_words_l1 l (l.length : Int) 0 l1
def fc28 : FC := ⟨⟨[.one (.ptr 0 0), .one (.sl .str)], [.box 58 [(.own 1)], .arr 70 (.cons (.int .i64) (.cons .str (.cons (.int .i64) (.int .i64)))) true]⟩, ⟨[], [.box 58 [(.own 2)], .dead, .arr 70 (.cons (.int .i64) (.cons .str (.cons (.int .i64) (.int .i64)))) true]⟩, fun x => decl_writer_words x.1.2.1 x.2.2.1⟩
theorem con28 : Contract Tryd.prog 28 fc28 :=
  decl_writer_words_D.contract tok (cok_of (l := []) trivial) mixed (fn' := Tryd.f28) (by kernel_rfl) (by kernel_rfl) rfl (by kernel_rfl) (fun x => (FD.fn_eq _ _).trans (by kernel_rfl))
end
end Go.Proofs.YtjgjbdnjjepibaaDoor
end

section
/-
YtjgjbdnjjepibaaDoor: (*signalbench.decl.writer).marks, as one plain function, its equations, its contract. No condition.
-/
set_option maxRecDepth 100000
set_option linter.unusedVariables false
set_option maxHeartbeats 4000000
open Go Go.AM
namespace Go.Proofs.YtjgjbdnjjepibaaDoor
noncomputable section
def decl_writer_marks_F1 : FSh := ⟨[(0, .one (.ptr 0 0)), (1, .one .str), (6, .one (.int .i64)), (7, .one (.int .i64))], [.box 58 [(.own 2)], .dead, .arr 70 (.cons (.int .i64) (.cons .str (.cons (.int .i64) (.int .i64)))) true]⟩
def decl_writer_marks_D : FD := ⟨T, lookC [], [], (Tryd.f29.body.getD .skip), Tryd.f29.results.toList, ⟨[.one (.ptr 0 0), .one .str], [.box 58 [(.own 1)], .arr 70 (.cons (.int .i64) (.cons .str (.cons (.int .i64) (.int .i64)))) true]⟩, ⟨[], [.box 58 [(.own 2)], .dead, .arr 70 (.cons (.int .i64) (.cons .str (.cons (.int .i64) (.int .i64)))) true]⟩, [(1, decl_writer_marks_F1)]⟩
def decl_writer_marks_l1 (s : ByteArray) (t6 : Int) (t7 : Int) (l2 : (List TToken)) : (Option (Unit × ((Unit × Unit) × Unit × (List TToken) × Unit))) := decl_writer_marks_D.lab 1 decl_writer_marks_F1 (((), s, t6, t7, ()), (((), ()), (), l2, ()))
theorem decl_writer_marks_l1_eq (s : ByteArray) (t6 : Int) (t7 : Int) (l2 : (List TToken)) : decl_writer_marks_l1 s t6 t7 l2 =
  if (decide (t7 < t6)) = true then
    if 0 ≤ t7 ∧ t7 ≤ IntKind.i64.wrap (t7 + 1) ∧ IntKind.i64.wrap (t7 + 1) ≤ (s.size : Int) then
      if (l2.length + 1) * 40 ≤ 140737488355328 ∧ 0 < 40 then
        decl_writer_marks_l1 s t6 (IntKind.i64.wrap (t7 + 1)) (l2 ++ [(4, s.extract t7.toNat (IntKind.i64.wrap (t7 + 1)).toNat, 0, 0)])
      else
        none
    else
      none
  else
    some ((), (((), ()), (), l2, ())) := (FD.lab_eq _ _ _ _).trans (by kernel_rfl)
def decl_writer_marks (s : ByteArray) (l1 : (List TToken)) : (Option (Unit × ((Unit × Unit) × Unit × (List TToken) × Unit))) :=
  decl_writer_marks_l1 s (s.size : Int) 0 l1
def fc29 : FC := ⟨⟨[.one (.ptr 0 0), .one .str], [.box 58 [(.own 1)], .arr 70 (.cons (.int .i64) (.cons .str (.cons (.int .i64) (.int .i64)))) true]⟩, ⟨[], [.box 58 [(.own 2)], .dead, .arr 70 (.cons (.int .i64) (.cons .str (.cons (.int .i64) (.int .i64)))) true]⟩, fun x => decl_writer_marks x.1.2.1 x.2.2.1⟩
theorem con29 : Contract Tryd.prog 29 fc29 :=
  decl_writer_marks_D.contract tok (cok_of (l := []) trivial) mixed (fn' := Tryd.f29) (by kernel_rfl) (by kernel_rfl) rfl (by kernel_rfl) (fun x => (FD.fn_eq _ _).trans (by kernel_rfl))
end
end Go.Proofs.YtjgjbdnjjepibaaDoor
end

section
/-
  DERIVED: THE SHELF's CONTRACTS AT THIS DUMP, IN PLAIN WORDS (tools/lay-plain.mjs out of 'TrydShelf.lean', which tools/lay-shelf.mjs wrote): THE SAME DECLARATIONS UNDER THE SAME NAMES: 'import', 'namespace', 'open', 'def', 'theorem' AND NOTHING ELSE: no command of the shelf's: FOR A HAND-IN. Each laying: the table of numbers ('.._ren') and one theorem, a field a fact of the dump's own or the kernel's comparison; each contract: ONE APPLICATION.
-/
namespace Go.Proofs
open Go.Shelf
def Tryd.lays170_ren : Go.Shelf.Ren := ⟨fun | 170 => 50 | n => n, fun | 70 => 81 | 3 => 3 | 0 => 0 | 72 => 84 | 37 => 82 | 5 => 5 | n => n, fun | n => n⟩
theorem Tryd.lays170 : Go.Proofs.Lays.n170 Tryd.prog Tryd.lays170_ren := {
  mixed := by kernel_rfl
  f170 := Tryd.func50.trans (congrArg some (by kernel_rfl))
  t0 := Tryd.underlying0
  a0 := Tryd.isAgg0
  z0 := Tryd.sizeOf0
  v0 := Tryd.zeroValue0
  t3 := Tryd.underlying3
  a3 := Tryd.isAgg3
  z3 := Tryd.sizeOf3
  v3 := Tryd.zeroValue3
  t37 := Tryd.underlying82
  a37 := Tryd.isAgg82
  z37 := Tryd.sizeOf82
  v37 := Tryd.zeroValue82
  t70 := Tryd.underlying81
  a70 := Tryd.isAgg81
  z70 := Tryd.sizeOf81
  v70 := Tryd.zeroValue81
  t72 := Tryd.underlying84
  a72 := Tryd.isAgg84
  z72 := Tryd.sizeOf84
  v72 := Tryd.zeroValue84 }
open Go.RowKit in
/-- (*strings.Builder).Len: "Len returns the number of accumulated bytes; b.Len() == len(b.String()).": the world is as it was. (LAID: no walk: one application.) -/
theorem Tryd.Builder_Len (B b : Nat) (bs : List Value) (w : World) (h : Lib.IsBuilder 84 5 B b bs w) :
    Calls Tryd.prog 50 #[.pointer (some ⟨b, 0, none⟩)] w fun e w' => e = .returned (.int .i64 bs.length) ∧ w' = w := Any.Builder_Len Tryd.lays170 B b bs w h
def Tryd.lays169_ren : Go.Shelf.Ren := ⟨fun | 169 => 51 | n => n, fun | 70 => 81 | 9 => 9 | 0 => 0 | 72 => 84 | 37 => 82 | 127 => 104 | 3 => 3 | 5 => 5 | n => n, fun | n => n⟩
theorem Tryd.lays169 : Go.Proofs.Lays.n169 Tryd.prog Tryd.lays169_ren := {
  mixed := by kernel_rfl
  f169 := Tryd.func51.trans (congrArg some (by kernel_rfl))
  t0 := Tryd.underlying0
  a0 := Tryd.isAgg0
  z0 := Tryd.sizeOf0
  v0 := Tryd.zeroValue0
  t3 := Tryd.underlying3
  a3 := Tryd.isAgg3
  z3 := Tryd.sizeOf3
  v3 := Tryd.zeroValue3
  t9 := Tryd.underlying9
  a9 := Tryd.isAgg9
  z9 := Tryd.sizeOf9
  v9 := Tryd.zeroValue9
  t37 := Tryd.underlying82
  a37 := Tryd.isAgg82
  z37 := Tryd.sizeOf82
  v37 := Tryd.zeroValue82
  t70 := Tryd.underlying81
  a70 := Tryd.isAgg81
  z70 := Tryd.sizeOf81
  v70 := Tryd.zeroValue81
  t72 := Tryd.underlying84
  a72 := Tryd.isAgg84
  z72 := Tryd.sizeOf84
  v72 := Tryd.zeroValue84
  t127 := Tryd.underlying104
  a127 := Tryd.isAgg104
  z127 := Tryd.sizeOf104
  v127 := Tryd.zeroValue104 }
theorem Tryd.Builder_Extra_169 : Builder.Extra Tryd.prog Tryd.lays169_ren := {
  sizeBuilder := by kernel_rfl
  liesBuilder := by kernel_rfl
  t5 := Tryd.underlying5
  a5 := Tryd.isAgg5
  z5 := Tryd.sizeOf5
  v5 := Tryd.zeroValue5
  infoByte := by kernel_rfl
  cellsByte := by kernel_rfl
  sizeByte := by kernel_rfl
  neB5 := by decide }
open Go.RowKit in
/-- (*strings.Builder).String: "String returns the accumulated string.": OF A BUILDER THAT HOLDS AT LEAST ONE BYTE. ✋ THE MODEL FREEZES THOSE BYTES IN THE BUFFER (unsafe.String): a later write INTO them ends the model's run without an answer; a later append BEHIND them goes on. The statement's order of evaluation is drawn: one draw. (LAID: no walk: one application.) -/
theorem Tryd.Builder_String (B b : Nat) (l : List UInt8) (w : World) (h : Lib.IsBuilder 84 5 B b (Lib.byteCells l) w) (h0 : l ≠ []) :
    Calls Tryd.prog 51 #[.pointer (some ⟨b, 0, none⟩)] w fun e w' => e = .returned (.string ⟨l.toArray⟩) ∧ Below B w w' := Any.Builder_String Tryd.lays169 Tryd.Builder_Extra_169 B b l w h h0
open Go.RowKit in
/-- (*strings.Builder).String OF A BUILDER THAT HOLDS NO BYTE: the empty string. (Its buffer is nil, or a row of which it has taken nothing yet; where that row has NO capacity the model lays one new block for unsafe.SliceData's 'some address'.) One draw. (LAID: no walk: one application.) -/
theorem Tryd.Builder_String_empty (B b : Nat) (w : World) (h : Lib.IsBuilder 84 5 B b [] w) (hBw : B ≤ w.heap.size) :
    Calls Tryd.prog 51 #[.pointer (some ⟨b, 0, none⟩)] w fun e w' => e = .returned (.string ⟨#[]⟩) ∧ Below B w w' := Any.Builder_String_empty Tryd.lays169 Tryd.Builder_Extra_169 B b w h hBw
open Go.RowKit in
/-- (*strings.Builder).String: "String returns the accumulated string.": WHATEVER THE BUILDER HOLDS. (LAID: no walk: one application.) -/
theorem Tryd.Builder_String_any (B b : Nat) (l : List UInt8) (w : World) (h : Lib.IsBuilder 84 5 B b (Lib.byteCells l) w) (hBw : B ≤ w.heap.size) :
    Calls Tryd.prog 51 #[.pointer (some ⟨b, 0, none⟩)] w fun e w' => e = .returned (.string ⟨l.toArray⟩) ∧ Below B w w' := Any.Builder_String_any Tryd.lays169 Tryd.Builder_Extra_169 B b l w h hBw
def Tryd.lays137_ren : Go.Shelf.Ren := ⟨fun | 137 => 52 | 217 => 65 | 266 => 78 | n => n, fun | 9 => 9 | 5 => 5 | 3 => 3 | n => n, fun | n => n⟩
theorem Tryd.lays137 : Go.Proofs.Lays.n137 Tryd.prog Tryd.lays137_ren := {
  mixed := by kernel_rfl
  f137 := Tryd.func52.trans (congrArg some (by kernel_rfl))
  f217 := Tryd.func65.trans (congrArg some (by kernel_rfl))
  f266 := Tryd.func78.trans (congrArg some (by kernel_rfl))
  t3 := Tryd.underlying3
  a3 := Tryd.isAgg3
  z3 := Tryd.sizeOf3
  v3 := Tryd.zeroValue3
  t5 := Tryd.underlying5
  a5 := Tryd.isAgg5
  z5 := Tryd.sizeOf5
  v5 := Tryd.zeroValue5
  t9 := Tryd.underlying9
  a9 := Tryd.isAgg9
  z9 := Tryd.sizeOf9
  v9 := Tryd.zeroValue9 }
open Go.RowKit in
/-- strings.IndexByte: "IndexByte returns the index of the first instance of c in s, or -1 if c is not present in s.": IT RETURNS 'Lib.indexByte s c'; the world is as it was. (LAID: no walk: one application.) -/
theorem Tryd.strings_IndexByte (s : ByteArray) (c : Int) (w : World) :
    Calls Tryd.prog 52 #[.string s, .int .u8 c] w fun e w' => e = .returned (.int .i64 (Lib.indexByte s.data.toList c.toNat.toUInt8)) ∧ w' = w := Any.strings_IndexByte Tryd.lays137 s c w
open Go.RowKit in
/-- (*strings.Builder).Len: "Len returns the number of accumulated bytes; b.Len() == len(b.String()).": the world is as it was. (THE FORM '_f': 'Lib.IsBuilderF'.) (LAID: no walk: one application.) -/
theorem Tryd.Builder_Len_f (B b : Nat) (bs : List Value) (w : World) (h : Lib.IsBuilderF 84 5 B b bs w) :
    Calls Tryd.prog 50 #[.pointer (some ⟨b, 0, none⟩)] w fun e w' => e = .returned (.int .i64 bs.length) ∧ w' = w := Any.Builder_Len_f Tryd.lays170 B b bs w h
open Go.RowKit in
/-- (*strings.Builder).String: "String returns the accumulated string.": OF A BUILDER THAT HOLDS AT LEAST ONE BYTE. ✋ THE MODEL FREEZES THOSE BYTES IN THE BUFFER (unsafe.String): a later write INTO them ends the model's run without an answer; a later append BEHIND them goes on. The statement's order of evaluation is drawn: one draw. THE FORM '_f': IT SAYS BESIDES THAT THE BUILDER IS A BUILDER STILL ('Lib.IsBuilderF', the same bytes): SO IT CAN BE WRITTEN ON: 'b.WriteString(b.String()[:k])'. (LAID: no walk: one application.) -/
theorem Tryd.Builder_String_f (B b : Nat) (l : List UInt8) (w : World) (h : Lib.IsBuilderF 84 5 B b (Lib.byteCells l) w) (h0 : l ≠ []) :
    Calls Tryd.prog 51 #[.pointer (some ⟨b, 0, none⟩)] w fun e w' => e = .returned (.string ⟨l.toArray⟩) ∧ (Lib.IsBuilderF 84 5 B b (Lib.byteCells l) w' ∧ Below B w w') := Any.Builder_String_f Tryd.lays169 Tryd.Builder_Extra_169 B b l w h h0
open Go.RowKit in
/-- (*strings.Builder).String OF A BUILDER THAT HOLDS NO BYTE: the empty string; THE FORM '_f': a builder still. (LAID: no walk: one application.) -/
theorem Tryd.Builder_String_empty_f (B b : Nat) (w : World) (h : Lib.IsBuilderF 84 5 B b [] w) (hBw : B ≤ w.heap.size) :
    Calls Tryd.prog 51 #[.pointer (some ⟨b, 0, none⟩)] w fun e w' => e = .returned (.string ⟨#[]⟩) ∧ (Lib.IsBuilderF 84 5 B b [] w' ∧ Below B w w') := Any.Builder_String_empty_f Tryd.lays169 Tryd.Builder_Extra_169 B b w h hBw
open Go.RowKit in
/-- (*strings.Builder).String: "String returns the accumulated string.": WHATEVER THE BUILDER HOLDS; THE FORM '_f': OF A BUILDER THAT MAY HAVE BEEN READ BEFORE; AND IT IS A BUILDER STILL, holding the same bytes: it can be written on. (LAID: no walk: one application.) -/
theorem Tryd.Builder_String_any_f (B b : Nat) (l : List UInt8) (w : World) (h : Lib.IsBuilderF 84 5 B b (Lib.byteCells l) w) (hBw : B ≤ w.heap.size) :
    Calls Tryd.prog 51 #[.pointer (some ⟨b, 0, none⟩)] w fun e w' => e = .returned (.string ⟨l.toArray⟩) ∧ (Lib.IsBuilderF 84 5 B b (Lib.byteCells l) w' ∧ Below B w w') := Any.Builder_String_any_f Tryd.lays169 Tryd.Builder_Extra_169 B b l w h hBw
open Go.RowKit in
/-- (*strings.Builder).String: "String returns the accumulated string.": OF A BUILDER THAT HOLDS AT LEAST ONE BYTE. ✋ THE MODEL FREEZES THOSE BYTES IN THE BUFFER (unsafe.String): a later write INTO them ends the model's run without an answer; a later append BEHIND them goes on. The statement's order of evaluation is drawn: one draw. THE FORM '_k': OVER 'Lib.IsBuilderF' (a builder that 'String()' may have read), AND WITH THE FRAME THAT REACHES ABOVE THE BUILDER: 'Lib.OthersKept': every block that is not b and is no row of uint8's stands as it stood: the iterator of a range among them. (LAID: no walk: one application.) -/
theorem Tryd.Builder_String_k (B b : Nat) (l : List UInt8) (w : World) (h : Lib.IsBuilderF 84 5 B b (Lib.byteCells l) w) (h0 : l ≠ []) :
    Calls Tryd.prog 51 #[.pointer (some ⟨b, 0, none⟩)] w fun e w' => e = .returned (.string ⟨l.toArray⟩) ∧ (Lib.IsBuilderF 84 5 B b (Lib.byteCells l) w' ∧ Below B w w' ∧ Lib.OthersKept 5 (some b) w w') := Any.Builder_String_k Tryd.lays169 Tryd.Builder_Extra_169 B b l w h h0
open Go.RowKit in
/-- (*strings.Builder).String OF A BUILDER THAT HOLDS NO BYTE: the empty string; THE FORM '_k': OVER 'Lib.IsBuilderF' (a builder that 'String()' may have read), AND WITH THE FRAME THAT REACHES ABOVE THE BUILDER: 'Lib.OthersKept': every block that is not b and is no row of uint8's stands as it stood: the iterator of a range among them. (LAID: no walk: one application.) -/
theorem Tryd.Builder_String_empty_k (B b : Nat) (w : World) (h : Lib.IsBuilderF 84 5 B b [] w) (hBw : B ≤ w.heap.size) :
    Calls Tryd.prog 51 #[.pointer (some ⟨b, 0, none⟩)] w fun e w' => e = .returned (.string ⟨#[]⟩) ∧ (Lib.IsBuilderF 84 5 B b [] w' ∧ Below B w w' ∧ Lib.OthersKept 5 (some b) w w') := Any.Builder_String_empty_k Tryd.lays169 Tryd.Builder_Extra_169 B b w h hBw
open Go.RowKit in
/-- (*strings.Builder).String: "String returns the accumulated string.": WHATEVER THE BUILDER HOLDS; THE FORM '_k': OVER 'Lib.IsBuilderF' (a builder that 'String()' may have read), AND WITH THE FRAME THAT REACHES ABOVE THE BUILDER: 'Lib.OthersKept': every block that is not b and is no row of uint8's stands as it stood: the iterator of a range among them. (LAID: no walk: one application.) -/
theorem Tryd.Builder_String_any_k (B b : Nat) (l : List UInt8) (w : World) (h : Lib.IsBuilderF 84 5 B b (Lib.byteCells l) w) (hBw : B ≤ w.heap.size) :
    Calls Tryd.prog 51 #[.pointer (some ⟨b, 0, none⟩)] w fun e w' => e = .returned (.string ⟨l.toArray⟩) ∧ (Lib.IsBuilderF 84 5 B b (Lib.byteCells l) w' ∧ Below B w w' ∧ Lib.OthersKept 5 (some b) w w') := Any.Builder_String_any_k Tryd.lays169 Tryd.Builder_Extra_169 B b l w h hBw
def Tryd.lays129_ren : Go.Shelf.Ren := ⟨fun | 129 => 86 | n => n, fun | 53 => 117 | 3 => 3 | 4 => 4 | 46 => 111 | 5 => 5 | 9 => 9 | n => n, fun | n => n⟩
theorem Tryd.lays129 : Go.Proofs.Lays.n129 Tryd.prog Tryd.lays129_ren := {
  mixed := by kernel_rfl
  f129 := Tryd.func86.trans (congrArg some (by kernel_rfl))
  t3 := Tryd.underlying3
  a3 := Tryd.isAgg3
  z3 := Tryd.sizeOf3
  v3 := Tryd.zeroValue3
  t4 := Tryd.underlying4
  a4 := Tryd.isAgg4
  z4 := Tryd.sizeOf4
  v4 := Tryd.zeroValue4
  t5 := Tryd.underlying5
  a5 := Tryd.isAgg5
  z5 := Tryd.sizeOf5
  v5 := Tryd.zeroValue5
  t9 := Tryd.underlying9
  a9 := Tryd.isAgg9
  z9 := Tryd.sizeOf9
  v9 := Tryd.zeroValue9
  t46 := Tryd.underlying111
  a46 := Tryd.isAgg111
  z46 := Tryd.sizeOf111
  v46 := Tryd.zeroValue111
  t53 := Tryd.underlying117
  a53 := Tryd.isAgg117
  z53 := Tryd.sizeOf117
  v53 := Tryd.zeroValue117 }
/-- bits.Len64: "Len64 returns the minimum number of bits required to represent x; the result is 0 for x == 0.": IT RETURNS 'Lib.bitLen x'; the world is as it was. ('h0', 'h1': x is a uint64.) (LAID: no walk: one application.) -/
theorem Tryd.bits_Len64 (x : Int) (w : World) (h0 : 0 ≤ x) (h1 : x ≤ 18446744073709551615) :
    Calls Tryd.prog 86 #[.int .u64 x] w fun e w' => e = .returned (.int .i64 (Lib.bitLen x.toNat)) ∧ w' = w := Any.bits_Len64 Tryd.lays129 x w h0 h1
def Tryd.lays317_ren : Go.Shelf.Ren := ⟨fun | 317 => 85 | n => n, fun | 3 => 3 | 46 => 111 | n => n, fun | n => n⟩
theorem Tryd.lays317 : Go.Proofs.Lays.n317 Tryd.prog Tryd.lays317_ren := {
  mixed := by kernel_rfl
  f317 := Tryd.func85.trans (congrArg some (by kernel_rfl))
  t3 := Tryd.underlying3
  a3 := Tryd.isAgg3
  z3 := Tryd.sizeOf3
  v3 := Tryd.zeroValue3
  t46 := Tryd.underlying111
  a46 := Tryd.isAgg111
  z46 := Tryd.sizeOf111
  v46 := Tryd.zeroValue111 }
open Go.Lib in
/-- internal/strconv.log10Pow2: "log10Pow2(x) returns ⌊log₁₀ 2**x⌋ = ⌊x * log₁₀ 2⌋.": '(x * 78913) >> 18', at an x up to 64 (a length in bits). The world is as it was. (LAID: no walk: one application.) -/
theorem Tryd.internal_strconv_log10Pow2 (x : Nat) (h : x ≤ 64) (w : World) :
    Calls Tryd.prog 85 #[.int .i64 x] w fun e w' => e = .returned (.int .i64 (Lib.l10 x)) ∧ w' = w := Any.internal_strconv_log10Pow2 Tryd.lays317 x h w
def Tryd.lays318_ren : Go.Shelf.Ren := ⟨fun | 318 => 87 | n => n, fun | 3 => 3 | 4 => 4 | n => n, fun | n => n⟩
theorem Tryd.lays318 : Go.Proofs.Lays.n318 Tryd.prog Tryd.lays318_ren := {
  mixed := by kernel_rfl
  f318 := Tryd.func87.trans (congrArg some (by kernel_rfl))
  t3 := Tryd.underlying3
  a3 := Tryd.isAgg3
  z3 := Tryd.sizeOf3
  v3 := Tryd.zeroValue3
  t4 := Tryd.underlying4
  a4 := Tryd.isAgg4
  z4 := Tryd.sizeOf4
  v4 := Tryd.zeroValue4 }
open Go.Lib in
/-- internal/strconv.bool2: "bool2 converts b to an integer: 1 for true, 0 for false." The world is as it was. (LAID: no walk: one application.) -/
theorem Tryd.internal_strconv_bool2_int (b : Bool) (w : World) :
    Calls Tryd.prog 87 #[.bool b] w fun e w' => e = .returned (.int .i64 (if b then 1 else 0)) ∧ w' = w := Any.internal_strconv_bool2_int Tryd.lays318 b w
def Tryd.lays283_ren : Go.Shelf.Ren := ⟨fun | 283 => 80 | n => n, fun | 3 => 3 | 9 => 9 | 4 => 4 | n => n, fun | n => n⟩
theorem Tryd.lays283 : Go.Proofs.Lays.n283 Tryd.prog Tryd.lays283_ren := {
  mixed := by kernel_rfl
  f283 := Tryd.func80.trans (congrArg some (by kernel_rfl))
  t3 := Tryd.underlying3
  a3 := Tryd.isAgg3
  z3 := Tryd.sizeOf3
  v3 := Tryd.zeroValue3
  t4 := Tryd.underlying4
  a4 := Tryd.isAgg4
  z4 := Tryd.sizeOf4
  v4 := Tryd.zeroValue4
  t9 := Tryd.underlying9
  a9 := Tryd.isAgg9
  z9 := Tryd.sizeOf9
  v9 := Tryd.zeroValue9 }
open Go.Lib in
/-- internal/strconv.small: "small returns the string for an i with 0 <= i < nSmalls.": i's decimal numeral. The world is as it was. (LAID: no walk: one application.) -/
theorem Tryd.internal_strconv_small (i : Nat) (h : i < 100) (w : World) :
    Calls Tryd.prog 80 #[.int .i64 i] w fun e w' => e = .returned (.string ⟨(Lib.decDigits i).toArray⟩) ∧ w' = w := Any.internal_strconv_small Tryd.lays283 i h w
def Tryd.laysM284_ren : Go.Shelf.Ren := ⟨fun | 284 => 81 | 129 => 86 | 317 => 85 | 318 => 87 | n => n, fun | 53 => 117 | 3 => 3 | 212 => 124 | 0 => 0 | 4 => 4 | 46 => 111 | 5 => 5 | 9 => 9 | n => n, fun | 17 => 1 | n => n⟩
theorem Tryd.laysM284 : Go.Proofs.LaysM.n284 Tryd.prog Tryd.laysM284_ren := {
  mixed := by kernel_rfl
  f129 := Tryd.func86.trans (congrArg some (by kernel_rfl))
  f284 := Tryd.func81.trans (congrArg some (by kernel_rfl))
  f317 := Tryd.func85.trans (congrArg some (by kernel_rfl))
  f318 := Tryd.func87.trans (congrArg some (by kernel_rfl))
  t0 := Tryd.underlying0
  a0 := Tryd.isAgg0
  z0 := Tryd.sizeOf0
  v0 := Tryd.zeroValue0
  t3 := Tryd.underlying3
  a3 := Tryd.isAgg3
  z3 := Tryd.sizeOf3
  v3 := Tryd.zeroValue3
  t4 := Tryd.underlying4
  a4 := Tryd.isAgg4
  z4 := Tryd.sizeOf4
  v4 := Tryd.zeroValue4
  t5 := Tryd.underlying5
  a5 := Tryd.isAgg5
  z5 := Tryd.sizeOf5
  v5 := Tryd.zeroValue5
  t9 := Tryd.underlying9
  a9 := Tryd.isAgg9
  z9 := Tryd.sizeOf9
  v9 := Tryd.zeroValue9
  t46 := Tryd.underlying111
  a46 := Tryd.isAgg111
  z46 := Tryd.sizeOf111
  v46 := Tryd.zeroValue111
  t53 := Tryd.underlying117
  a53 := Tryd.isAgg117
  z53 := Tryd.sizeOf117
  v53 := Tryd.zeroValue117
  t212 := Tryd.underlying124
  a212 := Tryd.isAgg124
  z212 := Tryd.sizeOf124
  v212 := Tryd.zeroValue124
  g17 := by kernel_rfl
  i0 := by kernel_rfl
  i3 := by kernel_rfl
  i4 := by kernel_rfl
  i5 := by kernel_rfl
  i9 := by kernel_rfl
  i46 := by kernel_rfl
  i53 := by kernel_rfl
  i212 := by kernel_rfl
  m17 := by kernel_rfl }
open Go.Lib in
/-- internal/strconv.numDigits, at a d that is not 0: THE NUMBER OF d's DECIMAL DIGITS. The world is as it was. (LAID: no walk: one application.) -/
theorem Tryd.internal_strconv_numDigits (u : Nat) (h1 : 1 ≤ u) (h2 : u < 18446744073709551616) (w : World) (htab : Lib.TabIs Tryd.prog w "internal/strconv.uint64pow10" .u64 Lib.pow10Tab) :
    Calls Tryd.prog 81 #[.int .u64 u] w fun e w' => e = .returned (.int .i64 (Lib.nDigits u)) ∧ w' = w := Any.internal_strconv_numDigits Tryd.laysM284 u h1 h2 w htab
def Tryd.lays285_ren : Go.Shelf.Ren := ⟨fun | 285 => 82 | n => n, fun | 37 => 82 | 53 => 117 | 3 => 3 | 4 => 4 | 51 => 125 | 9 => 9 | 5 => 5 | 0 => 0 | n => n, fun | n => n⟩
theorem Tryd.lays285 : Go.Proofs.Lays.n285 Tryd.prog Tryd.lays285_ren := {
  mixed := by kernel_rfl
  f285 := Tryd.func82.trans (congrArg some (by kernel_rfl))
  t0 := Tryd.underlying0
  a0 := Tryd.isAgg0
  z0 := Tryd.sizeOf0
  v0 := Tryd.zeroValue0
  t3 := Tryd.underlying3
  a3 := Tryd.isAgg3
  z3 := Tryd.sizeOf3
  v3 := Tryd.zeroValue3
  t4 := Tryd.underlying4
  a4 := Tryd.isAgg4
  z4 := Tryd.sizeOf4
  v4 := Tryd.zeroValue4
  t5 := Tryd.underlying5
  a5 := Tryd.isAgg5
  z5 := Tryd.sizeOf5
  v5 := Tryd.zeroValue5
  t9 := Tryd.underlying9
  a9 := Tryd.isAgg9
  z9 := Tryd.sizeOf9
  v9 := Tryd.zeroValue9
  t37 := Tryd.underlying82
  a37 := Tryd.isAgg82
  z37 := Tryd.sizeOf82
  v37 := Tryd.zeroValue82
  t51 := Tryd.underlying125
  a51 := Tryd.isAgg125
  z51 := Tryd.sizeOf125
  v51 := Tryd.zeroValue125
  t53 := Tryd.underlying117
  a53 := Tryd.isAgg117
  z53 := Tryd.sizeOf117
  v53 := Tryd.zeroValue117 }
open Go.RowKit Go.Sort Go.Lib in
/-- internal/strconv.formatBase10: "formatBase10 formats the decimal representation of u into a. The caller is responsible for ensuring that a is big enough to hold u. If a is too big, leading zeros will be filled in as needed.": THE ROW HOLDS u's DIGITS ('FmtInv .. 0 ..': every place t holds 'dg u (len - 1 - t)'); all else is as it was but for the count of draws. (LAID: no walk: one application.) -/
theorem Tryd.internal_strconv_formatBase10 (blk off cap : Nat) (u : Nat) (d : Array UInt8) (w : World) (hH : Holds (fun (b : UInt8) => Value.int .u8 (b.toNat : Int)) w blk off d) (hu : u < 10 ^ d.size) (hu64 : u < 18446744073709551616) (hsz : d.size < 4611686018427387904) :
    Calls Tryd.prog 82 #[.slice (some ⟨blk, off, none⟩) d.size cap, .int .u64 u] w fun e w' =>
      e = .returned (.tuple #[]) ∧ ∃ (n v' : Nat) (dk : Array UInt8), w' = (putRow (fun (b : UInt8) => Value.int .u8 (b.toNat : Int)) w blk off dk).drewN n ∧ FmtInv d.size u 0 v' dk := Any.internal_strconv_formatBase10 Tryd.lays285 blk off cap u d w hH hu hu64 hsz
def Tryd.laysM246_ren : Go.Shelf.Ren := ⟨fun | 246 => 72 | 283 => 80 | 284 => 81 | 285 => 82 | 286 => 83 | 129 => 86 | 317 => 85 | 318 => 87 | 319 => 88 | 320 => 89 | 337 => 90 | 338 => 91 | n => n, fun | 2 => 2 | 3 => 3 | 9 => 9 | 4 => 4 | 171 => 116 | 0 => 0 | 53 => 117 | 37 => 82 | 5 => 5 | 173 => 120 | 212 => 124 | 51 => 125 | 20 => 20 | 213 => 126 | 46 => 111 | 232 => 130 | 233 => 131 | n => n, fun | 17 => 1 | 18 => 2 | 19 => 3 | n => n⟩
theorem Tryd.laysM246 : Go.Proofs.LaysM.n246 Tryd.prog Tryd.laysM246_ren := {
  mixed := by kernel_rfl
  f129 := Tryd.func86.trans (congrArg some (by kernel_rfl))
  f246 := Tryd.func72.trans (congrArg some (by kernel_rfl))
  f283 := Tryd.func80.trans (congrArg some (by kernel_rfl))
  f284 := Tryd.func81.trans (congrArg some (by kernel_rfl))
  f285 := Tryd.func82.trans (congrArg some (by kernel_rfl))
  f286 := Tryd.func83.trans (congrArg some (by kernel_rfl))
  f317 := Tryd.func85.trans (congrArg some (by kernel_rfl))
  f318 := Tryd.func87.trans (congrArg some (by kernel_rfl))
  f319 := Tryd.func88.trans (congrArg some (by kernel_rfl))
  f320 := Tryd.func89.trans (congrArg some (by kernel_rfl))
  f337 := Tryd.func90.trans (congrArg some (by kernel_rfl))
  f338 := Tryd.func91.trans (congrArg some (by kernel_rfl))
  t0 := Tryd.underlying0
  a0 := Tryd.isAgg0
  z0 := Tryd.sizeOf0
  v0 := Tryd.zeroValue0
  t2 := Tryd.underlying2
  a2 := Tryd.isAgg2
  z2 := Tryd.sizeOf2
  v2 := Tryd.zeroValue2
  t3 := Tryd.underlying3
  a3 := Tryd.isAgg3
  z3 := Tryd.sizeOf3
  v3 := Tryd.zeroValue3
  t4 := Tryd.underlying4
  a4 := Tryd.isAgg4
  z4 := Tryd.sizeOf4
  v4 := Tryd.zeroValue4
  t5 := Tryd.underlying5
  a5 := Tryd.isAgg5
  z5 := Tryd.sizeOf5
  v5 := Tryd.zeroValue5
  t9 := Tryd.underlying9
  a9 := Tryd.isAgg9
  z9 := Tryd.sizeOf9
  v9 := Tryd.zeroValue9
  t20 := Tryd.underlying20
  a20 := Tryd.isAgg20
  z20 := Tryd.sizeOf20
  v20 := Tryd.zeroValue20
  t37 := Tryd.underlying82
  a37 := Tryd.isAgg82
  z37 := Tryd.sizeOf82
  v37 := Tryd.zeroValue82
  t46 := Tryd.underlying111
  a46 := Tryd.isAgg111
  z46 := Tryd.sizeOf111
  v46 := Tryd.zeroValue111
  t51 := Tryd.underlying125
  a51 := Tryd.isAgg125
  z51 := Tryd.sizeOf125
  v51 := Tryd.zeroValue125
  t53 := Tryd.underlying117
  a53 := Tryd.isAgg117
  z53 := Tryd.sizeOf117
  v53 := Tryd.zeroValue117
  t171 := Tryd.underlying116
  a171 := Tryd.isAgg116
  z171 := Tryd.sizeOf116
  v171 := Tryd.zeroValue116
  t173 := Tryd.underlying120
  a173 := Tryd.isAgg120
  z173 := Tryd.sizeOf120
  v173 := Tryd.zeroValue120
  t212 := Tryd.underlying124
  a212 := Tryd.isAgg124
  z212 := Tryd.sizeOf124
  v212 := Tryd.zeroValue124
  t213 := Tryd.underlying126
  a213 := Tryd.isAgg126
  z213 := Tryd.sizeOf126
  t232 := Tryd.underlying130
  a232 := Tryd.isAgg130
  z232 := Tryd.sizeOf130
  v232 := Tryd.zeroValue130
  t233 := Tryd.underlying131
  a233 := Tryd.isAgg131
  z233 := Tryd.sizeOf131
  v233 := Tryd.zeroValue131
  g17 := by kernel_rfl
  g18 := by kernel_rfl
  g19 := by kernel_rfl
  i0 := by kernel_rfl
  i2 := by kernel_rfl
  i3 := by kernel_rfl
  i4 := by kernel_rfl
  i5 := by kernel_rfl
  i9 := by kernel_rfl
  i20 := by kernel_rfl
  i37 := by kernel_rfl
  i46 := by kernel_rfl
  i51 := by kernel_rfl
  i53 := by kernel_rfl
  i171 := by kernel_rfl
  i173 := by kernel_rfl
  i212 := by kernel_rfl
  i232 := by kernel_rfl
  i233 := by kernel_rfl
  m17 := by kernel_rfl
  m18 := by kernel_rfl
  m19 := by kernel_rfl }
open Go.RowKit Go.Sort Go.Lib in
/-- internal/strconv.FormatInt: "FormatInt returns the string representation of i in the given base": AT BASE 10: i's decimal numeral, for every int64. The world behind the call: the world before it, new blocks behind the heap, draws. (LAID: no walk: one application.) -/
theorem Tryd.internal_strconv_FormatInt_10 (n : Int) (h0 : -9223372036854775808 ≤ n) (h1 : n ≤ 9223372036854775807) (w : World) (htab : Lib.TabIs Tryd.prog w "internal/strconv.uint64pow10" .u64 Lib.pow10Tab) :
    Calls Tryd.prog 72 #[.int .i64 n, .int .i64 10] w fun e w' => e = .returned (.string ⟨(Lib.itoa n).toArray⟩) ∧ ∃ k os, w' = grow (w.drewN k) os := Any.internal_strconv_FormatInt_10 Tryd.laysM246 n h0 h1 w htab
def Tryd.lays246_ren : Go.Shelf.Ren := ⟨fun | 246 => 72 | 283 => 80 | 284 => 81 | 285 => 82 | 286 => 83 | 129 => 86 | 317 => 85 | 318 => 87 | 319 => 88 | 320 => 89 | 337 => 90 | 338 => 91 | n => n, fun | 2 => 2 | 3 => 3 | 9 => 9 | 4 => 4 | 171 => 116 | 0 => 0 | 53 => 117 | 37 => 82 | 5 => 5 | 173 => 120 | 212 => 124 | 51 => 125 | 20 => 20 | 213 => 126 | 46 => 111 | 232 => 130 | 233 => 131 | n => n, fun | 17 => 1 | 18 => 2 | 19 => 3 | n => n⟩
theorem Tryd.lays246 : Go.Proofs.Lays.n246 Tryd.prog Tryd.lays246_ren := {
  mixed := by kernel_rfl
  f129 := Tryd.func86.trans (congrArg some (by kernel_rfl))
  f246 := Tryd.func72.trans (congrArg some (by kernel_rfl))
  f283 := Tryd.func80.trans (congrArg some (by kernel_rfl))
  f284 := Tryd.func81.trans (congrArg some (by kernel_rfl))
  f285 := Tryd.func82.trans (congrArg some (by kernel_rfl))
  f286 := Tryd.func83.trans (congrArg some (by kernel_rfl))
  f317 := Tryd.func85.trans (congrArg some (by kernel_rfl))
  f318 := Tryd.func87.trans (congrArg some (by kernel_rfl))
  f319 := Tryd.func88.trans (congrArg some (by kernel_rfl))
  f320 := Tryd.func89.trans (congrArg some (by kernel_rfl))
  f337 := Tryd.func90.trans (congrArg some (by kernel_rfl))
  f338 := Tryd.func91.trans (congrArg some (by kernel_rfl))
  t0 := Tryd.underlying0
  a0 := Tryd.isAgg0
  z0 := Tryd.sizeOf0
  v0 := Tryd.zeroValue0
  t2 := Tryd.underlying2
  a2 := Tryd.isAgg2
  z2 := Tryd.sizeOf2
  v2 := Tryd.zeroValue2
  t3 := Tryd.underlying3
  a3 := Tryd.isAgg3
  z3 := Tryd.sizeOf3
  v3 := Tryd.zeroValue3
  t4 := Tryd.underlying4
  a4 := Tryd.isAgg4
  z4 := Tryd.sizeOf4
  v4 := Tryd.zeroValue4
  t5 := Tryd.underlying5
  a5 := Tryd.isAgg5
  z5 := Tryd.sizeOf5
  v5 := Tryd.zeroValue5
  t9 := Tryd.underlying9
  a9 := Tryd.isAgg9
  z9 := Tryd.sizeOf9
  v9 := Tryd.zeroValue9
  t20 := Tryd.underlying20
  a20 := Tryd.isAgg20
  z20 := Tryd.sizeOf20
  v20 := Tryd.zeroValue20
  t37 := Tryd.underlying82
  a37 := Tryd.isAgg82
  z37 := Tryd.sizeOf82
  v37 := Tryd.zeroValue82
  t46 := Tryd.underlying111
  a46 := Tryd.isAgg111
  z46 := Tryd.sizeOf111
  v46 := Tryd.zeroValue111
  t51 := Tryd.underlying125
  a51 := Tryd.isAgg125
  z51 := Tryd.sizeOf125
  v51 := Tryd.zeroValue125
  t53 := Tryd.underlying117
  a53 := Tryd.isAgg117
  z53 := Tryd.sizeOf117
  v53 := Tryd.zeroValue117
  t171 := Tryd.underlying116
  a171 := Tryd.isAgg116
  z171 := Tryd.sizeOf116
  v171 := Tryd.zeroValue116
  t173 := Tryd.underlying120
  a173 := Tryd.isAgg120
  z173 := Tryd.sizeOf120
  v173 := Tryd.zeroValue120
  t212 := Tryd.underlying124
  a212 := Tryd.isAgg124
  z212 := Tryd.sizeOf124
  v212 := Tryd.zeroValue124
  t213 := Tryd.underlying126
  a213 := Tryd.isAgg126
  z213 := Tryd.sizeOf126
  t232 := Tryd.underlying130
  a232 := Tryd.isAgg130
  z232 := Tryd.sizeOf130
  v232 := Tryd.zeroValue130
  t233 := Tryd.underlying131
  a233 := Tryd.isAgg131
  z233 := Tryd.sizeOf131
  v233 := Tryd.zeroValue131
  g17 := by kernel_rfl
  g18 := by kernel_rfl
  g19 := by kernel_rfl }
open Go.RowKit Go.Sort Go.Lib in
/-- THE ROAD WITHOUT THE TABLE: 0 <= i < 100: two constants are read, nothing is laid: no premise on the world, and the world is as it was. (LAID: no walk: one application.) -/
theorem Tryd.internal_strconv_FormatInt_10_small (i : Nat) (hi : i < 100) (w : World) :
    Calls Tryd.prog 72 #[.int .i64 i, .int .i64 10] w fun e w' => e = .returned (.string ⟨(Lib.decDigits i).toArray⟩) ∧ w' = w := Any.internal_strconv_FormatInt_10_small Tryd.lays246 i hi w
def Tryd.laysM243_ren : Go.Shelf.Ren := ⟨fun | 243 => 59 | 246 => 72 | 283 => 80 | 284 => 81 | 285 => 82 | 286 => 83 | 129 => 86 | 317 => 85 | 318 => 87 | 319 => 88 | 320 => 89 | 337 => 90 | 338 => 91 | n => n, fun | 3 => 3 | 9 => 9 | 2 => 2 | 4 => 4 | 171 => 116 | 0 => 0 | 53 => 117 | 37 => 82 | 5 => 5 | 173 => 120 | 212 => 124 | 51 => 125 | 20 => 20 | 213 => 126 | 46 => 111 | 232 => 130 | 233 => 131 | n => n, fun | 17 => 1 | 18 => 2 | 19 => 3 | n => n⟩
theorem Tryd.laysM243 : Go.Proofs.LaysM.n243 Tryd.prog Tryd.laysM243_ren := {
  mixed := by kernel_rfl
  f129 := Tryd.func86.trans (congrArg some (by kernel_rfl))
  f243 := Tryd.func59.trans (congrArg some (by kernel_rfl))
  f246 := Tryd.func72.trans (congrArg some (by kernel_rfl))
  f283 := Tryd.func80.trans (congrArg some (by kernel_rfl))
  f284 := Tryd.func81.trans (congrArg some (by kernel_rfl))
  f285 := Tryd.func82.trans (congrArg some (by kernel_rfl))
  f286 := Tryd.func83.trans (congrArg some (by kernel_rfl))
  f317 := Tryd.func85.trans (congrArg some (by kernel_rfl))
  f318 := Tryd.func87.trans (congrArg some (by kernel_rfl))
  f319 := Tryd.func88.trans (congrArg some (by kernel_rfl))
  f320 := Tryd.func89.trans (congrArg some (by kernel_rfl))
  f337 := Tryd.func90.trans (congrArg some (by kernel_rfl))
  f338 := Tryd.func91.trans (congrArg some (by kernel_rfl))
  t0 := Tryd.underlying0
  a0 := Tryd.isAgg0
  z0 := Tryd.sizeOf0
  v0 := Tryd.zeroValue0
  t2 := Tryd.underlying2
  a2 := Tryd.isAgg2
  z2 := Tryd.sizeOf2
  v2 := Tryd.zeroValue2
  t3 := Tryd.underlying3
  a3 := Tryd.isAgg3
  z3 := Tryd.sizeOf3
  v3 := Tryd.zeroValue3
  t4 := Tryd.underlying4
  a4 := Tryd.isAgg4
  z4 := Tryd.sizeOf4
  v4 := Tryd.zeroValue4
  t5 := Tryd.underlying5
  a5 := Tryd.isAgg5
  z5 := Tryd.sizeOf5
  v5 := Tryd.zeroValue5
  t9 := Tryd.underlying9
  a9 := Tryd.isAgg9
  z9 := Tryd.sizeOf9
  v9 := Tryd.zeroValue9
  t20 := Tryd.underlying20
  a20 := Tryd.isAgg20
  z20 := Tryd.sizeOf20
  v20 := Tryd.zeroValue20
  t37 := Tryd.underlying82
  a37 := Tryd.isAgg82
  z37 := Tryd.sizeOf82
  v37 := Tryd.zeroValue82
  t46 := Tryd.underlying111
  a46 := Tryd.isAgg111
  z46 := Tryd.sizeOf111
  v46 := Tryd.zeroValue111
  t51 := Tryd.underlying125
  a51 := Tryd.isAgg125
  z51 := Tryd.sizeOf125
  v51 := Tryd.zeroValue125
  t53 := Tryd.underlying117
  a53 := Tryd.isAgg117
  z53 := Tryd.sizeOf117
  v53 := Tryd.zeroValue117
  t171 := Tryd.underlying116
  a171 := Tryd.isAgg116
  z171 := Tryd.sizeOf116
  v171 := Tryd.zeroValue116
  t173 := Tryd.underlying120
  a173 := Tryd.isAgg120
  z173 := Tryd.sizeOf120
  v173 := Tryd.zeroValue120
  t212 := Tryd.underlying124
  a212 := Tryd.isAgg124
  z212 := Tryd.sizeOf124
  v212 := Tryd.zeroValue124
  t213 := Tryd.underlying126
  a213 := Tryd.isAgg126
  z213 := Tryd.sizeOf126
  t232 := Tryd.underlying130
  a232 := Tryd.isAgg130
  z232 := Tryd.sizeOf130
  v232 := Tryd.zeroValue130
  t233 := Tryd.underlying131
  a233 := Tryd.isAgg131
  z233 := Tryd.sizeOf131
  v233 := Tryd.zeroValue131
  g17 := by kernel_rfl
  g18 := by kernel_rfl
  g19 := by kernel_rfl
  i0 := by kernel_rfl
  i2 := by kernel_rfl
  i3 := by kernel_rfl
  i4 := by kernel_rfl
  i5 := by kernel_rfl
  i9 := by kernel_rfl
  i20 := by kernel_rfl
  i37 := by kernel_rfl
  i46 := by kernel_rfl
  i51 := by kernel_rfl
  i53 := by kernel_rfl
  i171 := by kernel_rfl
  i173 := by kernel_rfl
  i212 := by kernel_rfl
  i232 := by kernel_rfl
  i233 := by kernel_rfl
  m17 := by kernel_rfl
  m18 := by kernel_rfl
  m19 := by kernel_rfl }
open Go.RowKit Go.Sort Go.Lib in
/-- internal/strconv.Itoa: "Itoa is equivalent to FormatInt(int64(i), 10).": i's decimal numeral, for every int. (LAID: no walk: one application.) -/
theorem Tryd.internal_strconv_Itoa (n : Int) (h0 : -9223372036854775808 ≤ n) (h1 : n ≤ 9223372036854775807) (w : World) (htab : Lib.TabIs Tryd.prog w "internal/strconv.uint64pow10" .u64 Lib.pow10Tab) :
    Calls Tryd.prog 59 #[.int .i64 n] w fun e w' => e = .returned (.string ⟨(Lib.itoa n).toArray⟩) ∧ ∃ k os, w' = grow (w.drewN k) os := Any.internal_strconv_Itoa Tryd.laysM243 n h0 h1 w htab
def Tryd.lays243_ren : Go.Shelf.Ren := ⟨fun | 243 => 59 | 246 => 72 | 283 => 80 | 284 => 81 | 285 => 82 | 286 => 83 | 129 => 86 | 317 => 85 | 318 => 87 | 319 => 88 | 320 => 89 | 337 => 90 | 338 => 91 | n => n, fun | 3 => 3 | 9 => 9 | 2 => 2 | 4 => 4 | 171 => 116 | 0 => 0 | 53 => 117 | 37 => 82 | 5 => 5 | 173 => 120 | 212 => 124 | 51 => 125 | 20 => 20 | 213 => 126 | 46 => 111 | 232 => 130 | 233 => 131 | n => n, fun | 17 => 1 | 18 => 2 | 19 => 3 | n => n⟩
theorem Tryd.lays243 : Go.Proofs.Lays.n243 Tryd.prog Tryd.lays243_ren := {
  mixed := by kernel_rfl
  f129 := Tryd.func86.trans (congrArg some (by kernel_rfl))
  f243 := Tryd.func59.trans (congrArg some (by kernel_rfl))
  f246 := Tryd.func72.trans (congrArg some (by kernel_rfl))
  f283 := Tryd.func80.trans (congrArg some (by kernel_rfl))
  f284 := Tryd.func81.trans (congrArg some (by kernel_rfl))
  f285 := Tryd.func82.trans (congrArg some (by kernel_rfl))
  f286 := Tryd.func83.trans (congrArg some (by kernel_rfl))
  f317 := Tryd.func85.trans (congrArg some (by kernel_rfl))
  f318 := Tryd.func87.trans (congrArg some (by kernel_rfl))
  f319 := Tryd.func88.trans (congrArg some (by kernel_rfl))
  f320 := Tryd.func89.trans (congrArg some (by kernel_rfl))
  f337 := Tryd.func90.trans (congrArg some (by kernel_rfl))
  f338 := Tryd.func91.trans (congrArg some (by kernel_rfl))
  t0 := Tryd.underlying0
  a0 := Tryd.isAgg0
  z0 := Tryd.sizeOf0
  v0 := Tryd.zeroValue0
  t2 := Tryd.underlying2
  a2 := Tryd.isAgg2
  z2 := Tryd.sizeOf2
  v2 := Tryd.zeroValue2
  t3 := Tryd.underlying3
  a3 := Tryd.isAgg3
  z3 := Tryd.sizeOf3
  v3 := Tryd.zeroValue3
  t4 := Tryd.underlying4
  a4 := Tryd.isAgg4
  z4 := Tryd.sizeOf4
  v4 := Tryd.zeroValue4
  t5 := Tryd.underlying5
  a5 := Tryd.isAgg5
  z5 := Tryd.sizeOf5
  v5 := Tryd.zeroValue5
  t9 := Tryd.underlying9
  a9 := Tryd.isAgg9
  z9 := Tryd.sizeOf9
  v9 := Tryd.zeroValue9
  t20 := Tryd.underlying20
  a20 := Tryd.isAgg20
  z20 := Tryd.sizeOf20
  v20 := Tryd.zeroValue20
  t37 := Tryd.underlying82
  a37 := Tryd.isAgg82
  z37 := Tryd.sizeOf82
  v37 := Tryd.zeroValue82
  t46 := Tryd.underlying111
  a46 := Tryd.isAgg111
  z46 := Tryd.sizeOf111
  v46 := Tryd.zeroValue111
  t51 := Tryd.underlying125
  a51 := Tryd.isAgg125
  z51 := Tryd.sizeOf125
  v51 := Tryd.zeroValue125
  t53 := Tryd.underlying117
  a53 := Tryd.isAgg117
  z53 := Tryd.sizeOf117
  v53 := Tryd.zeroValue117
  t171 := Tryd.underlying116
  a171 := Tryd.isAgg116
  z171 := Tryd.sizeOf116
  v171 := Tryd.zeroValue116
  t173 := Tryd.underlying120
  a173 := Tryd.isAgg120
  z173 := Tryd.sizeOf120
  v173 := Tryd.zeroValue120
  t212 := Tryd.underlying124
  a212 := Tryd.isAgg124
  z212 := Tryd.sizeOf124
  v212 := Tryd.zeroValue124
  t213 := Tryd.underlying126
  a213 := Tryd.isAgg126
  z213 := Tryd.sizeOf126
  t232 := Tryd.underlying130
  a232 := Tryd.isAgg130
  z232 := Tryd.sizeOf130
  v232 := Tryd.zeroValue130
  t233 := Tryd.underlying131
  a233 := Tryd.isAgg131
  z233 := Tryd.sizeOf131
  v233 := Tryd.zeroValue131
  g17 := by kernel_rfl
  g18 := by kernel_rfl
  g19 := by kernel_rfl }
open Go.RowKit Go.Sort Go.Lib in
/-- THE ROAD WITHOUT THE TABLE: 0 <= i < 100. (LAID: no walk: one application.) -/
theorem Tryd.internal_strconv_Itoa_small (i : Nat) (hi : i < 100) (w : World) :
    Calls Tryd.prog 59 #[.int .i64 i] w fun e w' => e = .returned (.string ⟨(Lib.decDigits i).toArray⟩) ∧ w' = w := Any.internal_strconv_Itoa_small Tryd.lays243 i hi w
def Tryd.laysM171_ren : Go.Shelf.Ren := ⟨fun | 171 => 45 | 243 => 59 | 246 => 72 | 283 => 80 | 284 => 81 | 285 => 82 | 286 => 83 | 129 => 86 | 317 => 85 | 318 => 87 | 319 => 88 | 320 => 89 | 337 => 90 | 338 => 91 | n => n, fun | 3 => 3 | 9 => 9 | 2 => 2 | 4 => 4 | 171 => 116 | 0 => 0 | 53 => 117 | 37 => 82 | 5 => 5 | 173 => 120 | 212 => 124 | 51 => 125 | 20 => 20 | 213 => 126 | 46 => 111 | 232 => 130 | 233 => 131 | n => n, fun | 17 => 1 | 18 => 2 | 19 => 3 | n => n⟩
theorem Tryd.laysM171 : Go.Proofs.LaysM.n171 Tryd.prog Tryd.laysM171_ren := {
  mixed := by kernel_rfl
  f129 := Tryd.func86.trans (congrArg some (by kernel_rfl))
  f171 := Tryd.func45.trans (congrArg some (by kernel_rfl))
  f243 := Tryd.func59.trans (congrArg some (by kernel_rfl))
  f246 := Tryd.func72.trans (congrArg some (by kernel_rfl))
  f283 := Tryd.func80.trans (congrArg some (by kernel_rfl))
  f284 := Tryd.func81.trans (congrArg some (by kernel_rfl))
  f285 := Tryd.func82.trans (congrArg some (by kernel_rfl))
  f286 := Tryd.func83.trans (congrArg some (by kernel_rfl))
  f317 := Tryd.func85.trans (congrArg some (by kernel_rfl))
  f318 := Tryd.func87.trans (congrArg some (by kernel_rfl))
  f319 := Tryd.func88.trans (congrArg some (by kernel_rfl))
  f320 := Tryd.func89.trans (congrArg some (by kernel_rfl))
  f337 := Tryd.func90.trans (congrArg some (by kernel_rfl))
  f338 := Tryd.func91.trans (congrArg some (by kernel_rfl))
  t0 := Tryd.underlying0
  a0 := Tryd.isAgg0
  z0 := Tryd.sizeOf0
  v0 := Tryd.zeroValue0
  t2 := Tryd.underlying2
  a2 := Tryd.isAgg2
  z2 := Tryd.sizeOf2
  v2 := Tryd.zeroValue2
  t3 := Tryd.underlying3
  a3 := Tryd.isAgg3
  z3 := Tryd.sizeOf3
  v3 := Tryd.zeroValue3
  t4 := Tryd.underlying4
  a4 := Tryd.isAgg4
  z4 := Tryd.sizeOf4
  v4 := Tryd.zeroValue4
  t5 := Tryd.underlying5
  a5 := Tryd.isAgg5
  z5 := Tryd.sizeOf5
  v5 := Tryd.zeroValue5
  t9 := Tryd.underlying9
  a9 := Tryd.isAgg9
  z9 := Tryd.sizeOf9
  v9 := Tryd.zeroValue9
  t20 := Tryd.underlying20
  a20 := Tryd.isAgg20
  z20 := Tryd.sizeOf20
  v20 := Tryd.zeroValue20
  t37 := Tryd.underlying82
  a37 := Tryd.isAgg82
  z37 := Tryd.sizeOf82
  v37 := Tryd.zeroValue82
  t46 := Tryd.underlying111
  a46 := Tryd.isAgg111
  z46 := Tryd.sizeOf111
  v46 := Tryd.zeroValue111
  t51 := Tryd.underlying125
  a51 := Tryd.isAgg125
  z51 := Tryd.sizeOf125
  v51 := Tryd.zeroValue125
  t53 := Tryd.underlying117
  a53 := Tryd.isAgg117
  z53 := Tryd.sizeOf117
  v53 := Tryd.zeroValue117
  t171 := Tryd.underlying116
  a171 := Tryd.isAgg116
  z171 := Tryd.sizeOf116
  v171 := Tryd.zeroValue116
  t173 := Tryd.underlying120
  a173 := Tryd.isAgg120
  z173 := Tryd.sizeOf120
  v173 := Tryd.zeroValue120
  t212 := Tryd.underlying124
  a212 := Tryd.isAgg124
  z212 := Tryd.sizeOf124
  v212 := Tryd.zeroValue124
  t213 := Tryd.underlying126
  a213 := Tryd.isAgg126
  z213 := Tryd.sizeOf126
  t232 := Tryd.underlying130
  a232 := Tryd.isAgg130
  z232 := Tryd.sizeOf130
  v232 := Tryd.zeroValue130
  t233 := Tryd.underlying131
  a233 := Tryd.isAgg131
  z233 := Tryd.sizeOf131
  v233 := Tryd.zeroValue131
  g17 := by kernel_rfl
  g18 := by kernel_rfl
  g19 := by kernel_rfl
  i0 := by kernel_rfl
  i2 := by kernel_rfl
  i3 := by kernel_rfl
  i4 := by kernel_rfl
  i5 := by kernel_rfl
  i9 := by kernel_rfl
  i20 := by kernel_rfl
  i37 := by kernel_rfl
  i46 := by kernel_rfl
  i51 := by kernel_rfl
  i53 := by kernel_rfl
  i171 := by kernel_rfl
  i173 := by kernel_rfl
  i212 := by kernel_rfl
  i232 := by kernel_rfl
  i233 := by kernel_rfl
  m17 := by kernel_rfl
  m18 := by kernel_rfl
  m19 := by kernel_rfl }
open Go.RowKit Go.Sort Go.Lib in
/-- strconv.Itoa: "Itoa is equivalent to FormatInt(int64(i), 10).": i's DECIMAL NUMERAL ('Lib.itoa': a '-' where i is negative, then the digits), FOR EVERY int. The world behind the call: the world before it, new blocks behind the heap (the library's 'var a [24]byte'), draws. (LAID: no walk: one application.) -/
theorem Tryd.strconv_Itoa (n : Int) (h0 : -9223372036854775808 ≤ n) (h1 : n ≤ 9223372036854775807) (w : World) (htab : Lib.TabIs Tryd.prog w "internal/strconv.uint64pow10" .u64 Lib.pow10Tab) :
    Calls Tryd.prog 45 #[.int .i64 n] w fun e w' => e = .returned (.string ⟨(Lib.itoa n).toArray⟩) ∧ ∃ k os, w' = grow (w.drewN k) os := Any.strconv_Itoa Tryd.laysM171 n h0 h1 w htab
def Tryd.lays171_ren : Go.Shelf.Ren := ⟨fun | 171 => 45 | 243 => 59 | 246 => 72 | 283 => 80 | 284 => 81 | 285 => 82 | 286 => 83 | 129 => 86 | 317 => 85 | 318 => 87 | 319 => 88 | 320 => 89 | 337 => 90 | 338 => 91 | n => n, fun | 3 => 3 | 9 => 9 | 2 => 2 | 4 => 4 | 171 => 116 | 0 => 0 | 53 => 117 | 37 => 82 | 5 => 5 | 173 => 120 | 212 => 124 | 51 => 125 | 20 => 20 | 213 => 126 | 46 => 111 | 232 => 130 | 233 => 131 | n => n, fun | 17 => 1 | 18 => 2 | 19 => 3 | n => n⟩
theorem Tryd.lays171 : Go.Proofs.Lays.n171 Tryd.prog Tryd.lays171_ren := {
  mixed := by kernel_rfl
  f129 := Tryd.func86.trans (congrArg some (by kernel_rfl))
  f171 := Tryd.func45.trans (congrArg some (by kernel_rfl))
  f243 := Tryd.func59.trans (congrArg some (by kernel_rfl))
  f246 := Tryd.func72.trans (congrArg some (by kernel_rfl))
  f283 := Tryd.func80.trans (congrArg some (by kernel_rfl))
  f284 := Tryd.func81.trans (congrArg some (by kernel_rfl))
  f285 := Tryd.func82.trans (congrArg some (by kernel_rfl))
  f286 := Tryd.func83.trans (congrArg some (by kernel_rfl))
  f317 := Tryd.func85.trans (congrArg some (by kernel_rfl))
  f318 := Tryd.func87.trans (congrArg some (by kernel_rfl))
  f319 := Tryd.func88.trans (congrArg some (by kernel_rfl))
  f320 := Tryd.func89.trans (congrArg some (by kernel_rfl))
  f337 := Tryd.func90.trans (congrArg some (by kernel_rfl))
  f338 := Tryd.func91.trans (congrArg some (by kernel_rfl))
  t0 := Tryd.underlying0
  a0 := Tryd.isAgg0
  z0 := Tryd.sizeOf0
  v0 := Tryd.zeroValue0
  t2 := Tryd.underlying2
  a2 := Tryd.isAgg2
  z2 := Tryd.sizeOf2
  v2 := Tryd.zeroValue2
  t3 := Tryd.underlying3
  a3 := Tryd.isAgg3
  z3 := Tryd.sizeOf3
  v3 := Tryd.zeroValue3
  t4 := Tryd.underlying4
  a4 := Tryd.isAgg4
  z4 := Tryd.sizeOf4
  v4 := Tryd.zeroValue4
  t5 := Tryd.underlying5
  a5 := Tryd.isAgg5
  z5 := Tryd.sizeOf5
  v5 := Tryd.zeroValue5
  t9 := Tryd.underlying9
  a9 := Tryd.isAgg9
  z9 := Tryd.sizeOf9
  v9 := Tryd.zeroValue9
  t20 := Tryd.underlying20
  a20 := Tryd.isAgg20
  z20 := Tryd.sizeOf20
  v20 := Tryd.zeroValue20
  t37 := Tryd.underlying82
  a37 := Tryd.isAgg82
  z37 := Tryd.sizeOf82
  v37 := Tryd.zeroValue82
  t46 := Tryd.underlying111
  a46 := Tryd.isAgg111
  z46 := Tryd.sizeOf111
  v46 := Tryd.zeroValue111
  t51 := Tryd.underlying125
  a51 := Tryd.isAgg125
  z51 := Tryd.sizeOf125
  v51 := Tryd.zeroValue125
  t53 := Tryd.underlying117
  a53 := Tryd.isAgg117
  z53 := Tryd.sizeOf117
  v53 := Tryd.zeroValue117
  t171 := Tryd.underlying116
  a171 := Tryd.isAgg116
  z171 := Tryd.sizeOf116
  v171 := Tryd.zeroValue116
  t173 := Tryd.underlying120
  a173 := Tryd.isAgg120
  z173 := Tryd.sizeOf120
  v173 := Tryd.zeroValue120
  t212 := Tryd.underlying124
  a212 := Tryd.isAgg124
  z212 := Tryd.sizeOf124
  v212 := Tryd.zeroValue124
  t213 := Tryd.underlying126
  a213 := Tryd.isAgg126
  z213 := Tryd.sizeOf126
  t232 := Tryd.underlying130
  a232 := Tryd.isAgg130
  z232 := Tryd.sizeOf130
  v232 := Tryd.zeroValue130
  t233 := Tryd.underlying131
  a233 := Tryd.isAgg131
  z233 := Tryd.sizeOf131
  v233 := Tryd.zeroValue131
  g17 := by kernel_rfl
  g18 := by kernel_rfl
  g19 := by kernel_rfl }
open Go.RowKit Go.Sort Go.Lib in
/-- THE ROAD WITHOUT THE TABLE: 0 <= i < 100: NO PREMISE ON THE WORLD, AND THE WORLD IS AS IT WAS: a row that keeps its argument in that range need list no table ('laid = []'). (LAID: no walk: one application.) -/
theorem Tryd.strconv_Itoa_small (i : Nat) (hi : i < 100) (w : World) :
    Calls Tryd.prog 45 #[.int .i64 i] w fun e w' => e = .returned (.string ⟨(Lib.decDigits i).toArray⟩) ∧ w' = w := Any.strconv_Itoa_small Tryd.lays171 i hi w
def Tryd.lays217_ren : Go.Shelf.Ren := ⟨fun | 217 => 65 | 266 => 78 | n => n, fun | 9 => 9 | 5 => 5 | 3 => 3 | n => n, fun | n => n⟩
theorem Tryd.lays217 : Go.Proofs.Lays.n217 Tryd.prog Tryd.lays217_ren := {
  mixed := by kernel_rfl
  f217 := Tryd.func65.trans (congrArg some (by kernel_rfl))
  f266 := Tryd.func78.trans (congrArg some (by kernel_rfl))
  t3 := Tryd.underlying3
  a3 := Tryd.isAgg3
  z3 := Tryd.sizeOf3
  v3 := Tryd.zeroValue3
  t5 := Tryd.underlying5
  a5 := Tryd.isAgg5
  z5 := Tryd.sizeOf5
  v5 := Tryd.zeroValue5
  t9 := Tryd.underlying9
  a9 := Tryd.isAgg9
  z9 := Tryd.sizeOf9
  v9 := Tryd.zeroValue9 }
open Go.RowKit Go.Lib in
/-- internal/stringslite.IndexByte (what strings.IndexByte calls): IT RETURNS 'Lib.indexByte s c'; the world is as it was. (LAID: no walk: one application.) -/
theorem Tryd.stringslite_IndexByte (s : ByteArray) (c : Int) (w : World) :
    Calls Tryd.prog 65 #[.string s, .int .u8 c] w fun e w' => e = .returned (.int .i64 (Lib.indexByte s.data.toList c.toNat.toUInt8)) ∧ w' = w := Any.stringslite_IndexByte Tryd.lays217 s c w
end Go.Proofs
end

section
/-
YtjgjbdnjjepibaaDoor: strconv.Itoa, by the shelf: its contract. No condition.
-/
open Go Go.AM
namespace Go.Proofs.YtjgjbdnjjepibaaDoor
noncomputable section
def itoaG (n : Int) : Option (ByteArray × Unit) := if -9223372036854775808 ≤ n ∧ n ≤ 9223372036854775807 then some (strB (Lib.itoa n), ()) else none
def strconv_Itoa (n : Int) : Option ((ByteArray × Unit) × Unit) := (itoaG n).bind fun y => some (y, ())
def fc45 : FC := ⟨⟨[.one (.int .i64)], []⟩, ⟨[.one .str], []⟩, fun x => strconv_Itoa x.1.1⟩
theorem con45 : Contract Tryd.prog 45 fc45 :=
  Contract.below (P := Tryd.prog) (f := 45) (sa := [.one (.int .i64)]) (sr := [.one .str]) (fn := Tryd.f45) (c := Tryd.f45.body.getD .skip) Tryd.func45 (by kernel_rfl) (by kernel_rfl) (g := fun x => itoaG x.1) (fun w M G x y vals hI hv hg => by
    obtain ⟨n, u⟩ := x
    obtain ⟨vs⟩ := vals
    match vs, hv with
    | [v1], hv =>
      obtain ⟨⟨rfl, _⟩, _⟩ := hv
      have hg' : itoaG n = some y := hg
      unfold itoaG at hg'
      split at hg'
      · rename_i hn
        cases hg'
        refine (Tryd.strconv_Itoa n hn.1 hn.2 w (zone_tab (hI.zone _ _ zone_pow))).mono ?_
        rintro e w' ⟨rfl, k, os, rfl⟩
        refine ⟨_, rfl, ⟨rfl, rfl, rfl, ?_, fun i hi => ?_⟩, rfl, rfl⟩
        · show w.heap.size ≤ (w.heap ++ os).size
          simp
        · show (w.heap ++ os)[i]? = w.heap[i]?
          rw [Array.getElem?_append_left hi]
      · cases hg'
    | [], hv => exact hv.elim
    | _ :: _ :: _, hv => exact hv.2.elim)
end
end Go.Proofs.YtjgjbdnjjepibaaDoor
end

section
/-
YtjgjbdnjjepibaaDoor: (*signalbench.decl.writer).number, as one plain function, its equations, its contract. No condition.
-/
set_option maxRecDepth 100000
set_option linter.unusedVariables false
set_option maxHeartbeats 4000000
open Go Go.AM
namespace Go.Proofs.YtjgjbdnjjepibaaDoor
noncomputable section
def decl_writer_number_D : FD := ⟨T, lookC [(45, fc45)], [], (Tryd.f30.body.getD .skip), Tryd.f30.results.toList, ⟨[.one (.ptr 0 0), .one (.int .i64)], [.box 58 [(.own 1)], .arr 70 (.cons (.int .i64) (.cons .str (.cons (.int .i64) (.int .i64)))) true]⟩, ⟨[], [.box 58 [(.own 2)], .dead, .arr 70 (.cons (.int .i64) (.cons .str (.cons (.int .i64) (.int .i64)))) true]⟩, []⟩
def decl_writer_number (n : Int) (l1 : (List TToken)) : (Option (Unit × ((Unit × Unit) × Unit × (List TToken) × Unit))) :=
  (strconv_Itoa n).bind fun y1 =>
    if (l1.length + 1) * 40 ≤ 140737488355328 ∧ 0 < 40 then
      some ((), (((), ()), (), l1 ++ [(2, y1.1.1, n, 0)], ()))
    else
      none
def fc30 : FC := ⟨⟨[.one (.ptr 0 0), .one (.int .i64)], [.box 58 [(.own 1)], .arr 70 (.cons (.int .i64) (.cons .str (.cons (.int .i64) (.int .i64)))) true]⟩, ⟨[], [.box 58 [(.own 2)], .dead, .arr 70 (.cons (.int .i64) (.cons .str (.cons (.int .i64) (.int .i64)))) true]⟩, fun x => decl_writer_number x.1.2.1 x.2.2.1⟩
theorem con30 : Contract Tryd.prog 30 fc30 :=
  decl_writer_number_D.contract tok (cok_of (l := [(45, fc45)]) ⟨con45, trivial⟩) mixed (fn' := Tryd.f30) (by kernel_rfl) (by kernel_rfl) rfl (by kernel_rfl) (fun x => (FD.fn_eq _ _).trans (by kernel_rfl))
end
end Go.Proofs.YtjgjbdnjjepibaaDoor
end

section
/-
YtjgjbdnjjepibaaDoor: decl.word, by a walk: the word of an action. No condition.
-/
open Go Go.AM Go.RowKit
variable [Inhabited ZMem]
namespace Go.Proofs.YtjgjbdnjjepibaaDoor
noncomputable section
def wordTab : List ByteArray := [strB [], strB [99, 108, 101, 97, 114], strB [112, 117, 115, 104], strB [120, 111, 114], strB [112, 117, 116], strB [101, 109, 105, 116], strB [102, 97, 105, 108]]
def wordG (n : Int) : Option (ByteArray × Unit) := if 0 ≤ n ∧ n < 7 then some (wordTab.getD n.toNat (strB []), ()) else none
def decl_word (n : Int) : Option ((ByteArray × Unit) × Unit) := (wordG n).bind fun y => some (y, ())
set_option maxRecDepth 1000000 in
theorem word_calls (n : Int) (h0 : 0 ≤ n) (h7 : n < 7) (w : World) : Calls Tryd.prog 46 #[.int .i64 n] w fun e w' => e = .returned (.string (wordTab.getD n.toNat (strB []))) ∧ w' = w := by
  have h : n = 0 ∨ n = 1 ∨ n = 2 ∨ n = 3 ∨ n = 4 ∨ n = 5 ∨ n = 6 := by omega
  have hnx : ∀ W : World, (Instr.index 99 (.agg #[.string { data := #[] }, .string { data := #[99, 108, 101, 97, 114] }, .string { data := #[112, 117, 115, 104] }, .string { data := #[120, 111, 114] }, .string { data := #[112, 117, 116] }, .string { data := #[101, 109, 105, 116] }, .string { data := #[102, 97, 105, 108] }]) (.int .i64 n)).run Tryd.prog W = .ok (.string (wordTab.getD n.toNat (strB []))) W := by
    intro W
    rcases h with rfl | rfl | rfl | rfl | rfl | rfl | rfl <;> kernel_rfl
  go_enter Tryd.func46, Tryd.ntmps46
  go_wp2
  go_ret
  exact ⟨rfl, rfl⟩
def fc46 : FC := ⟨⟨[.one (.int .i64)], []⟩, ⟨[.one .str], []⟩, fun x => decl_word x.1.1⟩
theorem con46 : Contract Tryd.prog 46 fc46 :=
  Contract.still (P := Tryd.prog) (f := 46) (sa := [.one (.int .i64)]) (sr := [.one .str]) (fn := Tryd.f46) (c := Tryd.f46.body.getD .skip) Tryd.func46 (by kernel_rfl) (by kernel_rfl) (g := fun x => wordG x.1) (fun w M G x y vals hI hv hg => by
    obtain ⟨n, u⟩ := x
    obtain ⟨vs⟩ := vals
    match vs, hv with
    | [v1], hv =>
      obtain ⟨⟨rfl, _⟩, _⟩ := hv
      have hg' : wordG n = some y := hg
      unfold wordG at hg'
      split at hg'
      · rename_i hn
        cases hg'
        refine (word_calls n hn.1 hn.2 w).mono ?_
        rintro e w' ⟨rfl, rfl⟩
        exact ⟨_, rfl, rfl, rfl, rfl⟩
      · cases hg'
    | [], hv => exact hv.elim
    | _ :: _ :: _, hv => exact hv.2.elim)
end
end Go.Proofs.YtjgjbdnjjepibaaDoor
end

section
/-
YtjgjbdnjjepibaaDoor: (*signalbench.decl.writer).target, as one plain function, its equations, its contract. No condition.
-/
set_option maxRecDepth 100000
set_option linter.unusedVariables false
set_option maxHeartbeats 4000000
open Go Go.AM
namespace Go.Proofs.YtjgjbdnjjepibaaDoor
noncomputable section
def decl_writer_target_F3 : FSh := ⟨[(0, .one (.ptr 0 0)), (3, .one (.ptr 2 0))], [.box 58 [(.own 3)], .dead, .boxr 33 (.cons (.int .i64) (.cons (.int .i64) (.cons .str (.cons .bool (.sl (.cons (.int .i64) (.int .i64))))))), .arr 70 (.cons (.int .i64) (.cons .str (.cons (.int .i64) (.int .i64)))) true]⟩
def decl_writer_target_F7 : FSh := ⟨[(0, .one (.ptr 0 0)), (19, .one (.sl (.cons (.int .i64) (.int .i64)))), (20, .one (.int .i64)), (21, .one (.int .i64))], [.box 58 [(.own 2)], .dead, .arr 70 (.cons (.int .i64) (.cons .str (.cons (.int .i64) (.int .i64)))) true]⟩
def decl_writer_target_F12 : FSh := ⟨[(0, .one (.ptr 0 0)), (5, .one (.ptr 2 0)), (19, .one (.sl (.cons (.int .i64) (.int .i64)))), (20, .one (.int .i64)), (21, .one (.int .i64))], [.box 58 [(.own 3)], .dead, .boxr 54 (.cons (.int .i64) (.int .i64)), .arr 70 (.cons (.int .i64) (.cons .str (.cons (.int .i64) (.int .i64)))) true]⟩
def decl_writer_target_D : FD := ⟨T, lookC [(28, fc28), (29, fc29), (30, fc30), (46, fc46)], [12, 3], (Tryd.f31.body.getD .skip), Tryd.f31.results.toList, ⟨[.one (.ptr 0 0), .row (.cons (.int .i64) (.cons (.int .i64) (.cons .str (.cons .bool (.sl (.cons (.int .i64) (.int .i64)))))))], [.box 58 [(.own 1)], .arr 70 (.cons (.int .i64) (.cons .str (.cons (.int .i64) (.int .i64)))) true]⟩, ⟨[], [.box 58 [(.own 2)], .dead, .arr 70 (.cons (.int .i64) (.cons .str (.cons (.int .i64) (.int .i64)))) true]⟩, [(3, decl_writer_target_F3), (7, decl_writer_target_F7), (12, decl_writer_target_F12)]⟩
def decl_writer_target_l3 (h2 : TRule) (l3 : (List TToken)) : (Option (Unit × ((Unit × Unit) × Unit × (List TToken) × Unit))) := decl_writer_target_D.lab 3 decl_writer_target_F3 (((), (), ()), (((), ()), (), h2, l3, ()))
def decl_writer_target_l7 (t19 : (List TAct)) (t20 : Int) (t21 : Int) (l2 : (List TToken)) : (Option (Unit × ((Unit × Unit) × Unit × (List TToken) × Unit))) := decl_writer_target_D.lab 7 decl_writer_target_F7 (((), t19, t20, t21, ()), (((), ()), (), l2, ()))
def decl_writer_target_l12 (t19 : (List TAct)) (t20 : Int) (t21 : Int) (h2 : TAct) (l3 : (List TToken)) : (Option (Unit × ((Unit × Unit) × Unit × (List TToken) × Unit))) := decl_writer_target_D.lab 12 decl_writer_target_F12 (((), (), t19, t20, t21, ()), (((), ()), (), h2, l3, ()))
theorem decl_writer_target_l3_eq (h2 : TRule) (l3 : (List TToken)) : decl_writer_target_l3 h2 l3 =
  decl_writer_target_l7 h2.2.2.2.2 (h2.2.2.2.2.length : Int) 0 l3 := (FD.lab_eq _ _ _ _).trans (by kernel_rfl)
theorem decl_writer_target_l7_eq (t19 : (List TAct)) (t20 : Int) (t21 : Int) (l2 : (List TToken)) : decl_writer_target_l7 t19 t20 t21 l2 =
  if (decide (t21 < t20)) = true then
    if 0 ≤ t21 ∧ t21 < (t19.length : Int) then
      if (t21 == 0) = true then
        (decl_writer_marks (strB [58]) l2).bind fun y1 =>
          decl_writer_target_l12 t19 t20 t21 (t19.getD t21.toNat dAct) y1.2.2.2.1
      else
        (decl_writer_marks (strB [44]) l2).bind fun y2 =>
          decl_writer_target_l12 t19 t20 t21 (t19.getD t21.toNat dAct) y2.2.2.2.1
    else
      none
  else
    (decl_writer_marks (strB [59]) l2).bind fun y3 =>
      some ((), (((), ()), (), y3.2.2.2.1, ())) := (FD.lab_eq _ _ _ _).trans (by kernel_rfl)
theorem decl_writer_target_l12_eq (t19 : (List TAct)) (t20 : Int) (t21 : Int) (h2 : TAct) (l3 : (List TToken)) : decl_writer_target_l12 t19 t20 t21 h2 l3 =
  (decl_word h2.1).bind fun y1 =>
    (decl_writer_words [y1.1.1] l3).bind fun y2 =>
      if (decide (h2.1 > 2)) = true then
        (decl_writer_number h2.2 y2.2.2.2.1).bind fun y3 =>
          decl_writer_target_l7 t19 t20 (IntKind.i64.wrap (t21 + 1)) y3.2.2.2.1
      else
        decl_writer_target_l7 t19 t20 (IntKind.i64.wrap (t21 + 1)) y2.2.2.2.1 := (FD.lab_eq _ _ _ _).trans (by kernel_rfl)
def decl_writer_target (r : TRule) (l1 : (List TToken)) : (Option (Unit × ((Unit × Unit) × Unit × (List TToken) × Unit))) :=
  (decl_writer_marks (strB [62]) l1).bind fun y1 =>
    (decl_writer_words [r.2.2.1] y1.2.2.2.1).bind fun y2 =>
      if r.2.2.2.1 = true then
        (decl_writer_words [(strB [97, 103, 97, 105, 110])] y2.2.2.2.1).bind fun y3 =>
          decl_writer_target_l3 r y3.2.2.2.1
      else
        decl_writer_target_l3 r y2.2.2.2.1
def fc31 : FC := ⟨⟨[.one (.ptr 0 0), .row (.cons (.int .i64) (.cons (.int .i64) (.cons .str (.cons .bool (.sl (.cons (.int .i64) (.int .i64)))))))], [.box 58 [(.own 1)], .arr 70 (.cons (.int .i64) (.cons .str (.cons (.int .i64) (.int .i64)))) true]⟩, ⟨[], [.box 58 [(.own 2)], .dead, .arr 70 (.cons (.int .i64) (.cons .str (.cons (.int .i64) (.int .i64)))) true]⟩, fun x => decl_writer_target x.1.2.1 x.2.2.1⟩
theorem con31 : Contract Tryd.prog 31 fc31 :=
  decl_writer_target_D.contract tok (cok_of (l := [(28, fc28), (29, fc29), (30, fc30), (46, fc46)]) ⟨con28, con29, con30, con46, trivial⟩) mixed (fn' := Tryd.f31) (by kernel_rfl) (by kernel_rfl) rfl (by kernel_rfl) (fun x => (FD.fn_eq _ _).trans (by kernel_rfl))
end
end Go.Proofs.YtjgjbdnjjepibaaDoor
end

section
/-
YtjgjbdnjjepibaaDoor: signalbench.lex.letter, as one plain function, its equations, its contract. No condition.
-/
set_option maxRecDepth 100000
set_option linter.unusedVariables false
set_option maxHeartbeats 4000000
open Go Go.AM
namespace Go.Proofs.YtjgjbdnjjepibaaDoor
noncomputable section
def lex_letter_D : FD := ⟨T, lookC [], [], (Tryd.f66.body.getD .skip), Tryd.f66.results.toList, ⟨[.one (.int .i32)], []⟩, ⟨[.one .bool], []⟩, []⟩
def lex_letter (c : Int) : (Option ((Bool × Unit) × Unit)) :=
  if (decide ((97 : Int) ≤ c)) = true then
    some ((decide (c ≤ 122), ()), ())
  else
    some ((false, ()), ())
def fc66 : FC := ⟨⟨[.one (.int .i32)], []⟩, ⟨[.one .bool], []⟩, fun x => lex_letter x.1.1⟩
theorem con66 : Contract Tryd.prog 66 fc66 :=
  lex_letter_D.contract tok (cok_of (l := []) trivial) mixed (fn' := Tryd.f66) (by kernel_rfl) (by kernel_rfl) rfl (by kernel_rfl) (fun x => (FD.fn_eq _ _).trans (by kernel_rfl))
end
end Go.Proofs.YtjgjbdnjjepibaaDoor
end

section
/-
YtjgjbdnjjepibaaDoor: signalbench.lex.digit, as one plain function, its equations, its contract. No condition.
-/
set_option maxRecDepth 100000
set_option linter.unusedVariables false
set_option maxHeartbeats 4000000
open Go Go.AM
namespace Go.Proofs.YtjgjbdnjjepibaaDoor
noncomputable section
def lex_digit_D : FD := ⟨T, lookC [], [], (Tryd.f68.body.getD .skip), Tryd.f68.results.toList, ⟨[.one (.int .i32)], []⟩, ⟨[.one .bool], []⟩, []⟩
def lex_digit (c : Int) : (Option ((Bool × Unit) × Unit)) :=
  if (decide ((48 : Int) ≤ c)) = true then
    some ((decide (c ≤ 57), ()), ())
  else
    some ((false, ()), ())
def fc68 : FC := ⟨⟨[.one (.int .i32)], []⟩, ⟨[.one .bool], []⟩, fun x => lex_digit x.1.1⟩
theorem con68 : Contract Tryd.prog 68 fc68 :=
  lex_digit_D.contract tok (cok_of (l := []) trivial) mixed (fn' := Tryd.f68) (by kernel_rfl) (by kernel_rfl) rfl (by kernel_rfl) (fun x => (FD.fn_eq _ _).trans (by kernel_rfl))
end
end Go.Proofs.YtjgjbdnjjepibaaDoor
end

section
/-
YtjgjbdnjjepibaaDoor: signalbench.lex.word, as one plain function, its equations, its contract. No condition.
-/
set_option maxRecDepth 100000
set_option linter.unusedVariables false
set_option maxHeartbeats 4000000
open Go Go.AM
namespace Go.Proofs.YtjgjbdnjjepibaaDoor
noncomputable section
def lex_word_D : FD := ⟨T, lookC [(66, fc66), (68, fc68)], [], (Tryd.f73.body.getD .skip), Tryd.f73.results.toList, ⟨[.one (.int .i32)], []⟩, ⟨[.one .bool], []⟩, []⟩
def lex_word (c : Int) : (Option ((Bool × Unit) × Unit)) :=
  (lex_letter c).bind fun y1 =>
    if y1.1.1 = true then
      some ((true, ()), ())
    else
      (lex_digit c).bind fun y2 =>
        if y2.1.1 = true then
          some ((true, ()), ())
        else
          some ((c == 95, ()), ())
def fc73 : FC := ⟨⟨[.one (.int .i32)], []⟩, ⟨[.one .bool], []⟩, fun x => lex_word x.1.1⟩
theorem con73 : Contract Tryd.prog 73 fc73 :=
  lex_word_D.contract tok (cok_of (l := [(66, fc66), (68, fc68)]) ⟨con66, con68, trivial⟩) mixed (fn' := Tryd.f73) (by kernel_rfl) (by kernel_rfl) rfl (by kernel_rfl) (fun x => (FD.fn_eq _ _).trans (by kernel_rfl))
end
end Go.Proofs.YtjgjbdnjjepibaaDoor
end

section
/-
YtjgjbdnjjepibaaDoor: signalbench.lex.Name, as one plain function, its equations, its contract. No condition.
-/
set_option maxRecDepth 100000
set_option linter.unusedVariables false
set_option maxHeartbeats 4000000
open Go Go.AM
namespace Go.Proofs.YtjgjbdnjjepibaaDoor
noncomputable section
def lex_Name_F6 : FSh := ⟨[(0, .one .str), (19, .one (.int .i64)), (20, .one (.int .i64))], []⟩
def lex_Name_D : FD := ⟨T, lookC [(66, fc66), (73, fc73)], [], (Tryd.f60.body.getD .skip), Tryd.f60.results.toList, ⟨[.one .str], []⟩, ⟨[.one .bool], []⟩, [(6, lex_Name_F6)]⟩
def lex_Name_l6 (s : ByteArray) (t19 : Int) (t20 : Int) : (Option ((Bool × Unit) × Unit)) := lex_Name_D.lab 6 lex_Name_F6 ((s, t19, t20, ()), ())
theorem lex_Name_l6_eq (s : ByteArray) (t19 : Int) (t20 : Int) : lex_Name_l6 s t19 t20 =
  if (decide (t20 < t19)) = true then
    if 0 ≤ t20 ∧ t20 < (s.size : Int) then
      (lex_word (IntKind.i32.wrap (bt s t20))).bind fun y1 =>
        if (!y1.1.1) = true then
          some ((false, ()), ())
        else
          lex_Name_l6 s t19 (IntKind.i64.wrap (t20 + 1))
    else
      none
  else
    some ((true, ()), ()) := (FD.lab_eq _ _ _ _).trans (by kernel_rfl)
def lex_Name (s : ByteArray) : (Option ((Bool × Unit) × Unit)) :=
  if (s.toList == (strB []).toList) = true then
    some ((false, ()), ())
  else
    if (decide ((s.size : Int) > 16)) = true then
      some ((false, ()), ())
    else
      if 0 ≤ (0 : Int) ∧ 0 < (s.size : Int) then
        (lex_letter (IntKind.i32.wrap (bt s 0))).bind fun y1 =>
          if (!y1.1.1) = true then
            some ((false, ()), ())
          else
            lex_Name_l6 s (s.size : Int) 0
      else
        none
def fc60 : FC := ⟨⟨[.one .str], []⟩, ⟨[.one .bool], []⟩, fun x => lex_Name x.1.1⟩
theorem con60 : Contract Tryd.prog 60 fc60 :=
  lex_Name_D.contract tok (cok_of (l := [(66, fc66), (73, fc73)]) ⟨con66, con73, trivial⟩) mixed (fn' := Tryd.f60) (by kernel_rfl) (by kernel_rfl) rfl (by kernel_rfl) (fun x => (FD.fn_eq _ _).trans (by kernel_rfl))
end
end Go.Proofs.YtjgjbdnjjepibaaDoor
end

section
/-
YtjgjbdnjjepibaaDoor: internal.stringslite.HasPrefix, as one plain function, its equations, its contract. No condition.
-/
set_option maxRecDepth 100000
set_option linter.unusedVariables false
set_option maxHeartbeats 4000000
open Go Go.AM
namespace Go.Proofs.YtjgjbdnjjepibaaDoor
noncomputable section
def stringslite_HasPrefix_D : FD := ⟨T, lookC [], [], (Tryd.f84.body.getD .skip), Tryd.f84.results.toList, ⟨[.one .str, .one .str], []⟩, ⟨[.one .bool], []⟩, []⟩
def stringslite_HasPrefix (s : ByteArray) (prefix_ : ByteArray) : (Option ((Bool × Unit) × Unit)) :=
  if (decide ((s.size : Int) ≥ (prefix_.size : Int))) = true then
    if 0 ≤ (0 : Int) ∧ (0 : Int) ≤ (prefix_.size : Int) ∧ (prefix_.size : Int) ≤ (s.size : Int) then
      some (((s.extract 0 (prefix_.size : Int).toNat).toList == prefix_.toList, ()), ())
    else
      none
  else
    some ((false, ()), ())
def fc84 : FC := ⟨⟨[.one .str, .one .str], []⟩, ⟨[.one .bool], []⟩, fun x => stringslite_HasPrefix x.1.1 x.1.2.1⟩
theorem con84 : Contract Tryd.prog 84 fc84 :=
  stringslite_HasPrefix_D.contract tok (cok_of (l := []) trivial) mixed (fn' := Tryd.f84) (by kernel_rfl) (by kernel_rfl) rfl (by kernel_rfl) (fun x => (FD.fn_eq _ _).trans (by kernel_rfl))
end
end Go.Proofs.YtjgjbdnjjepibaaDoor
end

section
/-
YtjgjbdnjjepibaaDoor: strings.HasPrefix, as one plain function, its equations, its contract. No condition.
-/
set_option maxRecDepth 100000
set_option linter.unusedVariables false
set_option maxHeartbeats 4000000
open Go Go.AM
namespace Go.Proofs.YtjgjbdnjjepibaaDoor
noncomputable section
def strings_HasPrefix_D : FD := ⟨T, lookC [(84, fc84)], [], (Tryd.f74.body.getD .skip), Tryd.f74.results.toList, ⟨[.one .str, .one .str], []⟩, ⟨[.one .bool], []⟩, []⟩
def strings_HasPrefix (s : ByteArray) (prefix_ : ByteArray) : (Option ((Bool × Unit) × Unit)) :=
  (stringslite_HasPrefix s prefix_).bind fun y1 =>
    some ((y1.1.1, ()), ())
def fc74 : FC := ⟨⟨[.one .str, .one .str], []⟩, ⟨[.one .bool], []⟩, fun x => strings_HasPrefix x.1.1 x.1.2.1⟩
theorem con74 : Contract Tryd.prog 74 fc74 :=
  strings_HasPrefix_D.contract tok (cok_of (l := [(84, fc84)]) ⟨con84, trivial⟩) mixed (fn' := Tryd.f74) (by kernel_rfl) (by kernel_rfl) rfl (by kernel_rfl) (fun x => (FD.fn_eq _ _).trans (by kernel_rfl))
end
end Go.Proofs.YtjgjbdnjjepibaaDoor
end

section
/-
YtjgjbdnjjepibaaDoor: signalbench.lex.hex, as one plain function, its equations, its contract. No condition.
-/
set_option maxRecDepth 100000
set_option linter.unusedVariables false
set_option maxHeartbeats 4000000
open Go Go.AM
namespace Go.Proofs.YtjgjbdnjjepibaaDoor
noncomputable section
def lex_hex_D : FD := ⟨T, lookC [], [], (Tryd.f75.body.getD .skip), Tryd.f75.results.toList, ⟨[.one (.int .u8)], []⟩, ⟨[.one (.int .i64)], []⟩, []⟩
def lex_hex (c : Int) : (Option ((Int × Unit) × Unit)) :=
  if (decide ((48 : Int) ≤ c)) = true then
    if (decide (c ≤ 57)) = true then
      some ((IntKind.i64.wrap (IntKind.u8.wrap (c - 48)), ()), ())
    else
      if (decide ((97 : Int) ≤ c)) = true then
        if (decide (c ≤ 102)) = true then
          some ((IntKind.i64.wrap ((IntKind.i64.wrap (IntKind.u8.wrap (c - 97))) + 10), ()), ())
        else
          some (((-1), ()), ())
      else
        some (((-1), ()), ())
  else
    if (decide ((97 : Int) ≤ c)) = true then
      if (decide (c ≤ 102)) = true then
        some ((IntKind.i64.wrap ((IntKind.i64.wrap (IntKind.u8.wrap (c - 97))) + 10), ()), ())
      else
        some (((-1), ()), ())
    else
      some (((-1), ()), ())
def fc75 : FC := ⟨⟨[.one (.int .u8)], []⟩, ⟨[.one (.int .i64)], []⟩, fun x => lex_hex x.1.1⟩
theorem con75 : Contract Tryd.prog 75 fc75 :=
  lex_hex_D.contract tok (cok_of (l := []) trivial) mixed (fn' := Tryd.f75) (by kernel_rfl) (by kernel_rfl) rfl (by kernel_rfl) (fun x => (FD.fn_eq _ _).trans (by kernel_rfl))
end
end Go.Proofs.YtjgjbdnjjepibaaDoor
end

section
/-
YtjgjbdnjjepibaaDoor: signalbench.lex.Number, as one plain function, its equations, its contract. No condition.
-/
set_option maxRecDepth 100000
set_option linter.unusedVariables false
set_option maxHeartbeats 4000000
open Go Go.AM
namespace Go.Proofs.YtjgjbdnjjepibaaDoor
noncomputable section
def lex_Number_F2 : FSh := ⟨[(0, .one .str), (4, .one .bool)], []⟩
def lex_Number_F5 : FSh := ⟨[(0, .one .str), (4, .one .bool), (5, .one (.int .i64))], []⟩
def lex_Number_F13 : FSh := ⟨[(0, .one .str), (4, .one .bool), (5, .one (.int .i64)), (6, .one (.int .i64)), (34, .one (.int .i64)), (35, .one (.int .i64))], []⟩
def lex_Number_D : FD := ⟨T, lookC [(74, fc74), (75, fc75)], [5, 2], (Tryd.f61.body.getD .skip), Tryd.f61.results.toList, ⟨[.one .str], []⟩, ⟨[.one (.int .i64), .one (.int .i64)], []⟩, [(2, lex_Number_F2), (5, lex_Number_F5), (13, lex_Number_F13)]⟩
def lex_Number_l2 (s : ByteArray) (minus : Bool) : (Option ((Int × Int × Unit) × Unit)) := lex_Number_D.lab 2 lex_Number_F2 ((s, minus, ()), ())
def lex_Number_l5 (s : ByteArray) (minus : Bool) (base : Int) : (Option ((Int × Int × Unit) × Unit)) := lex_Number_D.lab 5 lex_Number_F5 ((s, minus, base, ()), ())
def lex_Number_l13 (s : ByteArray) (minus : Bool) (base : Int) (n : Int) (t34 : Int) (t35 : Int) : (Option ((Int × Int × Unit) × Unit)) := lex_Number_D.lab 13 lex_Number_F13 ((s, minus, base, n, t34, t35, ()), ())
theorem lex_Number_l2_eq (s : ByteArray) (minus : Bool) : lex_Number_l2 s minus =
  (strings_HasPrefix s (strB [48, 120])).bind fun y1 =>
    if y1.1.1 = true then
      if 0 ≤ (2 : Int) ∧ 2 ≤ (s.size : Int) then
        lex_Number_l5 (s.extract 2 s.size) minus 16
      else
        none
    else
      lex_Number_l5 s minus 10 := (FD.lab_eq _ _ _ _).trans (by kernel_rfl)
theorem lex_Number_l5_eq (s : ByteArray) (minus : Bool) (base : Int) : lex_Number_l5 s minus base =
  if (s.toList == (strB []).toList) = true then
    some ((0, 4, ()), ())
  else
    if 0 ≤ (0 : Int) ∧ 0 < (s.size : Int) then
      if ((bt s 0) == 48) = true then
        if minus = true then
          some ((0, 4, ()), ())
        else
          if (decide ((s.size : Int) > 1)) = true then
            some ((0, 4, ()), ())
          else
            lex_Number_l13 s minus base 0 (s.size : Int) 0
      else
        lex_Number_l13 s minus base 0 (s.size : Int) 0
    else
      none := (FD.lab_eq _ _ _ _).trans (by kernel_rfl)
theorem lex_Number_l13_eq (s : ByteArray) (minus : Bool) (base : Int) (n : Int) (t34 : Int) (t35 : Int) : lex_Number_l13 s minus base n t34 t35 =
  if (decide (t35 < t34)) = true then
    if 0 ≤ t35 ∧ t35 < (s.size : Int) then
      (lex_hex (bt s t35)).bind fun y1 =>
        if (decide (y1.1.1 < 0)) = true then
          some ((0, 4, ()), ())
        else
          if (decide (y1.1.1 ≥ base)) = true then
            some ((0, 4, ()), ())
          else
            lex_Number_l13 s minus base (if (9007199254740993 : Int) < IntKind.i64.wrap ((IntKind.i64.wrap (base * n)) + y1.1.1) then 9007199254740993 else IntKind.i64.wrap ((IntKind.i64.wrap (base * n)) + y1.1.1)) t34 (IntKind.i64.wrap (t35 + 1))
    else
      none
  else
    if (decide (n > 9007199254740992)) = true then
      some ((0, 2, ()), ())
    else
      if minus = true then
        some ((IntKind.i64.wrap (0 - n), 0, ()), ())
      else
        some ((n, 0, ()), ()) := (FD.lab_eq _ _ _ _).trans (by kernel_rfl)
def lex_Number (s : ByteArray) : (Option ((Int × Int × Unit) × Unit)) :=
  (strings_HasPrefix s (strB [45])).bind fun y1 =>
    if y1.1.1 = true then
      if 0 ≤ (1 : Int) ∧ 1 ≤ (s.size : Int) then
        lex_Number_l2 (s.extract 1 s.size) y1.1.1
      else
        none
    else
      lex_Number_l2 s y1.1.1
def fc61 : FC := ⟨⟨[.one .str], []⟩, ⟨[.one (.int .i64), .one (.int .i64)], []⟩, fun x => lex_Number x.1.1⟩
theorem con61 : Contract Tryd.prog 61 fc61 :=
  lex_Number_D.contract tok (cok_of (l := [(74, fc74), (75, fc75)]) ⟨con74, con75, trivial⟩) mixed (fn' := Tryd.f61) (by kernel_rfl) (by kernel_rfl) rfl (by kernel_rfl) (fun x => (FD.fn_eq _ _).trans (by kernel_rfl))
end
end Go.Proofs.YtjgjbdnjjepibaaDoor
end

section
/-
YtjgjbdnjjepibaaDoor: strings.Builder's copyCheck and String, by walks; their contracts. No condition.
-/
open Go Go.AM Go.RowKit
set_option maxRecDepth 1000000
namespace Go.Proofs.YtjgjbdnjjepibaaDoor
section
variable [Inhabited ZMem]

theorem cc_used (b : Nat) (w : World) (h0 : w.cell? ⟨b, 0, none⟩ = some (.pointer (some ⟨b, 0, none⟩))) :
    Calls Tryd.prog 64 #[.pointer (some ⟨b, 0, none⟩)] w fun e w' => e = .returned (.tuple #[]) ∧ w' = w := by
  obtain ⟨j, hj, _⟩ := Option.map_eq_some_iff.1 (show (Tryd.prog.info? 84).map (·.size) = some 2 by kernel_rfl)
  go_enter Tryd.func64, Tryd.ntmps64
  go_wp2
  rw [Lib.run_neq_ptr_same w _ Tryd.underlying81 hj]
  go_wp2
  go_end0
  exact ⟨rfl, rfl⟩

theorem cc_fresh (b : Nat) (w : World) (h0 : w.cell? ⟨b, 0, none⟩ = some (.pointer none)) (hsh : w.shape? b = some (84, 2)) (hfz : w.frozen? ⟨b, 0, none⟩ = false) :
    Calls Tryd.prog 64 #[.pointer (some ⟨b, 0, none⟩)] w fun e w' => e = .returned (.tuple #[]) ∧ w' = w.setCell ⟨b, 0, none⟩ (.pointer (some ⟨b, 0, none⟩)) := by
  obtain ⟨j, hj, hjs⟩ := Option.map_eq_some_iff.1 (show (Tryd.prog.info? 84).map (·.size) = some 2 by kernel_rfl)
  go_enter Tryd.func64, Tryd.ntmps64
  go_wp2
  rw [Lib.run_to_unsafe w ⟨b, 0, none⟩ Tryd.underlying81 Tryd.underlying112 hj (by rw [hjs]; decide) hsh (Nat.zero_lt_succ 1)]
  simp only [Result.andThen]
  rw [Oper.upon_value]
  go_wp2
  rw [run_callFunc_extern Tryd.func77 (by kernel_rfl) (by kernel_rfl) (by kernel_rfl) (e := Extern.AbiNoEscape.same) (by kernel_rfl)]
  rw [Lib.run_noEscape]
  simp only [Result.andThen]
  rw [Oper.upon_value]
  go_wp2
  rw [Lib.run_from_unsafe w ⟨b, 0, none⟩ Tryd.underlying112 Tryd.underlying81 hj hsh (show liesAt Tryd.prog Tryd.prog.depth 84 (2 / Tryd.prog.cellsOf 84) 0 84 1 = true by kernel_rfl)]
  simp only [Result.andThen]
  rw [Oper.upon_value]
  go_wp2
  go_end0
  exact ⟨rfl, rfl⟩

theorem st_row (b g p cap : Nat) (w : World) (cs cur : Array Value) (l : List UInt8) (h0 : l ≠ []) (hbk : w.heap[b]? = some (.cells cs 84 (0, 0))) (hc1 : cs[1]? = some (.slice (some ⟨g, p, none⟩) l.length cap))
    (hg : w.heap[g]? = some (.cells cur 5 (0, 0))) (hn : l.length ≤ cap) (hcap : p + cap ≤ cur.size) (hm : cap ≤ maxLen)
    (hcell : ∀ j x, l[j]? = some x → w.cell? ((⟨g, p, none⟩ : Addr).add j) = some (.int .u8 x.toNat)) :
    Calls Tryd.prog 51 #[.pointer (some ⟨b, 0, none⟩)] w fun e w' => e = .returned (.string ⟨l.toArray⟩) ∧ w' = w.drew.freeze ⟨g, p, none⟩ l.length := by
  have hl0 : l.length ≠ 0 := by simpa using h0
  have c1 : w.drew.cell? ⟨b, 1, none⟩ = some (.slice (some ⟨g, p, none⟩) l.length cap) := by
    have : w.drew.heap[b]? = some (.cells cs 84 (0, 0)) := hbk
    rw [Lib.cell_of_heap this]; exact hc1
  have hSD : (Builtin.unsafeSliceData_ #[82] 104 #[.slice (some ⟨g, p, none⟩) l.length cap]).run Tryd.prog w.drew = .ok (.pointer (some ⟨g, p, none⟩)) w.drew :=
    Lib.run_unsafeSliceData_row _ _ _ _ _ _ (by omega)
  have hUS : (Builtin.unsafeString_ #[104, 3] 9 #[.pointer (some ⟨g, p, none⟩), .int .i64 l.length]).run Tryd.prog w.drew = .ok (.string ⟨l.toArray⟩) (w.drew.freeze ⟨g, p, none⟩ l.length) :=
    run_unsafeString_at w.drew 104 3 9 5 Tryd.underlying104 (by kernel_rfl) g p cur.size (by have hg' : w.drew.heap[g]? = some (.cells cur 5 (0, 0)) := hg; simp [World.shape?, hg']) l h0 (by omega) (by unfold maxLen at hm; omega) hcell
  clear hl0 hn hcap hm hcell
  go_enter Tryd.func51, Tryd.ntmps51
  go_wp2
  go_region
  all_goals (go_wp2; go_ret; exact ⟨rfl, rfl⟩)

theorem st_nil (b : Nat) (w : World) (cs : Array Value) (hbk : w.heap[b]? = some (.cells cs 84 (0, 0))) (hc1 : cs[1]? = some (.slice none 0 0)) :
    Calls Tryd.prog 51 #[.pointer (some ⟨b, 0, none⟩)] w fun e w' => e = .returned (.string .empty) ∧ w' = w.drew := by
  have hUS := Lib.run_unsafeString_none (P := Tryd.prog) w.drew 104 3 9 none
  have c1 : w.drew.cell? ⟨b, 1, none⟩ = some (.slice none 0 0) := by
    have : w.drew.heap[b]? = some (.cells cs 84 (0, 0)) := hbk
    rw [Lib.cell_of_heap this]; exact hc1
  have hSD : (Builtin.unsafeSliceData_ #[82] 104 #[.slice none 0 0]).run Tryd.prog w.drew = .ok (.pointer none) w.drew := rfl
  go_enter Tryd.func51, Tryd.ntmps51
  go_wp2
  go_region
  all_goals (go_wp2; go_ret; exact ⟨rfl, rfl⟩)

theorem st_room (b g p cap : Nat) (hcap : cap ≠ 0) (w : World) (cs : Array Value) (hbk : w.heap[b]? = some (.cells cs 84 (0, 0))) (hc1 : cs[1]? = some (.slice (some ⟨g, p, none⟩) 0 cap)) :
    Calls Tryd.prog 51 #[.pointer (some ⟨b, 0, none⟩)] w fun e w' => e = .returned (.string .empty) ∧ w' = w.drew := by
  have hUS := Lib.run_unsafeString_none (P := Tryd.prog) w.drew 104 3 9 (some ⟨g, p, none⟩)
  have c1 : w.drew.cell? ⟨b, 1, none⟩ = some (.slice (some ⟨g, p, none⟩) 0 cap) := by
    have : w.drew.heap[b]? = some (.cells cs 84 (0, 0)) := hbk
    rw [Lib.cell_of_heap this]; exact hc1
  have hSD : (Builtin.unsafeSliceData_ #[82] 104 #[.slice (some ⟨g, p, none⟩) 0 cap]).run Tryd.prog w.drew = .ok (.pointer (some ⟨g, p, none⟩)) w.drew :=
    Lib.run_unsafeSliceData_row _ _ _ _ _ _ hcap
  clear hcap
  go_enter Tryd.func51, Tryd.ntmps51
  go_wp2
  go_region
  all_goals (go_wp2; go_ret; exact ⟨rfl, rfl⟩)

theorem st_noroom (b g p : Nat) (w : World) (cs cur : Array Value) (hbk : w.heap[b]? = some (.cells cs 84 (0, 0))) (hc1 : cs[1]? = some (.slice (some ⟨g, p, none⟩) 0 0))
    (hg : w.heap[g]? = some (.cells cur 5 (0, 0))) :
    Calls Tryd.prog 51 #[.pointer (some ⟨b, 0, none⟩)] w fun e w' => e = .returned (.string .empty) ∧ w' = w.drew.alloc (.view ⟨g, p, none⟩ 5) := by
  have hlt : b < w.heap.size := by
    rcases Nat.lt_or_ge b w.heap.size with h' | h'
    · exact h'
    · simp [Array.getElem?_eq_none h'] at hbk
  have hUS := Lib.run_unsafeString_none (P := Tryd.prog) (w.drew.alloc (.view ⟨g, p, none⟩ 5)) 104 3 9 (some ⟨w.drew.heap.size, 0, none⟩)
  have hUS2 : (Builtin.unsafeString_ #[104, 3] 9 #[.pointer (some ⟨w.heap.size, 0, none⟩), .int .i64 0]).run Tryd.prog (w.alloc (.view ⟨g, p, none⟩ 5)).drew = .ok (.string .empty) (w.alloc (.view ⟨g, p, none⟩ 5)).drew := Lib.run_unsafeString_none _ 104 3 9 _
  have c1 : w.drew.cell? ⟨b, 1, none⟩ = some (.slice (some ⟨g, p, none⟩) 0 0) := by
    have : w.drew.heap[b]? = some (.cells cs 84 (0, 0)) := hbk
    rw [Lib.cell_of_heap this]; exact hc1
  have hSD : (Builtin.unsafeSliceData_ #[82] 104 #[.slice (some ⟨g, p, none⟩) 0 0]).run Tryd.prog w.drew = .ok (.pointer (some ⟨w.drew.heap.size, 0, none⟩)) (w.drew.alloc (.view ⟨g, p, none⟩ 5)) :=
    Lib.run_unsafeSliceData_zero w.drew _ _ 5 Tryd.underlying104 ⟨g, p, none⟩ 0 (5, cur.size) (by have hg' : w.drew.heap[g]? = some (.cells cur 5 (0, 0)) := hg; simp [World.shape?, hg'])
  have c2 : (w.drew.alloc (.view ⟨g, p, none⟩ 5)).cell? ⟨b, 1, none⟩ = some (.slice (some ⟨g, p, none⟩) 0 0) := by
    have : (w.drew.alloc (.view ⟨g, p, none⟩ 5)).heap[b]? = _ := (Lib.alloc_old w.drew _ b hlt).trans hbk
    rw [Lib.cell_of_heap this]; exact hc1
  have c3 : (w.alloc (.view ⟨g, p, none⟩ 5)).drew.cell? ⟨b, 1, none⟩ = some (.slice (some ⟨g, p, none⟩) 0 0) := c2
  have c0 : w.cell? ⟨b, 1, none⟩ = some (.slice (some ⟨g, p, none⟩) 0 0) := c1
  go_enter Tryd.func51, Tryd.ntmps51
  go_wp2
  go_region
  all_goals (go_wp2; go_ret; exact ⟨rfl, rfl⟩)

def strings_Builder_copyCheck (l : List Int) : Option (Unit × ((Unit × Unit × Unit) × List Int × Unit)) := some ((), (((), (), ()), l, ()))
def fc64 : FC := ⟨⟨[.one (.ptr 0 0)], bShape 84 5⟩, ⟨[], bShape 84 5⟩, fun x => strings_Builder_copyCheck x.2.2.1⟩
theorem con64 : Contract Tryd.prog 64 fc64 :=
  Contract.copyCheck (fn := Tryd.f64) (c := Tryd.f64.body.getD .skip) Tryd.func64 (by kernel_rfl) (by kernel_rfl) (fun b w h => cc_used b w h) (fun b w h h' h'' => cc_fresh b w h h' h'')

def strings_Builder_String (l : List Int) : Option ((ByteArray × Unit) × (Unit × Unit × Unit)) := if byteL l = true then some ((strOfBytes l, ()), ((), (), ())) else none
def fc51 : FC := ⟨⟨[.one (.ptr 0 0)], bShape 84 5⟩, ⟨[.one .str], [.dead, .dead]⟩, fun x => strings_Builder_String x.2.2.1⟩
theorem con51 : Contract Tryd.prog 51 fc51 :=
  Contract.bString (fn := Tryd.f51) (c := Tryd.f51.body.getD .skip) Tryd.func51 (by kernel_rfl) (by kernel_rfl) (fun b w cs h h' => st_nil b w cs h h') (fun b g p cap hc w cs h h' => st_room b g p cap hc w cs h h')
    (fun b g p w cs cur h h' h'' => st_noroom b g p w cs cur h h' h'') (fun b g p cap w cs cur l h1 h2 h3 h4 h5 h6 h7 h8 => st_row b g p cap w cs cur l h1 h2 h3 h4 h5 h6 h7 h8)

end
end Go.Proofs.YtjgjbdnjjepibaaDoor
end

section
/-
YtjgjbdnjjepibaaDoor: (*strings.Builder).WriteByte, as one plain function, its equations, its contract. No condition.
-/
set_option maxRecDepth 100000
set_option linter.unusedVariables false
set_option maxHeartbeats 4000000
open Go Go.AM
namespace Go.Proofs.YtjgjbdnjjepibaaDoor
noncomputable section
def strings_Builder_WriteByte_D : FD := ⟨T, lookC [(64, fc64)], [], (Tryd.f48.body.getD .skip), Tryd.f48.results.toList, ⟨[.one (.ptr 0 0), .one (.int .u8)], [.box 84 [(.oself 0), (.own 1)], .arr 5 (.int .u8) true]⟩, ⟨[.one .junk], [.box 84 [(.oself 0), (.own 2)], .dead, .arr 5 (.int .u8) true]⟩, []⟩
def strings_Builder_WriteByte (c : Int) (l1 : (List Int)) : (Option ((Unit × Unit) × ((Unit × Unit × Unit) × Unit × (List Int) × Unit))) :=
  (strings_Builder_copyCheck l1).bind fun y1 =>
    if (y1.2.2.1.length + 1) * 1 ≤ 140737488355328 ∧ 0 < 1 then
      some (((), ()), (((), (), ()), (), y1.2.2.1 ++ [c], ()))
    else
      none
def fc48 : FC := ⟨⟨[.one (.ptr 0 0), .one (.int .u8)], [.box 84 [(.oself 0), (.own 1)], .arr 5 (.int .u8) true]⟩, ⟨[.one .junk], [.box 84 [(.oself 0), (.own 2)], .dead, .arr 5 (.int .u8) true]⟩, fun x => strings_Builder_WriteByte x.1.2.1 x.2.2.1⟩
theorem con48 : Contract Tryd.prog 48 fc48 :=
  strings_Builder_WriteByte_D.contract tok (cok_of (l := [(64, fc64)]) ⟨con64, trivial⟩) mixed (fn' := Tryd.f48) (by kernel_rfl) (by kernel_rfl) rfl (by kernel_rfl) (fun x => (FD.fn_eq _ _).trans (by kernel_rfl))
end
end Go.Proofs.YtjgjbdnjjepibaaDoor
end

section
/-
YtjgjbdnjjepibaaDoor: (*strings.Builder).WriteString, as one plain function, its equations, its contract. No condition.
-/
set_option maxRecDepth 100000
set_option linter.unusedVariables false
set_option maxHeartbeats 4000000
open Go Go.AM
namespace Go.Proofs.YtjgjbdnjjepibaaDoor
noncomputable section
def strings_Builder_WriteString_D : FD := ⟨T, lookC [(64, fc64)], [], (Tryd.f49.body.getD .skip), Tryd.f49.results.toList, ⟨[.one (.ptr 0 0), .one .str], [.box 84 [(.oself 0), (.own 1)], .arr 5 (.int .u8) true]⟩, ⟨[.one (.int .i64), .one .junk], [.box 84 [(.oself 0), (.own 2)], .dead, .arr 5 (.int .u8) true]⟩, []⟩
def strings_Builder_WriteString (s : ByteArray) (l1 : (List Int)) : (Option ((Int × Unit × Unit) × ((Unit × Unit × Unit) × Unit × (List Int) × Unit))) :=
  (strings_Builder_copyCheck l1).bind fun y1 =>
    if (y1.2.2.1.length + (bytesOfStr s).length) * 1 ≤ 140737488355328 ∧ 0 < 1 then
      some (((s.size : Int), (), ()), (((), (), ()), (), y1.2.2.1 ++ (bytesOfStr s), ()))
    else
      none
def fc49 : FC := ⟨⟨[.one (.ptr 0 0), .one .str], [.box 84 [(.oself 0), (.own 1)], .arr 5 (.int .u8) true]⟩, ⟨[.one (.int .i64), .one .junk], [.box 84 [(.oself 0), (.own 2)], .dead, .arr 5 (.int .u8) true]⟩, fun x => strings_Builder_WriteString x.1.2.1 x.2.2.1⟩
theorem con49 : Contract Tryd.prog 49 fc49 :=
  strings_Builder_WriteString_D.contract tok (cok_of (l := [(64, fc64)]) ⟨con64, trivial⟩) mixed (fn' := Tryd.f49) (by kernel_rfl) (by kernel_rfl) rfl (by kernel_rfl) (fun x => (FD.fn_eq _ _).trans (by kernel_rfl))
end
end Go.Proofs.YtjgjbdnjjepibaaDoor
end

section
/-
YtjgjbdnjjepibaaDoor: signalbench.lex.plain, as one plain function, its equations, its contract. No condition.
-/
set_option maxRecDepth 100000
set_option linter.unusedVariables false
set_option maxHeartbeats 4000000
open Go Go.AM
namespace Go.Proofs.YtjgjbdnjjepibaaDoor
noncomputable section
def lex_plain_D : FD := ⟨T, lookC [], [], (Tryd.f76.body.getD .skip), Tryd.f76.results.toList, ⟨[.one (.int .i32)], []⟩, ⟨[.one .bool], []⟩, []⟩
def lex_plain (c : Int) : (Option ((Bool × Unit) × Unit)) :=
  if (decide ((32 : Int) ≤ c)) = true then
    if (decide (c ≤ 126)) = true then
      if (c != 34) = true then
        some ((c != 92, ()), ())
      else
        some ((false, ()), ())
    else
      some ((false, ()), ())
  else
    some ((false, ()), ())
def fc76 : FC := ⟨⟨[.one (.int .i32)], []⟩, ⟨[.one .bool], []⟩, fun x => lex_plain x.1.1⟩
theorem con76 : Contract Tryd.prog 76 fc76 :=
  lex_plain_D.contract tok (cok_of (l := []) trivial) mixed (fn' := Tryd.f76) (by kernel_rfl) (by kernel_rfl) rfl (by kernel_rfl) (fun x => (FD.fn_eq _ _).trans (by kernel_rfl))
end
end Go.Proofs.YtjgjbdnjjepibaaDoor
end

section
/-
YtjgjbdnjjepibaaDoor: signalbench.lex.Quote, as one plain function, its equations, its contract. No condition.
-/
set_option maxRecDepth 100000
set_option linter.unusedVariables false
set_option maxHeartbeats 4000000
open Go Go.AM
namespace Go.Proofs.YtjgjbdnjjepibaaDoor
noncomputable section
def lex_Quote_F5 : FSh := ⟨[(0, .one .str), (3, .one (.ptr 0 0)), (8, .one (.int .i64)), (9, .one (.int .i64))], [.box 84 [(.oself 0), (.own 1)], .arr 5 (.int .u8) true]⟩
def lex_Quote_D : FD := ⟨T, lookC [(48, fc48), (49, fc49), (51, fc51), (76, fc76)], [], (Tryd.f62.body.getD .skip), Tryd.f62.results.toList, ⟨[.one .str], []⟩, ⟨[.one .str], []⟩, [(5, lex_Quote_F5)]⟩
def lex_Quote_l5 (s : ByteArray) (t8 : Int) (t9 : Int) (l1 : (List Int)) : (Option ((ByteArray × Unit) × Unit)) := lex_Quote_D.lab 5 lex_Quote_F5 ((s, (), t8, t9, ()), (((), (), ()), l1, ()))
theorem lex_Quote_l5_eq (s : ByteArray) (t8 : Int) (t9 : Int) (l1 : (List Int)) : lex_Quote_l5 s t8 t9 l1 =
  if (decide (t9 < t8)) = true then
    if 0 ≤ t9 ∧ t9 < (s.size : Int) then
      (lex_plain (IntKind.i32.wrap (bt s t9))).bind fun y1 =>
        if y1.1.1 = true then
          (strings_Builder_WriteByte (bt s t9) l1).bind fun y2 =>
            lex_Quote_l5 s t8 (IntKind.i64.wrap (t9 + 1)) y2.2.2.2.1
        else
          if ((bt s t9) == 34) = true then
            (strings_Builder_WriteByte 92 l1).bind fun y3 =>
              (strings_Builder_WriteByte (bt s t9) y3.2.2.2.1).bind fun y4 =>
                lex_Quote_l5 s t8 (IntKind.i64.wrap (t9 + 1)) y4.2.2.2.1
          else
            if ((bt s t9) == 92) = true then
              (strings_Builder_WriteByte 92 l1).bind fun y5 =>
                (strings_Builder_WriteByte (bt s t9) y5.2.2.2.1).bind fun y6 =>
                  lex_Quote_l5 s t8 (IntKind.i64.wrap (t9 + 1)) y6.2.2.2.1
            else
              if ((bt s t9) == 10) = true then
                (strings_Builder_WriteString (strB [92, 110]) l1).bind fun y7 =>
                  lex_Quote_l5 s t8 (IntKind.i64.wrap (t9 + 1)) y7.2.2.2.1
              else
                (strings_Builder_WriteString (strB [92, 120]) l1).bind fun y8 =>
                  if 0 ≤ (bt s t9).fdiv 16 ∧ (bt s t9).fdiv 16 < ((strB [48, 49, 50, 51, 52, 53, 54, 55, 56, 57, 97, 98, 99, 100, 101, 102]).size : Int) then
                    (strings_Builder_WriteByte (bt (strB [48, 49, 50, 51, 52, 53, 54, 55, 56, 57, 97, 98, 99, 100, 101, 102]) ((bt s t9).fdiv 16)) y8.2.2.2.1).bind fun y9 =>
                      if 0 ≤ IntKind.u8.wrap (BitVec.ofInt 8 (bt s t9) &&& BitVec.ofInt 8 15).toNat ∧ IntKind.u8.wrap (BitVec.ofInt 8 (bt s t9) &&& BitVec.ofInt 8 15).toNat < ((strB [48, 49, 50, 51, 52, 53, 54, 55, 56, 57, 97, 98, 99, 100, 101, 102]).size : Int) then
                        (strings_Builder_WriteByte (bt (strB [48, 49, 50, 51, 52, 53, 54, 55, 56, 57, 97, 98, 99, 100, 101, 102]) (IntKind.u8.wrap (BitVec.ofInt 8 (bt s t9) &&& BitVec.ofInt 8 15).toNat)) y9.2.2.2.1).bind fun y10 =>
                          lex_Quote_l5 s t8 (IntKind.i64.wrap (t9 + 1)) y10.2.2.2.1
                      else
                        none
                  else
                    none
    else
      none
  else
    (strings_Builder_WriteByte 34 l1).bind fun y11 =>
      (strings_Builder_String y11.2.2.2.1).bind fun y12 =>
        some ((y12.1.1, ()), ()) := (FD.lab_eq _ _ _ _).trans (by kernel_rfl)
def lex_Quote (s : ByteArray) : (Option ((ByteArray × Unit) × Unit)) :=
  (strings_Builder_WriteByte 34 []).bind fun y1 =>
    lex_Quote_l5 s (s.size : Int) 0 y1.2.2.2.1
def fc62 : FC := ⟨⟨[.one .str], []⟩, ⟨[.one .str], []⟩, fun x => lex_Quote x.1.1⟩
theorem con62 : Contract Tryd.prog 62 fc62 :=
  lex_Quote_D.contract tok (cok_of (l := [(48, fc48), (49, fc49), (51, fc51), (76, fc76)]) ⟨con48, con49, con51, con76, trivial⟩) mixed (fn' := Tryd.f62) (by kernel_rfl) (by kernel_rfl) rfl (by kernel_rfl) (fun x => (FD.fn_eq _ _).trans (by kernel_rfl))
end
end Go.Proofs.YtjgjbdnjjepibaaDoor
end

section
/-
YtjgjbdnjjepibaaDoor: signalbench.lex.mark, as one plain function, its equations, its contract. No condition.
-/
set_option maxRecDepth 100000
set_option linter.unusedVariables false
set_option maxHeartbeats 4000000
open Go Go.AM
namespace Go.Proofs.YtjgjbdnjjepibaaDoor
noncomputable section
def lex_mark_D : FD := ⟨T, lookC [], [], (Tryd.f63.body.getD .skip), Tryd.f63.results.toList, ⟨[.one (.int .i32)], []⟩, ⟨[.one .bool], []⟩, []⟩
def lex_mark (c : Int) : (Option ((Bool × Unit) × Unit)) :=
  if (c == 40) = true then
    some ((true, ()), ())
  else
    if (c == 41) = true then
      some ((true, ()), ())
    else
      if (c == 91) = true then
        some ((true, ()), ())
      else
        if (c == 93) = true then
          some ((true, ()), ())
        else
          if (c == 123) = true then
            some ((true, ()), ())
          else
            if (c == 125) = true then
              some ((true, ()), ())
            else
              if (c == 60) = true then
                some ((true, ()), ())
              else
                if (c == 62) = true then
                  some ((true, ()), ())
                else
                  if (c == 61) = true then
                    some ((true, ()), ())
                  else
                    if (c == 44) = true then
                      some ((true, ()), ())
                    else
                      if (c == 59) = true then
                        some ((true, ()), ())
                      else
                        if (c == 58) = true then
                          some ((true, ()), ())
                        else
                          if (c == 46) = true then
                            some ((true, ()), ())
                          else
                            if (c == 47) = true then
                              some ((true, ()), ())
                            else
                              if (c == 42) = true then
                                some ((true, ()), ())
                              else
                                if (c == 43) = true then
                                  some ((true, ()), ())
                                else
                                  if (c == 33) = true then
                                    some ((true, ()), ())
                                  else
                                    if (c == 38) = true then
                                      some ((true, ()), ())
                                    else
                                      if (c == 124) = true then
                                        some ((true, ()), ())
                                      else
                                        some ((false, ()), ())
def fc63 : FC := ⟨⟨[.one (.int .i32)], []⟩, ⟨[.one .bool], []⟩, fun x => lex_mark x.1.1⟩
theorem con63 : Contract Tryd.prog 63 fc63 :=
  lex_mark_D.contract tok (cok_of (l := []) trivial) mixed (fn' := Tryd.f63) (by kernel_rfl) (by kernel_rfl) rfl (by kernel_rfl) (fun x => (FD.fn_eq _ _).trans (by kernel_rfl))
end
end Go.Proofs.YtjgjbdnjjepibaaDoor
end

section
/-
YtjgjbdnjjepibaaDoor: signalbench.lex.form, as one plain function, its equations, its contract. No condition.
-/
set_option maxRecDepth 100000
set_option linter.unusedVariables false
set_option maxHeartbeats 4000000
open Go Go.AM
namespace Go.Proofs.YtjgjbdnjjepibaaDoor
noncomputable section
def lex_form_D : FD := ⟨T, lookC [(45, fc45), (60, fc60), (61, fc61), (62, fc62), (63, fc63)], [], (Tryd.f47.body.getD .skip), Tryd.f47.results.toList, ⟨[.row (.cons (.int .i64) (.cons .str (.cons (.int .i64) (.int .i64))))], []⟩, ⟨[.one .str, .one .bool], []⟩, []⟩
def lex_form (t : TToken) : (Option ((ByteArray × Bool × Unit) × Unit)) :=
  if (t.1 == 1) = true then
    (lex_Name t.2.1).bind fun y1 =>
      if y1.1.1 = true then
        some ((t.2.1, t.2.2.1 == 0, ()), ())
      else
        some ((t.2.1, false, ()), ())
  else
    if (t.1 == 2) = true then
      (lex_Number t.2.1).bind fun y2 =>
        (strconv_Itoa t.2.2.1).bind fun y3 =>
          if (y2.1.2.1 == 0) = true then
            some ((y3.1.1, y2.1.1 == t.2.2.1, ()), ())
          else
            some ((y3.1.1, false, ()), ())
    else
      if (t.1 == 3) = true then
        (lex_Quote t.2.1).bind fun y4 =>
          some ((y4.1.1, t.2.2.1 == 0, ()), ())
      else
        if (t.1 == 4) = true then
          if ((t.2.1.size : Int) == 1) = true then
            if 0 ≤ (0 : Int) ∧ 0 < (t.2.1.size : Int) then
              (lex_mark (IntKind.i32.wrap (bt t.2.1 0))).bind fun y5 =>
                if y5.1.1 = true then
                  some ((t.2.1, t.2.2.1 == 0, ()), ())
                else
                  some ((t.2.1, false, ()), ())
            else
              none
          else
            some ((t.2.1, false, ()), ())
        else
          some (((strB []), false, ()), ())
def fc47 : FC := ⟨⟨[.row (.cons (.int .i64) (.cons .str (.cons (.int .i64) (.int .i64))))], []⟩, ⟨[.one .str, .one .bool], []⟩, fun x => lex_form x.1.1⟩
theorem con47 : Contract Tryd.prog 47 fc47 :=
  lex_form_D.contract tok (cok_of (l := [(45, fc45), (60, fc60), (61, fc61), (62, fc62), (63, fc63)]) ⟨con45, con60, con61, con62, con63, trivial⟩) mixed (fn' := Tryd.f47) (by kernel_rfl) (by kernel_rfl) rfl (by kernel_rfl) (fun x => (FD.fn_eq _ _).trans (by kernel_rfl))
end
end Go.Proofs.YtjgjbdnjjepibaaDoor
end

section
/-
YtjgjbdnjjepibaaDoor: (*strings.Builder).Len, as one plain function, its equations, its contract. No condition.
-/
set_option maxRecDepth 100000
set_option linter.unusedVariables false
set_option maxHeartbeats 4000000
open Go Go.AM
namespace Go.Proofs.YtjgjbdnjjepibaaDoor
noncomputable section
def strings_Builder_Len_D : FD := ⟨T, lookC [], [], (Tryd.f50.body.getD .skip), Tryd.f50.results.toList, ⟨[.one (.ptr 0 0)], [.box 84 [(.oself 0), (.own 1)], .arr 5 (.int .u8) true]⟩, ⟨[.one (.int .i64)], [.box 84 [(.oself 0), (.own 2)], .dead, .arr 5 (.int .u8) true]⟩, []⟩
def strings_Builder_Len (l1 : (List Int)) : (Option ((Int × Unit) × ((Unit × Unit × Unit) × Unit × (List Int) × Unit))) :=
  some (((l1.length : Int), ()), (((), (), ()), (), l1, ()))
def fc50 : FC := ⟨⟨[.one (.ptr 0 0)], [.box 84 [(.oself 0), (.own 1)], .arr 5 (.int .u8) true]⟩, ⟨[.one (.int .i64)], [.box 84 [(.oself 0), (.own 2)], .dead, .arr 5 (.int .u8) true]⟩, fun x => strings_Builder_Len x.2.2.1⟩
theorem con50 : Contract Tryd.prog 50 fc50 :=
  strings_Builder_Len_D.contract tok (cok_of (l := []) trivial) mixed (fn' := Tryd.f50) (by kernel_rfl) (by kernel_rfl) rfl (by kernel_rfl) (fun x => (FD.fn_eq _ _).trans (by kernel_rfl))
end
end Go.Proofs.YtjgjbdnjjepibaaDoor
end

section
/-
YtjgjbdnjjepibaaDoor: signalbench.lex.Text, as one plain function, its equations, its contract. No condition.
-/
set_option maxRecDepth 100000
set_option linter.unusedVariables false
set_option maxHeartbeats 4000000
open Go Go.AM
namespace Go.Proofs.YtjgjbdnjjepibaaDoor
noncomputable section
def lex_Text_F4 : FSh := ⟨[(0, .one (.sl (.cons (.int .i64) (.cons .str (.cons (.int .i64) (.int .i64)))))), (4, .one (.ptr 0 0)), (9, .one (.int .i64)), (10, .one (.int .i64))], [.box 84 [(.oself 0), (.own 1)], .arr 5 (.int .u8) true]⟩
def lex_Text_D : FD := ⟨T, lookC [(47, fc47), (48, fc48), (49, fc49), (50, fc50), (51, fc51)], [], (Tryd.f32.body.getD .skip), Tryd.f32.results.toList, ⟨[.one (.sl (.cons (.int .i64) (.cons .str (.cons (.int .i64) (.int .i64)))))], []⟩, ⟨[.one .str, .one (.int .i64)], []⟩, [(4, lex_Text_F4)]⟩
def lex_Text_l4 (l : (List TToken)) (t9 : Int) (t10 : Int) (l1 : (List Int)) : (Option ((ByteArray × Int × Unit) × Unit)) := lex_Text_D.lab 4 lex_Text_F4 ((l, (), t9, t10, ()), (((), (), ()), l1, ()))
theorem lex_Text_l4_eq (l : (List TToken)) (t9 : Int) (t10 : Int) (l1 : (List Int)) : lex_Text_l4 l t9 t10 l1 =
  if (decide (t10 < t9)) = true then
    if 0 ≤ t10 ∧ t10 < (l.length : Int) then
      (lex_form (l.getD t10.toNat dToken)).bind fun y1 =>
        if (!y1.1.2.1) = true then
          some (((strB []), 1, ()), ())
        else
          if (decide (t10 > 0)) = true then
            (strings_Builder_WriteByte 32 l1).bind fun y2 =>
              (strings_Builder_WriteString y1.1.1 y2.2.2.2.1).bind fun y3 =>
                lex_Text_l4 l t9 (IntKind.i64.wrap (t10 + 1)) y3.2.2.2.1
          else
            (strings_Builder_WriteString y1.1.1 l1).bind fun y4 =>
              lex_Text_l4 l t9 (IntKind.i64.wrap (t10 + 1)) y4.2.2.2.1
    else
      none
  else
    (strings_Builder_Len l1).bind fun y5 =>
      if (decide (y5.1.1 > 1048576)) = true then
        some (((strB []), 6, ()), ())
      else
        (strings_Builder_String y5.2.2.2.1).bind fun y6 =>
          some ((y6.1.1, 0, ()), ()) := (FD.lab_eq _ _ _ _).trans (by kernel_rfl)
def lex_Text (l : (List TToken)) : (Option ((ByteArray × Int × Unit) × Unit)) :=
  lex_Text_l4 l (l.length : Int) 0 []
def fc32 : FC := ⟨⟨[.one (.sl (.cons (.int .i64) (.cons .str (.cons (.int .i64) (.int .i64)))))], []⟩, ⟨[.one .str, .one (.int .i64)], []⟩, fun x => lex_Text x.1.1⟩
theorem con32 : Contract Tryd.prog 32 fc32 :=
  lex_Text_D.contract tok (cok_of (l := [(47, fc47), (48, fc48), (49, fc49), (50, fc50), (51, fc51)]) ⟨con47, con48, con49, con50, con51, trivial⟩) mixed (fn' := Tryd.f32) (by kernel_rfl) (by kernel_rfl) rfl (by kernel_rfl) (fun x => (FD.fn_eq _ _).trans (by kernel_rfl))
end
end Go.Proofs.YtjgjbdnjjepibaaDoor
end

section
/-
YtjgjbdnjjepibaaDoor: signalbench.decl.Print, as one plain function, its equations, its contract. No condition.
-/
set_option maxRecDepth 100000
set_option linter.unusedVariables false
set_option maxHeartbeats 4000000
open Go Go.AM
namespace Go.Proofs.YtjgjbdnjjepibaaDoor
noncomputable section
def decl_Print_F6 : FSh := ⟨[(1, .one (.ptr 0 0)), (5, .one .str), (6, .one .str)], [.boxr 24 (.cons .str (.cons (.int .i64) (.cons (.int .i64) (.sl (.cons .str (.cons (.sl (.cons (.int .i64) (.cons (.int .i64) (.cons .str (.cons .bool (.sl (.cons (.int .i64) (.int .i64)))))))) (.cons .bool (.cons (.int .i64) (.cons (.int .i64) (.cons .str (.cons .bool (.sl (.cons (.int .i64) (.int .i64))))))))))))))]⟩
def decl_Print_F8 : FSh := ⟨[(1, .one (.ptr 0 0)), (5, .one .str), (6, .one .str)], [.boxr 24 (.cons .str (.cons (.int .i64) (.cons (.int .i64) (.sl (.cons .str (.cons (.sl (.cons (.int .i64) (.cons (.int .i64) (.cons .str (.cons .bool (.sl (.cons (.int .i64) (.int .i64)))))))) (.cons .bool (.cons (.int .i64) (.cons (.int .i64) (.cons .str (.cons .bool (.sl (.cons (.int .i64) (.int .i64))))))))))))))]⟩
def decl_Print_F15 : FSh := ⟨[(7, .one (.ptr 0 0)), (35, .one (.sl (.cons .str (.cons (.sl (.cons (.int .i64) (.cons (.int .i64) (.cons .str (.cons .bool (.sl (.cons (.int .i64) (.int .i64)))))))) (.cons .bool (.cons (.int .i64) (.cons (.int .i64) (.cons .str (.cons .bool (.sl (.cons (.int .i64) (.int .i64)))))))))))), (36, .one (.int .i64)), (37, .one (.int .i64))], [.box 58 [(.own 1)], .arr 70 (.cons (.int .i64) (.cons .str (.cons (.int .i64) (.int .i64)))) true]⟩
def decl_Print_F24 : FSh := ⟨[(7, .one (.ptr 0 0)), (9, .one (.ptr 1 0)), (35, .one (.sl (.cons .str (.cons (.sl (.cons (.int .i64) (.cons (.int .i64) (.cons .str (.cons .bool (.sl (.cons (.int .i64) (.int .i64)))))))) (.cons .bool (.cons (.int .i64) (.cons (.int .i64) (.cons .str (.cons .bool (.sl (.cons (.int .i64) (.int .i64)))))))))))), (36, .one (.int .i64)), (37, .one (.int .i64)), (49, .one (.sl (.cons (.int .i64) (.cons (.int .i64) (.cons .str (.cons .bool (.sl (.cons (.int .i64) (.int .i64))))))))), (50, .one (.int .i64)), (51, .one (.int .i64))], [.box 58 [(.own 2)], .boxr 46 (.cons .str (.cons (.sl (.cons (.int .i64) (.cons (.int .i64) (.cons .str (.cons .bool (.sl (.cons (.int .i64) (.int .i64)))))))) (.cons .bool (.cons (.int .i64) (.cons (.int .i64) (.cons .str (.cons .bool (.sl (.cons (.int .i64) (.int .i64)))))))))), .arr 70 (.cons (.int .i64) (.cons .str (.cons (.int .i64) (.int .i64)))) true]⟩
def decl_Print_D : FD := ⟨T, lookC [(10, fc10), (28, fc28), (29, fc29), (30, fc30), (31, fc31), (32, fc32)], [8, 6], (Tryd.f18.body.getD .skip), Tryd.f18.results.toList, ⟨[.row (.cons .str (.cons (.int .i64) (.cons (.int .i64) (.sl (.cons .str (.cons (.sl (.cons (.int .i64) (.cons (.int .i64) (.cons .str (.cons .bool (.sl (.cons (.int .i64) (.int .i64)))))))) (.cons .bool (.cons (.int .i64) (.cons (.int .i64) (.cons .str (.cons .bool (.sl (.cons (.int .i64) (.int .i64))))))))))))))], []⟩, ⟨[.one .str, .one (.int .i64)], []⟩, [(6, decl_Print_F6), (8, decl_Print_F8), (15, decl_Print_F15), (24, decl_Print_F24)]⟩
def decl_Print_l6 (in_ : ByteArray) (out : ByteArray) (h0 : TDecl) : (Option ((ByteArray × Int × Unit) × Unit)) := decl_Print_D.lab 6 decl_Print_F6 (((), in_, out, ()), (h0, ()))
def decl_Print_l8 (in_ : ByteArray) (out : ByteArray) (h0 : TDecl) : (Option ((ByteArray × Int × Unit) × Unit)) := decl_Print_D.lab 8 decl_Print_F8 (((), in_, out, ()), (h0, ()))
def decl_Print_l15 (t35 : (List TDeclState)) (t36 : Int) (t37 : Int) (l1 : (List TToken)) : (Option ((ByteArray × Int × Unit) × Unit)) := decl_Print_D.lab 15 decl_Print_F15 (((), t35, t36, t37, ()), (((), ()), l1, ()))
def decl_Print_l24 (t35 : (List TDeclState)) (t36 : Int) (t37 : Int) (t49 : (List TRule)) (t50 : Int) (t51 : Int) (h1 : TDeclState) (l2 : (List TToken)) : (Option ((ByteArray × Int × Unit) × Unit)) := decl_Print_D.lab 24 decl_Print_F24 (((), (), t35, t36, t37, t49, t50, t51, ()), (((), ()), h1, l2, ()))
theorem decl_Print_l6_eq (in_ : ByteArray) (out : ByteArray) (h0 : TDecl) : decl_Print_l6 in_ out h0 =
  if (h0.2.2.1 == 5) = true then
    decl_Print_l8 in_ (strB [102, 114, 97, 109, 101]) h0
  else
    decl_Print_l8 in_ out h0 := (FD.lab_eq _ _ _ _).trans (by kernel_rfl)
theorem decl_Print_l8_eq (in_ : ByteArray) (out : ByteArray) (h0 : TDecl) : decl_Print_l8 in_ out h0 =
  (decl_writer_words [(strB [100, 101, 99, 111, 100, 101, 114]), h0.1, (strB [105, 110, 112, 117, 116]), in_, (strB [111, 117, 116, 112, 117, 116]), out] []).bind fun y1 =>
    (decl_writer_marks (strB [123]) y1.2.2.2.1).bind fun y2 =>
      decl_Print_l15 h0.2.2.2 (h0.2.2.2.length : Int) 0 y2.2.2.2.1 := (FD.lab_eq _ _ _ _).trans (by kernel_rfl)
theorem decl_Print_l15_eq (t35 : (List TDeclState)) (t36 : Int) (t37 : Int) (l1 : (List TToken)) : decl_Print_l15 t35 t36 t37 l1 =
  if (decide (t37 < t36)) = true then
    if 0 ≤ t37 ∧ t37 < (t35.length : Int) then
      (decl_writer_words [(strB [115, 116, 97, 116, 101]), (t35.getD t37.toNat dDeclState).1] l1).bind fun y1 =>
        (decl_writer_marks (strB [123]) y1.2.2.2.1).bind fun y2 =>
          decl_Print_l24 t35 t36 t37 (t35.getD t37.toNat dDeclState).2.1 ((t35.getD t37.toNat dDeclState).2.1.length : Int) 0 (t35.getD t37.toNat dDeclState) y2.2.2.2.1
    else
      none
  else
    (decl_writer_marks (strB [125]) l1).bind fun y3 =>
      (lex_Text y3.2.2.2.1).bind fun y4 =>
        some ((y4.1.1, y4.1.2.1, ()), ()) := (FD.lab_eq _ _ _ _).trans (by kernel_rfl)
theorem decl_Print_l24_eq (t35 : (List TDeclState)) (t36 : Int) (t37 : Int) (t49 : (List TRule)) (t50 : Int) (t51 : Int) (h1 : TDeclState) (l2 : (List TToken)) : decl_Print_l24 t35 t36 t37 t49 t50 t51 h1 l2 =
  if (decide (t51 < t50)) = true then
    if 0 ≤ t51 ∧ t51 < (t49.length : Int) then
      (decl_writer_number (t49.getD t51.toNat dRule).1 l2).bind fun y1 =>
        if ((t49.getD t51.toNat dRule).2.1 != (t49.getD t51.toNat dRule).1) = true then
          (decl_writer_marks (strB [46, 46]) y1.2.2.2.1).bind fun y2 =>
            (decl_writer_number (t49.getD t51.toNat dRule).2.1 y2.2.2.2.1).bind fun y3 =>
              (decl_writer_target (t49.getD t51.toNat dRule) y3.2.2.2.1).bind fun y4 =>
                decl_Print_l24 t35 t36 t37 t49 t50 (IntKind.i64.wrap (t51 + 1)) h1 y4.2.2.2.1
        else
          (decl_writer_target (t49.getD t51.toNat dRule) y1.2.2.2.1).bind fun y5 =>
            decl_Print_l24 t35 t36 t37 t49 t50 (IntKind.i64.wrap (t51 + 1)) h1 y5.2.2.2.1
    else
      none
  else
    if h1.2.2.1 = true then
      (decl_writer_marks (strB [42]) l2).bind fun y6 =>
        (decl_writer_target h1.2.2.2 y6.2.2.2.1).bind fun y7 =>
          (decl_writer_marks (strB [125]) y7.2.2.2.1).bind fun y8 =>
            decl_Print_l15 t35 t36 (IntKind.i64.wrap (t37 + 1)) y8.2.2.2.1
    else
      (decl_writer_marks (strB [125]) l2).bind fun y9 =>
        decl_Print_l15 t35 t36 (IntKind.i64.wrap (t37 + 1)) y9.2.2.2.1 := (FD.lab_eq _ _ _ _).trans (by kernel_rfl)
def decl_Print (d : TDecl) : (Option ((ByteArray × Int × Unit) × Unit)) :=
  (decl_Check d).bind fun y1 =>
    if (y1.1.1 != 0) = true then
      some (((strB []), y1.1.1, ()), ())
    else
      if (d.2.1 == 2) = true then
        decl_Print_l6 (strB [98, 105, 116]) (strB [112, 97, 99, 107, 101, 116]) d
      else
        decl_Print_l6 (strB [98, 121, 116, 101]) (strB [112, 97, 99, 107, 101, 116]) d
def fc18 : FC := ⟨⟨[.row (.cons .str (.cons (.int .i64) (.cons (.int .i64) (.sl (.cons .str (.cons (.sl (.cons (.int .i64) (.cons (.int .i64) (.cons .str (.cons .bool (.sl (.cons (.int .i64) (.int .i64)))))))) (.cons .bool (.cons (.int .i64) (.cons (.int .i64) (.cons .str (.cons .bool (.sl (.cons (.int .i64) (.int .i64))))))))))))))], []⟩, ⟨[.one .str, .one (.int .i64)], []⟩, fun x => decl_Print x.1.1⟩
theorem con18 : Contract Tryd.prog 18 fc18 :=
  decl_Print_D.contract tok (cok_of (l := [(10, fc10), (28, fc28), (29, fc29), (30, fc30), (31, fc31), (32, fc32)]) ⟨con10, con28, con29, con30, con31, con32, trivial⟩) mixed (fn' := Tryd.f18) (by kernel_rfl) (by kernel_rfl) rfl (by kernel_rfl) (fun x => (FD.fn_eq _ _).trans (by kernel_rfl))
end
end Go.Proofs.YtjgjbdnjjepibaaDoor
end

section
/-
YtjgjbdnjjepibaaDoor: signalbench.lex.words, as one plain function, its equations, its contract. No condition.
-/
set_option maxRecDepth 100000
set_option linter.unusedVariables false
set_option maxHeartbeats 4000000
open Go Go.AM
namespace Go.Proofs.YtjgjbdnjjepibaaDoor
noncomputable section
def lex_words_F3 : FSh := ⟨[(0, .one .str), (3, .one (.int .i64))], []⟩
def lex_words_D : FD := ⟨T, lookC [(73, fc73)], [], (Tryd.f67.body.getD .skip), Tryd.f67.results.toList, ⟨[.one .str], []⟩, ⟨[.one (.int .i64)], []⟩, [(3, lex_words_F3)]⟩
def lex_words_l3 (s : ByteArray) (n : Int) : (Option ((Int × Unit) × Unit)) := lex_words_D.lab 3 lex_words_F3 ((s, n, ()), ())
theorem lex_words_l3_eq (s : ByteArray) (n : Int) : lex_words_l3 s n =
  if (decide (n < (s.size : Int))) = true then
    if 0 ≤ n ∧ n < (s.size : Int) then
      (lex_word (IntKind.i32.wrap (bt s n))).bind fun y1 =>
        if y1.1.1 = true then
          lex_words_l3 s (IntKind.i64.wrap (n + 1))
        else
          some ((n, ()), ())
    else
      none
  else
    some ((n, ()), ()) := (FD.lab_eq _ _ _ _).trans (by kernel_rfl)
def lex_words (s : ByteArray) : (Option ((Int × Unit) × Unit)) :=
  lex_words_l3 s 0
def fc67 : FC := ⟨⟨[.one .str], []⟩, ⟨[.one (.int .i64)], []⟩, fun x => lex_words x.1.1⟩
theorem con67 : Contract Tryd.prog 67 fc67 :=
  lex_words_D.contract tok (cok_of (l := [(73, fc73)]) ⟨con73, trivial⟩) mixed (fn' := Tryd.f67) (by kernel_rfl) (by kernel_rfl) rfl (by kernel_rfl) (fun x => (FD.fn_eq _ _).trans (by kernel_rfl))
end
end Go.Proofs.YtjgjbdnjjepibaaDoor
end

section
/-
YtjgjbdnjjepibaaDoor: signalbench.lex.quoted, as one plain function, its equations, its contract. No condition.
-/
set_option maxRecDepth 100000
set_option linter.unusedVariables false
set_option maxHeartbeats 4000000
open Go Go.AM
namespace Go.Proofs.YtjgjbdnjjepibaaDoor
noncomputable section
def lex_quoted_F3 : FSh := ⟨[(0, .one .str), (3, .one (.int .i64))], []⟩
def lex_quoted_D : FD := ⟨T, lookC [], [], (Tryd.f69.body.getD .skip), Tryd.f69.results.toList, ⟨[.one .str], []⟩, ⟨[.one (.int .i64)], []⟩, [(3, lex_quoted_F3)]⟩
def lex_quoted_l3 (s : ByteArray) (i : Int) : (Option ((Int × Unit) × Unit)) := lex_quoted_D.lab 3 lex_quoted_F3 ((s, i, ()), ())
theorem lex_quoted_l3_eq (s : ByteArray) (i : Int) : lex_quoted_l3 s i =
  if (decide (i < (s.size : Int))) = true then
    if 0 ≤ i ∧ i < (s.size : Int) then
      if ((bt s i) == 34) = true then
        some ((IntKind.i64.wrap (i + 1), ()), ())
      else
        if ((bt s i) == 92) = true then
          lex_quoted_l3 s (IntKind.i64.wrap ((IntKind.i64.wrap (i + 1)) + 1))
        else
          lex_quoted_l3 s (IntKind.i64.wrap (i + 1))
    else
      none
  else
    some ((0, ()), ()) := (FD.lab_eq _ _ _ _).trans (by kernel_rfl)
def lex_quoted (s : ByteArray) : (Option ((Int × Unit) × Unit)) :=
  lex_quoted_l3 s 1
def fc69 : FC := ⟨⟨[.one .str], []⟩, ⟨[.one (.int .i64)], []⟩, fun x => lex_quoted x.1.1⟩
theorem con69 : Contract Tryd.prog 69 fc69 :=
  lex_quoted_D.contract tok (cok_of (l := []) trivial) mixed (fn' := Tryd.f69) (by kernel_rfl) (by kernel_rfl) rfl (by kernel_rfl) (fun x => (FD.fn_eq _ _).trans (by kernel_rfl))
end
end Go.Proofs.YtjgjbdnjjepibaaDoor
end

section
/-
YtjgjbdnjjepibaaDoor: signalbench.lex.escape, as one plain function, its equations, its contract. No condition.
-/
set_option maxRecDepth 100000
set_option linter.unusedVariables false
set_option maxHeartbeats 4000000
open Go Go.AM
namespace Go.Proofs.YtjgjbdnjjepibaaDoor
noncomputable section
def lex_escape_F6 : FSh := ⟨[(0, .one .str), (8, .one (.int .u8)), (9, .one .bool)], []⟩
def lex_escape_D : FD := ⟨T, lookC [(75, fc75)], [6], (Tryd.f79.body.getD .skip), Tryd.f79.results.toList, ⟨[.one .str], []⟩, ⟨[.one (.int .u8), .one (.int .i64)], []⟩, [(6, lex_escape_F6)]⟩
def lex_escape_l6 (s : ByteArray) (t8 : Int) (t9 : Bool) : (Option ((Int × Int × Unit) × Unit)) := lex_escape_D.lab 6 lex_escape_F6 ((s, t8, t9, ()), ())
theorem lex_escape_l6_eq (s : ByteArray) (t8 : Int) (t9 : Bool) : lex_escape_l6 s t8 t9 =
  if t9 = true then
    if 0 ≤ (1 : Int) ∧ 1 < (s.size : Int) then
      some ((bt s 1, 2, ()), ())
    else
      none
  else
    if (t8 == 110) = true then
      some ((10, 2, ()), ())
    else
      if (t8 == 120) = true then
        if (decide ((s.size : Int) < 4)) = true then
          some ((0, 0, ()), ())
        else
          if 0 ≤ (2 : Int) ∧ 2 < (s.size : Int) then
            (lex_hex (bt s 2)).bind fun y1 =>
              if (decide (y1.1.1 < 0)) = true then
                some ((0, 0, ()), ())
              else
                if 0 ≤ (3 : Int) ∧ 3 < (s.size : Int) then
                  (lex_hex (bt s 3)).bind fun y2 =>
                    if (decide (y2.1.1 < 0)) = true then
                      some ((0, 0, ()), ())
                    else
                      if 0 ≤ (2 : Int) ∧ 2 < (s.size : Int) then
                        (lex_hex (bt s 2)).bind fun y3 =>
                          if 0 ≤ (3 : Int) ∧ 3 < (s.size : Int) then
                            (lex_hex (bt s 3)).bind fun y4 =>
                              some ((IntKind.u8.wrap (IntKind.i64.wrap ((IntKind.i64.wrap (16 * y3.1.1)) + y4.1.1)), 4, ()), ())
                          else
                            none
                      else
                        none
                else
                  none
          else
            none
      else
        some ((0, 0, ()), ()) := (FD.lab_eq _ _ _ _).trans (by kernel_rfl)
def lex_escape (s : ByteArray) : (Option ((Int × Int × Unit) × Unit)) :=
  if (decide ((s.size : Int) < 2)) = true then
    some ((0, 0, ()), ())
  else
    if 0 ≤ (1 : Int) ∧ 1 < (s.size : Int) then
      if ((bt s 1) == 34) = true then
        lex_escape_l6 s (bt s 1) true
      else
        lex_escape_l6 s (bt s 1) ((bt s 1) == 92)
    else
      none
def fc79 : FC := ⟨⟨[.one .str], []⟩, ⟨[.one (.int .u8), .one (.int .i64)], []⟩, fun x => lex_escape x.1.1⟩
theorem con79 : Contract Tryd.prog 79 fc79 :=
  lex_escape_D.contract tok (cok_of (l := [(75, fc75)]) ⟨con75, trivial⟩) mixed (fn' := Tryd.f79) (by kernel_rfl) (by kernel_rfl) rfl (by kernel_rfl) (fun x => (FD.fn_eq _ _).trans (by kernel_rfl))
end
end Go.Proofs.YtjgjbdnjjepibaaDoor
end

section
/-
YtjgjbdnjjepibaaDoor: signalbench.lex.Unquote, as one plain function, its equations, its contract. No condition.
-/
set_option maxRecDepth 100000
set_option linter.unusedVariables false
set_option maxHeartbeats 4000000
open Go Go.AM
namespace Go.Proofs.YtjgjbdnjjepibaaDoor
noncomputable section
def lex_Unquote_F7 : FSh := ⟨[(0, .one .str), (4, .one (.own 0))], [.arr 5 (.int .u8) true]⟩
def lex_Unquote_F14 : FSh := ⟨[(0, .one .str), (4, .one (.own 0)), (5, .one (.int .u8)), (6, .one (.int .i64))], [.arr 5 (.int .u8) true]⟩
def lex_Unquote_D : FD := ⟨T, lookC [(76, fc76), (79, fc79)], [14], (Tryd.f70.body.getD .skip), Tryd.f70.results.toList, ⟨[.one .str], []⟩, ⟨[.one .str, .one (.int .i64)], []⟩, [(7, lex_Unquote_F7), (14, lex_Unquote_F14)]⟩
def lex_Unquote_l7 (s : ByteArray) (l0 : (List Int)) : (Option ((ByteArray × Int × Unit) × Unit)) := lex_Unquote_D.lab 7 lex_Unquote_F7 ((s, (), ()), (l0, ()))
def lex_Unquote_l14 (s : ByteArray) (c : Int) (n : Int) (l0 : (List Int)) : (Option ((ByteArray × Int × Unit) × Unit)) := lex_Unquote_D.lab 14 lex_Unquote_F14 ((s, (), c, n, ()), (l0, ()))
theorem lex_Unquote_l7_eq (s : ByteArray) (l0 : (List Int)) : lex_Unquote_l7 s l0 =
  if (!(s.toList == (strB []).toList)) = true then
    if 0 ≤ (0 : Int) ∧ 0 < (s.size : Int) then
      (lex_plain (IntKind.i32.wrap (bt s 0))).bind fun y1 =>
        if y1.1.1 = true then
          if 0 ≤ (0 : Int) ∧ 0 < (s.size : Int) then
            if (l0.length + 1) * 1 ≤ 140737488355328 ∧ 0 < 1 then
              if 0 ≤ (1 : Int) ∧ 1 ≤ (s.size : Int) then
                lex_Unquote_l7 (s.extract 1 s.size) (l0 ++ [bt s 0])
              else
                none
            else
              none
          else
            none
        else
          if 0 ≤ (0 : Int) ∧ 0 < (s.size : Int) then
            if ((bt s 0) == 92) = true then
              (lex_escape s).bind fun y2 =>
                lex_Unquote_l14 s y2.1.1 y2.1.2.1 l0
            else
              lex_Unquote_l14 s 0 0 l0
          else
            none
    else
      none
  else
    some ((strOfBytes l0, 0, ()), ()) := (FD.lab_eq _ _ _ _).trans (by kernel_rfl)
theorem lex_Unquote_l14_eq (s : ByteArray) (c : Int) (n : Int) (l0 : (List Int)) : lex_Unquote_l14 s c n l0 =
  if (n == 0) = true then
    some (((strB []), 4, ()), ())
  else
    if (l0.length + 1) * 1 ≤ 140737488355328 ∧ 0 < 1 then
      if 0 ≤ n ∧ n ≤ (s.size : Int) then
        lex_Unquote_l7 (s.extract n.toNat s.size) (l0 ++ [c])
      else
        none
    else
      none := (FD.lab_eq _ _ _ _).trans (by kernel_rfl)
def lex_Unquote (s : ByteArray) : (Option ((ByteArray × Int × Unit) × Unit)) :=
  if (decide ((s.size : Int) < 2)) = true then
    some (((strB []), 4, ()), ())
  else
    if 0 ≤ (0 : Int) ∧ 0 < (s.size : Int) then
      if ((bt s 0) != 34) = true then
        some (((strB []), 4, ()), ())
      else
        if 0 ≤ IntKind.i64.wrap ((s.size : Int) - 1) ∧ IntKind.i64.wrap ((s.size : Int) - 1) < (s.size : Int) then
          if ((bt s (IntKind.i64.wrap ((s.size : Int) - 1))) != 34) = true then
            some (((strB []), 4, ()), ())
          else
            if 0 ≤ (1 : Int) ∧ (1 : Int) ≤ IntKind.i64.wrap ((s.size : Int) - 1) ∧ IntKind.i64.wrap ((s.size : Int) - 1) ≤ (s.size : Int) then
              lex_Unquote_l7 (s.extract 1 (IntKind.i64.wrap ((s.size : Int) - 1)).toNat) []
            else
              none
        else
          none
    else
      none
def fc70 : FC := ⟨⟨[.one .str], []⟩, ⟨[.one .str, .one (.int .i64)], []⟩, fun x => lex_Unquote x.1.1⟩
theorem con70 : Contract Tryd.prog 70 fc70 :=
  lex_Unquote_D.contract tok (cok_of (l := [(76, fc76), (79, fc79)]) ⟨con76, con79, trivial⟩) mixed (fn' := Tryd.f70) (by kernel_rfl) (by kernel_rfl) rfl (by kernel_rfl) (fun x => (FD.fn_eq _ _).trans (by kernel_rfl))
end
end Go.Proofs.YtjgjbdnjjepibaaDoor
end

section
/-
YtjgjbdnjjepibaaDoor: signalbench.lex.take, as one plain function, its equations, its contract. No condition.
-/
set_option maxRecDepth 100000
set_option linter.unusedVariables false
set_option maxHeartbeats 4000000
open Go Go.AM
namespace Go.Proofs.YtjgjbdnjjepibaaDoor
noncomputable section
def lex_take_D : FD := ⟨T, lookC [(60, fc60), (61, fc61), (63, fc63), (66, fc66), (67, fc67), (68, fc68), (69, fc69), (70, fc70)], [], (Tryd.f53.body.getD .skip), Tryd.f53.results.toList, ⟨[.one .str], []⟩, ⟨[.row (.cons (.int .i64) (.cons .str (.cons (.int .i64) (.int .i64)))), .one (.int .i64), .one (.int .i64)], []⟩, []⟩
def lex_take (s : ByteArray) : (Option ((TToken × Int × Int × Unit) × Unit)) :=
  if 0 ≤ (0 : Int) ∧ 0 < (s.size : Int) then
    (lex_letter (IntKind.i32.wrap (bt s 0))).bind fun y1 =>
      if y1.1.1 = true then
        (lex_words s).bind fun y2 =>
          if 0 ≤ (0 : Int) ∧ (0 : Int) ≤ y2.1.1 ∧ y2.1.1 ≤ (s.size : Int) then
            (lex_Name (s.extract 0 y2.1.1.toNat)).bind fun y3 =>
              if (!y3.1.1) = true then
                some (((0, (strB []), 0, 0), 0, 4, ()), ())
              else
                if 0 ≤ (0 : Int) ∧ (0 : Int) ≤ y2.1.1 ∧ y2.1.1 ≤ (s.size : Int) then
                  some (((1, s.extract 0 y2.1.1.toNat, 0, 0), y2.1.1, 0, ()), ())
                else
                  none
          else
            none
      else
        (lex_digit (IntKind.i32.wrap (bt s 0))).bind fun y4 =>
          if y4.1.1 = true then
            if 0 ≤ (1 : Int) ∧ 1 ≤ (s.size : Int) then
              (lex_words (s.extract 1 s.size)).bind fun y5 =>
                if 0 ≤ (0 : Int) ∧ (0 : Int) ≤ IntKind.i64.wrap (1 + y5.1.1) ∧ IntKind.i64.wrap (1 + y5.1.1) ≤ (s.size : Int) then
                  (lex_Number (s.extract 0 (IntKind.i64.wrap (1 + y5.1.1)).toNat)).bind fun y6 =>
                    if 0 ≤ (0 : Int) ∧ (0 : Int) ≤ IntKind.i64.wrap (1 + y5.1.1) ∧ IntKind.i64.wrap (1 + y5.1.1) ≤ (s.size : Int) then
                      some (((2, s.extract 0 (IntKind.i64.wrap (1 + y5.1.1)).toNat, y6.1.1, 0), IntKind.i64.wrap (1 + y5.1.1), y6.1.2.1, ()), ())
                    else
                      none
                else
                  none
            else
              none
          else
            if ((IntKind.i32.wrap (bt s 0)) == 45) = true then
              if 0 ≤ (1 : Int) ∧ 1 ≤ (s.size : Int) then
                (lex_words (s.extract 1 s.size)).bind fun y7 =>
                  if 0 ≤ (0 : Int) ∧ (0 : Int) ≤ IntKind.i64.wrap (1 + y7.1.1) ∧ IntKind.i64.wrap (1 + y7.1.1) ≤ (s.size : Int) then
                    (lex_Number (s.extract 0 (IntKind.i64.wrap (1 + y7.1.1)).toNat)).bind fun y8 =>
                      if 0 ≤ (0 : Int) ∧ (0 : Int) ≤ IntKind.i64.wrap (1 + y7.1.1) ∧ IntKind.i64.wrap (1 + y7.1.1) ≤ (s.size : Int) then
                        some (((2, s.extract 0 (IntKind.i64.wrap (1 + y7.1.1)).toNat, y8.1.1, 0), IntKind.i64.wrap (1 + y7.1.1), y8.1.2.1, ()), ())
                      else
                        none
                  else
                    none
              else
                none
            else
              if ((IntKind.i32.wrap (bt s 0)) == 34) = true then
                (lex_quoted s).bind fun y9 =>
                  if 0 ≤ (0 : Int) ∧ (0 : Int) ≤ y9.1.1 ∧ y9.1.1 ≤ (s.size : Int) then
                    (lex_Unquote (s.extract 0 y9.1.1.toNat)).bind fun y10 =>
                      some (((3, y10.1.1, 0, 0), y9.1.1, y10.1.2.1, ()), ())
                  else
                    none
              else
                (lex_mark (IntKind.i32.wrap (bt s 0))).bind fun y11 =>
                  if y11.1.1 = true then
                    if 0 ≤ (0 : Int) ∧ (0 : Int) ≤ 1 ∧ 1 ≤ (s.size : Int) then
                      some (((4, s.extract 0 1, 0, 0), 1, 0, ()), ())
                    else
                      none
                  else
                    some (((0, (strB []), 0, 0), 0, 4, ()), ())
  else
    none
def fc53 : FC := ⟨⟨[.one .str], []⟩, ⟨[.row (.cons (.int .i64) (.cons .str (.cons (.int .i64) (.int .i64)))), .one (.int .i64), .one (.int .i64)], []⟩, fun x => lex_take x.1.1⟩
theorem con53 : Contract Tryd.prog 53 fc53 :=
  lex_take_D.contract tok (cok_of (l := [(60, fc60), (61, fc61), (63, fc63), (66, fc66), (67, fc67), (68, fc68), (69, fc69), (70, fc70)]) ⟨con60, con61, con63, con66, con67, con68, con69, con70, trivial⟩) mixed (fn' := Tryd.f53) (by kernel_rfl) (by kernel_rfl) rfl (by kernel_rfl) (fun x => (FD.fn_eq _ _).trans (by kernel_rfl))
end
end Go.Proofs.YtjgjbdnjjepibaaDoor
end

section
/-
YtjgjbdnjjepibaaDoor: strings.IndexByte, by the shelf. No condition.
-/
open Go Go.AM
variable [Inhabited ZMem]
namespace Go.Proofs.YtjgjbdnjjepibaaDoor
noncomputable section
def strings_IndexByte (s : ByteArray) (c : Int) : Option ((Int × Unit) × Unit) := some ((Lib.indexByte s.data.toList c.toNat.toUInt8, ()), ())
def fc52 : FC := ⟨⟨[.one .str, .one (.int .u8)], []⟩, ⟨[.one (.int .i64)], []⟩, fun x => strings_IndexByte x.1.1 x.1.2.1⟩
theorem con52 : Contract Tryd.prog 52 fc52 :=
  Contract.still (P := Tryd.prog) (f := 52) (sa := [.one .str, .one (.int .u8)]) (sr := [.one (.int .i64)]) (fn := Tryd.f52) (c := Tryd.f52.body.getD .skip) (by kernel_rfl) (by kernel_rfl) (by kernel_rfl) (g := fun x => some (Lib.indexByte x.1.data.toList x.2.1.toNat.toUInt8, ())) (fun w M G x y vals hI hv hg => by
    obtain ⟨s, c, u⟩ := x
    obtain ⟨vs⟩ := vals
    match vs, hv with
    | [v1, v2], hv =>
      obtain ⟨⟨rfl, _⟩, ⟨rfl, _⟩, _⟩ := hv
      cases hg
      refine (Tryd.strings_IndexByte s c w).mono ?_
      rintro e w' ⟨rfl, rfl⟩
      exact ⟨_, rfl, rfl, rfl, rfl⟩)
end
end Go.Proofs.YtjgjbdnjjepibaaDoor
end

section
/-
YtjgjbdnjjepibaaDoor: signalbench.lex.Tokens, as one plain function, its equations, its contract. No condition.
-/
set_option maxRecDepth 100000
set_option linter.unusedVariables false
set_option maxHeartbeats 4000000
open Go Go.AM
namespace Go.Proofs.YtjgjbdnjjepibaaDoor
noncomputable section
def lex_Tokens_F7 : FSh := ⟨[(0, .one .str), (5, .one (.own 0)), (6, .one (.int .i64))], [.arr 70 (.cons (.int .i64) (.cons .str (.cons (.int .i64) (.int .i64)))) true]⟩
def lex_Tokens_F15 : FSh := ⟨[(0, .one .str), (5, .one (.own 0)), (6, .one (.int .i64)), (17, .one (.int .u8)), (24, .one .bool)], [.arr 70 (.cons (.int .i64) (.cons .str (.cons (.int .i64) (.int .i64)))) true]⟩
def lex_Tokens_D : FD := ⟨T, lookC [(52, fc52), (53, fc53)], [15], (Tryd.f33.body.getD .skip), Tryd.f33.results.toList, ⟨[.one .str], []⟩, ⟨[.one (.sl (.cons (.int .i64) (.cons .str (.cons (.int .i64) (.int .i64))))), .one (.int .i64), .one (.int .i64)], []⟩, [(7, lex_Tokens_F7), (15, lex_Tokens_F15)]⟩
def lex_Tokens_l7 (s : ByteArray) (line : Int) (l0 : (List TToken)) : (Option (((List TToken) × Int × Int × Unit) × Unit)) := lex_Tokens_D.lab 7 lex_Tokens_F7 ((s, (), line, ()), (l0, ()))
def lex_Tokens_l15 (s : ByteArray) (line : Int) (t17 : Int) (t24 : Bool) (l0 : (List TToken)) : (Option (((List TToken) × Int × Int × Unit) × Unit)) := lex_Tokens_D.lab 15 lex_Tokens_F15 ((s, (), line, t17, t24, ()), (l0, ()))
theorem lex_Tokens_l7_eq (s : ByteArray) (line : Int) (l0 : (List TToken)) : lex_Tokens_l7 s line l0 =
  if (!(s.toList == (strB []).toList)) = true then
    if 0 ≤ (0 : Int) ∧ 0 < (s.size : Int) then
      if ((bt s 0) == 10) = true then
        if 0 ≤ (1 : Int) ∧ 1 ≤ (s.size : Int) then
          lex_Tokens_l7 (s.extract 1 s.size) (IntKind.i64.wrap (line + 1)) l0
        else
          none
      else
        if ((bt s 0) == 32) = true then
          lex_Tokens_l15 s line (bt s 0) true l0
        else
          lex_Tokens_l15 s line (bt s 0) ((bt s 0) == 9) l0
    else
      none
  else
    some ((l0, 0, 0, ()), ()) := (FD.lab_eq _ _ _ _).trans (by kernel_rfl)
theorem lex_Tokens_l15_eq (s : ByteArray) (line : Int) (t17 : Int) (t24 : Bool) (l0 : (List TToken)) : lex_Tokens_l15 s line t17 t24 l0 =
  if t24 = true then
    if 0 ≤ (1 : Int) ∧ 1 ≤ (s.size : Int) then
      lex_Tokens_l7 (s.extract 1 s.size) line l0
    else
      none
  else
    if (t17 == 35) = true then
      (strings_IndexByte s 10).bind fun y1 =>
        if (decide (y1.1.1 < 0)) = true then
          if 0 ≤ (s.size : Int) ∧ (s.size : Int) ≤ (s.size : Int) then
            lex_Tokens_l7 (s.extract (s.size : Int).toNat s.size) line l0
          else
            none
        else
          if 0 ≤ y1.1.1 ∧ y1.1.1 ≤ (s.size : Int) then
            lex_Tokens_l7 (s.extract y1.1.1.toNat s.size) line l0
          else
            none
    else
      (lex_take s).bind fun y2 =>
        if (y2.1.2.2.1 != 0) = true then
          some (([], line, y2.1.2.2.1, ()), ())
        else
          if (l0.length + 1) * 40 ≤ 140737488355328 ∧ 0 < 40 then
            if 0 ≤ y2.1.2.1 ∧ y2.1.2.1 ≤ (s.size : Int) then
              lex_Tokens_l7 (s.extract y2.1.2.1.toNat s.size) line (l0 ++ [(y2.1.1.1, y2.1.1.2.1, y2.1.1.2.2.1, line)])
            else
              none
          else
            none := (FD.lab_eq _ _ _ _).trans (by kernel_rfl)
def lex_Tokens (s : ByteArray) : (Option (((List TToken) × Int × Int × Unit) × Unit)) :=
  if (decide ((s.size : Int) > 1048576)) = true then
    some (([], 0, 6, ()), ())
  else
    lex_Tokens_l7 s 1 []
def fc33 : FC := ⟨⟨[.one .str], []⟩, ⟨[.one (.sl (.cons (.int .i64) (.cons .str (.cons (.int .i64) (.int .i64))))), .one (.int .i64), .one (.int .i64)], []⟩, fun x => lex_Tokens x.1.1⟩
theorem con33 : Contract Tryd.prog 33 fc33 :=
  lex_Tokens_D.contract tok (cok_of (l := [(52, fc52), (53, fc53)]) ⟨con52, con53, trivial⟩) mixed (fn' := Tryd.f33) (by kernel_rfl) (by kernel_rfl) rfl (by kernel_rfl) (fun x => (FD.fn_eq _ _).trans (by kernel_rfl))
end
end Go.Proofs.YtjgjbdnjjepibaaDoor
end

section
/-
YtjgjbdnjjepibaaDoor: (*signalbench.decl.reader).is, as one plain function, its equations, its contract. No condition.
-/
set_option maxRecDepth 100000
set_option linter.unusedVariables false
set_option maxHeartbeats 4000000
open Go Go.AM
namespace Go.Proofs.YtjgjbdnjjepibaaDoor
noncomputable section
def decl_reader_is_D : FD := ⟨T, lookC [], [], (Tryd.f54.body.getD .skip), Tryd.f54.results.toList, ⟨[.one (.ptr 0 0), .one (.int .i64), .one .str], [.boxr 68 (.cons (.sl (.cons (.int .i64) (.cons .str (.cons (.int .i64) (.int .i64))))) (.cons (.int .i64) (.int .i64)))]⟩, ⟨[.one .bool], [.boxr 68 (.cons (.sl (.cons (.int .i64) (.cons .str (.cons (.int .i64) (.int .i64))))) (.cons (.int .i64) (.int .i64)))]⟩, []⟩
def decl_reader_is (kind : Int) (text : ByteArray) (h0 : Treader) : (Option ((Bool × Unit) × (Treader × Unit))) :=
  if (decide (h0.2.2 > 0)) = true then
    some ((false, ()), (h0, ()))
  else
    if (decide (h0.2.1 ≥ (h0.1.length : Int))) = true then
      some ((false, ()), (h0, ()))
    else
      if 0 ≤ h0.2.1 ∧ h0.2.1 < (h0.1.length : Int) then
        if ((h0.1.getD h0.2.1.toNat dToken).1 == kind) = true then
          if (text.toList == (strB []).toList) = true then
            some ((true, ()), (h0, ()))
          else
            some (((h0.1.getD h0.2.1.toNat dToken).2.1.toList == text.toList, ()), (h0, ()))
        else
          some ((false, ()), (h0, ()))
      else
        none
def fc54 : FC := ⟨⟨[.one (.ptr 0 0), .one (.int .i64), .one .str], [.boxr 68 (.cons (.sl (.cons (.int .i64) (.cons .str (.cons (.int .i64) (.int .i64))))) (.cons (.int .i64) (.int .i64)))]⟩, ⟨[.one .bool], [.boxr 68 (.cons (.sl (.cons (.int .i64) (.cons .str (.cons (.int .i64) (.int .i64))))) (.cons (.int .i64) (.int .i64)))]⟩, fun x => decl_reader_is x.1.2.1 x.1.2.2.1 x.2.1⟩
theorem con54 : Contract Tryd.prog 54 fc54 :=
  decl_reader_is_D.contract tok (cok_of (l := []) trivial) mixed (fn' := Tryd.f54) (by kernel_rfl) (by kernel_rfl) rfl (by kernel_rfl) (fun x => (FD.fn_eq _ _).trans (by kernel_rfl))
end
end Go.Proofs.YtjgjbdnjjepibaaDoor
end

section
/-
YtjgjbdnjjepibaaDoor: (*signalbench.decl.reader).take, as one plain function, its equations, its contract. No condition.
-/
set_option maxRecDepth 100000
set_option linter.unusedVariables false
set_option maxHeartbeats 4000000
open Go Go.AM
namespace Go.Proofs.YtjgjbdnjjepibaaDoor
noncomputable section
def decl_reader_take_D : FD := ⟨T, lookC [(54, fc54)], [], (Tryd.f36.body.getD .skip), Tryd.f36.results.toList, ⟨[.one (.ptr 0 0), .one (.int .i64), .one .str], [.boxr 68 (.cons (.sl (.cons (.int .i64) (.cons .str (.cons (.int .i64) (.int .i64))))) (.cons (.int .i64) (.int .i64)))]⟩, ⟨[.row (.cons (.int .i64) (.cons .str (.cons (.int .i64) (.int .i64)))), .one .bool], [.boxr 68 (.cons (.sl (.cons (.int .i64) (.cons .str (.cons (.int .i64) (.int .i64))))) (.cons (.int .i64) (.int .i64)))]⟩, []⟩
def decl_reader_take (kind : Int) (text : ByteArray) (h0 : Treader) : (Option ((TToken × Bool × Unit) × (Treader × Unit))) :=
  (decl_reader_is kind text h0).bind fun y1 =>
    if (!y1.1.1) = true then
      some (((0, (strB []), 0, 0), false, ()), (y1.2.1, ()))
    else
      if 0 ≤ IntKind.i64.wrap ((IntKind.i64.wrap (y1.2.1.2.1 + 1)) - 1) ∧ IntKind.i64.wrap ((IntKind.i64.wrap (y1.2.1.2.1 + 1)) - 1) < (y1.2.1.1.length : Int) then
        some (((y1.2.1.1.getD (IntKind.i64.wrap ((IntKind.i64.wrap (y1.2.1.2.1 + 1)) - 1)).toNat dToken), true, ()), ((y1.2.1.1, IntKind.i64.wrap (y1.2.1.2.1 + 1), y1.2.1.2.2), ()))
      else
        none
def fc36 : FC := ⟨⟨[.one (.ptr 0 0), .one (.int .i64), .one .str], [.boxr 68 (.cons (.sl (.cons (.int .i64) (.cons .str (.cons (.int .i64) (.int .i64))))) (.cons (.int .i64) (.int .i64)))]⟩, ⟨[.row (.cons (.int .i64) (.cons .str (.cons (.int .i64) (.int .i64)))), .one .bool], [.boxr 68 (.cons (.sl (.cons (.int .i64) (.cons .str (.cons (.int .i64) (.int .i64))))) (.cons (.int .i64) (.int .i64)))]⟩, fun x => decl_reader_take x.1.2.1 x.1.2.2.1 x.2.1⟩
theorem con36 : Contract Tryd.prog 36 fc36 :=
  decl_reader_take_D.contract tok (cok_of (l := [(54, fc54)]) ⟨con54, trivial⟩) mixed (fn' := Tryd.f36) (by kernel_rfl) (by kernel_rfl) rfl (by kernel_rfl) (fun x => (FD.fn_eq _ _).trans (by kernel_rfl))
end
end Go.Proofs.YtjgjbdnjjepibaaDoor
end

section
/-
YtjgjbdnjjepibaaDoor: (*signalbench.decl.reader).fail, as one plain function, its equations, its contract. No condition.
-/
set_option maxRecDepth 100000
set_option linter.unusedVariables false
set_option maxHeartbeats 4000000
open Go Go.AM
namespace Go.Proofs.YtjgjbdnjjepibaaDoor
noncomputable section
def decl_reader_fail_D : FD := ⟨T, lookC [], [], (Tryd.f38.body.getD .skip), Tryd.f38.results.toList, ⟨[.one (.ptr 0 0)], [.boxr 68 (.cons (.sl (.cons (.int .i64) (.cons .str (.cons (.int .i64) (.int .i64))))) (.cons (.int .i64) (.int .i64)))]⟩, ⟨[], [.boxr 68 (.cons (.sl (.cons (.int .i64) (.cons .str (.cons (.int .i64) (.int .i64))))) (.cons (.int .i64) (.int .i64)))]⟩, []⟩
def decl_reader_fail (h0 : Treader) : (Option (Unit × (Treader × Unit))) :=
  if (decide (h0.2.2 > 0)) = true then
    some ((), (h0, ()))
  else
    if (decide (h0.2.1 < (h0.1.length : Int))) = true then
      if 0 ≤ h0.2.1 ∧ h0.2.1 < (h0.1.length : Int) then
        some ((), ((h0.1, h0.2.1, (h0.1.getD h0.2.1.toNat dToken).2.2.2), ()))
      else
        none
    else
      if (decide ((h0.1.length : Int) > 0)) = true then
        if 0 ≤ IntKind.i64.wrap ((h0.1.length : Int) - 1) ∧ IntKind.i64.wrap ((h0.1.length : Int) - 1) < (h0.1.length : Int) then
          some ((), ((h0.1, h0.2.1, (h0.1.getD (IntKind.i64.wrap ((h0.1.length : Int) - 1)).toNat dToken).2.2.2), ()))
        else
          none
      else
        some ((), ((h0.1, h0.2.1, 1), ()))
def fc38 : FC := ⟨⟨[.one (.ptr 0 0)], [.boxr 68 (.cons (.sl (.cons (.int .i64) (.cons .str (.cons (.int .i64) (.int .i64))))) (.cons (.int .i64) (.int .i64)))]⟩, ⟨[], [.boxr 68 (.cons (.sl (.cons (.int .i64) (.cons .str (.cons (.int .i64) (.int .i64))))) (.cons (.int .i64) (.int .i64)))]⟩, fun x => decl_reader_fail x.2.1⟩
theorem con38 : Contract Tryd.prog 38 fc38 :=
  decl_reader_fail_D.contract tok (cok_of (l := []) trivial) mixed (fn' := Tryd.f38) (by kernel_rfl) (by kernel_rfl) rfl (by kernel_rfl) (fun x => (FD.fn_eq _ _).trans (by kernel_rfl))
end
end Go.Proofs.YtjgjbdnjjepibaaDoor
end

section
/-
YtjgjbdnjjepibaaDoor: (*signalbench.decl.reader).need, as one plain function, its equations, its contract. No condition.
-/
set_option maxRecDepth 100000
set_option linter.unusedVariables false
set_option maxHeartbeats 4000000
open Go Go.AM
namespace Go.Proofs.YtjgjbdnjjepibaaDoor
noncomputable section
def decl_reader_need_D : FD := ⟨T, lookC [(36, fc36), (38, fc38)], [], (Tryd.f34.body.getD .skip), Tryd.f34.results.toList, ⟨[.one (.ptr 0 0), .one (.int .i64), .one .str], [.boxr 68 (.cons (.sl (.cons (.int .i64) (.cons .str (.cons (.int .i64) (.int .i64))))) (.cons (.int .i64) (.int .i64)))]⟩, ⟨[.row (.cons (.int .i64) (.cons .str (.cons (.int .i64) (.int .i64))))], [.boxr 68 (.cons (.sl (.cons (.int .i64) (.cons .str (.cons (.int .i64) (.int .i64))))) (.cons (.int .i64) (.int .i64)))]⟩, []⟩
def decl_reader_need (kind : Int) (text : ByteArray) (h0 : Treader) : (Option ((TToken × Unit) × (Treader × Unit))) :=
  (decl_reader_take kind text h0).bind fun y1 =>
    if (!y1.1.2.1) = true then
      (decl_reader_fail y1.2.1).bind fun y2 =>
        some ((y1.1.1, ()), (y2.2.1, ()))
    else
      some ((y1.1.1, ()), (y1.2.1, ()))
def fc34 : FC := ⟨⟨[.one (.ptr 0 0), .one (.int .i64), .one .str], [.boxr 68 (.cons (.sl (.cons (.int .i64) (.cons .str (.cons (.int .i64) (.int .i64))))) (.cons (.int .i64) (.int .i64)))]⟩, ⟨[.row (.cons (.int .i64) (.cons .str (.cons (.int .i64) (.int .i64))))], [.boxr 68 (.cons (.sl (.cons (.int .i64) (.cons .str (.cons (.int .i64) (.int .i64))))) (.cons (.int .i64) (.int .i64)))]⟩, fun x => decl_reader_need x.1.2.1 x.1.2.2.1 x.2.1⟩
theorem con34 : Contract Tryd.prog 34 fc34 :=
  decl_reader_need_D.contract tok (cok_of (l := [(36, fc36), (38, fc38)]) ⟨con36, con38, trivial⟩) mixed (fn' := Tryd.f34) (by kernel_rfl) (by kernel_rfl) rfl (by kernel_rfl) (fun x => (FD.fn_eq _ _).trans (by kernel_rfl))
end
end Go.Proofs.YtjgjbdnjjepibaaDoor
end

section
/-
YtjgjbdnjjepibaaDoor: (*signalbench.decl.reader).either, as one plain function, its equations, its contract. No condition.
-/
set_option maxRecDepth 100000
set_option linter.unusedVariables false
set_option maxHeartbeats 4000000
open Go Go.AM
namespace Go.Proofs.YtjgjbdnjjepibaaDoor
noncomputable section
def decl_reader_either_D : FD := ⟨T, lookC [(34, fc34), (36, fc36)], [], (Tryd.f35.body.getD .skip), Tryd.f35.results.toList, ⟨[.one (.ptr 0 0), .one .str, .one (.int .i64), .one .str, .one (.int .i64)], [.boxr 68 (.cons (.sl (.cons (.int .i64) (.cons .str (.cons (.int .i64) (.int .i64))))) (.cons (.int .i64) (.int .i64)))]⟩, ⟨[.one (.int .i64)], [.boxr 68 (.cons (.sl (.cons (.int .i64) (.cons .str (.cons (.int .i64) (.int .i64))))) (.cons (.int .i64) (.int .i64)))]⟩, []⟩
def decl_reader_either (a : ByteArray) (na : Int) (b : ByteArray) (nb : Int) (h0 : Treader) : (Option ((Int × Unit) × (Treader × Unit))) :=
  (decl_reader_take 1 a h0).bind fun y1 =>
    if y1.1.2.1 = true then
      some ((na, ()), (y1.2.1, ()))
    else
      (decl_reader_need 1 b y1.2.1).bind fun y2 =>
        some ((nb, ()), (y2.2.1, ()))
def fc35 : FC := ⟨⟨[.one (.ptr 0 0), .one .str, .one (.int .i64), .one .str, .one (.int .i64)], [.boxr 68 (.cons (.sl (.cons (.int .i64) (.cons .str (.cons (.int .i64) (.int .i64))))) (.cons (.int .i64) (.int .i64)))]⟩, ⟨[.one (.int .i64)], [.boxr 68 (.cons (.sl (.cons (.int .i64) (.cons .str (.cons (.int .i64) (.int .i64))))) (.cons (.int .i64) (.int .i64)))]⟩, fun x => decl_reader_either x.1.2.1 x.1.2.2.1 x.1.2.2.2.1 x.1.2.2.2.2.1 x.2.1⟩
theorem con35 : Contract Tryd.prog 35 fc35 :=
  decl_reader_either_D.contract tok (cok_of (l := [(34, fc34), (36, fc36)]) ⟨con34, con36, trivial⟩) mixed (fn' := Tryd.f35) (by kernel_rfl) (by kernel_rfl) rfl (by kernel_rfl) (fun x => (FD.fn_eq _ _).trans (by kernel_rfl))
end
end Go.Proofs.YtjgjbdnjjepibaaDoor
end

section
/-
YtjgjbdnjjepibaaDoor: (*signalbench.decl.reader).act, as one plain function, its equations, its contract. No condition.
-/
set_option maxRecDepth 100000
set_option linter.unusedVariables false
set_option maxHeartbeats 4000000
open Go Go.AM
namespace Go.Proofs.YtjgjbdnjjepibaaDoor
noncomputable section
def decl_reader_act_F3 : FSh := ⟨[(0, .one (.ptr 0 0)), (2, .one (.ptr 1 0)), (3, .one (.int .i64))], [.boxr 68 (.cons (.sl (.cons (.int .i64) (.cons .str (.cons (.int .i64) (.int .i64))))) (.cons (.int .i64) (.int .i64))), .boxr 54 (.cons (.int .i64) (.int .i64))]⟩
def decl_reader_act_D : FD := ⟨T, lookC [(34, fc34), (36, fc36), (38, fc38), (46, fc46)], [], (Tryd.f71.body.getD .skip), Tryd.f71.results.toList, ⟨[.one (.ptr 0 0)], [.boxr 68 (.cons (.sl (.cons (.int .i64) (.cons .str (.cons (.int .i64) (.int .i64))))) (.cons (.int .i64) (.int .i64)))]⟩, ⟨[.row (.cons (.int .i64) (.int .i64))], [.boxr 68 (.cons (.sl (.cons (.int .i64) (.cons .str (.cons (.int .i64) (.int .i64))))) (.cons (.int .i64) (.int .i64)))]⟩, [(3, decl_reader_act_F3)]⟩
def decl_reader_act_l3 (op : Int) (h0 : Treader) (h1 : TAct) : (Option ((TAct × Unit) × (Treader × Unit))) := decl_reader_act_D.lab 3 decl_reader_act_F3 (((), (), op, ()), (h0, h1, ()))
theorem decl_reader_act_l3_eq (op : Int) (h0 : Treader) (h1 : TAct) : decl_reader_act_l3 op h0 h1 =
  if (decide (op ≤ 6)) = true then
    (decl_word op).bind fun y1 =>
      (decl_reader_take 1 y1.1.1 h0).bind fun y2 =>
        if y2.1.2.1 = true then
          if (decide (op > 2)) = true then
            (decl_reader_need 2 (strB []) y2.2.1).bind fun y3 =>
              some (((op, y3.1.1.2.2.1), ()), (y3.2.1, ()))
          else
            some (((op, 0), ()), (y2.2.1, ()))
        else
          decl_reader_act_l3 (IntKind.i64.wrap (op + 1)) y2.2.1 h1
  else
    (decl_reader_fail h0).bind fun y4 =>
      some (((0, 0), ()), (y4.2.1, ())) := (FD.lab_eq _ _ _ _).trans (by kernel_rfl)
def decl_reader_act (h0 : Treader) : (Option ((TAct × Unit) × (Treader × Unit))) :=
  decl_reader_act_l3 1 h0 (0, 0)
def fc71 : FC := ⟨⟨[.one (.ptr 0 0)], [.boxr 68 (.cons (.sl (.cons (.int .i64) (.cons .str (.cons (.int .i64) (.int .i64))))) (.cons (.int .i64) (.int .i64)))]⟩, ⟨[.row (.cons (.int .i64) (.int .i64))], [.boxr 68 (.cons (.sl (.cons (.int .i64) (.cons .str (.cons (.int .i64) (.int .i64))))) (.cons (.int .i64) (.int .i64)))]⟩, fun x => decl_reader_act x.2.1⟩
theorem con71 : Contract Tryd.prog 71 fc71 :=
  decl_reader_act_D.contract tok (cok_of (l := [(34, fc34), (36, fc36), (38, fc38), (46, fc46)]) ⟨con34, con36, con38, con46, trivial⟩) mixed (fn' := Tryd.f71) (by kernel_rfl) (by kernel_rfl) rfl (by kernel_rfl) (fun x => (FD.fn_eq _ _).trans (by kernel_rfl))
end
end Go.Proofs.YtjgjbdnjjepibaaDoor
end

section
/-
YtjgjbdnjjepibaaDoor: (*signalbench.decl.reader).target, as one plain function, its equations, its contract. No condition.
-/
set_option maxRecDepth 100000
set_option linter.unusedVariables false
set_option maxHeartbeats 4000000
open Go Go.AM
namespace Go.Proofs.YtjgjbdnjjepibaaDoor
noncomputable section
def decl_reader_target_F8 : FSh := ⟨[(0, .one (.ptr 0 0)), (3, .one (.ptr 2 0)), (4, .one (.ptr 3 0))], [.boxr 68 (.cons (.sl (.cons (.int .i64) (.cons .str (.cons (.int .i64) (.int .i64))))) (.cons (.int .i64) (.int .i64))), .dead, .box 33 [(.int .i64), (.int .i64), .str, .bool, (.own 4)], .box 33 [(.int .i64), (.int .i64), .str, .bool, (.own 5)], .arr 54 (.cons (.int .i64) (.int .i64)) true, .arr 54 (.cons (.int .i64) (.int .i64)) true]⟩
def decl_reader_target_D : FD := ⟨T, lookC [(34, fc34), (36, fc36), (71, fc71)], [], (Tryd.f55.body.getD .skip), Tryd.f55.results.toList, ⟨[.one (.ptr 0 0), .agg [(.int .i64), (.int .i64), .str, .bool, (.own 1)]], [.boxr 68 (.cons (.sl (.cons (.int .i64) (.cons .str (.cons (.int .i64) (.int .i64))))) (.cons (.int .i64) (.int .i64))), .arr 54 (.cons (.int .i64) (.int .i64)) true]⟩, ⟨[.row (.cons (.int .i64) (.cons (.int .i64) (.cons .str (.cons .bool (.sl (.cons (.int .i64) (.int .i64)))))))], [.boxr 68 (.cons (.sl (.cons (.int .i64) (.cons .str (.cons (.int .i64) (.int .i64))))) (.cons (.int .i64) (.int .i64))), .dead]⟩, [(8, decl_reader_target_F8)]⟩
def decl_reader_target_l8 (h0 : Treader) (h2_0 : Int) (h2_1 : Int) (h2_2 : ByteArray) (h2_3 : Bool) (h3_0 : Int) (h3_1 : Int) (h3_2 : ByteArray) (h3_3 : Bool) (l4 : (List TAct)) (l5 : (List TAct)) : (Option ((TRule × Unit) × (Treader × Unit × Unit))) := decl_reader_target_D.lab 8 decl_reader_target_F8 (((), (), (), ()), (h0, (), (h2_0, h2_1, h2_2, h2_3, (), ()), (h3_0, h3_1, h3_2, h3_3, (), ()), l4, l5, ()))
theorem decl_reader_target_l8_eq (h0 : Treader) (h2_0 : Int) (h2_1 : Int) (h2_2 : ByteArray) (h2_3 : Bool) (h3_0 : Int) (h3_1 : Int) (h3_2 : ByteArray) (h3_3 : Bool) (l4 : (List TAct)) (l5 : (List TAct)) : decl_reader_target_l8 h0 h2_0 h2_1 h2_2 h2_3 h3_0 h3_1 h3_2 h3_3 l4 l5 =
  (decl_reader_take 4 (strB [44]) h0).bind fun y1 =>
    if (!y1.1.2.1) = true then
      (decl_reader_need 4 (strB [59]) y1.2.1).bind fun y2 =>
        some (((h2_0, h2_1, h2_2, h2_3, l4), ()), (y2.2.1, (), ()))
    else
      (decl_reader_act y1.2.1).bind fun y3 =>
        if (l4.length + 1) * 16 ≤ 140737488355328 ∧ 0 < 16 then
          decl_reader_target_l8 y3.2.1 h2_0 h2_1 h2_2 h2_3 h3_0 h3_1 h3_2 h3_3 (l4 ++ [y3.1.1]) l5
        else
          none := (FD.lab_eq _ _ _ _).trans (by kernel_rfl)
def decl_reader_target (x_0 : Int) (x_1 : Int) (x_2 : ByteArray) (x_3 : Bool) (h0 : Treader) (l1 : (List TAct)) : (Option ((TRule × Unit) × (Treader × Unit × Unit))) :=
  (decl_reader_need 4 (strB [62]) h0).bind fun y1 =>
    (decl_reader_need 1 (strB []) y1.2.1).bind fun y2 =>
      (decl_reader_take 1 (strB [97, 103, 97, 105, 110]) y2.2.1).bind fun y3 =>
        (decl_reader_take 4 (strB [58]) y3.2.1).bind fun y4 =>
          if y4.1.2.1 = true then
            (decl_reader_act y4.2.1).bind fun y5 =>
              if (l1.length + 1) * 16 ≤ 140737488355328 ∧ 0 < 16 then
                decl_reader_target_l8 y5.2.1 x_0 x_1 y2.1.1.2.1 y3.1.2.1 0 0 (strB []) false (l1 ++ [y5.1.1]) []
              else
                none
          else
            (decl_reader_need 4 (strB [59]) y4.2.1).bind fun y6 =>
              some (((x_0, x_1, y2.1.1.2.1, y3.1.2.1, l1), ()), (y6.2.1, (), ()))
def fc55 : FC := ⟨⟨[.one (.ptr 0 0), .agg [(.int .i64), (.int .i64), .str, .bool, (.own 1)]], [.boxr 68 (.cons (.sl (.cons (.int .i64) (.cons .str (.cons (.int .i64) (.int .i64))))) (.cons (.int .i64) (.int .i64))), .arr 54 (.cons (.int .i64) (.int .i64)) true]⟩, ⟨[.row (.cons (.int .i64) (.cons (.int .i64) (.cons .str (.cons .bool (.sl (.cons (.int .i64) (.int .i64)))))))], [.boxr 68 (.cons (.sl (.cons (.int .i64) (.cons .str (.cons (.int .i64) (.int .i64))))) (.cons (.int .i64) (.int .i64))), .dead]⟩, fun x => decl_reader_target x.1.2.1.1 x.1.2.1.2.1 x.1.2.1.2.2.1 x.1.2.1.2.2.2.1 x.2.1 x.2.2.1⟩
theorem con55 : Contract Tryd.prog 55 fc55 :=
  decl_reader_target_D.contract tok (cok_of (l := [(34, fc34), (36, fc36), (71, fc71)]) ⟨con34, con36, con71, trivial⟩) mixed (fn' := Tryd.f55) (by kernel_rfl) (by kernel_rfl) rfl (by kernel_rfl) (fun x => (FD.fn_eq _ _).trans (by kernel_rfl))
end
end Go.Proofs.YtjgjbdnjjepibaaDoor
end

section
/-
YtjgjbdnjjepibaaDoor: (*signalbench.decl.reader).state, as one plain function, its equations, its contract. No condition.
-/
set_option maxRecDepth 100000
set_option linter.unusedVariables false
set_option maxHeartbeats 4000000
open Go Go.AM
namespace Go.Proofs.YtjgjbdnjjepibaaDoor
noncomputable section
def decl_reader_state_F4 : FSh := ⟨[(0, .one (.ptr 0 0)), (2, .one (.ptr 1 0)), (3, .one (.ptr 2 0))], [.boxr 68 (.cons (.sl (.cons (.int .i64) (.cons .str (.cons (.int .i64) (.int .i64))))) (.cons (.int .i64) (.int .i64))), .box 46 [.str, (.own 3), .bool, (.int .i64), (.int .i64), .str, .bool, (.sl (.cons (.int .i64) (.int .i64)))], .box 46 [.str, (.own 4), .bool, (.int .i64), (.int .i64), .str, .bool, (.sl (.cons (.int .i64) (.int .i64)))], .arr 33 (.cons (.int .i64) (.cons (.int .i64) (.cons .str (.cons .bool (.sl (.cons (.int .i64) (.int .i64))))))) true, .arr 33 (.cons (.int .i64) (.cons (.int .i64) (.cons .str (.cons .bool (.sl (.cons (.int .i64) (.int .i64))))))) true]⟩
def decl_reader_state_F9 : FSh := ⟨[(0, .one (.ptr 0 0)), (2, .one (.ptr 1 0)), (3, .one (.ptr 2 0)), (5, .one (.ptr 3 0))], [.boxr 68 (.cons (.sl (.cons (.int .i64) (.cons .str (.cons (.int .i64) (.int .i64))))) (.cons (.int .i64) (.int .i64))), .box 46 [.str, (.own 4), .bool, (.int .i64), (.int .i64), .str, .bool, (.sl (.cons (.int .i64) (.int .i64)))], .box 46 [.str, (.own 5), .bool, (.int .i64), (.int .i64), .str, .bool, (.sl (.cons (.int .i64) (.int .i64)))], .box 33 [(.int .i64), (.int .i64), .str, .bool, (.own 6)], .arr 33 (.cons (.int .i64) (.cons (.int .i64) (.cons .str (.cons .bool (.sl (.cons (.int .i64) (.int .i64))))))) true, .arr 33 (.cons (.int .i64) (.cons (.int .i64) (.cons .str (.cons .bool (.sl (.cons (.int .i64) (.int .i64))))))) true, .arr 54 (.cons (.int .i64) (.int .i64)) true]⟩
def decl_reader_state_D : FD := ⟨T, lookC [(34, fc34), (36, fc36), (54, fc54), (55, fc55)], [9], (Tryd.f37.body.getD .skip), Tryd.f37.results.toList, ⟨[.one (.ptr 0 0)], [.boxr 68 (.cons (.sl (.cons (.int .i64) (.cons .str (.cons (.int .i64) (.int .i64))))) (.cons (.int .i64) (.int .i64)))]⟩, ⟨[.row (.cons .str (.cons (.sl (.cons (.int .i64) (.cons (.int .i64) (.cons .str (.cons .bool (.sl (.cons (.int .i64) (.int .i64)))))))) (.cons .bool (.cons (.int .i64) (.cons (.int .i64) (.cons .str (.cons .bool (.sl (.cons (.int .i64) (.int .i64))))))))))], [.boxr 68 (.cons (.sl (.cons (.int .i64) (.cons .str (.cons (.int .i64) (.int .i64))))) (.cons (.int .i64) (.int .i64)))]⟩, [(4, decl_reader_state_F4), (9, decl_reader_state_F9)]⟩
def decl_reader_state_l4 (h0 : Treader) (h1_0 : ByteArray) (h1_2 : Bool) (h1_3 : Int) (h1_4 : Int) (h1_5 : ByteArray) (h1_6 : Bool) (h1_7 : (List TAct)) (h2_0 : ByteArray) (h2_2 : Bool) (h2_3 : Int) (h2_4 : Int) (h2_5 : ByteArray) (h2_6 : Bool) (h2_7 : (List TAct)) (l3 : (List TRule)) (l4 : (List TRule)) : (Option ((TDeclState × Unit) × (Treader × Unit))) := decl_reader_state_D.lab 4 decl_reader_state_F4 (((), (), (), ()), (h0, (h1_0, (), h1_2, h1_3, h1_4, h1_5, h1_6, h1_7, ()), (h2_0, (), h2_2, h2_3, h2_4, h2_5, h2_6, h2_7, ()), l3, l4, ()))
def decl_reader_state_l9 (h0 : Treader) (h1_0 : ByteArray) (h1_2 : Bool) (h1_3 : Int) (h1_4 : Int) (h1_5 : ByteArray) (h1_6 : Bool) (h1_7 : (List TAct)) (h2_0 : ByteArray) (h2_2 : Bool) (h2_3 : Int) (h2_4 : Int) (h2_5 : ByteArray) (h2_6 : Bool) (h2_7 : (List TAct)) (h3_0 : Int) (h3_1 : Int) (h3_2 : ByteArray) (h3_3 : Bool) (l4 : (List TRule)) (l5 : (List TRule)) (l6 : (List TAct)) : (Option ((TDeclState × Unit) × (Treader × Unit))) := decl_reader_state_D.lab 9 decl_reader_state_F9 (((), (), (), (), ()), (h0, (h1_0, (), h1_2, h1_3, h1_4, h1_5, h1_6, h1_7, ()), (h2_0, (), h2_2, h2_3, h2_4, h2_5, h2_6, h2_7, ()), (h3_0, h3_1, h3_2, h3_3, (), ()), l4, l5, l6, ()))
theorem decl_reader_state_l4_eq (h0 : Treader) (h1_0 : ByteArray) (h1_2 : Bool) (h1_3 : Int) (h1_4 : Int) (h1_5 : ByteArray) (h1_6 : Bool) (h1_7 : (List TAct)) (h2_0 : ByteArray) (h2_2 : Bool) (h2_3 : Int) (h2_4 : Int) (h2_5 : ByteArray) (h2_6 : Bool) (h2_7 : (List TAct)) (l3 : (List TRule)) (l4 : (List TRule)) : decl_reader_state_l4 h0 h1_0 h1_2 h1_3 h1_4 h1_5 h1_6 h1_7 h2_0 h2_2 h2_3 h2_4 h2_5 h2_6 h2_7 l3 l4 =
  (decl_reader_is 2 (strB []) h0).bind fun y1 =>
    if y1.1.1 = true then
      (decl_reader_need 2 (strB []) y1.2.1).bind fun y2 =>
        (decl_reader_take 4 (strB [46]) y2.2.1).bind fun y3 =>
          if y3.1.2.1 = true then
            (decl_reader_need 4 (strB [46]) y3.2.1).bind fun y4 =>
              (decl_reader_need 2 (strB []) y4.2.1).bind fun y5 =>
                decl_reader_state_l9 y5.2.1 h1_0 h1_2 h1_3 h1_4 h1_5 h1_6 h1_7 h2_0 h2_2 h2_3 h2_4 h2_5 h2_6 h2_7 y2.1.1.2.2.1 y5.1.1.2.2.1 (strB []) false l3 l4 []
          else
            decl_reader_state_l9 y3.2.1 h1_0 h1_2 h1_3 h1_4 h1_5 h1_6 h1_7 h2_0 h2_2 h2_3 h2_4 h2_5 h2_6 h2_7 y2.1.1.2.2.1 y2.1.1.2.2.1 (strB []) false l3 l4 []
    else
      (decl_reader_take 4 (strB [42]) y1.2.1).bind fun y6 =>
        if y6.1.2.1 = true then
          (decl_reader_target 0 0 (strB []) false y6.2.1 []).bind fun y7 =>
            (decl_reader_need 4 (strB [125]) y7.2.1).bind fun y8 =>
              some (((h2_0, l4, true, y7.1.1), ()), (y8.2.1, ()))
        else
          (decl_reader_need 4 (strB [125]) y6.2.1).bind fun y9 =>
            some (((h2_0, l4, h2_2, h2_3, h2_4, h2_5, h2_6, h2_7), ()), (y9.2.1, ())) := (FD.lab_eq _ _ _ _).trans (by kernel_rfl)
theorem decl_reader_state_l9_eq (h0 : Treader) (h1_0 : ByteArray) (h1_2 : Bool) (h1_3 : Int) (h1_4 : Int) (h1_5 : ByteArray) (h1_6 : Bool) (h1_7 : (List TAct)) (h2_0 : ByteArray) (h2_2 : Bool) (h2_3 : Int) (h2_4 : Int) (h2_5 : ByteArray) (h2_6 : Bool) (h2_7 : (List TAct)) (h3_0 : Int) (h3_1 : Int) (h3_2 : ByteArray) (h3_3 : Bool) (l4 : (List TRule)) (l5 : (List TRule)) (l6 : (List TAct)) : decl_reader_state_l9 h0 h1_0 h1_2 h1_3 h1_4 h1_5 h1_6 h1_7 h2_0 h2_2 h2_3 h2_4 h2_5 h2_6 h2_7 h3_0 h3_1 h3_2 h3_3 l4 l5 l6 =
  (decl_reader_target h3_0 h3_1 h3_2 h3_3 h0 l6).bind fun y1 =>
    if (l5.length + 1) * 64 ≤ 140737488355328 ∧ 0 < 64 then
      decl_reader_state_l4 y1.2.1 h1_0 h1_2 h1_3 h1_4 h1_5 h1_6 h1_7 h2_0 h2_2 h2_3 h2_4 h2_5 h2_6 h2_7 l4 (l5 ++ [y1.1.1])
    else
      none := (FD.lab_eq _ _ _ _).trans (by kernel_rfl)
def decl_reader_state (h0 : Treader) : (Option ((TDeclState × Unit) × (Treader × Unit))) :=
  (decl_reader_need 1 (strB []) h0).bind fun y1 =>
    (decl_reader_need 4 (strB [123]) y1.2.1).bind fun y2 =>
      decl_reader_state_l4 y2.2.1 (strB []) false 0 0 (strB []) false [] y1.1.1.2.1 false 0 0 (strB []) false [] [] []
def fc37 : FC := ⟨⟨[.one (.ptr 0 0)], [.boxr 68 (.cons (.sl (.cons (.int .i64) (.cons .str (.cons (.int .i64) (.int .i64))))) (.cons (.int .i64) (.int .i64)))]⟩, ⟨[.row (.cons .str (.cons (.sl (.cons (.int .i64) (.cons (.int .i64) (.cons .str (.cons .bool (.sl (.cons (.int .i64) (.int .i64)))))))) (.cons .bool (.cons (.int .i64) (.cons (.int .i64) (.cons .str (.cons .bool (.sl (.cons (.int .i64) (.int .i64))))))))))], [.boxr 68 (.cons (.sl (.cons (.int .i64) (.cons .str (.cons (.int .i64) (.int .i64))))) (.cons (.int .i64) (.int .i64)))]⟩, fun x => decl_reader_state x.2.1⟩
theorem con37 : Contract Tryd.prog 37 fc37 :=
  decl_reader_state_D.contract tok (cok_of (l := [(34, fc34), (36, fc36), (54, fc54), (55, fc55)]) ⟨con34, con36, con54, con55, trivial⟩) mixed (fn' := Tryd.f37) (by kernel_rfl) (by kernel_rfl) rfl (by kernel_rfl) (fun x => (FD.fn_eq _ _).trans (by kernel_rfl))
end
end Go.Proofs.YtjgjbdnjjepibaaDoor
end

section
/-
YtjgjbdnjjepibaaDoor: signalbench.decl.Parse, as one plain function, its equations, its contract. No condition.
-/
set_option maxRecDepth 100000
set_option linter.unusedVariables false
set_option maxHeartbeats 4000000
open Go Go.AM
namespace Go.Proofs.YtjgjbdnjjepibaaDoor
noncomputable section
def decl_Parse_F14 : FSh := ⟨[(2, .one (.ptr 0 0)), (8, .one (.ptr 1 0)), (9, .one (.ptr 2 0))], [.box 24 [.str, (.int .i64), (.int .i64), (.own 3)], .boxr 68 (.cons (.sl (.cons (.int .i64) (.cons .str (.cons (.int .i64) (.int .i64))))) (.cons (.int .i64) (.int .i64))), .box 24 [.str, (.int .i64), (.int .i64), (.own 4)], .arr 46 (.cons .str (.cons (.sl (.cons (.int .i64) (.cons (.int .i64) (.cons .str (.cons .bool (.sl (.cons (.int .i64) (.int .i64)))))))) (.cons .bool (.cons (.int .i64) (.cons (.int .i64) (.cons .str (.cons .bool (.sl (.cons (.int .i64) (.int .i64)))))))))) true, .arr 46 (.cons .str (.cons (.sl (.cons (.int .i64) (.cons (.int .i64) (.cons .str (.cons .bool (.sl (.cons (.int .i64) (.int .i64)))))))) (.cons .bool (.cons (.int .i64) (.cons (.int .i64) (.cons .str (.cons .bool (.sl (.cons (.int .i64) (.int .i64)))))))))) true]⟩
def decl_Parse_F19 : FSh := ⟨[(2, .one (.ptr 0 0)), (8, .one (.ptr 1 0)), (9, .one (.ptr 2 0))], [.box 24 [.str, (.int .i64), (.int .i64), (.own 3)], .boxr 68 (.cons (.sl (.cons (.int .i64) (.cons .str (.cons (.int .i64) (.int .i64))))) (.cons (.int .i64) (.int .i64))), .box 24 [.str, (.int .i64), (.int .i64), (.own 4)], .arr 46 (.cons .str (.cons (.sl (.cons (.int .i64) (.cons (.int .i64) (.cons .str (.cons .bool (.sl (.cons (.int .i64) (.int .i64)))))))) (.cons .bool (.cons (.int .i64) (.cons (.int .i64) (.cons .str (.cons .bool (.sl (.cons (.int .i64) (.int .i64)))))))))) true, .arr 46 (.cons .str (.cons (.sl (.cons (.int .i64) (.cons (.int .i64) (.cons .str (.cons .bool (.sl (.cons (.int .i64) (.int .i64)))))))) (.cons .bool (.cons (.int .i64) (.cons (.int .i64) (.cons .str (.cons .bool (.sl (.cons (.int .i64) (.int .i64)))))))))) true]⟩
def decl_Parse_D : FD := ⟨T, lookC [(10, fc10), (33, fc33), (34, fc34), (35, fc35), (36, fc36), (37, fc37), (38, fc38)], [19], (Tryd.f19.body.getD .skip), Tryd.f19.results.toList, ⟨[.one .str], []⟩, ⟨[.row (.cons .str (.cons (.int .i64) (.cons (.int .i64) (.sl (.cons .str (.cons (.sl (.cons (.int .i64) (.cons (.int .i64) (.cons .str (.cons .bool (.sl (.cons (.int .i64) (.int .i64)))))))) (.cons .bool (.cons (.int .i64) (.cons (.int .i64) (.cons .str (.cons .bool (.sl (.cons (.int .i64) (.int .i64)))))))))))))), .one (.int .i64), .one (.int .i64)], []⟩, [(14, decl_Parse_F14), (19, decl_Parse_F19)]⟩
def decl_Parse_l14 (h0_0 : ByteArray) (h0_1 : Int) (h0_2 : Int) (h1 : Treader) (h2_0 : ByteArray) (h2_1 : Int) (h2_2 : Int) (l3 : (List TDeclState)) (l4 : (List TDeclState)) : (Option ((TDecl × Int × Int × Unit) × Unit)) := decl_Parse_D.lab 14 decl_Parse_F14 (((), (), (), ()), ((h0_0, h0_1, h0_2, (), ()), h1, (h2_0, h2_1, h2_2, (), ()), l3, l4, ()))
def decl_Parse_l19 (h0_0 : ByteArray) (h0_1 : Int) (h0_2 : Int) (h1 : Treader) (h2_0 : ByteArray) (h2_1 : Int) (h2_2 : Int) (l3 : (List TDeclState)) (l4 : (List TDeclState)) : (Option ((TDecl × Int × Int × Unit) × Unit)) := decl_Parse_D.lab 19 decl_Parse_F19 (((), (), (), ()), ((h0_0, h0_1, h0_2, (), ()), h1, (h2_0, h2_1, h2_2, (), ()), l3, l4, ()))
theorem decl_Parse_l14_eq (h0_0 : ByteArray) (h0_1 : Int) (h0_2 : Int) (h1 : Treader) (h2_0 : ByteArray) (h2_1 : Int) (h2_2 : Int) (l3 : (List TDeclState)) (l4 : (List TDeclState)) : decl_Parse_l14 h0_0 h0_1 h0_2 h1 h2_0 h2_1 h2_2 l3 l4 =
  (decl_reader_take 1 (strB [115, 116, 97, 116, 101]) h1).bind fun y1 =>
    if (!y1.1.2.1) = true then
      (decl_reader_need 4 (strB [125]) y1.2.1).bind fun y2 =>
        if (decide (y2.2.1.2.1 < (y2.2.1.1.length : Int))) = true then
          (decl_reader_fail y2.2.1).bind fun y3 =>
            decl_Parse_l19 h0_0 h0_1 h0_2 y3.2.1 h2_0 h2_1 h2_2 l3 l4
        else
          decl_Parse_l19 h0_0 h0_1 h0_2 y2.2.1 h2_0 h2_1 h2_2 l3 l4
    else
      (decl_reader_state y1.2.1).bind fun y4 =>
        if (l4.length + 1) * 112 ≤ 140737488355328 ∧ 0 < 112 then
          decl_Parse_l14 h0_0 h0_1 h0_2 y4.2.1 h2_0 h2_1 h2_2 l3 (l4 ++ [y4.1.1])
        else
          none := (FD.lab_eq _ _ _ _).trans (by kernel_rfl)
theorem decl_Parse_l19_eq (h0_0 : ByteArray) (h0_1 : Int) (h0_2 : Int) (h1 : Treader) (h2_0 : ByteArray) (h2_1 : Int) (h2_2 : Int) (l3 : (List TDeclState)) (l4 : (List TDeclState)) : decl_Parse_l19 h0_0 h0_1 h0_2 h1 h2_0 h2_1 h2_2 l3 l4 =
  if (decide (h1.2.2 > 0)) = true then
    some ((((strB []), 0, 0, []), h1.2.2, 4, ()), ())
  else
    (decl_Check (h2_0, h2_1, h2_2, l4)).bind fun y1 =>
      if (y1.1.1 != 0) = true then
        some ((((strB []), 0, 0, []), 0, y1.1.1, ()), ())
      else
        some (((h2_0, h2_1, h2_2, l4), 0, 0, ()), ()) := (FD.lab_eq _ _ _ _).trans (by kernel_rfl)
def decl_Parse (s : ByteArray) : (Option ((TDecl × Int × Int × Unit) × Unit)) :=
  (lex_Tokens s).bind fun y1 =>
    if (y1.1.2.2.1 != 0) = true then
      some ((((strB []), 0, 0, []), y1.1.2.1, y1.1.2.2.1, ()), ())
    else
      (decl_reader_need 1 (strB [100, 101, 99, 111, 100, 101, 114]) (y1.1.1, 0, 0)).bind fun y2 =>
        (decl_reader_need 1 (strB []) y2.2.1).bind fun y3 =>
          (decl_reader_need 1 (strB [105, 110, 112, 117, 116]) y3.2.1).bind fun y4 =>
            (decl_reader_either (strB [98, 105, 116]) 2 (strB [98, 121, 116, 101]) 3 y4.2.1).bind fun y5 =>
              (decl_reader_need 1 (strB [111, 117, 116, 112, 117, 116]) y5.2.1).bind fun y6 =>
                (decl_reader_either (strB [102, 114, 97, 109, 101]) 5 (strB [112, 97, 99, 107, 101, 116]) 6 y6.2.1).bind fun y7 =>
                  (decl_reader_need 4 (strB [123]) y7.2.1).bind fun y8 =>
                    decl_Parse_l14 (strB []) 0 0 y8.2.1 y3.1.1.2.1 y5.1.1 y7.1.1 [] []
def fc19 : FC := ⟨⟨[.one .str], []⟩, ⟨[.row (.cons .str (.cons (.int .i64) (.cons (.int .i64) (.sl (.cons .str (.cons (.sl (.cons (.int .i64) (.cons (.int .i64) (.cons .str (.cons .bool (.sl (.cons (.int .i64) (.int .i64)))))))) (.cons .bool (.cons (.int .i64) (.cons (.int .i64) (.cons .str (.cons .bool (.sl (.cons (.int .i64) (.int .i64)))))))))))))), .one (.int .i64), .one (.int .i64)], []⟩, fun x => decl_Parse x.1.1⟩
theorem con19 : Contract Tryd.prog 19 fc19 :=
  decl_Parse_D.contract tok (cok_of (l := [(10, fc10), (33, fc33), (34, fc34), (35, fc35), (36, fc36), (37, fc37), (38, fc38)]) ⟨con10, con33, con34, con35, con36, con37, con38, trivial⟩) mixed (fn' := Tryd.f19) (by kernel_rfl) (by kernel_rfl) rfl (by kernel_rfl) (fun x => (FD.fn_eq _ _).trans (by kernel_rfl))
end
end Go.Proofs.YtjgjbdnjjepibaaDoor
end

section
/-
YtjgjbdnjjepibaaDoor: signalbench.signalbenchref34.Same, as one plain function, its equations, its contract. No condition.
-/
set_option maxRecDepth 100000
set_option linter.unusedVariables false
set_option maxHeartbeats 4000000
open Go Go.AM
namespace Go.Proofs.YtjgjbdnjjepibaaDoor
noncomputable section
def ref34_Same_F6 : FSh := ⟨[(2, .one (.ptr 0 0)), (3, .one (.ptr 1 0)), (5, .one (.int .i64))], [.boxr 24 (.cons .str (.cons (.int .i64) (.cons (.int .i64) (.sl (.cons .str (.cons (.sl (.cons (.int .i64) (.cons (.int .i64) (.cons .str (.cons .bool (.sl (.cons (.int .i64) (.int .i64)))))))) (.cons .bool (.cons (.int .i64) (.cons (.int .i64) (.cons .str (.cons .bool (.sl (.cons (.int .i64) (.int .i64)))))))))))))), .boxr 24 (.cons .str (.cons (.int .i64) (.cons (.int .i64) (.sl (.cons .str (.cons (.sl (.cons (.int .i64) (.cons (.int .i64) (.cons .str (.cons .bool (.sl (.cons (.int .i64) (.int .i64)))))))) (.cons .bool (.cons (.int .i64) (.cons (.int .i64) (.cons .str (.cons .bool (.sl (.cons (.int .i64) (.int .i64))))))))))))))]⟩
def ref34_Same_F15 : FSh := ⟨[(2, .one (.ptr 0 0)), (3, .one (.ptr 1 0)), (5, .one (.int .i64)), (6, .one (.ptr 2 0)), (7, .one (.ptr 3 0)), (8, .one (.int .i64))], [.boxr 24 (.cons .str (.cons (.int .i64) (.cons (.int .i64) (.sl (.cons .str (.cons (.sl (.cons (.int .i64) (.cons (.int .i64) (.cons .str (.cons .bool (.sl (.cons (.int .i64) (.int .i64)))))))) (.cons .bool (.cons (.int .i64) (.cons (.int .i64) (.cons .str (.cons .bool (.sl (.cons (.int .i64) (.int .i64)))))))))))))), .boxr 24 (.cons .str (.cons (.int .i64) (.cons (.int .i64) (.sl (.cons .str (.cons (.sl (.cons (.int .i64) (.cons (.int .i64) (.cons .str (.cons .bool (.sl (.cons (.int .i64) (.int .i64)))))))) (.cons .bool (.cons (.int .i64) (.cons (.int .i64) (.cons .str (.cons .bool (.sl (.cons (.int .i64) (.int .i64)))))))))))))), .boxr 46 (.cons .str (.cons (.sl (.cons (.int .i64) (.cons (.int .i64) (.cons .str (.cons .bool (.sl (.cons (.int .i64) (.int .i64)))))))) (.cons .bool (.cons (.int .i64) (.cons (.int .i64) (.cons .str (.cons .bool (.sl (.cons (.int .i64) (.int .i64)))))))))), .boxr 46 (.cons .str (.cons (.sl (.cons (.int .i64) (.cons (.int .i64) (.cons .str (.cons .bool (.sl (.cons (.int .i64) (.int .i64)))))))) (.cons .bool (.cons (.int .i64) (.cons (.int .i64) (.cons .str (.cons .bool (.sl (.cons (.int .i64) (.int .i64))))))))))]⟩
def ref34_Same_D : FD := ⟨T, lookC [(15, fc15)], [], (Tryd.f20.body.getD .skip), Tryd.f20.results.toList, ⟨[.row (.cons .str (.cons (.int .i64) (.cons (.int .i64) (.sl (.cons .str (.cons (.sl (.cons (.int .i64) (.cons (.int .i64) (.cons .str (.cons .bool (.sl (.cons (.int .i64) (.int .i64)))))))) (.cons .bool (.cons (.int .i64) (.cons (.int .i64) (.cons .str (.cons .bool (.sl (.cons (.int .i64) (.int .i64)))))))))))))), .row (.cons .str (.cons (.int .i64) (.cons (.int .i64) (.sl (.cons .str (.cons (.sl (.cons (.int .i64) (.cons (.int .i64) (.cons .str (.cons .bool (.sl (.cons (.int .i64) (.int .i64)))))))) (.cons .bool (.cons (.int .i64) (.cons (.int .i64) (.cons .str (.cons .bool (.sl (.cons (.int .i64) (.int .i64))))))))))))))], []⟩, ⟨[.one .bool], []⟩, [(6, ref34_Same_F6), (15, ref34_Same_F15)]⟩
def ref34_Same_l6 (k0 : Int) (h0 : TDecl) (h1 : TDecl) : (Option ((Bool × Unit) × Unit)) := ref34_Same_D.lab 6 ref34_Same_F6 (((), (), k0, ()), (h0, h1, ()))
def ref34_Same_l15 (k0 : Int) (i : Int) (h0 : TDecl) (h1 : TDecl) (h2 : TDeclState) (h3 : TDeclState) : (Option ((Bool × Unit) × Unit)) := ref34_Same_D.lab 15 ref34_Same_F15 (((), (), k0, (), (), i, ()), (h0, h1, h2, h3, ()))
theorem ref34_Same_l6_eq (k0 : Int) (h0 : TDecl) (h1 : TDecl) : ref34_Same_l6 k0 h0 h1 =
  if (decide (k0 < (h0.2.2.2.length : Int))) = true then
    if 0 ≤ k0 ∧ k0 < (h0.2.2.2.length : Int) then
      if 0 ≤ k0 ∧ k0 < (h1.2.2.2.length : Int) then
        if (!((h0.2.2.2.getD k0.toNat dDeclState).1.toList == (h1.2.2.2.getD k0.toNat dDeclState).1.toList)) = true then
          some ((false, ()), ())
        else
          if (!((h0.2.2.2.getD k0.toNat dDeclState).2.2.1 == (h1.2.2.2.getD k0.toNat dDeclState).2.2.1)) = true then
            some ((false, ()), ())
          else
            (ref34_SameRule (h0.2.2.2.getD k0.toNat dDeclState).2.2.2 (h1.2.2.2.getD k0.toNat dDeclState).2.2.2).bind fun y1 =>
              if (!y1.1.1) = true then
                some ((false, ()), ())
              else
                if (((h0.2.2.2.getD k0.toNat dDeclState).2.1.length : Int) != ((h1.2.2.2.getD k0.toNat dDeclState).2.1.length : Int)) = true then
                  some ((false, ()), ())
                else
                  ref34_Same_l15 k0 0 h0 h1 (h0.2.2.2.getD k0.toNat dDeclState) (h1.2.2.2.getD k0.toNat dDeclState)
      else
        none
    else
      none
  else
    some ((true, ()), ()) := (FD.lab_eq _ _ _ _).trans (by kernel_rfl)
theorem ref34_Same_l15_eq (k0 : Int) (i : Int) (h0 : TDecl) (h1 : TDecl) (h2 : TDeclState) (h3 : TDeclState) : ref34_Same_l15 k0 i h0 h1 h2 h3 =
  if (decide (i < (h2.2.1.length : Int))) = true then
    if 0 ≤ i ∧ i < (h2.2.1.length : Int) then
      if 0 ≤ i ∧ i < (h3.2.1.length : Int) then
        (ref34_SameRule (h2.2.1.getD i.toNat dRule) (h3.2.1.getD i.toNat dRule)).bind fun y1 =>
          if (!y1.1.1) = true then
            some ((false, ()), ())
          else
            ref34_Same_l15 k0 (IntKind.i64.wrap (i + 1)) h0 h1 h2 h3
      else
        none
    else
      none
  else
    ref34_Same_l6 (IntKind.i64.wrap (k0 + 1)) h0 h1 := (FD.lab_eq _ _ _ _).trans (by kernel_rfl)
def ref34_Same (a : TDecl) (b : TDecl) : (Option ((Bool × Unit) × Unit)) :=
  if (!(a.1.toList == b.1.toList)) = true then
    some ((false, ()), ())
  else
    if (a.2.1 != b.2.1) = true then
      some ((false, ()), ())
    else
      if (a.2.2.1 != b.2.2.1) = true then
        some ((false, ()), ())
      else
        if ((a.2.2.2.length : Int) != (b.2.2.2.length : Int)) = true then
          some ((false, ()), ())
        else
          ref34_Same_l6 0 a b
def fc20 : FC := ⟨⟨[.row (.cons .str (.cons (.int .i64) (.cons (.int .i64) (.sl (.cons .str (.cons (.sl (.cons (.int .i64) (.cons (.int .i64) (.cons .str (.cons .bool (.sl (.cons (.int .i64) (.int .i64)))))))) (.cons .bool (.cons (.int .i64) (.cons (.int .i64) (.cons .str (.cons .bool (.sl (.cons (.int .i64) (.int .i64)))))))))))))), .row (.cons .str (.cons (.int .i64) (.cons (.int .i64) (.sl (.cons .str (.cons (.sl (.cons (.int .i64) (.cons (.int .i64) (.cons .str (.cons .bool (.sl (.cons (.int .i64) (.int .i64)))))))) (.cons .bool (.cons (.int .i64) (.cons (.int .i64) (.cons .str (.cons .bool (.sl (.cons (.int .i64) (.int .i64))))))))))))))], []⟩, ⟨[.one .bool], []⟩, fun x => ref34_Same x.1.1 x.1.2.1⟩
theorem con20 : Contract Tryd.prog 20 fc20 :=
  ref34_Same_D.contract tok (cok_of (l := [(15, fc15)]) ⟨con15, trivial⟩) mixed (fn' := Tryd.f20) (by kernel_rfl) (by kernel_rfl) rfl (by kernel_rfl) (fun x => (FD.fn_eq _ _).trans (by kernel_rfl))
end
end Go.Proofs.YtjgjbdnjjepibaaDoor
end

section
/-
YtjgjbdnjjepibaaDoor: signalbench.signalbenchlaw34.short, as one plain function, its equations, its contract. No condition.
-/
set_option maxRecDepth 100000
set_option linter.unusedVariables false
set_option maxHeartbeats 4000000
open Go Go.AM
namespace Go.Proofs.YtjgjbdnjjepibaaDoor
noncomputable section
def law34_short_D : FD := ⟨T, lookC [(12, fc12)], [], (Tryd.f21.body.getD .skip), Tryd.f21.results.toList, ⟨[.row (.cons (.int .i64) (.cons (.int .i64) (.cons .str (.cons .bool (.sl (.cons (.int .i64) (.int .i64)))))))], []⟩, ⟨[.one .bool], []⟩, []⟩
def law34_short (r : TRule) : (Option ((Bool × Unit) × Unit)) :=
  (law34_named r.2.2.1).bind fun y1 =>
    if y1.1.1 = true then
      some ((decide ((r.2.2.2.2.length : Int) ≤ 10), ()), ())
    else
      some ((false, ()), ())
def fc21 : FC := ⟨⟨[.row (.cons (.int .i64) (.cons (.int .i64) (.cons .str (.cons .bool (.sl (.cons (.int .i64) (.int .i64)))))))], []⟩, ⟨[.one .bool], []⟩, fun x => law34_short x.1.1⟩
theorem con21 : Contract Tryd.prog 21 fc21 :=
  law34_short_D.contract tok (cok_of (l := [(12, fc12)]) ⟨con12, trivial⟩) mixed (fn' := Tryd.f21) (by kernel_rfl) (by kernel_rfl) rfl (by kernel_rfl) (fun x => (FD.fn_eq _ _).trans (by kernel_rfl))
end
end Go.Proofs.YtjgjbdnjjepibaaDoor
end

section
/-
YtjgjbdnjjepibaaDoor: signalbench.signalbenchlaw34.lines, as one plain function, its equations, its contract. No condition.
-/
set_option maxRecDepth 100000
set_option linter.unusedVariables false
set_option maxHeartbeats 4000000
open Go Go.AM
namespace Go.Proofs.YtjgjbdnjjepibaaDoor
noncomputable section
def law34_lines_D : FD := ⟨T, lookC [], [], (Tryd.f22.body.getD .skip), Tryd.f22.results.toList, ⟨[], []⟩, ⟨[.row (.cons .str (.cons (.int .i64) (.cons (.int .i64) (.sl (.cons .str (.cons (.sl (.cons (.int .i64) (.cons (.int .i64) (.cons .str (.cons .bool (.sl (.cons (.int .i64) (.int .i64)))))))) (.cons .bool (.cons (.int .i64) (.cons (.int .i64) (.cons .str (.cons .bool (.sl (.cons (.int .i64) (.int .i64))))))))))))))], []⟩, []⟩
def law34_lines : (Option ((TDecl × Unit) × Unit)) :=
  some ((((strB [108, 105, 110, 101, 115]), 3, 6, [((strB [97]), [(10, 10, (strB [97]), false, [(5, 0)])], true, 0, 0, (strB [97]), false, [(2, 0)])]), ()), ())
def fc22 : FC := ⟨⟨[], []⟩, ⟨[.row (.cons .str (.cons (.int .i64) (.cons (.int .i64) (.sl (.cons .str (.cons (.sl (.cons (.int .i64) (.cons (.int .i64) (.cons .str (.cons .bool (.sl (.cons (.int .i64) (.int .i64)))))))) (.cons .bool (.cons (.int .i64) (.cons (.int .i64) (.cons .str (.cons .bool (.sl (.cons (.int .i64) (.int .i64))))))))))))))], []⟩, fun x => law34_lines⟩
theorem con22 : Contract Tryd.prog 22 fc22 :=
  law34_lines_D.contract tok (cok_of (l := []) trivial) mixed (fn' := Tryd.f22) (by kernel_rfl) (by kernel_rfl) rfl (by kernel_rfl) (fun x => (FD.fn_eq _ _).trans (by kernel_rfl))
end
end Go.Proofs.YtjgjbdnjjepibaaDoor
end

section
/-
YtjgjbdnjjepibaaDoor: signalbench.signalbenchlaw34.small, as one plain function, its equations, its contract. No condition.
-/
set_option maxRecDepth 100000
set_option linter.unusedVariables false
set_option maxHeartbeats 4000000
open Go Go.AM
namespace Go.Proofs.YtjgjbdnjjepibaaDoor
noncomputable section
def law34_small_F7 : FSh := ⟨[(1, .one (.ptr 0 0)), (3, .one (.int .i64)), (4, .one (.int .i64))], [.boxr 24 (.cons .str (.cons (.int .i64) (.cons (.int .i64) (.sl (.cons .str (.cons (.sl (.cons (.int .i64) (.cons (.int .i64) (.cons .str (.cons .bool (.sl (.cons (.int .i64) (.int .i64)))))))) (.cons .bool (.cons (.int .i64) (.cons (.int .i64) (.cons .str (.cons .bool (.sl (.cons (.int .i64) (.int .i64))))))))))))))]⟩
def law34_small_F17 : FSh := ⟨[(1, .one (.ptr 0 0)), (3, .one (.int .i64)), (4, .one (.int .i64)), (5, .one (.ptr 1 0)), (6, .one (.int .i64))], [.boxr 24 (.cons .str (.cons (.int .i64) (.cons (.int .i64) (.sl (.cons .str (.cons (.sl (.cons (.int .i64) (.cons (.int .i64) (.cons .str (.cons .bool (.sl (.cons (.int .i64) (.int .i64)))))))) (.cons .bool (.cons (.int .i64) (.cons (.int .i64) (.cons .str (.cons .bool (.sl (.cons (.int .i64) (.int .i64)))))))))))))), .boxr 46 (.cons .str (.cons (.sl (.cons (.int .i64) (.cons (.int .i64) (.cons .str (.cons .bool (.sl (.cons (.int .i64) (.int .i64)))))))) (.cons .bool (.cons (.int .i64) (.cons (.int .i64) (.cons .str (.cons .bool (.sl (.cons (.int .i64) (.int .i64))))))))))]⟩
def law34_small_D : FD := ⟨T, lookC [(12, fc12), (21, fc21)], [], (Tryd.f8.body.getD .skip), Tryd.f8.results.toList, ⟨[.row (.cons .str (.cons (.int .i64) (.cons (.int .i64) (.sl (.cons .str (.cons (.sl (.cons (.int .i64) (.cons (.int .i64) (.cons .str (.cons .bool (.sl (.cons (.int .i64) (.int .i64)))))))) (.cons .bool (.cons (.int .i64) (.cons (.int .i64) (.cons .str (.cons .bool (.sl (.cons (.int .i64) (.int .i64))))))))))))))], []⟩, ⟨[.one .bool], []⟩, [(7, law34_small_F7), (17, law34_small_F17)]⟩
def law34_small_l7 (n : Int) (k0 : Int) (h0 : TDecl) : (Option ((Bool × Unit) × Unit)) := law34_small_D.lab 7 law34_small_F7 (((), n, k0, ()), (h0, ()))
def law34_small_l17 (n : Int) (k0 : Int) (i : Int) (h0 : TDecl) (h1 : TDeclState) : (Option ((Bool × Unit) × Unit)) := law34_small_D.lab 17 law34_small_F17 (((), n, k0, (), i, ()), (h0, h1, ()))
theorem law34_small_l7_eq (n : Int) (k0 : Int) (h0 : TDecl) : law34_small_l7 n k0 h0 =
  if (decide (k0 < (h0.2.2.2.length : Int))) = true then
    if 0 ≤ k0 ∧ k0 < (h0.2.2.2.length : Int) then
      if (decide ((IntKind.i64.wrap (n + ((h0.2.2.2.getD k0.toNat dDeclState).2.1.length : Int))) > 67)) = true then
        some ((false, ()), ())
      else
        (law34_named (h0.2.2.2.getD k0.toNat dDeclState).1).bind fun y1 =>
          if (!y1.1.1) = true then
            some ((false, ()), ())
          else
            (law34_short (h0.2.2.2.getD k0.toNat dDeclState).2.2.2).bind fun y2 =>
              if (!y2.1.1) = true then
                some ((false, ()), ())
              else
                law34_small_l17 (IntKind.i64.wrap (n + ((h0.2.2.2.getD k0.toNat dDeclState).2.1.length : Int))) k0 0 h0 (h0.2.2.2.getD k0.toNat dDeclState)
    else
      none
  else
    some ((true, ()), ()) := (FD.lab_eq _ _ _ _).trans (by kernel_rfl)
theorem law34_small_l17_eq (n : Int) (k0 : Int) (i : Int) (h0 : TDecl) (h1 : TDeclState) : law34_small_l17 n k0 i h0 h1 =
  if (decide (i < (h1.2.1.length : Int))) = true then
    if 0 ≤ i ∧ i < (h1.2.1.length : Int) then
      (law34_short (h1.2.1.getD i.toNat dRule)).bind fun y1 =>
        if (!y1.1.1) = true then
          some ((false, ()), ())
        else
          law34_small_l17 n k0 (IntKind.i64.wrap (i + 1)) h0 h1
    else
      none
  else
    law34_small_l7 n (IntKind.i64.wrap (k0 + 1)) h0 := (FD.lab_eq _ _ _ _).trans (by kernel_rfl)
def law34_small (d : TDecl) : (Option ((Bool × Unit) × Unit)) :=
  (law34_named d.1).bind fun y1 =>
    if (!y1.1.1) = true then
      some ((false, ()), ())
    else
      if (decide ((d.2.2.2.length : Int) > 34)) = true then
        some ((false, ()), ())
      else
        law34_small_l7 0 0 d
def fc8 : FC := ⟨⟨[.row (.cons .str (.cons (.int .i64) (.cons (.int .i64) (.sl (.cons .str (.cons (.sl (.cons (.int .i64) (.cons (.int .i64) (.cons .str (.cons .bool (.sl (.cons (.int .i64) (.int .i64)))))))) (.cons .bool (.cons (.int .i64) (.cons (.int .i64) (.cons .str (.cons .bool (.sl (.cons (.int .i64) (.int .i64))))))))))))))], []⟩, ⟨[.one .bool], []⟩, fun x => law34_small x.1.1⟩
theorem con8 : Contract Tryd.prog 8 fc8 :=
  law34_small_D.contract tok (cok_of (l := [(12, fc12), (21, fc21)]) ⟨con12, con21, trivial⟩) mixed (fn' := Tryd.f8) (by kernel_rfl) (by kernel_rfl) rfl (by kernel_rfl) (fun x => (FD.fn_eq _ _).trans (by kernel_rfl))
end
end Go.Proofs.YtjgjbdnjjepibaaDoor
end

section
/-
YtjgjbdnjjepibaaDoor: signalbench.signalbenchlaw34.awake, as one plain function, its equations, its contract. No condition.
-/
set_option maxRecDepth 100000
set_option linter.unusedVariables false
set_option maxHeartbeats 4000000
open Go Go.AM
namespace Go.Proofs.YtjgjbdnjjepibaaDoor
noncomputable section
def law34_awake_D : FD := ⟨T, lookC [(10, fc10), (13, fc13), (16, fc16), (18, fc18), (19, fc19), (20, fc20), (22, fc22)], [], (Tryd.f9.body.getD .skip), Tryd.f9.results.toList, ⟨[], []⟩, ⟨[.one .bool], []⟩, []⟩
def law34_awake : (Option ((Bool × Unit) × Unit)) :=
  (law34_lines).bind fun y1 =>
    (decl_Print y1.1.1).bind fun y2 =>
      (decl_Parse y2.1.1).bind fun y3 =>
        (decl_Parse (strB [100, 101, 99, 111, 100, 101, 114, 32, 120])).bind fun y4 =>
          (decl_Match y1.1.1 0 10).bind fun y5 =>
            if (y2.1.2.1 != 0) = true then
              some ((false, ()), ())
            else
              if (y3.1.2.2.1 != 0) = true then
                some ((false, ()), ())
              else
                if (y4.1.2.2.1 != 4) = true then
                  some ((false, ()), ())
                else
                  if (y4.1.2.1 != 1) = true then
                    some ((false, ()), ())
                  else
                    if (y3.1.2.1 != 0) = true then
                      some ((false, ()), ())
                    else
                      if (!y5.1.2.1) = true then
                        some ((false, ()), ())
                      else
                        (decl_Check y1.1.1).bind fun y6 =>
                          if (y6.1.1 != 0) = true then
                            some ((false, ()), ())
                          else
                            (decl_Find y1.1.1 (strB [98])).bind fun y7 =>
                              if (y7.1.1 != (-1)) = true then
                                some ((false, ()), ())
                              else
                                if (y2.1.1.toList == (strB [100, 101, 99, 111, 100, 101, 114, 32, 108, 105, 110, 101, 115, 32, 105, 110, 112, 117, 116, 32, 98, 121, 116, 101, 32, 111, 117, 116, 112, 117, 116, 32, 112, 97, 99, 107, 101, 116, 32, 123, 32, 115, 116, 97, 116, 101, 32, 97, 32, 123, 32, 49, 48, 32, 62, 32, 97, 32, 58, 32, 101, 109, 105, 116, 32, 48, 32, 59, 32, 42, 32, 62, 32, 97, 32, 58, 32, 112, 117, 115, 104, 32, 59, 32, 125, 32, 125]).toList) = true then
                                  (ref34_Same y3.1.1 y1.1.1).bind fun y8 =>
                                    if y8.1.1 = true then
                                      if ((y5.1.1.2.2.2.2.length : Int) == 1) = true then
                                        some ((y5.1.1.1 == 10, ()), ())
                                      else
                                        some ((false, ()), ())
                                    else
                                      some ((false, ()), ())
                                else
                                  some ((false, ()), ())
def fc9 : FC := ⟨⟨[], []⟩, ⟨[.one .bool], []⟩, fun x => law34_awake⟩
theorem con9 : Contract Tryd.prog 9 fc9 :=
  law34_awake_D.contract tok (cok_of (l := [(10, fc10), (13, fc13), (16, fc16), (18, fc18), (19, fc19), (20, fc20), (22, fc22)]) ⟨con10, con13, con16, con18, con19, con20, con22, trivial⟩) mixed (fn' := Tryd.f9) (by kernel_rfl) (by kernel_rfl) rfl (by kernel_rfl) (fun x => (FD.fn_eq _ _).trans (by kernel_rfl))
end
end Go.Proofs.YtjgjbdnjjepibaaDoor
end

section
/-
YtjgjbdnjjepibaaDoor: signalbench.signalbenchlaw34.DeclChecks, as one plain function, its equations, its contract. No condition.
-/
set_option maxRecDepth 100000
set_option linter.unusedVariables false
set_option maxHeartbeats 4000000
open Go Go.AM
namespace Go.Proofs.YtjgjbdnjjepibaaDoor
noncomputable section
def law34_DeclChecks_D : FD := ⟨T, lookC [(8, fc8), (9, fc9), (10, fc10), (11, fc11)], [], (Tryd.f3.body.getD .skip), Tryd.f3.results.toList, ⟨[.row (.cons .str (.cons (.int .i64) (.cons (.int .i64) (.sl (.cons .str (.cons (.sl (.cons (.int .i64) (.cons (.int .i64) (.cons .str (.cons .bool (.sl (.cons (.int .i64) (.int .i64)))))))) (.cons .bool (.cons (.int .i64) (.cons (.int .i64) (.cons .str (.cons .bool (.sl (.cons (.int .i64) (.int .i64))))))))))))))], []⟩, ⟨[.one .bool], []⟩, []⟩
def law34_DeclChecks (d : TDecl) : (Option ((Bool × Unit) × Unit)) :=
  (law34_small d).bind fun y1 =>
    if (!y1.1.1) = true then
      (law34_awake).bind fun y2 =>
        if y2.1.1 = true then
          some ((true, ()), ())
        else
          (decl_Check d).bind fun y3 =>
            (ref34_Check d).bind fun y4 =>
              if (y3.1.1 == y4.1.1) = true then
                (law34_awake).bind fun y5 =>
                  some ((y5.1.1, ()), ())
              else
                some ((false, ()), ())
    else
      (decl_Check d).bind fun y6 =>
        (ref34_Check d).bind fun y7 =>
          if (y6.1.1 == y7.1.1) = true then
            (law34_awake).bind fun y8 =>
              some ((y8.1.1, ()), ())
          else
            some ((false, ()), ())
def fc3 : FC := ⟨⟨[.row (.cons .str (.cons (.int .i64) (.cons (.int .i64) (.sl (.cons .str (.cons (.sl (.cons (.int .i64) (.cons (.int .i64) (.cons .str (.cons .bool (.sl (.cons (.int .i64) (.int .i64)))))))) (.cons .bool (.cons (.int .i64) (.cons (.int .i64) (.cons .str (.cons .bool (.sl (.cons (.int .i64) (.int .i64))))))))))))))], []⟩, ⟨[.one .bool], []⟩, fun x => law34_DeclChecks x.1.1⟩
theorem con3 : Contract Tryd.prog 3 fc3 :=
  law34_DeclChecks_D.contract tok (cok_of (l := [(8, fc8), (9, fc9), (10, fc10), (11, fc11)]) ⟨con8, con9, con10, con11, trivial⟩) mixed (fn' := Tryd.f3) (by kernel_rfl) (by kernel_rfl) rfl (by kernel_rfl) (fun x => (FD.fn_eq _ _).trans (by kernel_rfl))
end
end Go.Proofs.YtjgjbdnjjepibaaDoor
end
