/-
The plain functions of the program that the law TrigParses reaches, that the program computes them, and what they come to. No condition.
-/
import Derived.Test.YtgpgpelaabdkhaaGreatDoorRows
import Derived.Test.YtgpgpelaabdkhaaGreatDoorChecked
import Derived.Lib.ItoaNum
import Derived.Lib.LaidTab
import Derived.Shelf.Strings.Builder1
import Derived.Shelf.Small.Strs
import Derived.Shelf.Strings.BuilderF
import Derived.Shelf.Strings.BuilderK
import Derived.Shelf.Strconv.Itoa0
import Derived.Shelf.Strconv.Itoa1
import Derived.Shelf.LaysM
import Derived.Shelf.Strconv.Itoa2
import Derived.Shelf.Strconv.Itoa3
import Derived.Shelf.Strings.Search1
import Derived.Shelf.Strings.BuilderCap
import Derived.Test.YtgpgpelaabdkhaaGreatDoorProg
import Derived.Lib.Builder
import Derived.Lib.UnsafeStr
import Derived.Lib.Walk
import Derived.WalkKit
import Derived.Laws.Externs
import Derived.Test.YtgpgpelaabdkhaaGreatDoorAm1
import Derived.Test.YtgpgpelaabdkhaaGreatDoorAm2
import Derived.Test.YtgpgpelaabdkhaaGreatDoorAm3
set_option linter.unusedVariables false
set_option linter.unusedSimpArgs false
set_option linter.unusedSectionVars false

section
/-
YtgpgpelaabdkhaaGreatDoor: the given measure of what is read is the machine's. No condition.
-/
namespace Go.Proofs.YtgpgpelaabdkhaaGreatDoor
open Go

mutual
theorem bulk_eq {H : Type} : ∀ d : DataW H, Rows.uptoBulk d = AM.bulkW d
  | .lit (.string _) => by simp [Rows.uptoBulk, AM.bulkW]
  | .lit (.bool _) => by simp [Rows.uptoBulk, AM.bulkW]
  | .lit (.int _ _) => by simp [Rows.uptoBulk, AM.bulkW]
  | .lit (.float _ _) => by simp [Rows.uptoBulk, AM.bulkW]
  | .lit .nil => by simp [Rows.uptoBulk, AM.bulkW]
  | .nil => by simp [Rows.uptoBulk, AM.bulkW]
  | .ptr d => by simp [Rows.uptoBulk, AM.bulkW, bulk_eq d]
  | .slice a b => by simp [Rows.uptoBulk, AM.bulkW, bulkAll_eq a, bulkAll_eq b]
  | .agg a => by simp [Rows.uptoBulk, AM.bulkW, bulkAll_eq a]
  | .iface _ d => by simp [Rows.uptoBulk, AM.bulkW, bulk_eq d]
  | .map es => by simp [Rows.uptoBulk, AM.bulkW, bulkEntries_eq es]
  | .held _ => by simp [Rows.uptoBulk, AM.bulkW]
theorem bulkAll_eq {H : Type} : ∀ l : List (DataW H), Rows.uptoBulkAll l = AM.bulkAll l
  | [] => by simp [Rows.uptoBulkAll, AM.bulkAll]
  | d :: r => by simp [Rows.uptoBulkAll, AM.bulkAll, bulk_eq d, bulkAll_eq r]
theorem bulkEntries_eq {H : Type} : ∀ l : List (Lit × DataW H), Rows.uptoBulkEntries l = AM.bulkEntries l
  | [] => by simp [Rows.uptoBulkEntries, AM.bulkEntries]
  | x :: r => by simp [Rows.uptoBulkEntries, AM.bulkEntries, bulkEntry_eq x, bulkEntries_eq r]
theorem bulkEntry_eq {H : Type} : ∀ x : Lit × DataW H, Rows.uptoBulkEntry x = AM.bulkEntry x
  | (.string _, d) => by simp [Rows.uptoBulkEntry, AM.bulkEntry, bulk_eq d]
  | (.bool _, d) => by simp [Rows.uptoBulkEntry, AM.bulkEntry, bulk_eq d]
  | (.int _ _, d) => by simp [Rows.uptoBulkEntry, AM.bulkEntry, bulk_eq d]
  | (.float _ _, d) => by simp [Rows.uptoBulkEntry, AM.bulkEntry, bulk_eq d]
  | (.nil, d) => by simp [Rows.uptoBulkEntry, AM.bulkEntry, bulk_eq d]
end

theorem bulk_bound {H : Type} {l : List (DataW H)} (hk : Rows.uptoSmall H l = true) : AM.bulkAll l ≤ 1048576 := by
  rw [← bulkAll_eq]
  exact of_decide_eq_true hk

theorem own : ownKnob Tryz.prog.godebug = none := by kernel_rfl
theorem laidOut : laidOutB Tryz.prog = true := by kernel_rfl

end Go.Proofs.YtgpgpelaabdkhaaGreatDoor
end

section
/-
YtgpgpelaabdkhaaGreatDoor: the library's table that the row lists, as every state holds it. No condition.
-/
open Go Go.AM
namespace Go.Proofs.YtgpgpelaabdkhaaGreatDoor
noncomputable section
def powCells : Array Value := (Lib.pow10Tab.map fun z => Value.int .u64 z).toArray
instance zoneI : Inhabited ZMem := ⟨fun b => if b = 1 then some powCells else none⟩

theorem zone_pow : Zone 1 = some powCells := rfl

theorem zone_tab {w : World} (h : HoldsB w 1 powCells) : Lib.TabIs Tryz.prog w "internal/strconv.uint64pow10" .u64 Lib.pow10Tab := by
  obtain ⟨t, fr, h⟩ := h
  unfold Lib.TabIs World.var?
  rw [show Tryz.prog.globalNamed "internal/strconv.uint64pow10" = some 1 by kernel_rfl]
  simp only [Option.bind_some]
  rw [h]
  rfl

theorem zone_met {w : World} (h : Lib.TabIs Tryz.prog w "internal/strconv.uint64pow10" .u64 Lib.pow10Tab) : ∀ (b : Nat) (o : Array Value), Zone b = some o → HoldsB w b o := by
  intro b o hz
  have hz' : (if b = 1 then some powCells else none) = some o := hz
  split at hz'
  · rename_i e
    subst e
    cases hz'
    unfold Lib.TabIs World.var? at h
    rw [show Tryz.prog.globalNamed "internal/strconv.uint64pow10" = some 1 by kernel_rfl] at h
    simp only [Option.bind_some] at h
    split at h
    · rename_i cs t fr hq
      cases h
      exact ⟨t, fr, hq⟩
    · cases h
  · cases hz'
end
end Go.Proofs.YtgpgpelaabdkhaaGreatDoor
end

section
/-
YtgpgpelaabdkhaaGreatDoor: the types that the functions use. No condition.
-/
set_option maxRecDepth 100000
open Go Go.AM
namespace Go.Proofs.YtgpgpelaabdkhaaGreatDoor
noncomputable section
abbrev TAct : Type := Int × Int
abbrev uAct : U := (.cons (.int .i64) (.int .i64))
def dAct : TAct := (0, 0)
abbrev TCond : Type := ByteArray × Int × Int × TAct
abbrev uCond : U := (.cons .str (.cons (.int .i64) (.cons (.int .i64) (.cons (.int .i64) (.int .i64)))))
def dCond : TCond := ((strB []), (0, (0, dAct)))
abbrev TTrigStep : Type := TCond × Int × Int × Bool × TCond
abbrev uTrigStep : U := (.cons (.cons .str (.cons (.int .i64) (.cons (.int .i64) (.cons (.int .i64) (.int .i64))))) (.cons (.int .i64) (.cons (.int .i64) (.cons .bool (.cons .str (.cons (.int .i64) (.cons (.int .i64) (.cons (.int .i64) (.int .i64)))))))))
def dTrigStep : TTrigStep := (dCond, (0, (0, (false, dCond))))
abbrev TTrigger : Type := ByteArray × (List TTrigStep)
abbrev uTrigger : U := (.cons .str (.sl (.cons (.cons .str (.cons (.int .i64) (.cons (.int .i64) (.cons (.int .i64) (.int .i64))))) (.cons (.int .i64) (.cons (.int .i64) (.cons .bool (.cons .str (.cons (.int .i64) (.cons (.int .i64) (.cons (.int .i64) (.int .i64)))))))))))
def dTrigger : TTrigger := ((strB []), [])
abbrev TParam : Type := ByteArray × Int
abbrev uParam : U := (.cons .str (.int .i64))
def dParam : TParam := ((strB []), 0)
abbrev TNode : Type := ByteArray × ByteArray × (List ByteArray) × (List TParam)
abbrev uNode : U := (.cons .str (.cons .str (.cons (.sl .str) (.sl (.cons .str (.int .i64))))))
def dNode : TNode := ((strB []), ((strB []), ([], [])))
abbrev TRule : Type := Int × Int × ByteArray × Bool × (List TAct)
abbrev uRule : U := (.cons (.int .i64) (.cons (.int .i64) (.cons .str (.cons .bool (.sl (.cons (.int .i64) (.int .i64)))))))
def dRule : TRule := (0, (0, ((strB []), (false, []))))
abbrev TDeclState : Type := ByteArray × (List TRule) × Bool × TRule
abbrev uDeclState : U := (.cons .str (.cons (.sl (.cons (.int .i64) (.cons (.int .i64) (.cons .str (.cons .bool (.sl (.cons (.int .i64) (.int .i64)))))))) (.cons .bool (.cons (.int .i64) (.cons (.int .i64) (.cons .str (.cons .bool (.sl (.cons (.int .i64) (.int .i64))))))))))
def dDeclState : TDeclState := ((strB []), ([], (false, dRule)))
abbrev TDecl : Type := ByteArray × Int × Int × (List TDeclState)
abbrev uDecl : U := (.cons .str (.cons (.int .i64) (.cons (.int .i64) (.sl (.cons .str (.cons (.sl (.cons (.int .i64) (.cons (.int .i64) (.cons .str (.cons .bool (.sl (.cons (.int .i64) (.int .i64)))))))) (.cons .bool (.cons (.int .i64) (.cons (.int .i64) (.cons .str (.cons .bool (.sl (.cons (.int .i64) (.int .i64))))))))))))))
def dDecl : TDecl := ((strB []), (0, (0, [])))
abbrev TStack : Type := (List TDecl) × (List TNode)
abbrev uStack : U := (.cons (.sl (.cons .str (.cons (.int .i64) (.cons (.int .i64) (.sl (.cons .str (.cons (.sl (.cons (.int .i64) (.cons (.int .i64) (.cons .str (.cons .bool (.sl (.cons (.int .i64) (.int .i64)))))))) (.cons .bool (.cons (.int .i64) (.cons (.int .i64) (.cons .str (.cons .bool (.sl (.cons (.int .i64) (.int .i64))))))))))))))) (.sl (.cons .str (.cons .str (.cons (.sl .str) (.sl (.cons .str (.int .i64))))))))
def dStack : TStack := ([], [])
abbrev TEvent : Type := Int × Int × Int × Int × Int × TParam
abbrev uEvent : U := (.cons (.int .i64) (.cons (.int .i64) (.cons (.int .i64) (.cons (.int .i64) (.cons (.int .i64) (.cons .str (.int .i64)))))))
def dEvent : TEvent := (0, (0, (0, (0, (0, dParam)))))
abbrev TOut : Type := Int × Int × TEvent
abbrev uOut : U := (.cons (.int .i64) (.cons (.int .i64) (.cons (.int .i64) (.cons (.int .i64) (.cons (.int .i64) (.cons (.int .i64) (.cons (.int .i64) (.cons .str (.int .i64)))))))))
def dOut : TOut := (0, (0, dEvent))
abbrev TToken : Type := Int × ByteArray × TAct
abbrev uToken : U := (.cons (.int .i64) (.cons .str (.cons (.int .i64) (.int .i64))))
def dToken : TToken := (0, ((strB []), dAct))
abbrev Treader : Type := (List TToken) × Int × Bool
abbrev ureader : U := (.cons (.sl (.cons (.int .i64) (.cons .str (.cons (.int .i64) (.int .i64))))) (.cons (.int .i64) .bool))
def dreader : Treader := ([], (0, false))
def TL : List (Nat × TD) := [
  (3, ⟨.int .i64, 1, 8, [.val (.int .i64 0)], some (.int .i64), false, []⟩),
  (4, ⟨.bool, 1, 1, [.val (.bool false)], some .bool, false, []⟩),
  (5, ⟨.int .u8, 1, 1, [.val (.int .u8 0)], some (.int .u8), false, []⟩),
  (9, ⟨.string, 1, 16, [.val (.string ⟨#[]⟩)], some .str, false, []⟩),
  (20, ⟨(Tryz.t20.desc), 1, 16, [.val (.nilIface)], some .any, false, []⟩),
  (21, ⟨.int .i32, 1, 4, [.val (.int .i32 0)], some (.int .i32), false, []⟩),
  (22, ⟨.slice 37, 1, 24, [.val (.slice none 0 0)], some (.sl (.cons (.cons .str (.cons (.int .i64) (.cons (.int .i64) (.cons (.int .i64) (.int .i64))))) (.cons (.int .i64) (.cons (.int .i64) (.cons .bool (.cons .str (.cons (.int .i64) (.cons (.int .i64) (.cons (.int .i64) (.int .i64)))))))))), false, []⟩),
  (24, ⟨(Tryz.t23.desc), 2, 40, [.val (.string ⟨#[]⟩), .val (.slice none 0 0)], some (.cons .str (.sl (.cons (.cons .str (.cons (.int .i64) (.cons (.int .i64) (.cons (.int .i64) (.int .i64))))) (.cons (.int .i64) (.cons (.int .i64) (.cons .bool (.cons .str (.cons (.int .i64) (.cons (.int .i64) (.cons (.int .i64) (.int .i64))))))))))), false, [(0, 1), (1, 1)]⟩),
  (27, ⟨.int .i64, 1, 8, [.val (.int .i64 0)], some (.int .i64), false, []⟩),
  (35, ⟨(Tryz.t34.desc), 5, 48, [.val (.string ⟨#[]⟩), .val (.int .i64 0), .val (.int .i64 0), .val (.int .i64 0), .val (.int .i64 0)], some (.cons .str (.cons (.int .i64) (.cons (.int .i64) (.cons (.int .i64) (.int .i64))))), true, [(0, 1), (1, 1), (2, 1), (3, 1), (4, 1)]⟩),
  (37, ⟨(Tryz.t36.desc), 13, 120, [.val (.string ⟨#[]⟩), .val (.int .i64 0), .val (.int .i64 0), .val (.int .i64 0), .val (.int .i64 0), .val (.int .i64 0), .val (.int .i64 0), .val (.bool false), .val (.string ⟨#[]⟩), .val (.int .i64 0), .val (.int .i64 0), .val (.int .i64 0), .val (.int .i64 0)], some (.cons (.cons .str (.cons (.int .i64) (.cons (.int .i64) (.cons (.int .i64) (.int .i64))))) (.cons (.int .i64) (.cons (.int .i64) (.cons .bool (.cons .str (.cons (.int .i64) (.cons (.int .i64) (.cons (.int .i64) (.int .i64))))))))), true, [(0, 5), (5, 1), (6, 1), (7, 1), (8, 5)]⟩),
  (38, ⟨.slice 9, 1, 24, [.val (.slice none 0 0)], some (.sl .str), false, []⟩),
  (39, ⟨.slice 169, 1, 24, [.val (.slice none 0 0)], some (.sl (.cons .str (.int .i64))), false, []⟩),
  (41, ⟨(Tryz.t40.desc), 4, 80, [.val (.string ⟨#[]⟩), .val (.string ⟨#[]⟩), .val (.slice none 0 0), .val (.slice none 0 0)], some (.cons .str (.cons .str (.cons (.sl .str) (.sl (.cons .str (.int .i64)))))), false, [(0, 1), (1, 1), (2, 1), (3, 1)]⟩),
  (42, ⟨.slice 41, 1, 24, [.val (.slice none 0 0)], some (.sl (.cons .str (.cons .str (.cons (.sl .str) (.sl (.cons .str (.int .i64))))))), false, []⟩),
  (43, ⟨.slice 172, 1, 24, [.val (.slice none 0 0)], some (.sl (.cons .str (.cons (.int .i64) (.cons (.int .i64) (.sl (.cons .str (.cons (.sl (.cons (.int .i64) (.cons (.int .i64) (.cons .str (.cons .bool (.sl (.cons (.int .i64) (.int .i64)))))))) (.cons .bool (.cons (.int .i64) (.cons (.int .i64) (.cons .str (.cons .bool (.sl (.cons (.int .i64) (.int .i64))))))))))))))), false, []⟩),
  (45, ⟨(Tryz.t44.desc), 2, 48, [.val (.slice none 0 0), .val (.slice none 0 0)], some (.cons (.sl (.cons .str (.cons (.int .i64) (.cons (.int .i64) (.sl (.cons .str (.cons (.sl (.cons (.int .i64) (.cons (.int .i64) (.cons .str (.cons .bool (.sl (.cons (.int .i64) (.int .i64)))))))) (.cons .bool (.cons (.int .i64) (.cons (.int .i64) (.cons .str (.cons .bool (.sl (.cons (.int .i64) (.int .i64))))))))))))))) (.sl (.cons .str (.cons .str (.cons (.sl .str) (.sl (.cons .str (.int .i64)))))))), false, [(0, 1), (1, 1)]⟩),
  (48, ⟨(Tryz.t47.desc), 7, 64, [.val (.int .i64 0), .val (.int .i64 0), .val (.int .i64 0), .val (.int .i64 0), .val (.int .i64 0), .val (.string ⟨#[]⟩), .val (.int .i64 0)], some (.cons (.int .i64) (.cons (.int .i64) (.cons (.int .i64) (.cons (.int .i64) (.cons (.int .i64) (.cons .str (.int .i64))))))), false, [(0, 1), (1, 1), (2, 1), (3, 1), (4, 1), (5, 1), (6, 1)]⟩),
  (50, ⟨(Tryz.t49.desc), 9, 80, [.val (.int .i64 0), .val (.int .i64 0), .val (.int .i64 0), .val (.int .i64 0), .val (.int .i64 0), .val (.int .i64 0), .val (.int .i64 0), .val (.string ⟨#[]⟩), .val (.int .i64 0)], some (.cons (.int .i64) (.cons (.int .i64) (.cons (.int .i64) (.cons (.int .i64) (.cons (.int .i64) (.cons (.int .i64) (.cons (.int .i64) (.cons .str (.int .i64))))))))), false, [(0, 1), (1, 1), (2, 7)]⟩),
  (54, ⟨(Tryz.t53.desc), 4, 40, [.val (.int .i64 0), .val (.string ⟨#[]⟩), .val (.int .i64 0), .val (.int .i64 0)], some (.cons (.int .i64) (.cons .str (.cons (.int .i64) (.int .i64)))), false, [(0, 1), (1, 1), (2, 1), (3, 1)]⟩),
  (56, ⟨.slice 54, 1, 24, [.val (.slice none 0 0)], some (.sl (.cons (.int .i64) (.cons .str (.cons (.int .i64) (.int .i64))))), false, []⟩),
  (63, ⟨.pointer 65, 1, 8, [.val (.pointer none)], none, false, []⟩),
  (65, ⟨(Tryz.t64.desc), 3, 40, [.val (.slice none 0 0), .val (.int .i64 0), .val (.bool false)], some (.cons (.sl (.cons (.int .i64) (.cons .str (.cons (.int .i64) (.int .i64))))) (.cons (.int .i64) .bool)), false, [(0, 1), (1, 1), (2, 1)]⟩),
  (79, ⟨.pointer 82, 1, 8, [.val (.pointer none)], none, false, []⟩),
  (80, ⟨.slice 5, 1, 24, [.val (.slice none 0 0)], some (.sl (.int .u8)), false, []⟩),
  (82, ⟨(Tryz.t81.desc), 2, 32, [.val (.pointer none), .val (.slice none 0 0)], none, false, [(0, 1), (1, 1)]⟩),
  (86, ⟨(Tryz.t85.desc), 1, 16, [.val (.nilIface)], some .any, false, []⟩),
  (100, ⟨.slice 20, 1, 24, [.val (.slice none 0 0)], some (.sl .any), false, []⟩),
  (102, ⟨.int .i64, 1, 8, [.val (.int .i64 0)], some (.int .i64), false, []⟩),
  (103, ⟨.int .i64, 1, 8, [.val (.int .i64 0)], some (.int .i64), false, []⟩),
  (104, ⟨(Tryz.t34.desc), 5, 48, [.val (.string ⟨#[]⟩), .val (.int .i64 0), .val (.int .i64 0), .val (.int .i64 0), .val (.int .i64 0)], some (.cons .str (.cons (.int .i64) (.cons (.int .i64) (.cons (.int .i64) (.int .i64))))), false, [(0, 1), (1, 1), (2, 1), (3, 1), (4, 1)]⟩),
  (111, ⟨(Tryz.t111.desc), 1, 8, [.val (.nilFunc)], none, false, []⟩),
  (116, ⟨.pointer 5, 1, 8, [.val (.pointer none)], none, false, []⟩),
  (169, ⟨(Tryz.t168.desc), 2, 24, [.val (.string ⟨#[]⟩), .val (.int .i64 0)], some (.cons .str (.int .i64)), false, [(0, 1), (1, 1)]⟩),
  (170, ⟨.slice 178, 1, 24, [.val (.slice none 0 0)], some (.sl (.cons .str (.cons (.sl (.cons (.int .i64) (.cons (.int .i64) (.cons .str (.cons .bool (.sl (.cons (.int .i64) (.int .i64)))))))) (.cons .bool (.cons (.int .i64) (.cons (.int .i64) (.cons .str (.cons .bool (.sl (.cons (.int .i64) (.int .i64))))))))))), false, []⟩),
  (172, ⟨(Tryz.t171.desc), 4, 56, [.val (.string ⟨#[]⟩), .val (.int .i64 0), .val (.int .i64 0), .val (.slice none 0 0)], some (.cons .str (.cons (.int .i64) (.cons (.int .i64) (.sl (.cons .str (.cons (.sl (.cons (.int .i64) (.cons (.int .i64) (.cons .str (.cons .bool (.sl (.cons (.int .i64) (.int .i64)))))))) (.cons .bool (.cons (.int .i64) (.cons (.int .i64) (.cons .str (.cons .bool (.sl (.cons (.int .i64) (.int .i64)))))))))))))), false, [(0, 1), (1, 1), (2, 1), (3, 1)]⟩),
  (173, ⟨.slice 176, 1, 24, [.val (.slice none 0 0)], some (.sl (.cons (.int .i64) (.cons (.int .i64) (.cons .str (.cons .bool (.sl (.cons (.int .i64) (.int .i64)))))))), false, []⟩),
  (174, ⟨.slice 180, 1, 24, [.val (.slice none 0 0)], some (.sl (.cons (.int .i64) (.int .i64))), false, []⟩),
  (176, ⟨(Tryz.t175.desc), 5, 64, [.val (.int .i64 0), .val (.int .i64 0), .val (.string ⟨#[]⟩), .val (.bool false), .val (.slice none 0 0)], some (.cons (.int .i64) (.cons (.int .i64) (.cons .str (.cons .bool (.sl (.cons (.int .i64) (.int .i64))))))), false, [(0, 1), (1, 1), (2, 1), (3, 1), (4, 1)]⟩),
  (178, ⟨(Tryz.t177.desc), 8, 112, [.val (.string ⟨#[]⟩), .val (.slice none 0 0), .val (.bool false), .val (.int .i64 0), .val (.int .i64 0), .val (.string ⟨#[]⟩), .val (.bool false), .val (.slice none 0 0)], some (.cons .str (.cons (.sl (.cons (.int .i64) (.cons (.int .i64) (.cons .str (.cons .bool (.sl (.cons (.int .i64) (.int .i64)))))))) (.cons .bool (.cons (.int .i64) (.cons (.int .i64) (.cons .str (.cons .bool (.sl (.cons (.int .i64) (.int .i64)))))))))), false, [(0, 1), (1, 1), (2, 1), (3, 5)]⟩),
  (180, ⟨(Tryz.t179.desc), 2, 16, [.val (.int .i64 0), .val (.int .i64 0)], some (.cons (.int .i64) (.int .i64)), false, [(0, 1), (1, 1)]⟩)]
def T : TT := lookT TL
theorem tokAll : AllT Tryz.prog TL := ⟨
  TOk.of Tryz.t3 (.int .i64 0) (by kernel_rfl) (by kernel_rfl) (by kernel_rfl) (by kernel_rfl) (by kernel_rfl) (by kernel_rfl) (fun fs h => nomatch h) (fun h => nomatch h),
  TOk.of Tryz.t4 (.bool false) (by kernel_rfl) (by kernel_rfl) (by kernel_rfl) (by kernel_rfl) (by kernel_rfl) (by kernel_rfl) (fun fs h => nomatch h) (fun h => nomatch h),
  TOk.of Tryz.t5 (.int .u8 0) (by kernel_rfl) (by kernel_rfl) (by kernel_rfl) (by kernel_rfl) (by kernel_rfl) (by kernel_rfl) (fun fs h => nomatch h) (fun h => nomatch h),
  TOk.of Tryz.t9 (.string ⟨#[]⟩) (by kernel_rfl) (by kernel_rfl) (by kernel_rfl) (by kernel_rfl) (by kernel_rfl) (by kernel_rfl) (fun fs h => nomatch h) (fun h => nomatch h),
  TOk.of Tryz.t20 (.nilIface) (by kernel_rfl) (by kernel_rfl) (by kernel_rfl) (by kernel_rfl) (by kernel_rfl) (by kernel_rfl) (fun fs h => nomatch h) (fun h => nomatch h),
  TOk.of Tryz.t21 (.int .i32 0) (by kernel_rfl) (by kernel_rfl) (by kernel_rfl) (by kernel_rfl) (by kernel_rfl) (by kernel_rfl) (fun fs h => nomatch h) (fun h => nomatch h),
  TOk.of Tryz.t22 (.slice none 0 0) (by kernel_rfl) (by kernel_rfl) (by kernel_rfl) (by kernel_rfl) (by kernel_rfl) (by kernel_rfl) (fun fs h => nomatch h) (fun h => nomatch h),
  TOk.of Tryz.t24 (.agg #[.string ⟨#[]⟩, .slice none 0 0]) (by kernel_rfl) (by kernel_rfl) (by kernel_rfl) (by kernel_rfl) (by kernel_rfl) (by kernel_rfl) (fun fs h => by cases h; kernel_rfl) (fun h => nomatch h),
  TOk.of Tryz.t27 (.int .i64 0) (by kernel_rfl) (by kernel_rfl) (by kernel_rfl) (by kernel_rfl) (by kernel_rfl) (by kernel_rfl) (fun fs h => nomatch h) (fun h => nomatch h),
  TOk.of Tryz.t35 (.agg #[.string ⟨#[]⟩, .int .i64 0, .int .i64 0, .int .i64 0, .int .i64 0]) (by kernel_rfl) (by kernel_rfl) (by kernel_rfl) (by kernel_rfl) (by kernel_rfl) (by kernel_rfl) (fun fs h => by cases h; kernel_rfl) (eq_ok (fs := (Tryz.prog.fieldsOf 35)) rfl (by kernel_rfl) (by kernel_rfl) (by kernel_rfl) (by kernel_rfl)),
  TOk.of Tryz.t37 (.agg #[.string ⟨#[]⟩, .int .i64 0, .int .i64 0, .int .i64 0, .int .i64 0, .int .i64 0, .int .i64 0, .bool false, .string ⟨#[]⟩, .int .i64 0, .int .i64 0, .int .i64 0, .int .i64 0]) (by kernel_rfl) (by kernel_rfl) (by kernel_rfl) (by kernel_rfl) (by kernel_rfl) (by kernel_rfl) (fun fs h => by cases h; kernel_rfl) (eq_ok (fs := (Tryz.prog.fieldsOf 37)) rfl (by kernel_rfl) (by kernel_rfl) (by kernel_rfl) (by kernel_rfl)),
  TOk.of Tryz.t38 (.slice none 0 0) (by kernel_rfl) (by kernel_rfl) (by kernel_rfl) (by kernel_rfl) (by kernel_rfl) (by kernel_rfl) (fun fs h => nomatch h) (fun h => nomatch h),
  TOk.of Tryz.t39 (.slice none 0 0) (by kernel_rfl) (by kernel_rfl) (by kernel_rfl) (by kernel_rfl) (by kernel_rfl) (by kernel_rfl) (fun fs h => nomatch h) (fun h => nomatch h),
  TOk.of Tryz.t41 (.agg #[.string ⟨#[]⟩, .string ⟨#[]⟩, .slice none 0 0, .slice none 0 0]) (by kernel_rfl) (by kernel_rfl) (by kernel_rfl) (by kernel_rfl) (by kernel_rfl) (by kernel_rfl) (fun fs h => by cases h; kernel_rfl) (fun h => nomatch h),
  TOk.of Tryz.t42 (.slice none 0 0) (by kernel_rfl) (by kernel_rfl) (by kernel_rfl) (by kernel_rfl) (by kernel_rfl) (by kernel_rfl) (fun fs h => nomatch h) (fun h => nomatch h),
  TOk.of Tryz.t43 (.slice none 0 0) (by kernel_rfl) (by kernel_rfl) (by kernel_rfl) (by kernel_rfl) (by kernel_rfl) (by kernel_rfl) (fun fs h => nomatch h) (fun h => nomatch h),
  TOk.of Tryz.t45 (.agg #[.slice none 0 0, .slice none 0 0]) (by kernel_rfl) (by kernel_rfl) (by kernel_rfl) (by kernel_rfl) (by kernel_rfl) (by kernel_rfl) (fun fs h => by cases h; kernel_rfl) (fun h => nomatch h),
  TOk.of Tryz.t48 (.agg #[.int .i64 0, .int .i64 0, .int .i64 0, .int .i64 0, .int .i64 0, .string ⟨#[]⟩, .int .i64 0]) (by kernel_rfl) (by kernel_rfl) (by kernel_rfl) (by kernel_rfl) (by kernel_rfl) (by kernel_rfl) (fun fs h => by cases h; kernel_rfl) (fun h => nomatch h),
  TOk.of Tryz.t50 (.agg #[.int .i64 0, .int .i64 0, .int .i64 0, .int .i64 0, .int .i64 0, .int .i64 0, .int .i64 0, .string ⟨#[]⟩, .int .i64 0]) (by kernel_rfl) (by kernel_rfl) (by kernel_rfl) (by kernel_rfl) (by kernel_rfl) (by kernel_rfl) (fun fs h => by cases h; kernel_rfl) (fun h => nomatch h),
  TOk.of Tryz.t54 (.agg #[.int .i64 0, .string ⟨#[]⟩, .int .i64 0, .int .i64 0]) (by kernel_rfl) (by kernel_rfl) (by kernel_rfl) (by kernel_rfl) (by kernel_rfl) (by kernel_rfl) (fun fs h => by cases h; kernel_rfl) (fun h => nomatch h),
  TOk.of Tryz.t56 (.slice none 0 0) (by kernel_rfl) (by kernel_rfl) (by kernel_rfl) (by kernel_rfl) (by kernel_rfl) (by kernel_rfl) (fun fs h => nomatch h) (fun h => nomatch h),
  TOk.of Tryz.t63 (.pointer none) (by kernel_rfl) (by kernel_rfl) (by kernel_rfl) (by kernel_rfl) (by kernel_rfl) (by kernel_rfl) (fun fs h => nomatch h) (fun h => nomatch h),
  TOk.of Tryz.t65 (.agg #[.slice none 0 0, .int .i64 0, .bool false]) (by kernel_rfl) (by kernel_rfl) (by kernel_rfl) (by kernel_rfl) (by kernel_rfl) (by kernel_rfl) (fun fs h => by cases h; kernel_rfl) (fun h => nomatch h),
  TOk.of Tryz.t79 (.pointer none) (by kernel_rfl) (by kernel_rfl) (by kernel_rfl) (by kernel_rfl) (by kernel_rfl) (by kernel_rfl) (fun fs h => nomatch h) (fun h => nomatch h),
  TOk.of Tryz.t80 (.slice none 0 0) (by kernel_rfl) (by kernel_rfl) (by kernel_rfl) (by kernel_rfl) (by kernel_rfl) (by kernel_rfl) (fun fs h => nomatch h) (fun h => nomatch h),
  TOk.of Tryz.t82 (.agg #[.pointer none, .slice none 0 0]) (by kernel_rfl) (by kernel_rfl) (by kernel_rfl) (by kernel_rfl) (by kernel_rfl) (by kernel_rfl) (fun fs h => by cases h; kernel_rfl) (fun h => nomatch h),
  TOk.of Tryz.t86 (.nilIface) (by kernel_rfl) (by kernel_rfl) (by kernel_rfl) (by kernel_rfl) (by kernel_rfl) (by kernel_rfl) (fun fs h => nomatch h) (fun h => nomatch h),
  TOk.of Tryz.t100 (.slice none 0 0) (by kernel_rfl) (by kernel_rfl) (by kernel_rfl) (by kernel_rfl) (by kernel_rfl) (by kernel_rfl) (fun fs h => nomatch h) (fun h => nomatch h),
  TOk.of Tryz.t102 (.int .i64 0) (by kernel_rfl) (by kernel_rfl) (by kernel_rfl) (by kernel_rfl) (by kernel_rfl) (by kernel_rfl) (fun fs h => nomatch h) (fun h => nomatch h),
  TOk.of Tryz.t103 (.int .i64 0) (by kernel_rfl) (by kernel_rfl) (by kernel_rfl) (by kernel_rfl) (by kernel_rfl) (by kernel_rfl) (fun fs h => nomatch h) (fun h => nomatch h),
  TOk.of Tryz.t104 (.agg #[.string ⟨#[]⟩, .int .i64 0, .int .i64 0, .int .i64 0, .int .i64 0]) (by kernel_rfl) (by kernel_rfl) (by kernel_rfl) (by kernel_rfl) (by kernel_rfl) (by kernel_rfl) (fun fs h => by cases h; kernel_rfl) (fun h => nomatch h),
  TOk.of Tryz.t111 (.nilFunc) (by kernel_rfl) (by kernel_rfl) (by kernel_rfl) (by kernel_rfl) (by kernel_rfl) (by kernel_rfl) (fun fs h => nomatch h) (fun h => nomatch h),
  TOk.of Tryz.t116 (.pointer none) (by kernel_rfl) (by kernel_rfl) (by kernel_rfl) (by kernel_rfl) (by kernel_rfl) (by kernel_rfl) (fun fs h => nomatch h) (fun h => nomatch h),
  TOk.of Tryz.t169 (.agg #[.string ⟨#[]⟩, .int .i64 0]) (by kernel_rfl) (by kernel_rfl) (by kernel_rfl) (by kernel_rfl) (by kernel_rfl) (by kernel_rfl) (fun fs h => by cases h; kernel_rfl) (fun h => nomatch h),
  TOk.of Tryz.t170 (.slice none 0 0) (by kernel_rfl) (by kernel_rfl) (by kernel_rfl) (by kernel_rfl) (by kernel_rfl) (by kernel_rfl) (fun fs h => nomatch h) (fun h => nomatch h),
  TOk.of Tryz.t172 (.agg #[.string ⟨#[]⟩, .int .i64 0, .int .i64 0, .slice none 0 0]) (by kernel_rfl) (by kernel_rfl) (by kernel_rfl) (by kernel_rfl) (by kernel_rfl) (by kernel_rfl) (fun fs h => by cases h; kernel_rfl) (fun h => nomatch h),
  TOk.of Tryz.t173 (.slice none 0 0) (by kernel_rfl) (by kernel_rfl) (by kernel_rfl) (by kernel_rfl) (by kernel_rfl) (by kernel_rfl) (fun fs h => nomatch h) (fun h => nomatch h),
  TOk.of Tryz.t174 (.slice none 0 0) (by kernel_rfl) (by kernel_rfl) (by kernel_rfl) (by kernel_rfl) (by kernel_rfl) (by kernel_rfl) (fun fs h => nomatch h) (fun h => nomatch h),
  TOk.of Tryz.t176 (.agg #[.int .i64 0, .int .i64 0, .string ⟨#[]⟩, .bool false, .slice none 0 0]) (by kernel_rfl) (by kernel_rfl) (by kernel_rfl) (by kernel_rfl) (by kernel_rfl) (by kernel_rfl) (fun fs h => by cases h; kernel_rfl) (fun h => nomatch h),
  TOk.of Tryz.t178 (.agg #[.string ⟨#[]⟩, .slice none 0 0, .bool false, .int .i64 0, .int .i64 0, .string ⟨#[]⟩, .bool false, .slice none 0 0]) (by kernel_rfl) (by kernel_rfl) (by kernel_rfl) (by kernel_rfl) (by kernel_rfl) (by kernel_rfl) (fun fs h => by cases h; kernel_rfl) (fun h => nomatch h),
  TOk.of Tryz.t180 (.agg #[.int .i64 0, .int .i64 0]) (by kernel_rfl) (by kernel_rfl) (by kernel_rfl) (by kernel_rfl) (by kernel_rfl) (by kernel_rfl) (fun fs h => by cases h; kernel_rfl) (fun h => nomatch h),
  trivial⟩
theorem tok : TOK Tryz.prog T := tok_of tokAll
theorem mixed : Tryz.prog.follows .mixedOrders = true := by kernel_rfl
end
end Go.Proofs.YtgpgpelaabdkhaaGreatDoor
end

section
/-
YtgpgpelaabdkhaaGreatDoor: signalbench.signalbenchref05.letter, as one plain function, its equations, its contract. No condition.
-/
set_option maxRecDepth 100000
set_option linter.unusedVariables false
set_option maxHeartbeats 4000000
open Go Go.AM
namespace Go.Proofs.YtgpgpelaabdkhaaGreatDoor
noncomputable section
def ref05_letter_D : FD := ⟨T, lookC [], [], (Tryz.f71.body.getD .skip), Tryz.f71.results.toList, ⟨[.one (.int .u8)], []⟩, ⟨[.one .bool], []⟩, []⟩
def ref05_letter (c : Int) : (Option ((Bool × Unit) × Unit)) :=
  if (decide (c ≥ 97)) = true then
    some ((decide (c ≤ 122), ()), ())
  else
    some ((false, ()), ())
def fc71 : FC := ⟨⟨[.one (.int .u8)], []⟩, ⟨[.one .bool], []⟩, fun x => ref05_letter x.1.1⟩
theorem con71 : Contract Tryz.prog 71 fc71 :=
  ref05_letter_D.contract tok (cok_of (l := []) trivial) mixed (fn' := Tryz.f71) (by kernel_rfl) (by kernel_rfl) rfl (by kernel_rfl) (fun x => (FD.fn_eq _ _).trans (by kernel_rfl))
end
end Go.Proofs.YtgpgpelaabdkhaaGreatDoor
end

section
/-
YtgpgpelaabdkhaaGreatDoor: signalbench.signalbenchref05.digit, as one plain function, its equations, its contract. No condition.
-/
set_option maxRecDepth 100000
set_option linter.unusedVariables false
set_option maxHeartbeats 4000000
open Go Go.AM
namespace Go.Proofs.YtgpgpelaabdkhaaGreatDoor
noncomputable section
def ref05_digit_D : FD := ⟨T, lookC [], [], (Tryz.f87.body.getD .skip), Tryz.f87.results.toList, ⟨[.one (.int .u8)], []⟩, ⟨[.one .bool], []⟩, []⟩
def ref05_digit (c : Int) : (Option ((Bool × Unit) × Unit)) :=
  if (decide (c ≥ 48)) = true then
    some ((decide (c ≤ 57), ()), ())
  else
    some ((false, ()), ())
def fc87 : FC := ⟨⟨[.one (.int .u8)], []⟩, ⟨[.one .bool], []⟩, fun x => ref05_digit x.1.1⟩
theorem con87 : Contract Tryz.prog 87 fc87 :=
  ref05_digit_D.contract tok (cok_of (l := []) trivial) mixed (fn' := Tryz.f87) (by kernel_rfl) (by kernel_rfl) rfl (by kernel_rfl) (fun x => (FD.fn_eq _ _).trans (by kernel_rfl))
end
end Go.Proofs.YtgpgpelaabdkhaaGreatDoor
end

section
/-
YtgpgpelaabdkhaaGreatDoor: signalbench.signalbenchref05.inner, as one plain function, its equations, its contract. No condition.
-/
set_option maxRecDepth 100000
set_option linter.unusedVariables false
set_option maxHeartbeats 4000000
open Go Go.AM
namespace Go.Proofs.YtgpgpelaabdkhaaGreatDoor
noncomputable section
def ref05_inner_D : FD := ⟨T, lookC [(71, fc71), (87, fc87)], [], (Tryz.f72.body.getD .skip), Tryz.f72.results.toList, ⟨[.one (.int .u8)], []⟩, ⟨[.one .bool], []⟩, []⟩
def ref05_inner (c : Int) : (Option ((Bool × Unit) × Unit)) :=
  (ref05_letter c).bind fun y1 =>
    if y1.1.1 = true then
      some ((true, ()), ())
    else
      (ref05_digit c).bind fun y2 =>
        if y2.1.1 = true then
          some ((true, ()), ())
        else
          some ((c == 95, ()), ())
def fc72 : FC := ⟨⟨[.one (.int .u8)], []⟩, ⟨[.one .bool], []⟩, fun x => ref05_inner x.1.1⟩
theorem con72 : Contract Tryz.prog 72 fc72 :=
  ref05_inner_D.contract tok (cok_of (l := [(71, fc71), (87, fc87)]) ⟨con71, con87, trivial⟩) mixed (fn' := Tryz.f72) (by kernel_rfl) (by kernel_rfl) rfl (by kernel_rfl) (fun x => (FD.fn_eq _ _).trans (by kernel_rfl))
end
end Go.Proofs.YtgpgpelaabdkhaaGreatDoor
end

section
/-
YtgpgpelaabdkhaaGreatDoor: signalbench.signalbenchref05.Name, as one plain function, its equations, its contract. No condition.
-/
set_option maxRecDepth 100000
set_option linter.unusedVariables false
set_option maxHeartbeats 4000000
open Go Go.AM
namespace Go.Proofs.YtgpgpelaabdkhaaGreatDoor
noncomputable section
def ref05_Name_F6 : FSh := ⟨[(0, .one .str), (3, .one (.int .i64))], []⟩
def ref05_Name_D : FD := ⟨T, lookC [(71, fc71), (72, fc72)], [], (Tryz.f46.body.getD .skip), Tryz.f46.results.toList, ⟨[.one .str], []⟩, ⟨[.one .bool], []⟩, [(6, ref05_Name_F6)]⟩
def ref05_Name_l6 (s : ByteArray) (i : Int) : (Option ((Bool × Unit) × Unit)) := ref05_Name_D.lab 6 ref05_Name_F6 ((s, i, ()), ())
theorem ref05_Name_l6_eq (s : ByteArray) (i : Int) : ref05_Name_l6 s i =
  if (decide (i < (s.size : Int))) = true then
    if 0 ≤ i ∧ i < (s.size : Int) then
      (ref05_inner (bt s i)).bind fun y1 =>
        if (!y1.1.1) = true then
          some ((false, ()), ())
        else
          ref05_Name_l6 s (IntKind.i64.wrap (i + 1))
    else
      none
  else
    some ((true, ()), ()) := (FD.lab_eq _ _ _ _).trans (by kernel_rfl)
def ref05_Name (s : ByteArray) : (Option ((Bool × Unit) × Unit)) :=
  if (decide ((s.size : Int) < 1)) = true then
    some ((false, ()), ())
  else
    if (decide ((s.size : Int) > 16)) = true then
      some ((false, ()), ())
    else
      if 0 ≤ (0 : Int) ∧ 0 < (s.size : Int) then
        (ref05_letter (bt s 0)).bind fun y1 =>
          if (!y1.1.1) = true then
            some ((false, ()), ())
          else
            ref05_Name_l6 s 0
      else
        none
def fc46 : FC := ⟨⟨[.one .str], []⟩, ⟨[.one .bool], []⟩, fun x => ref05_Name x.1.1⟩
theorem con46 : Contract Tryz.prog 46 fc46 :=
  ref05_Name_D.contract tok (cok_of (l := [(71, fc71), (72, fc72)]) ⟨con71, con72, trivial⟩) mixed (fn' := Tryz.f46) (by kernel_rfl) (by kernel_rfl) rfl (by kernel_rfl) (fun x => (FD.fn_eq _ _).trans (by kernel_rfl))
end
end Go.Proofs.YtgpgpelaabdkhaaGreatDoor
end

section
/-
YtgpgpelaabdkhaaGreatDoor: signalbench.signalbenchref43.WrongCond, as one plain function, its equations, its contract. No condition.
-/
set_option maxRecDepth 100000
set_option linter.unusedVariables false
set_option maxHeartbeats 4000000
open Go Go.AM
namespace Go.Proofs.YtgpgpelaabdkhaaGreatDoor
noncomputable section
def ref43_WrongCond_F4 : FSh := ⟨[(1, .one (.ptr 0 0))], [.boxr 35 (.cons .str (.cons (.int .i64) (.cons (.int .i64) (.cons (.int .i64) (.int .i64)))))]⟩
def ref43_WrongCond_F6 : FSh := ⟨[(2, .one (.int .i64))], []⟩
def ref43_WrongCond_F8 : FSh := ⟨[(1, .one (.ptr 0 0)), (52, .one .bool)], [.boxr 35 (.cons .str (.cons (.int .i64) (.cons (.int .i64) (.cons (.int .i64) (.int .i64)))))]⟩
def ref43_WrongCond_F10 : FSh := ⟨[], []⟩
def ref43_WrongCond_D : FD := ⟨T, lookC [(46, fc46)], [4, 6, 8, 10], (Tryz.f73.body.getD .skip), Tryz.f73.results.toList, ⟨[.row (.cons .str (.cons (.int .i64) (.cons (.int .i64) (.cons (.int .i64) (.int .i64)))))], []⟩, ⟨[.one (.int .i64)], []⟩, [(4, ref43_WrongCond_F4), (6, ref43_WrongCond_F6), (8, ref43_WrongCond_F8), (10, ref43_WrongCond_F10)]⟩
def ref43_WrongCond_l4 (h0 : TCond) : (Option ((Int × Unit) × Unit)) := ref43_WrongCond_D.lab 4 ref43_WrongCond_F4 (((), ()), (h0, ()))
def ref43_WrongCond_l6 (t2 : Int) : (Option ((Int × Unit) × Unit)) := ref43_WrongCond_D.lab 6 ref43_WrongCond_F6 ((t2, ()), ())
def ref43_WrongCond_l8 (t52 : Bool) (h0 : TCond) : (Option ((Int × Unit) × Unit)) := ref43_WrongCond_D.lab 8 ref43_WrongCond_F8 (((), t52, ()), (h0, ()))
def ref43_WrongCond_l10 : (Option ((Int × Unit) × Unit)) := ref43_WrongCond_D.lab 10 ref43_WrongCond_F10 ((), ())
theorem ref43_WrongCond_l4_eq (h0 : TCond) : ref43_WrongCond_l4 h0 =
  if (h0.2.2.2.1 == 0) = true then
    if (h0.2.2.1 != 0) = true then
      ref43_WrongCond_l8 true h0
    else
      if (h0.2.2.2.2 != 0) = true then
        ref43_WrongCond_l8 true h0
      else
        if (h0.2.2.2.1 != 0) = true then
          if (decide (h0.2.2.1 < 1)) = true then
            ref43_WrongCond_l8 true h0
          else
            ref43_WrongCond_l8 (decide (h0.2.2.1 > 6)) h0
        else
          ref43_WrongCond_l8 false h0
  else
    if (h0.2.2.2.1 != 0) = true then
      if (decide (h0.2.2.1 < 1)) = true then
        ref43_WrongCond_l8 true h0
      else
        ref43_WrongCond_l8 (decide (h0.2.2.1 > 6)) h0
    else
      ref43_WrongCond_l8 false h0 := (FD.lab_eq _ _ _ _).trans (by kernel_rfl)
theorem ref43_WrongCond_l6_eq (t2 : Int) : ref43_WrongCond_l6 t2 =
  some ((t2, ()), ()) := (FD.lab_eq _ _ _ _).trans (by kernel_rfl)
theorem ref43_WrongCond_l8_eq (t52 : Bool) (h0 : TCond) : ref43_WrongCond_l8 t52 h0 =
  if t52 = true then
    some ((1, ()), ())
  else
    if (decide (h0.2.2.2.2 < (-9007199254740992))) = true then
      some ((2, ()), ())
    else
      if (decide (h0.2.2.2.2 > 9007199254740992)) = true then
        some ((2, ()), ())
      else
        ref43_WrongCond_l10 := by obtain ⟨n, k, f, o, v⟩ := h0; cases v <;> exact (FD.lab_eq _ _ _ _).trans (by kernel_rfl)
theorem ref43_WrongCond_l10_eq : ref43_WrongCond_l10 =
  some ((0, ()), ()) := (FD.lab_eq _ _ _ _).trans (by kernel_rfl)
def ref43_WrongCond (c : TCond) : (Option ((Int × Unit) × Unit)) :=
  (ref05_Name c.1).bind fun y1 =>
    if (!y1.1.1) = true then
      some ((4, ()), ())
    else
      if (decide (c.2.1 < 0)) = true then
        ref43_WrongCond_l6 1
      else
        if (decide (c.2.1 > 8)) = true then
          ref43_WrongCond_l6 1
        else
          if (decide (c.2.2.2.1 < 0)) = true then
            ref43_WrongCond_l6 1
          else
            if (decide (c.2.2.2.1 > 5)) = true then
              ref43_WrongCond_l6 1
            else
              ref43_WrongCond_l4 c
def fc73 : FC := ⟨⟨[.row (.cons .str (.cons (.int .i64) (.cons (.int .i64) (.cons (.int .i64) (.int .i64)))))], []⟩, ⟨[.one (.int .i64)], []⟩, fun x => ref43_WrongCond x.1.1⟩
theorem con73 : Contract Tryz.prog 73 fc73 :=
  ref43_WrongCond_D.contract tok (cok_of (l := [(46, fc46)]) ⟨con46, trivial⟩) mixed (fn' := Tryz.f73) (by kernel_rfl) (by kernel_rfl) rfl (by kernel_rfl) (fun x => (FD.fn_eq _ _).trans (by kernel_rfl))
end
end Go.Proofs.YtgpgpelaabdkhaaGreatDoor
end

section
/-
YtgpgpelaabdkhaaGreatDoor: signalbench.signalbenchref43.wrongStep, as one plain function, its equations, its contract. No condition.
-/
set_option maxRecDepth 100000
set_option linter.unusedVariables false
set_option maxHeartbeats 4000000
open Go Go.AM
namespace Go.Proofs.YtgpgpelaabdkhaaGreatDoor
noncomputable section
def ref43_wrongStep_D : FD := ⟨T, lookC [(73, fc73)], [], (Tryz.f47.body.getD .skip), Tryz.f47.results.toList, ⟨[.row (.cons (.cons .str (.cons (.int .i64) (.cons (.int .i64) (.cons (.int .i64) (.int .i64))))) (.cons (.int .i64) (.cons (.int .i64) (.cons .bool (.cons .str (.cons (.int .i64) (.cons (.int .i64) (.cons (.int .i64) (.int .i64)))))))))], []⟩, ⟨[.one (.int .i64)], []⟩, []⟩
def ref43_wrongStep (s : TTrigStep) : (Option ((Int × Unit) × Unit)) :=
  if (decide (s.2.1 < 1)) = true then
    some ((1, ()), ())
  else
    if (decide (s.2.2.1 < 0)) = true then
      some ((1, ()), ())
    else
      if (decide (s.2.2.1 > 1099511627776)) = true then
        some ((1, ()), ())
      else
        (ref43_WrongCond s.1).bind fun y1 =>
          if (y1.1.1 != 0) = true then
            some ((y1.1.1, ()), ())
          else
            if s.2.2.2.1 = true then
              (ref43_WrongCond s.2.2.2.2).bind fun y2 =>
                some ((y2.1.1, ()), ())
            else
              if (!(eqU uCond s.2.2.2.2 ((strB []), 0, 0, 0, 0))) = true then
                some ((1, ()), ())
              else
                some ((0, ()), ())
def fc47 : FC := ⟨⟨[.row (.cons (.cons .str (.cons (.int .i64) (.cons (.int .i64) (.cons (.int .i64) (.int .i64))))) (.cons (.int .i64) (.cons (.int .i64) (.cons .bool (.cons .str (.cons (.int .i64) (.cons (.int .i64) (.cons (.int .i64) (.int .i64)))))))))], []⟩, ⟨[.one (.int .i64)], []⟩, fun x => ref43_wrongStep x.1.1⟩
theorem con47 : Contract Tryz.prog 47 fc47 :=
  ref43_wrongStep_D.contract tok (cok_of (l := [(73, fc73)]) ⟨con73, trivial⟩) mixed (fn' := Tryz.f47) (by kernel_rfl) (by kernel_rfl) rfl (by kernel_rfl) (fun x => (FD.fn_eq _ _).trans (by kernel_rfl))
end
end Go.Proofs.YtgpgpelaabdkhaaGreatDoor
end

section
/-
YtgpgpelaabdkhaaGreatDoor: signalbench.signalbenchref43.wrong, as one plain function, its equations, its contract. No condition.
-/
set_option maxRecDepth 100000
set_option linter.unusedVariables false
set_option maxHeartbeats 4000000
open Go Go.AM
namespace Go.Proofs.YtgpgpelaabdkhaaGreatDoor
noncomputable section
def ref43_wrong_F12 : FSh := ⟨[(1, .one (.ptr 0 0)), (3, .one (.int .i64))], [.boxr 24 (.cons .str (.sl (.cons (.cons .str (.cons (.int .i64) (.cons (.int .i64) (.cons (.int .i64) (.int .i64))))) (.cons (.int .i64) (.cons (.int .i64) (.cons .bool (.cons .str (.cons (.int .i64) (.cons (.int .i64) (.cons (.int .i64) (.int .i64)))))))))))]⟩
def ref43_wrong_F22 : FSh := ⟨[(1, .one (.ptr 0 0)), (5, .one (.int .i64)), (6, .one (.int .i64))], [.boxr 24 (.cons .str (.sl (.cons (.cons .str (.cons (.int .i64) (.cons (.int .i64) (.cons (.int .i64) (.int .i64))))) (.cons (.int .i64) (.cons (.int .i64) (.cons .bool (.cons .str (.cons (.int .i64) (.cons (.int .i64) (.cons (.int .i64) (.int .i64)))))))))))]⟩
def ref43_wrong_D : FD := ⟨T, lookC [(46, fc46), (47, fc47)], [], (Tryz.f21.body.getD .skip), Tryz.f21.results.toList, ⟨[.row (.cons .str (.sl (.cons (.cons .str (.cons (.int .i64) (.cons (.int .i64) (.cons (.int .i64) (.int .i64))))) (.cons (.int .i64) (.cons (.int .i64) (.cons .bool (.cons .str (.cons (.int .i64) (.cons (.int .i64) (.cons (.int .i64) (.int .i64)))))))))))], []⟩, ⟨[.one (.int .i64)], []⟩, [(12, ref43_wrong_F12), (22, ref43_wrong_F22)]⟩
def ref43_wrong_l12 (i : Int) (h0 : TTrigger) : (Option ((Int × Unit) × Unit)) := ref43_wrong_D.lab 12 ref43_wrong_F12 (((), i, ()), (h0, ()))
def ref43_wrong_l22 (n : Int) (i : Int) (h0 : TTrigger) : (Option ((Int × Unit) × Unit)) := ref43_wrong_D.lab 22 ref43_wrong_F22 (((), n, i, ()), (h0, ()))
theorem ref43_wrong_l12_eq (i : Int) (h0 : TTrigger) : ref43_wrong_l12 i h0 =
  if (decide (i < (h0.2.length : Int))) = true then
    if 0 ≤ i ∧ i < (h0.2.length : Int) then
      (ref43_wrongStep (h0.2.getD i.toNat dTrigStep)).bind fun y1 =>
        if (y1.1.1 != 0) = true then
          some ((y1.1.1, ()), ())
        else
          ref43_wrong_l12 (IntKind.i64.wrap (i + 1)) h0
    else
      none
  else
    ref43_wrong_l22 0 0 h0 := (FD.lab_eq _ _ _ _).trans (by kernel_rfl)
theorem ref43_wrong_l22_eq (n : Int) (i : Int) (h0 : TTrigger) : ref43_wrong_l22 n i h0 =
  if (decide (i < (h0.2.length : Int))) = true then
    if 0 ≤ i ∧ i < (h0.2.length : Int) then
      if (decide ((h0.2.getD i.toNat dTrigStep).2.1 > 32)) = true then
        some ((6, ()), ())
      else
        if 0 ≤ i ∧ i < (h0.2.length : Int) then
          ref43_wrong_l22 (IntKind.i64.wrap (n + (h0.2.getD i.toNat dTrigStep).2.1)) (IntKind.i64.wrap (i + 1)) h0
        else
          none
    else
      none
  else
    if (decide (n > 32)) = true then
      some ((6, ()), ())
    else
      some ((0, ()), ()) := (FD.lab_eq _ _ _ _).trans (by kernel_rfl)
def ref43_wrong (t : TTrigger) : (Option ((Int × Unit) × Unit)) :=
  (ref05_Name t.1).bind fun y1 =>
    if (!y1.1.1) = true then
      some ((4, ()), ())
    else
      if ((t.2.length : Int) == 0) = true then
        some ((1, ()), ())
      else
        if (decide ((t.2.length : Int) > 32)) = true then
          some ((6, ()), ())
        else
          ref43_wrong_l12 0 t
def fc21 : FC := ⟨⟨[.row (.cons .str (.sl (.cons (.cons .str (.cons (.int .i64) (.cons (.int .i64) (.cons (.int .i64) (.int .i64))))) (.cons (.int .i64) (.cons (.int .i64) (.cons .bool (.cons .str (.cons (.int .i64) (.cons (.int .i64) (.cons (.int .i64) (.int .i64)))))))))))], []⟩, ⟨[.one (.int .i64)], []⟩, fun x => ref43_wrong x.1.1⟩
theorem con21 : Contract Tryz.prog 21 fc21 :=
  ref43_wrong_D.contract tok (cok_of (l := [(46, fc46), (47, fc47)]) ⟨con46, con47, trivial⟩) mixed (fn' := Tryz.f21) (by kernel_rfl) (by kernel_rfl) rfl (by kernel_rfl) (fun x => (FD.fn_eq _ _).trans (by kernel_rfl))
end
end Go.Proofs.YtgpgpelaabdkhaaGreatDoor
end

section
/-
YtgpgpelaabdkhaaGreatDoor: signalbench.signalbenchref05.hexa, as one plain function, its equations, its contract. No condition.
-/
set_option maxRecDepth 100000
set_option linter.unusedVariables false
set_option maxHeartbeats 4000000
open Go Go.AM
namespace Go.Proofs.YtgpgpelaabdkhaaGreatDoor
noncomputable section
def ref05_hexa_D : FD := ⟨T, lookC [(87, fc87)], [], (Tryz.f102.body.getD .skip), Tryz.f102.results.toList, ⟨[.one (.int .u8)], []⟩, ⟨[.one (.int .i64)], []⟩, []⟩
def ref05_hexa (c : Int) : (Option ((Int × Unit) × Unit)) :=
  (ref05_digit c).bind fun y1 =>
    if y1.1.1 = true then
      some ((IntKind.i64.wrap ((IntKind.i64.wrap c) - 48), ()), ())
    else
      if (decide (c ≥ 97)) = true then
        if (decide (c ≤ 102)) = true then
          some ((IntKind.i64.wrap ((IntKind.i64.wrap ((IntKind.i64.wrap c) - 97)) + 10), ()), ())
        else
          some (((-1), ()), ())
      else
        some (((-1), ()), ())
def fc102 : FC := ⟨⟨[.one (.int .u8)], []⟩, ⟨[.one (.int .i64)], []⟩, fun x => ref05_hexa x.1.1⟩
theorem con102 : Contract Tryz.prog 102 fc102 :=
  ref05_hexa_D.contract tok (cok_of (l := [(87, fc87)]) ⟨con87, trivial⟩) mixed (fn' := Tryz.f102) (by kernel_rfl) (by kernel_rfl) rfl (by kernel_rfl) (fun x => (FD.fn_eq _ _).trans (by kernel_rfl))
end
end Go.Proofs.YtgpgpelaabdkhaaGreatDoor
end

section
/-
YtgpgpelaabdkhaaGreatDoor: signalbench.signalbenchref05.plain, as one plain function, its equations, its contract. No condition.
-/
set_option maxRecDepth 100000
set_option linter.unusedVariables false
set_option maxHeartbeats 4000000
open Go Go.AM
namespace Go.Proofs.YtgpgpelaabdkhaaGreatDoor
noncomputable section
def ref05_plain_F7 : FSh := ⟨[(0, .one .str), (1, .one (.int .i64)), (6, .one (.int .i64)), (7, .one (.int .i64))], []⟩
def ref05_plain_D : FD := ⟨T, lookC [(102, fc102)], [], (Tryz.f95.body.getD .skip), Tryz.f95.results.toList, ⟨[.one .str, .one (.int .i64)], []⟩, ⟨[.one (.int .i64), .one .bool], []⟩, [(7, ref05_plain_F7)]⟩
def ref05_plain_l7 (s : ByteArray) (base : Int) (n : Int) (i : Int) : (Option ((Int × Bool × Unit) × Unit)) := ref05_plain_D.lab 7 ref05_plain_F7 ((s, base, n, i, ()), ())
theorem ref05_plain_l7_eq (s : ByteArray) (base : Int) (n : Int) (i : Int) : ref05_plain_l7 s base n i =
  if (decide (i < (s.size : Int))) = true then
    if 0 ≤ i ∧ i < (s.size : Int) then
      (ref05_hexa (bt s i)).bind fun y1 =>
        if (decide (y1.1.1 < 0)) = true then
          some ((0, false, ()), ())
        else
          if (decide (y1.1.1 ≥ base)) = true then
            some ((0, false, ()), ())
          else
            if (decide ((IntKind.i64.wrap ((IntKind.i64.wrap (n * base)) + y1.1.1)) > 9007199254740992)) = true then
              ref05_plain_l7 s base 9007199254740993 (IntKind.i64.wrap (i + 1))
            else
              ref05_plain_l7 s base (IntKind.i64.wrap ((IntKind.i64.wrap (n * base)) + y1.1.1)) (IntKind.i64.wrap (i + 1))
    else
      none
  else
    some ((n, true, ()), ()) := (FD.lab_eq _ _ _ _).trans (by kernel_rfl)
def ref05_plain (s : ByteArray) (base : Int) : (Option ((Int × Bool × Unit) × Unit)) :=
  if ((s.size : Int) == 0) = true then
    some ((0, false, ()), ())
  else
    if (decide ((s.size : Int) > 1)) = true then
      if 0 ≤ (0 : Int) ∧ 0 < (s.size : Int) then
        if ((bt s 0) == 48) = true then
          some ((0, false, ()), ())
        else
          ref05_plain_l7 s base 0 0
      else
        none
    else
      ref05_plain_l7 s base 0 0
def fc95 : FC := ⟨⟨[.one .str, .one (.int .i64)], []⟩, ⟨[.one (.int .i64), .one .bool], []⟩, fun x => ref05_plain x.1.1 x.1.2.1⟩
theorem con95 : Contract Tryz.prog 95 fc95 :=
  ref05_plain_D.contract tok (cok_of (l := [(102, fc102)]) ⟨con102, trivial⟩) mixed (fn' := Tryz.f95) (by kernel_rfl) (by kernel_rfl) rfl (by kernel_rfl) (fun x => (FD.fn_eq _ _).trans (by kernel_rfl))
end
end Go.Proofs.YtgpgpelaabdkhaaGreatDoor
end

section
/-
YtgpgpelaabdkhaaGreatDoor: signalbench.signalbenchref05.Number, as one plain function, its equations, its contract. No condition.
-/
set_option maxRecDepth 100000
set_option linter.unusedVariables false
set_option maxHeartbeats 4000000
open Go Go.AM
namespace Go.Proofs.YtgpgpelaabdkhaaGreatDoor
noncomputable section
def ref05_Number_F3 : FSh := ⟨[(4, .one .str), (5, .one (.int .i64))], []⟩
def ref05_Number_F7 : FSh := ⟨[(5, .one (.int .i64)), (6, .one (.int .i64)), (7, .one .bool)], []⟩
def ref05_Number_D : FD := ⟨T, lookC [(95, fc95)], [7, 3], (Tryz.f74.body.getD .skip), Tryz.f74.results.toList, ⟨[.one .str], []⟩, ⟨[.one (.int .i64), .one (.int .i64)], []⟩, [(3, ref05_Number_F3), (7, ref05_Number_F7)]⟩
def ref05_Number_l3 (body : ByteArray) (sign : Int) : (Option ((Int × Int × Unit) × Unit)) := ref05_Number_D.lab 3 ref05_Number_F3 ((body, sign, ()), ())
def ref05_Number_l7 (sign : Int) (n : Int) (ok : Bool) : (Option ((Int × Int × Unit) × Unit)) := ref05_Number_D.lab 7 ref05_Number_F7 ((sign, n, ok, ()), ())
theorem ref05_Number_l3_eq (body : ByteArray) (sign : Int) : ref05_Number_l3 body sign =
  if (decide ((body.size : Int) > 2)) = true then
    if 0 ≤ (0 : Int) ∧ (0 : Int) ≤ 2 ∧ 2 ≤ (body.size : Int) then
      if ((body.extract 0 2).toList == (strB [48, 120]).toList) = true then
        if 0 ≤ (2 : Int) ∧ 2 ≤ (body.size : Int) then
          (ref05_plain (body.extract 2 body.size) 16).bind fun y1 =>
            ref05_Number_l7 sign y1.1.1 y1.1.2.1
        else
          none
      else
        (ref05_plain body 10).bind fun y2 =>
          ref05_Number_l7 sign y2.1.1 y2.1.2.1
    else
      none
  else
    (ref05_plain body 10).bind fun y3 =>
      ref05_Number_l7 sign y3.1.1 y3.1.2.1 := (FD.lab_eq _ _ _ _).trans (by kernel_rfl)
theorem ref05_Number_l7_eq (sign : Int) (n : Int) (ok : Bool) : ref05_Number_l7 sign n ok =
  if (!ok) = true then
    some ((0, 4, ()), ())
  else
    if (decide (sign < 0)) = true then
      if (n == 0) = true then
        some ((0, 4, ()), ())
      else
        if (decide (n > 9007199254740992)) = true then
          some ((0, 2, ()), ())
        else
          some ((IntKind.i64.wrap (sign * n), 0, ()), ())
    else
      if (decide (n > 9007199254740992)) = true then
        some ((0, 2, ()), ())
      else
        some ((IntKind.i64.wrap (sign * n), 0, ()), ()) := (FD.lab_eq _ _ _ _).trans (by kernel_rfl)
def ref05_Number (s : ByteArray) : (Option ((Int × Int × Unit) × Unit)) :=
  if (decide ((s.size : Int) > 0)) = true then
    if 0 ≤ (0 : Int) ∧ 0 < (s.size : Int) then
      if ((bt s 0) == 45) = true then
        if 0 ≤ (1 : Int) ∧ 1 ≤ (s.size : Int) then
          ref05_Number_l3 (s.extract 1 s.size) (-1)
        else
          none
      else
        ref05_Number_l3 s 1
    else
      none
  else
    ref05_Number_l3 s 1
def fc74 : FC := ⟨⟨[.one .str], []⟩, ⟨[.one (.int .i64), .one (.int .i64)], []⟩, fun x => ref05_Number x.1.1⟩
theorem con74 : Contract Tryz.prog 74 fc74 :=
  ref05_Number_D.contract tok (cok_of (l := [(95, fc95)]) ⟨con95, trivial⟩) mixed (fn' := Tryz.f74) (by kernel_rfl) (by kernel_rfl) rfl (by kernel_rfl) (fun x => (FD.fn_eq _ _).trans (by kernel_rfl))
end
end Go.Proofs.YtgpgpelaabdkhaaGreatDoor
end

section
/-
YtgpgpelaabdkhaaGreatDoor: signalbench.signalbenchref05.Mark, as one plain function, its equations, its contract. No condition.
-/
set_option maxRecDepth 100000
set_option linter.unusedVariables false
set_option maxHeartbeats 4000000
open Go Go.AM
namespace Go.Proofs.YtgpgpelaabdkhaaGreatDoor
noncomputable section
def ref05_Mark_F4 : FSh := ⟨[(0, .one (.int .u8)), (3, .one .str), (4, .one (.int .i64))], []⟩
def ref05_Mark_D : FD := ⟨T, lookC [], [], (Tryz.f75.body.getD .skip), Tryz.f75.results.toList, ⟨[.one (.int .u8)], []⟩, ⟨[.one .bool], []⟩, [(4, ref05_Mark_F4)]⟩
def ref05_Mark_l4 (c : Int) (marks : ByteArray) (i : Int) : (Option ((Bool × Unit) × Unit)) := ref05_Mark_D.lab 4 ref05_Mark_F4 ((c, marks, i, ()), ())
theorem ref05_Mark_l4_eq (c : Int) (marks : ByteArray) (i : Int) : ref05_Mark_l4 c marks i =
  if (decide (i < (marks.size : Int))) = true then
    if 0 ≤ i ∧ i < (marks.size : Int) then
      if ((bt marks i) == c) = true then
        some ((true, ()), ())
      else
        ref05_Mark_l4 c marks (IntKind.i64.wrap (i + 1))
    else
      none
  else
    some ((false, ()), ()) := (FD.lab_eq _ _ _ _).trans (by kernel_rfl)
def ref05_Mark (c : Int) : (Option ((Bool × Unit) × Unit)) :=
  ref05_Mark_l4 c (strB [40, 41, 91, 93, 123, 125, 60, 62, 61, 44, 59, 58, 46, 47, 42, 43, 33, 38, 124]) 0
def fc75 : FC := ⟨⟨[.one (.int .u8)], []⟩, ⟨[.one .bool], []⟩, fun x => ref05_Mark x.1.1⟩
theorem con75 : Contract Tryz.prog 75 fc75 :=
  ref05_Mark_D.contract tok (cok_of (l := []) trivial) mixed (fn' := Tryz.f75) (by kernel_rfl) (by kernel_rfl) rfl (by kernel_rfl) (fun x => (FD.fn_eq _ _).trans (by kernel_rfl))
end
end Go.Proofs.YtgpgpelaabdkhaaGreatDoor
end

section
/-
YtgpgpelaabdkhaaGreatDoor: signalbench.signalbenchref05.word, as one plain function, its equations, its contract. No condition.
-/
set_option maxRecDepth 100000
set_option linter.unusedVariables false
set_option maxHeartbeats 4000000
open Go Go.AM
namespace Go.Proofs.YtgpgpelaabdkhaaGreatDoor
noncomputable section
def ref05_word_F3 : FSh := ⟨[(0, .one .str), (5, .one (.int .i64))], []⟩
def ref05_word_D : FD := ⟨T, lookC [(72, fc72)], [], (Tryz.f86.body.getD .skip), Tryz.f86.results.toList, ⟨[.one .str, .one (.int .i64)], []⟩, ⟨[.one (.int .i64)], []⟩, [(3, ref05_word_F3)]⟩
def ref05_word_l3 (s : ByteArray) (i : Int) : (Option ((Int × Unit) × Unit)) := ref05_word_D.lab 3 ref05_word_F3 ((s, i, ()), ())
theorem ref05_word_l3_eq (s : ByteArray) (i : Int) : ref05_word_l3 s i =
  if (decide (i < (s.size : Int))) = true then
    if 0 ≤ i ∧ i < (s.size : Int) then
      (ref05_inner (bt s i)).bind fun y1 =>
        if y1.1.1 = true then
          ref05_word_l3 s (IntKind.i64.wrap (i + 1))
        else
          some ((i, ()), ())
    else
      none
  else
    some ((i, ()), ()) := (FD.lab_eq _ _ _ _).trans (by kernel_rfl)
def ref05_word (s : ByteArray) (at_ : Int) : (Option ((Int × Unit) × Unit)) :=
  ref05_word_l3 s (IntKind.i64.wrap (at_ + 1))
def fc86 : FC := ⟨⟨[.one .str, .one (.int .i64)], []⟩, ⟨[.one (.int .i64)], []⟩, fun x => ref05_word x.1.1 x.1.2.1⟩
theorem con86 : Contract Tryz.prog 86 fc86 :=
  ref05_word_D.contract tok (cok_of (l := [(72, fc72)]) ⟨con72, trivial⟩) mixed (fn' := Tryz.f86) (by kernel_rfl) (by kernel_rfl) rfl (by kernel_rfl) (fun x => (FD.fn_eq _ _).trans (by kernel_rfl))
end
end Go.Proofs.YtgpgpelaabdkhaaGreatDoor
end

section
/-
YtgpgpelaabdkhaaGreatDoor: signalbench.signalbenchref05.quoted, as one plain function, its equations, its contract. No condition.
-/
set_option maxRecDepth 100000
set_option linter.unusedVariables false
set_option maxHeartbeats 4000000
open Go Go.AM
namespace Go.Proofs.YtgpgpelaabdkhaaGreatDoor
noncomputable section
def ref05_quoted_F7 : FSh := ⟨[(0, .one .str), (7, .one (.own 0)), (8, .one (.int .i64))], [.arr 5 (.int .u8) true]⟩
def ref05_quoted_D : FD := ⟨T, lookC [(102, fc102)], [], (Tryz.f88.body.getD .skip), Tryz.f88.results.toList, ⟨[.one .str, .one (.int .i64)], []⟩, ⟨[.one .str, .one (.int .i64), .one .bool], []⟩, [(7, ref05_quoted_F7)]⟩
def ref05_quoted_l7 (s : ByteArray) (i : Int) (l0 : (List Int)) : (Option ((ByteArray × Int × Bool × Unit) × Unit)) := ref05_quoted_D.lab 7 ref05_quoted_F7 ((s, (), i, ()), (l0, ()))
theorem ref05_quoted_l7_eq (s : ByteArray) (i : Int) (l0 : (List Int)) : ref05_quoted_l7 s i l0 =
  if (decide (i < (s.size : Int))) = true then
    if 0 ≤ i ∧ i < (s.size : Int) then
      if ((bt s i) == 34) = true then
        some ((strOfBytes l0, IntKind.i64.wrap (i + 1), true, ()), ())
      else
        if (decide ((bt s i) < 32)) = true then
          some (((strB []), 0, false, ()), ())
        else
          if (decide ((bt s i) > 126)) = true then
            some (((strB []), 0, false, ()), ())
          else
            if ((bt s i) != 92) = true then
              if (l0.length + 1) * 1 ≤ 140737488355328 ∧ 0 < 1 then
                ref05_quoted_l7 s (IntKind.i64.wrap (i + 1)) (l0 ++ [bt s i])
              else
                none
            else
              if (decide ((IntKind.i64.wrap (i + 1)) ≥ (s.size : Int))) = true then
                some (((strB []), 0, false, ()), ())
              else
                if 0 ≤ IntKind.i64.wrap (i + 1) ∧ IntKind.i64.wrap (i + 1) < (s.size : Int) then
                  if ((bt s (IntKind.i64.wrap (i + 1))) == 34) = true then
                    if (l0.length + 1) * 1 ≤ 140737488355328 ∧ 0 < 1 then
                      ref05_quoted_l7 s (IntKind.i64.wrap (i + 2)) (l0 ++ [bt s (IntKind.i64.wrap (i + 1))])
                    else
                      none
                  else
                    if ((bt s (IntKind.i64.wrap (i + 1))) == 92) = true then
                      if (l0.length + 1) * 1 ≤ 140737488355328 ∧ 0 < 1 then
                        ref05_quoted_l7 s (IntKind.i64.wrap (i + 2)) (l0 ++ [bt s (IntKind.i64.wrap (i + 1))])
                      else
                        none
                    else
                      if ((bt s (IntKind.i64.wrap (i + 1))) == 110) = true then
                        if (l0.length + 1) * 1 ≤ 140737488355328 ∧ 0 < 1 then
                          ref05_quoted_l7 s (IntKind.i64.wrap (i + 2)) (l0 ++ [10])
                        else
                          none
                      else
                        if ((bt s (IntKind.i64.wrap (i + 1))) == 120) = true then
                          if (decide ((IntKind.i64.wrap (i + 3)) < (s.size : Int))) = true then
                            if 0 ≤ IntKind.i64.wrap (i + 2) ∧ IntKind.i64.wrap (i + 2) < (s.size : Int) then
                              (ref05_hexa (bt s (IntKind.i64.wrap (i + 2)))).bind fun y1 =>
                                if (decide (y1.1.1 ≥ 0)) = true then
                                  if 0 ≤ IntKind.i64.wrap (i + 3) ∧ IntKind.i64.wrap (i + 3) < (s.size : Int) then
                                    (ref05_hexa (bt s (IntKind.i64.wrap (i + 3)))).bind fun y2 =>
                                      if (decide (y2.1.1 ≥ 0)) = true then
                                        if 0 ≤ IntKind.i64.wrap (i + 2) ∧ IntKind.i64.wrap (i + 2) < (s.size : Int) then
                                          (ref05_hexa (bt s (IntKind.i64.wrap (i + 2)))).bind fun y3 =>
                                            if 0 ≤ IntKind.i64.wrap (i + 3) ∧ IntKind.i64.wrap (i + 3) < (s.size : Int) then
                                              (ref05_hexa (bt s (IntKind.i64.wrap (i + 3)))).bind fun y4 =>
                                                if (l0.length + 1) * 1 ≤ 140737488355328 ∧ 0 < 1 then
                                                  ref05_quoted_l7 s (IntKind.i64.wrap (i + 4)) (l0 ++ [IntKind.u8.wrap (IntKind.i64.wrap ((IntKind.i64.wrap (y3.1.1 * 16)) + y4.1.1))])
                                                else
                                                  none
                                            else
                                              none
                                        else
                                          none
                                      else
                                        some (((strB []), 0, false, ()), ())
                                  else
                                    none
                                else
                                  some (((strB []), 0, false, ()), ())
                            else
                              none
                          else
                            some (((strB []), 0, false, ()), ())
                        else
                          some (((strB []), 0, false, ()), ())
                else
                  none
    else
      none
  else
    some (((strB []), 0, false, ()), ()) := (FD.lab_eq _ _ _ _).trans (by kernel_rfl)
def ref05_quoted (s : ByteArray) (at_ : Int) : (Option ((ByteArray × Int × Bool × Unit) × Unit)) :=
  if (decide (at_ ≥ (s.size : Int))) = true then
    some (((strB []), 0, false, ()), ())
  else
    if 0 ≤ at_ ∧ at_ < (s.size : Int) then
      if ((bt s at_) != 34) = true then
        some (((strB []), 0, false, ()), ())
      else
        ref05_quoted_l7 s (IntKind.i64.wrap (at_ + 1)) []
    else
      none
def fc88 : FC := ⟨⟨[.one .str, .one (.int .i64)], []⟩, ⟨[.one .str, .one (.int .i64), .one .bool], []⟩, fun x => ref05_quoted x.1.1 x.1.2.1⟩
theorem con88 : Contract Tryz.prog 88 fc88 :=
  ref05_quoted_D.contract tok (cok_of (l := [(102, fc102)]) ⟨con102, trivial⟩) mixed (fn' := Tryz.f88) (by kernel_rfl) (by kernel_rfl) rfl (by kernel_rfl) (fun x => (FD.fn_eq _ _).trans (by kernel_rfl))
end
end Go.Proofs.YtgpgpelaabdkhaaGreatDoor
end

section
/-
YtgpgpelaabdkhaaGreatDoor: signalbench.signalbenchref05.token, as one plain function, its equations, its contract. No condition.
-/
set_option maxRecDepth 100000
set_option linter.unusedVariables false
set_option maxHeartbeats 4000000
open Go Go.AM
namespace Go.Proofs.YtgpgpelaabdkhaaGreatDoor
noncomputable section
def ref05_token_D : FD := ⟨T, lookC [(46, fc46), (71, fc71), (74, fc74), (75, fc75), (86, fc86), (87, fc87), (88, fc88)], [], (Tryz.f58.body.getD .skip), Tryz.f58.results.toList, ⟨[.one .str, .one (.int .i64), .one (.int .i64)], []⟩, ⟨[.row (.cons (.int .i64) (.cons .str (.cons (.int .i64) (.int .i64)))), .one (.int .i64), .one (.int .i64)], []⟩, []⟩
def ref05_token (s : ByteArray) (at_ : Int) (line : Int) : (Option ((TToken × Int × Int × Unit) × Unit)) :=
  if 0 ≤ at_ ∧ at_ < (s.size : Int) then
    (ref05_letter (bt s at_)).bind fun y1 =>
      if y1.1.1 = true then
        (ref05_word s at_).bind fun y2 =>
          if 0 ≤ at_ ∧ at_ ≤ y2.1.1 ∧ y2.1.1 ≤ (s.size : Int) then
            (ref05_Name (s.extract at_.toNat y2.1.1.toNat)).bind fun y3 =>
              if (!y3.1.1) = true then
                some (((0, (strB []), 0, 0), 0, 4, ()), ())
              else
                if 0 ≤ at_ ∧ at_ ≤ y2.1.1 ∧ y2.1.1 ≤ (s.size : Int) then
                  some (((1, s.extract at_.toNat y2.1.1.toNat, 0, line), y2.1.1, 0, ()), ())
                else
                  none
          else
            none
      else
        (ref05_digit (bt s at_)).bind fun y4 =>
          if y4.1.1 = true then
            (ref05_word s at_).bind fun y5 =>
              if 0 ≤ at_ ∧ at_ ≤ y5.1.1 ∧ y5.1.1 ≤ (s.size : Int) then
                (ref05_Number (s.extract at_.toNat y5.1.1.toNat)).bind fun y6 =>
                  if (y6.1.2.1 != 0) = true then
                    some (((0, (strB []), 0, 0), 0, y6.1.2.1, ()), ())
                  else
                    if 0 ≤ at_ ∧ at_ ≤ y5.1.1 ∧ y5.1.1 ≤ (s.size : Int) then
                      some (((2, s.extract at_.toNat y5.1.1.toNat, y6.1.1, line), y5.1.1, 0, ()), ())
                    else
                      none
              else
                none
          else
            if ((bt s at_) == 45) = true then
              (ref05_word s at_).bind fun y7 =>
                if 0 ≤ at_ ∧ at_ ≤ y7.1.1 ∧ y7.1.1 ≤ (s.size : Int) then
                  (ref05_Number (s.extract at_.toNat y7.1.1.toNat)).bind fun y8 =>
                    if (y8.1.2.1 != 0) = true then
                      some (((0, (strB []), 0, 0), 0, y8.1.2.1, ()), ())
                    else
                      if 0 ≤ at_ ∧ at_ ≤ y7.1.1 ∧ y7.1.1 ≤ (s.size : Int) then
                        some (((2, s.extract at_.toNat y7.1.1.toNat, y8.1.1, line), y7.1.1, 0, ()), ())
                      else
                        none
                else
                  none
            else
              if ((bt s at_) == 34) = true then
                (ref05_quoted s at_).bind fun y9 =>
                  if (!y9.1.2.2.1) = true then
                    some (((0, (strB []), 0, 0), 0, 4, ()), ())
                  else
                    some (((3, y9.1.1, 0, line), y9.1.2.1, 0, ()), ())
              else
                (ref05_Mark (bt s at_)).bind fun y10 =>
                  if y10.1.1 = true then
                    if 0 ≤ at_ ∧ at_ ≤ IntKind.i64.wrap (at_ + 1) ∧ IntKind.i64.wrap (at_ + 1) ≤ (s.size : Int) then
                      some (((4, s.extract at_.toNat (IntKind.i64.wrap (at_ + 1)).toNat, 0, line), IntKind.i64.wrap (at_ + 1), 0, ()), ())
                    else
                      none
                  else
                    some (((0, (strB []), 0, 0), 0, 4, ()), ())
  else
    none
def fc58 : FC := ⟨⟨[.one .str, .one (.int .i64), .one (.int .i64)], []⟩, ⟨[.row (.cons (.int .i64) (.cons .str (.cons (.int .i64) (.int .i64)))), .one (.int .i64), .one (.int .i64)], []⟩, fun x => ref05_token x.1.1 x.1.2.1 x.1.2.2.1⟩
theorem con58 : Contract Tryz.prog 58 fc58 :=
  ref05_token_D.contract tok (cok_of (l := [(46, fc46), (71, fc71), (74, fc74), (75, fc75), (86, fc86), (87, fc87), (88, fc88)]) ⟨con46, con71, con74, con75, con86, con87, con88, trivial⟩) mixed (fn' := Tryz.f58) (by kernel_rfl) (by kernel_rfl) rfl (by kernel_rfl) (fun x => (FD.fn_eq _ _).trans (by kernel_rfl))
end
end Go.Proofs.YtgpgpelaabdkhaaGreatDoor
end

section
/-
YtgpgpelaabdkhaaGreatDoor: signalbench.signalbenchref05.Tokens, as one plain function, its equations, its contract. No condition.
-/
set_option maxRecDepth 100000
set_option linter.unusedVariables false
set_option maxHeartbeats 4000000
open Go Go.AM
namespace Go.Proofs.YtgpgpelaabdkhaaGreatDoor
noncomputable section
def ref05_Tokens_F8 : FSh := ⟨[(0, .one .str), (5, .one (.own 0)), (6, .one (.int .i64)), (7, .one (.int .i64))], [.arr 54 (.cons (.int .i64) (.cons .str (.cons (.int .i64) (.int .i64)))) true]⟩
def ref05_Tokens_F16 : FSh := ⟨[(0, .one .str), (5, .one (.own 0)), (6, .one (.int .i64)), (7, .one (.int .i64))], [.arr 54 (.cons (.int .i64) (.cons .str (.cons (.int .i64) (.int .i64)))) true]⟩
def ref05_Tokens_D : FD := ⟨T, lookC [(58, fc58)], [], (Tryz.f28.body.getD .skip), Tryz.f28.results.toList, ⟨[.one .str], []⟩, ⟨[.one (.sl (.cons (.int .i64) (.cons .str (.cons (.int .i64) (.int .i64))))), .one (.int .i64), .one (.int .i64)], []⟩, [(8, ref05_Tokens_F8), (16, ref05_Tokens_F16)]⟩
def ref05_Tokens_l8 (s : ByteArray) (line : Int) (i : Int) (l0 : (List TToken)) : (Option (((List TToken) × Int × Int × Unit) × Unit)) := ref05_Tokens_D.lab 8 ref05_Tokens_F8 ((s, (), line, i, ()), (l0, ()))
def ref05_Tokens_l16 (s : ByteArray) (line : Int) (i : Int) (l0 : (List TToken)) : (Option (((List TToken) × Int × Int × Unit) × Unit)) := ref05_Tokens_D.lab 16 ref05_Tokens_F16 ((s, (), line, i, ()), (l0, ()))
theorem ref05_Tokens_l8_eq (s : ByteArray) (line : Int) (i : Int) (l0 : (List TToken)) : ref05_Tokens_l8 s line i l0 =
  if (decide (i < (s.size : Int))) = true then
    if 0 ≤ i ∧ i < (s.size : Int) then
      if ((bt s i) == 10) = true then
        ref05_Tokens_l8 s (IntKind.i64.wrap (line + 1)) (IntKind.i64.wrap (i + 1)) l0
      else
        if ((bt s i) == 32) = true then
          ref05_Tokens_l8 s line (IntKind.i64.wrap (i + 1)) l0
        else
          if ((bt s i) == 9) = true then
            ref05_Tokens_l8 s line (IntKind.i64.wrap (i + 1)) l0
          else
            if ((bt s i) == 35) = true then
              ref05_Tokens_l16 s line i l0
            else
              (ref05_token s i line).bind fun y1 =>
                if (y1.1.2.2.1 != 0) = true then
                  some (([], line, y1.1.2.2.1, ()), ())
                else
                  if (l0.length + 1) * 40 ≤ 140737488355328 ∧ 0 < 40 then
                    ref05_Tokens_l8 s line y1.1.2.1 (l0 ++ [y1.1.1])
                  else
                    none
    else
      none
  else
    some ((l0, 0, 0, ()), ()) := (FD.lab_eq _ _ _ _).trans (by kernel_rfl)
theorem ref05_Tokens_l16_eq (s : ByteArray) (line : Int) (i : Int) (l0 : (List TToken)) : ref05_Tokens_l16 s line i l0 =
  if (decide (i < (s.size : Int))) = true then
    if 0 ≤ i ∧ i < (s.size : Int) then
      if ((bt s i) != 10) = true then
        ref05_Tokens_l16 s line (IntKind.i64.wrap (i + 1)) l0
      else
        ref05_Tokens_l8 s line i l0
    else
      none
  else
    ref05_Tokens_l8 s line i l0 := (FD.lab_eq _ _ _ _).trans (by kernel_rfl)
def ref05_Tokens (s : ByteArray) : (Option (((List TToken) × Int × Int × Unit) × Unit)) :=
  if (decide ((s.size : Int) > 1048576)) = true then
    some (([], 0, 6, ()), ())
  else
    ref05_Tokens_l8 s 1 0 []
def fc28 : FC := ⟨⟨[.one .str], []⟩, ⟨[.one (.sl (.cons (.int .i64) (.cons .str (.cons (.int .i64) (.int .i64))))), .one (.int .i64), .one (.int .i64)], []⟩, fun x => ref05_Tokens x.1.1⟩
theorem con28 : Contract Tryz.prog 28 fc28 :=
  ref05_Tokens_D.contract tok (cok_of (l := [(58, fc58)]) ⟨con58, trivial⟩) mixed (fn' := Tryz.f28) (by kernel_rfl) (by kernel_rfl) rfl (by kernel_rfl) (fun x => (FD.fn_eq _ _).trans (by kernel_rfl))
end
end Go.Proofs.YtgpgpelaabdkhaaGreatDoor
end

section
/-
YtgpgpelaabdkhaaGreatDoor: signalbench.signalbenchref43.is, as one plain function, its equations, its contract. No condition.
-/
set_option maxRecDepth 100000
set_option linter.unusedVariables false
set_option maxHeartbeats 4000000
open Go Go.AM
namespace Go.Proofs.YtgpgpelaabdkhaaGreatDoor
noncomputable section
def ref43_is_D : FD := ⟨T, lookC [], [], (Tryz.f59.body.getD .skip), Tryz.f59.results.toList, ⟨[.one (.sl (.cons (.int .i64) (.cons .str (.cons (.int .i64) (.int .i64))))), .one (.int .i64), .one .str], []⟩, ⟨[.one .bool], []⟩, []⟩
def ref43_is (l : (List TToken)) (at_ : Int) (s : ByteArray) : (Option ((Bool × Unit) × Unit)) :=
  if (decide (at_ < (l.length : Int))) = true then
    if 0 ≤ at_ ∧ at_ < (l.length : Int) then
      if ((l.getD at_.toNat dToken).1 == 1) = true then
        if 0 ≤ at_ ∧ at_ < (l.length : Int) then
          some (((l.getD at_.toNat dToken).2.1.toList == s.toList, ()), ())
        else
          none
      else
        if 0 ≤ at_ ∧ at_ < (l.length : Int) then
          if ((l.getD at_.toNat dToken).1 == 4) = true then
            if 0 ≤ at_ ∧ at_ < (l.length : Int) then
              some (((l.getD at_.toNat dToken).2.1.toList == s.toList, ()), ())
            else
              none
          else
            some ((false, ()), ())
        else
          none
    else
      none
  else
    some ((false, ()), ())
def fc59 : FC := ⟨⟨[.one (.sl (.cons (.int .i64) (.cons .str (.cons (.int .i64) (.int .i64))))), .one (.int .i64), .one .str], []⟩, ⟨[.one .bool], []⟩, fun x => ref43_is x.1.1 x.1.2.1 x.1.2.2.1⟩
theorem con59 : Contract Tryz.prog 59 fc59 :=
  ref43_is_D.contract tok (cok_of (l := []) trivial) mixed (fn' := Tryz.f59) (by kernel_rfl) (by kernel_rfl) rfl (by kernel_rfl) (fun x => (FD.fn_eq _ _).trans (by kernel_rfl))
end
end Go.Proofs.YtgpgpelaabdkhaaGreatDoor
end

section
/-
YtgpgpelaabdkhaaGreatDoor: signalbench.signalbenchref43.kind, as one plain function, its equations, its contract. No condition.
-/
set_option maxRecDepth 100000
set_option linter.unusedVariables false
set_option maxHeartbeats 4000000
open Go Go.AM
namespace Go.Proofs.YtgpgpelaabdkhaaGreatDoor
noncomputable section
def ref43_kind_D : FD := ⟨T, lookC [], [], (Tryz.f60.body.getD .skip), Tryz.f60.results.toList, ⟨[.one (.sl (.cons (.int .i64) (.cons .str (.cons (.int .i64) (.int .i64))))), .one (.int .i64), .one (.int .i64)], []⟩, ⟨[.one .bool], []⟩, []⟩
def ref43_kind (l : (List TToken)) (at_ : Int) (k0 : Int) : (Option ((Bool × Unit) × Unit)) :=
  if (decide (at_ < (l.length : Int))) = true then
    if 0 ≤ at_ ∧ at_ < (l.length : Int) then
      some (((l.getD at_.toNat dToken).1 == k0, ()), ())
    else
      none
  else
    some ((false, ()), ())
def fc60 : FC := ⟨⟨[.one (.sl (.cons (.int .i64) (.cons .str (.cons (.int .i64) (.int .i64))))), .one (.int .i64), .one (.int .i64)], []⟩, ⟨[.one .bool], []⟩, fun x => ref43_kind x.1.1 x.1.2.1 x.1.2.2.1⟩
theorem con60 : Contract Tryz.prog 60 fc60 :=
  ref43_kind_D.contract tok (cok_of (l := []) trivial) mixed (fn' := Tryz.f60) (by kernel_rfl) (by kernel_rfl) rfl (by kernel_rfl) (fun x => (FD.fn_eq _ _).trans (by kernel_rfl))
end
end Go.Proofs.YtgpgpelaabdkhaaGreatDoor
end

section
/-
YtgpgpelaabdkhaaGreatDoor: signalbench.signalbenchref43.among, as one plain function, its equations, its contract. No condition.
-/
set_option maxRecDepth 100000
set_option linter.unusedVariables false
set_option maxHeartbeats 4000000
open Go Go.AM
namespace Go.Proofs.YtgpgpelaabdkhaaGreatDoor
noncomputable section
def ref43_among_F3 : FSh := ⟨[(0, .one (.sl (.cons (.int .i64) (.cons .str (.cons (.int .i64) (.int .i64)))))), (1, .one (.int .i64)), (2, .one (.sl .str)), (7, .one (.int .i64))], []⟩
def ref43_among_D : FD := ⟨T, lookC [(60, fc60)], [], (Tryz.f103.body.getD .skip), Tryz.f103.results.toList, ⟨[.one (.sl (.cons (.int .i64) (.cons .str (.cons (.int .i64) (.int .i64))))), .one (.int .i64), .one (.sl .str)], []⟩, ⟨[.one (.int .i64)], []⟩, [(3, ref43_among_F3)]⟩
def ref43_among_l3 (l : (List TToken)) (at_ : Int) (words : (List ByteArray)) (i : Int) : (Option ((Int × Unit) × Unit)) := ref43_among_D.lab 3 ref43_among_F3 ((l, at_, words, i, ()), ())
theorem ref43_among_l3_eq (l : (List TToken)) (at_ : Int) (words : (List ByteArray)) (i : Int) : ref43_among_l3 l at_ words i =
  if (decide (i < (words.length : Int))) = true then
    (ref43_kind l at_ 1).bind fun y1 =>
      if y1.1.1 = true then
        if 0 ≤ at_ ∧ at_ < (l.length : Int) then
          if 0 ≤ i ∧ i < (words.length : Int) then
            if ((l.getD at_.toNat dToken).2.1.toList == (words.getD i.toNat (strB [])).toList) = true then
              some ((i, ()), ())
            else
              ref43_among_l3 l at_ words (IntKind.i64.wrap (i + 1))
          else
            none
        else
          none
      else
        ref43_among_l3 l at_ words (IntKind.i64.wrap (i + 1))
  else
    some (((-1), ()), ()) := (FD.lab_eq _ _ _ _).trans (by kernel_rfl)
def ref43_among (l : (List TToken)) (at_ : Int) (words : (List ByteArray)) : (Option ((Int × Unit) × Unit)) :=
  ref43_among_l3 l at_ words 0
def fc103 : FC := ⟨⟨[.one (.sl (.cons (.int .i64) (.cons .str (.cons (.int .i64) (.int .i64))))), .one (.int .i64), .one (.sl .str)], []⟩, ⟨[.one (.int .i64)], []⟩, fun x => ref43_among x.1.1 x.1.2.1 x.1.2.2.1⟩
theorem con103 : Contract Tryz.prog 103 fc103 :=
  ref43_among_D.contract tok (cok_of (l := [(60, fc60)]) ⟨con60, trivial⟩) mixed (fn' := Tryz.f103) (by kernel_rfl) (by kernel_rfl) rfl (by kernel_rfl) (fun x => (FD.fn_eq _ _).trans (by kernel_rfl))
end
end Go.Proofs.YtgpgpelaabdkhaaGreatDoor
end

section
/-
YtgpgpelaabdkhaaGreatDoor: signalbench.signalbenchref43.one, as one plain function, its equations, its contract. No condition.
-/
set_option maxRecDepth 100000
set_option linter.unusedVariables false
set_option maxHeartbeats 4000000
open Go Go.AM
namespace Go.Proofs.YtgpgpelaabdkhaaGreatDoor
noncomputable section
def ref43_one_D : FD := ⟨T, lookC [], [], (Tryz.f110.body.getD .skip), Tryz.f110.results.toList, ⟨[.one .bool], []⟩, ⟨[.one (.int .i64)], []⟩, []⟩
def ref43_one (b : Bool) : (Option ((Int × Unit) × Unit)) :=
  if b = true then
    some ((1, ()), ())
  else
    some ((0, ()), ())
def fc110 : FC := ⟨⟨[.one .bool], []⟩, ⟨[.one (.int .i64)], []⟩, fun x => ref43_one x.1.1⟩
theorem con110 : Contract Tryz.prog 110 fc110 :=
  ref43_one_D.contract tok (cok_of (l := []) trivial) mixed (fn' := Tryz.f110) (by kernel_rfl) (by kernel_rfl) rfl (by kernel_rfl) (fun x => (FD.fn_eq _ _).trans (by kernel_rfl))
end
end Go.Proofs.YtgpgpelaabdkhaaGreatDoor
end

section
/-
YtgpgpelaabdkhaaGreatDoor: signalbench.signalbenchref43.takeOp, as one plain function, its equations, its contract. No condition.
-/
set_option maxRecDepth 100000
set_option linter.unusedVariables false
set_option maxHeartbeats 4000000
open Go Go.AM
namespace Go.Proofs.YtgpgpelaabdkhaaGreatDoor
noncomputable section
def ref43_takeOp_D : FD := ⟨T, lookC [(59, fc59), (110, fc110)], [], (Tryz.f104.body.getD .skip), Tryz.f104.results.toList, ⟨[.one (.sl (.cons (.int .i64) (.cons .str (.cons (.int .i64) (.int .i64))))), .one (.int .i64)], []⟩, ⟨[.one (.int .i64), .one (.int .i64), .one .bool], []⟩, []⟩
def ref43_takeOp (l : (List TToken)) (at_ : Int) : (Option ((Int × Int × Bool × Unit) × Unit)) :=
  (ref43_is l at_ (strB [61])).bind fun y1 =>
    if y1.1.1 = true then
      some ((1, IntKind.i64.wrap (at_ + 1), true, ()), ())
    else
      (ref43_is l at_ (strB [33])).bind fun y2 =>
        if y2.1.1 = true then
          (ref43_is l (IntKind.i64.wrap (at_ + 1)) (strB [61])).bind fun y3 =>
            (ref43_one (!y3.1.1)).bind fun y4 =>
              (ref43_is l (IntKind.i64.wrap (at_ + 1)) (strB [61])).bind fun y5 =>
                some ((2, IntKind.i64.wrap ((IntKind.i64.wrap (at_ + 2)) - y4.1.1), y5.1.1, ()), ())
        else
          (ref43_is l at_ (strB [60])).bind fun y6 =>
            if y6.1.1 = true then
              some ((3, IntKind.i64.wrap (at_ + 1), true, ()), ())
            else
              (ref43_is l at_ (strB [62])).bind fun y7 =>
                if y7.1.1 = true then
                  some ((4, IntKind.i64.wrap (at_ + 1), true, ()), ())
                else
                  (ref43_is l at_ (strB [38])).bind fun y8 =>
                    (ref43_one y8.1.1).bind fun y9 =>
                      (ref43_is l at_ (strB [38])).bind fun y10 =>
                        some ((5, IntKind.i64.wrap (at_ + y9.1.1), y10.1.1, ()), ())
def fc104 : FC := ⟨⟨[.one (.sl (.cons (.int .i64) (.cons .str (.cons (.int .i64) (.int .i64))))), .one (.int .i64)], []⟩, ⟨[.one (.int .i64), .one (.int .i64), .one .bool], []⟩, fun x => ref43_takeOp x.1.1 x.1.2.1⟩
theorem con104 : Contract Tryz.prog 104 fc104 :=
  ref43_takeOp_D.contract tok (cok_of (l := [(59, fc59), (110, fc110)]) ⟨con59, con110, trivial⟩) mixed (fn' := Tryz.f104) (by kernel_rfl) (by kernel_rfl) rfl (by kernel_rfl) (fun x => (FD.fn_eq _ _).trans (by kernel_rfl))
end
end Go.Proofs.YtgpgpelaabdkhaaGreatDoor
end

section
/-
YtgpgpelaabdkhaaGreatDoor: signalbench.signalbenchref43.kinds, as one plain function, its equations, its contract. No condition.
-/
set_option maxRecDepth 100000
set_option linter.unusedVariables false
set_option maxHeartbeats 4000000
open Go Go.AM
namespace Go.Proofs.YtgpgpelaabdkhaaGreatDoor
noncomputable section
def ref43_kinds_D : FD := ⟨T, lookC [], [], (Tryz.f96.body.getD .skip), Tryz.f96.results.toList, ⟨[], []⟩, ⟨[.one (.sl .str)], []⟩, []⟩
def ref43_kinds : (Option (((List ByteArray) × Unit) × Unit)) :=
  some (([(strB [97, 110, 121]), (strB [108, 101, 118, 101, 108]), (strB [98, 105, 116]), (strB [98, 121, 116, 101]), (strB [109, 97, 114, 107]), (strB [102, 114, 97, 109, 101]), (strB [112, 97, 99, 107, 101, 116]), (strB [99, 111, 109, 109, 97, 110, 100]), (strB [112, 97, 105, 114])], ()), ())
def fc96 : FC := ⟨⟨[], []⟩, ⟨[.one (.sl .str)], []⟩, fun x => ref43_kinds⟩
theorem con96 : Contract Tryz.prog 96 fc96 :=
  ref43_kinds_D.contract tok (cok_of (l := []) trivial) mixed (fn' := Tryz.f96) (by kernel_rfl) (by kernel_rfl) rfl (by kernel_rfl) (fun x => (FD.fn_eq _ _).trans (by kernel_rfl))
end
end Go.Proofs.YtgpgpelaabdkhaaGreatDoor
end

section
/-
YtgpgpelaabdkhaaGreatDoor: signalbench.signalbenchref43.fields, as one plain function, its equations, its contract. No condition.
-/
set_option maxRecDepth 100000
set_option linter.unusedVariables false
set_option maxHeartbeats 4000000
open Go Go.AM
namespace Go.Proofs.YtgpgpelaabdkhaaGreatDoor
noncomputable section
def ref43_fields_D : FD := ⟨T, lookC [], [], (Tryz.f97.body.getD .skip), Tryz.f97.results.toList, ⟨[], []⟩, ⟨[.one (.sl .str)], []⟩, []⟩
def ref43_fields : (Option (((List ByteArray) × Unit) × Unit)) :=
  some (([(strB [118, 97, 108, 117, 101]), (strB [97, 117, 120]), (strB [102, 97, 117, 108, 116]), (strB [108, 101, 110, 103, 116, 104]), (strB [116, 105, 99, 107, 115]), (strB [102, 105, 114, 115, 116])], ()), ())
def fc97 : FC := ⟨⟨[], []⟩, ⟨[.one (.sl .str)], []⟩, fun x => ref43_fields⟩
theorem con97 : Contract Tryz.prog 97 fc97 :=
  ref43_fields_D.contract tok (cok_of (l := []) trivial) mixed (fn' := Tryz.f97) (by kernel_rfl) (by kernel_rfl) rfl (by kernel_rfl) (fun x => (FD.fn_eq _ _).trans (by kernel_rfl))
end
end Go.Proofs.YtgpgpelaabdkhaaGreatDoor
end

section
/-
YtgpgpelaabdkhaaGreatDoor: signalbench.signalbenchref43.takeCond, as one plain function, its equations, its contract. No condition.
-/
set_option maxRecDepth 100000
set_option linter.unusedVariables false
set_option maxHeartbeats 4000000
open Go Go.AM
namespace Go.Proofs.YtgpgpelaabdkhaaGreatDoor
noncomputable section
def ref43_takeCond_D : FD := ⟨T, lookC [(59, fc59), (60, fc60), (96, fc96), (97, fc97), (103, fc103), (104, fc104)], [], (Tryz.f89.body.getD .skip), Tryz.f89.results.toList, ⟨[.one (.sl (.cons (.int .i64) (.cons .str (.cons (.int .i64) (.int .i64))))), .one (.int .i64)], []⟩, ⟨[.row (.cons .str (.cons (.int .i64) (.cons (.int .i64) (.cons (.int .i64) (.int .i64))))), .one (.int .i64), .one .bool], []⟩, []⟩
def ref43_takeCond (l : (List TToken)) (at_ : Int) : (Option ((TCond × Int × Bool × Unit) × Unit)) :=
  (ref43_kind l at_ 1).bind fun y1 =>
    if (!y1.1.1) = true then
      some ((((strB []), 0, 0, 0, 0), at_, false, ()), ())
    else
      if 0 ≤ at_ ∧ at_ < (l.length : Int) then
        (ref43_is l (IntKind.i64.wrap (at_ + 1)) (strB [46])).bind fun y2 =>
          if (!y2.1.1) = true then
            some ((((l.getD at_.toNat dToken).2.1, 0, 0, 0, 0), IntKind.i64.wrap (at_ + 1), false, ()), ())
          else
            (ref43_kinds).bind fun y3 =>
              (ref43_among l (IntKind.i64.wrap (at_ + 2)) y3.1.1).bind fun y4 =>
                if (decide (y4.1.1 < 0)) = true then
                  some ((((l.getD at_.toNat dToken).2.1, y4.1.1, 0, 0, 0), IntKind.i64.wrap (at_ + 2), false, ()), ())
                else
                  (ref43_fields).bind fun y5 =>
                    (ref43_among l (IntKind.i64.wrap (at_ + 3)) y5.1.1).bind fun y6 =>
                      if (decide (y6.1.1 < 0)) = true then
                        some ((((l.getD at_.toNat dToken).2.1, y4.1.1, 0, 0, 0), IntKind.i64.wrap (at_ + 3), true, ()), ())
                      else
                        (ref43_takeOp l (IntKind.i64.wrap ((IntKind.i64.wrap (at_ + 3)) + 1))).bind fun y7 =>
                          if (!y7.1.2.2.1) = true then
                            some ((((l.getD at_.toNat dToken).2.1, y4.1.1, IntKind.i64.wrap (y6.1.1 + 1), y7.1.1, 0), y7.1.2.1, false, ()), ())
                          else
                            (ref43_kind l y7.1.2.1 2).bind fun y8 =>
                              if (!y8.1.1) = true then
                                some ((((l.getD at_.toNat dToken).2.1, y4.1.1, IntKind.i64.wrap (y6.1.1 + 1), y7.1.1, 0), y7.1.2.1, false, ()), ())
                              else
                                if 0 ≤ y7.1.2.1 ∧ y7.1.2.1 < (l.length : Int) then
                                  some ((((l.getD at_.toNat dToken).2.1, y4.1.1, IntKind.i64.wrap (y6.1.1 + 1), y7.1.1, (l.getD y7.1.2.1.toNat dToken).2.2.1), IntKind.i64.wrap (y7.1.2.1 + 1), true, ()), ())
                                else
                                  none
      else
        none
def fc89 : FC := ⟨⟨[.one (.sl (.cons (.int .i64) (.cons .str (.cons (.int .i64) (.int .i64))))), .one (.int .i64)], []⟩, ⟨[.row (.cons .str (.cons (.int .i64) (.cons (.int .i64) (.cons (.int .i64) (.int .i64))))), .one (.int .i64), .one .bool], []⟩, fun x => ref43_takeCond x.1.1 x.1.2.1⟩
theorem con89 : Contract Tryz.prog 89 fc89 :=
  ref43_takeCond_D.contract tok (cok_of (l := [(59, fc59), (60, fc60), (96, fc96), (97, fc97), (103, fc103), (104, fc104)]) ⟨con59, con60, con96, con97, con103, con104, trivial⟩) mixed (fn' := Tryz.f89) (by kernel_rfl) (by kernel_rfl) rfl (by kernel_rfl) (fun x => (FD.fn_eq _ _).trans (by kernel_rfl))
end
end Go.Proofs.YtgpgpelaabdkhaaGreatDoor
end

section
/-
YtgpgpelaabdkhaaGreatDoor: signalbench.signalbenchref43.takeStep, as one plain function, its equations, its contract. No condition.
-/
set_option maxRecDepth 100000
set_option linter.unusedVariables false
set_option maxHeartbeats 4000000
open Go Go.AM
namespace Go.Proofs.YtgpgpelaabdkhaaGreatDoor
noncomputable section
def ref43_takeStep_F6 : FSh := ⟨[(0, .one (.sl (.cons (.int .i64) (.cons .str (.cons (.int .i64) (.int .i64)))))), (1, .one (.int .i64)), (4, .one (.ptr 0 0)), (7, .one (.ptr 1 0)), (8, .one .bool)], [.boxr 37 (.cons (.cons .str (.cons (.int .i64) (.cons (.int .i64) (.cons (.int .i64) (.int .i64))))) (.cons (.int .i64) (.cons (.int .i64) (.cons .bool (.cons .str (.cons (.int .i64) (.cons (.int .i64) (.cons (.int .i64) (.int .i64))))))))), .boxr 37 (.cons (.cons .str (.cons (.int .i64) (.cons (.int .i64) (.cons (.int .i64) (.int .i64))))) (.cons (.int .i64) (.cons (.int .i64) (.cons .bool (.cons .str (.cons (.int .i64) (.cons (.int .i64) (.cons (.int .i64) (.int .i64)))))))))]⟩
def ref43_takeStep_F12 : FSh := ⟨[(0, .one (.sl (.cons (.int .i64) (.cons .str (.cons (.int .i64) (.int .i64)))))), (1, .one (.int .i64)), (4, .one (.ptr 0 0)), (7, .one (.ptr 1 0)), (8, .one .bool)], [.boxr 37 (.cons (.cons .str (.cons (.int .i64) (.cons (.int .i64) (.cons (.int .i64) (.int .i64))))) (.cons (.int .i64) (.cons (.int .i64) (.cons .bool (.cons .str (.cons (.int .i64) (.cons (.int .i64) (.cons (.int .i64) (.int .i64))))))))), .boxr 37 (.cons (.cons .str (.cons (.int .i64) (.cons (.int .i64) (.cons (.int .i64) (.int .i64))))) (.cons (.int .i64) (.cons (.int .i64) (.cons .bool (.cons .str (.cons (.int .i64) (.cons (.int .i64) (.cons (.int .i64) (.int .i64)))))))))]⟩
def ref43_takeStep_D : FD := ⟨T, lookC [(59, fc59), (60, fc60), (89, fc89)], [12, 6], (Tryz.f61.body.getD .skip), Tryz.f61.results.toList, ⟨[.one (.sl (.cons (.int .i64) (.cons .str (.cons (.int .i64) (.int .i64))))), .one (.int .i64)], []⟩, ⟨[.row (.cons (.cons .str (.cons (.int .i64) (.cons (.int .i64) (.cons (.int .i64) (.int .i64))))) (.cons (.int .i64) (.cons (.int .i64) (.cons .bool (.cons .str (.cons (.int .i64) (.cons (.int .i64) (.cons (.int .i64) (.int .i64))))))))), .one (.int .i64), .one .bool], []⟩, [(6, ref43_takeStep_F6), (12, ref43_takeStep_F12)]⟩
def ref43_takeStep_l6 (l : (List TToken)) (at_ : Int) (ok : Bool) (h0 : TTrigStep) (h1 : TTrigStep) : (Option ((TTrigStep × Int × Bool × Unit) × Unit)) := ref43_takeStep_D.lab 6 ref43_takeStep_F6 ((l, at_, (), (), ok, ()), (h0, h1, ()))
def ref43_takeStep_l12 (l : (List TToken)) (at_ : Int) (ok : Bool) (h0 : TTrigStep) (h1 : TTrigStep) : (Option ((TTrigStep × Int × Bool × Unit) × Unit)) := ref43_takeStep_D.lab 12 ref43_takeStep_F12 ((l, at_, (), (), ok, ()), (h0, h1, ()))
theorem ref43_takeStep_l6_eq (l : (List TToken)) (at_ : Int) (ok : Bool) (h0 : TTrigStep) (h1 : TTrigStep) : ref43_takeStep_l6 l at_ ok h0 h1 =
  (ref43_is l at_ (strB [119, 105, 116, 104, 105, 110])).bind fun y1 =>
    if y1.1.1 = true then
      (ref43_kind l (IntKind.i64.wrap (at_ + 1)) 2).bind fun y2 =>
        if (!y2.1.1) = true then
          some ((h1, IntKind.i64.wrap (at_ + 1), false, ()), ())
        else
          if 0 ≤ IntKind.i64.wrap (at_ + 1) ∧ IntKind.i64.wrap (at_ + 1) < (l.length : Int) then
            ref43_takeStep_l12 l (IntKind.i64.wrap (at_ + 2)) ok h0 (h1.1, h1.2.1, (l.getD (IntKind.i64.wrap (at_ + 1)).toNat dToken).2.2.1, h1.2.2.2)
          else
            none
    else
      ref43_takeStep_l12 l at_ ok h0 h1 := (FD.lab_eq _ _ _ _).trans (by kernel_rfl)
theorem ref43_takeStep_l12_eq (l : (List TToken)) (at_ : Int) (ok : Bool) (h0 : TTrigStep) (h1 : TTrigStep) : ref43_takeStep_l12 l at_ ok h0 h1 =
  (ref43_is l at_ (strB [117, 110, 108, 101, 115, 115])).bind fun y1 =>
    if y1.1.1 = true then
      (ref43_takeCond l (IntKind.i64.wrap (at_ + 1))).bind fun y2 =>
        some (((h1.1, h1.2.1, h1.2.2.1, true, y2.1.1), y2.1.2.1, y2.1.2.2.1, ()), ())
    else
      some ((h1, at_, ok, ()), ()) := (FD.lab_eq _ _ _ _).trans (by kernel_rfl)
def ref43_takeStep (l : (List TToken)) (at_ : Int) : (Option ((TTrigStep × Int × Bool × Unit) × Unit)) :=
  (ref43_takeCond l at_).bind fun y1 =>
    if (!y1.1.2.2.1) = true then
      some (((y1.1.1, 1, 0, false, (strB []), 0, 0, 0, 0), y1.1.2.1, false, ()), ())
    else
      (ref43_is l y1.1.2.1 (strB [120])).bind fun y2 =>
        if y2.1.1 = true then
          (ref43_kind l (IntKind.i64.wrap (y1.1.2.1 + 1)) 2).bind fun y3 =>
            if (!y3.1.1) = true then
              some (((y1.1.1, 1, 0, false, (strB []), 0, 0, 0, 0), IntKind.i64.wrap (y1.1.2.1 + 1), false, ()), ())
            else
              if 0 ≤ IntKind.i64.wrap (y1.1.2.1 + 1) ∧ IntKind.i64.wrap (y1.1.2.1 + 1) < (l.length : Int) then
                ref43_takeStep_l6 l (IntKind.i64.wrap (y1.1.2.1 + 2)) y1.1.2.2.1 (((strB []), 0, 0, 0, 0), 0, 0, false, (strB []), 0, 0, 0, 0) (y1.1.1, (l.getD (IntKind.i64.wrap (y1.1.2.1 + 1)).toNat dToken).2.2.1, 0, false, (strB []), 0, 0, 0, 0)
              else
                none
        else
          ref43_takeStep_l6 l y1.1.2.1 y1.1.2.2.1 (((strB []), 0, 0, 0, 0), 0, 0, false, (strB []), 0, 0, 0, 0) (y1.1.1, 1, 0, false, (strB []), 0, 0, 0, 0)
def fc61 : FC := ⟨⟨[.one (.sl (.cons (.int .i64) (.cons .str (.cons (.int .i64) (.int .i64))))), .one (.int .i64)], []⟩, ⟨[.row (.cons (.cons .str (.cons (.int .i64) (.cons (.int .i64) (.cons (.int .i64) (.int .i64))))) (.cons (.int .i64) (.cons (.int .i64) (.cons .bool (.cons .str (.cons (.int .i64) (.cons (.int .i64) (.cons (.int .i64) (.int .i64))))))))), .one (.int .i64), .one .bool], []⟩, fun x => ref43_takeStep x.1.1 x.1.2.1⟩
theorem con61 : Contract Tryz.prog 61 fc61 :=
  ref43_takeStep_D.contract tok (cok_of (l := [(59, fc59), (60, fc60), (89, fc89)]) ⟨con59, con60, con89, trivial⟩) mixed (fn' := Tryz.f61) (by kernel_rfl) (by kernel_rfl) rfl (by kernel_rfl) (fun x => (FD.fn_eq _ _).trans (by kernel_rfl))
end
end Go.Proofs.YtgpgpelaabdkhaaGreatDoor
end

section
/-
YtgpgpelaabdkhaaGreatDoor: signalbench.signalbenchref43.takeTrigger, as one plain function, its equations, its contract. No condition.
-/
set_option maxRecDepth 100000
set_option linter.unusedVariables false
set_option maxHeartbeats 4000000
open Go Go.AM
namespace Go.Proofs.YtgpgpelaabdkhaaGreatDoor
noncomputable section
def ref43_takeTrigger_F15 : FSh := ⟨[(0, .one (.sl (.cons (.int .i64) (.cons .str (.cons (.int .i64) (.int .i64)))))), (2, .one (.ptr 0 0)), (5, .one (.ptr 1 0)), (6, .one (.int .i64)), (7, .one (.int .i64))], [.box 24 [.str, (.own 2)], .box 24 [.str, (.own 3)], .arr 37 (.cons (.cons .str (.cons (.int .i64) (.cons (.int .i64) (.cons (.int .i64) (.int .i64))))) (.cons (.int .i64) (.cons (.int .i64) (.cons .bool (.cons .str (.cons (.int .i64) (.cons (.int .i64) (.cons (.int .i64) (.int .i64))))))))) true, .arr 37 (.cons (.cons .str (.cons (.int .i64) (.cons (.int .i64) (.cons (.int .i64) (.int .i64))))) (.cons (.int .i64) (.cons (.int .i64) (.cons .bool (.cons .str (.cons (.int .i64) (.cons (.int .i64) (.cons (.int .i64) (.int .i64))))))))) true]⟩
def ref43_takeTrigger_F19 : FSh := ⟨[(0, .one (.sl (.cons (.int .i64) (.cons .str (.cons (.int .i64) (.int .i64)))))), (2, .one (.ptr 0 0)), (5, .one (.ptr 1 0)), (6, .one (.int .i64)), (7, .one (.int .i64))], [.box 24 [.str, (.own 2)], .box 24 [.str, (.own 3)], .arr 37 (.cons (.cons .str (.cons (.int .i64) (.cons (.int .i64) (.cons (.int .i64) (.int .i64))))) (.cons (.int .i64) (.cons (.int .i64) (.cons .bool (.cons .str (.cons (.int .i64) (.cons (.int .i64) (.cons (.int .i64) (.int .i64))))))))) true, .arr 37 (.cons (.cons .str (.cons (.int .i64) (.cons (.int .i64) (.cons (.int .i64) (.int .i64))))) (.cons (.int .i64) (.cons (.int .i64) (.cons .bool (.cons .str (.cons (.int .i64) (.cons (.int .i64) (.cons (.int .i64) (.int .i64))))))))) true]⟩
def ref43_takeTrigger_D : FD := ⟨T, lookC [(59, fc59), (60, fc60), (61, fc61)], [19], (Tryz.f29.body.getD .skip), Tryz.f29.results.toList, ⟨[.one (.sl (.cons (.int .i64) (.cons .str (.cons (.int .i64) (.int .i64)))))], []⟩, ⟨[.row (.cons .str (.sl (.cons (.cons .str (.cons (.int .i64) (.cons (.int .i64) (.cons (.int .i64) (.int .i64))))) (.cons (.int .i64) (.cons (.int .i64) (.cons .bool (.cons .str (.cons (.int .i64) (.cons (.int .i64) (.cons (.int .i64) (.int .i64))))))))))), .one (.int .i64), .one .bool], []⟩, [(15, ref43_takeTrigger_F15), (19, ref43_takeTrigger_F19)]⟩
def ref43_takeTrigger_l15 (l : (List TToken)) (at_ : Int) (n : Int) (h0_0 : ByteArray) (h1_0 : ByteArray) (l2 : (List TTrigStep)) (l3 : (List TTrigStep)) : (Option ((TTrigger × Int × Bool × Unit) × Unit)) := ref43_takeTrigger_D.lab 15 ref43_takeTrigger_F15 ((l, (), (), at_, n, ()), ((h0_0, (), ()), (h1_0, (), ()), l2, l3, ()))
def ref43_takeTrigger_l19 (l : (List TToken)) (at_ : Int) (n : Int) (h0_0 : ByteArray) (h1_0 : ByteArray) (l2 : (List TTrigStep)) (l3 : (List TTrigStep)) : (Option ((TTrigger × Int × Bool × Unit) × Unit)) := ref43_takeTrigger_D.lab 19 ref43_takeTrigger_F19 ((l, (), (), at_, n, ()), ((h0_0, (), ()), (h1_0, (), ()), l2, l3, ()))
theorem ref43_takeTrigger_l15_eq (l : (List TToken)) (at_ : Int) (n : Int) (h0_0 : ByteArray) (h1_0 : ByteArray) (l2 : (List TTrigStep)) (l3 : (List TTrigStep)) : ref43_takeTrigger_l15 l at_ n h0_0 h1_0 l2 l3 =
  if (n == 0) = true then
    if (decide (n > 0)) = true then
      ref43_takeTrigger_l19 l (IntKind.i64.wrap (at_ + 1)) n h0_0 h1_0 l2 l3
    else
      ref43_takeTrigger_l19 l at_ n h0_0 h1_0 l2 l3
  else
    (ref43_is l at_ (strB [59])).bind fun y1 =>
      if y1.1.1 = true then
        if (decide (n > 0)) = true then
          ref43_takeTrigger_l19 l (IntKind.i64.wrap (at_ + 1)) n h0_0 h1_0 l2 l3
        else
          ref43_takeTrigger_l19 l at_ n h0_0 h1_0 l2 l3
      else
        some (((h1_0, l3), at_, at_ == (l.length : Int), ()), ()) := (FD.lab_eq _ _ _ _).trans (by kernel_rfl)
theorem ref43_takeTrigger_l19_eq (l : (List TToken)) (at_ : Int) (n : Int) (h0_0 : ByteArray) (h1_0 : ByteArray) (l2 : (List TTrigStep)) (l3 : (List TTrigStep)) : ref43_takeTrigger_l19 l at_ n h0_0 h1_0 l2 l3 =
  (ref43_takeStep l at_).bind fun y1 =>
    if (!y1.1.2.2.1) = true then
      some (((h1_0, l3), y1.1.2.1, false, ()), ())
    else
      if (l3.length + 1) * 120 ≤ 140737488355328 ∧ 0 < 120 then
        ref43_takeTrigger_l15 l y1.1.2.1 (IntKind.i64.wrap (n + 1)) h0_0 h1_0 l2 (l3 ++ [y1.1.1])
      else
        none := (FD.lab_eq _ _ _ _).trans (by kernel_rfl)
def ref43_takeTrigger (l : (List TToken)) : (Option ((TTrigger × Int × Bool × Unit) × Unit)) :=
  (ref43_is l 0 (strB [116, 114, 105, 103, 103, 101, 114])).bind fun y1 =>
    if (!y1.1.1) = true then
      some ((((strB []), []), 0, false, ()), ())
    else
      (ref43_kind l 1 1).bind fun y2 =>
        if (!y2.1.1) = true then
          some ((((strB []), []), 1, false, ()), ())
        else
          if 0 ≤ (1 : Int) ∧ 1 < (l.length : Int) then
            (ref43_is l 2 (strB [58])).bind fun y3 =>
              if (!y3.1.1) = true then
                some ((((l.getD 1 dToken).2.1, []), 2, false, ()), ())
              else
                ref43_takeTrigger_l15 l 3 0 (strB []) (l.getD 1 dToken).2.1 [] []
          else
            none
def fc29 : FC := ⟨⟨[.one (.sl (.cons (.int .i64) (.cons .str (.cons (.int .i64) (.int .i64)))))], []⟩, ⟨[.row (.cons .str (.sl (.cons (.cons .str (.cons (.int .i64) (.cons (.int .i64) (.cons (.int .i64) (.int .i64))))) (.cons (.int .i64) (.cons (.int .i64) (.cons .bool (.cons .str (.cons (.int .i64) (.cons (.int .i64) (.cons (.int .i64) (.int .i64))))))))))), .one (.int .i64), .one .bool], []⟩, fun x => ref43_takeTrigger x.1.1⟩
theorem con29 : Contract Tryz.prog 29 fc29 :=
  ref43_takeTrigger_D.contract tok (cok_of (l := [(59, fc59), (60, fc60), (61, fc61)]) ⟨con59, con60, con61, trivial⟩) mixed (fn' := Tryz.f29) (by kernel_rfl) (by kernel_rfl) rfl (by kernel_rfl) (fun x => (FD.fn_eq _ _).trans (by kernel_rfl))
end
end Go.Proofs.YtgpgpelaabdkhaaGreatDoor
end

section
/-
YtgpgpelaabdkhaaGreatDoor: signalbench.signalbenchref43.line, as one plain function, its equations, its contract. No condition.
-/
set_option maxRecDepth 100000
set_option linter.unusedVariables false
set_option maxHeartbeats 4000000
open Go Go.AM
namespace Go.Proofs.YtgpgpelaabdkhaaGreatDoor
noncomputable section
def ref43_line_D : FD := ⟨T, lookC [], [], (Tryz.f30.body.getD .skip), Tryz.f30.results.toList, ⟨[.one (.sl (.cons (.int .i64) (.cons .str (.cons (.int .i64) (.int .i64))))), .one (.int .i64)], []⟩, ⟨[.one (.int .i64)], []⟩, []⟩
def ref43_line (l : (List TToken)) (at_ : Int) : (Option ((Int × Unit) × Unit)) :=
  if (decide (at_ < (l.length : Int))) = true then
    if 0 ≤ at_ ∧ at_ < (l.length : Int) then
      some (((l.getD at_.toNat dToken).2.2.2, ()), ())
    else
      none
  else
    if (decide ((l.length : Int) > 0)) = true then
      if 0 ≤ IntKind.i64.wrap ((l.length : Int) - 1) ∧ IntKind.i64.wrap ((l.length : Int) - 1) < (l.length : Int) then
        some (((l.getD (IntKind.i64.wrap ((l.length : Int) - 1)).toNat dToken).2.2.2, ()), ())
      else
        none
    else
      some ((1, ()), ())
def fc30 : FC := ⟨⟨[.one (.sl (.cons (.int .i64) (.cons .str (.cons (.int .i64) (.int .i64))))), .one (.int .i64)], []⟩, ⟨[.one (.int .i64)], []⟩, fun x => ref43_line x.1.1 x.1.2.1⟩
theorem con30 : Contract Tryz.prog 30 fc30 :=
  ref43_line_D.contract tok (cok_of (l := []) trivial) mixed (fn' := Tryz.f30) (by kernel_rfl) (by kernel_rfl) rfl (by kernel_rfl) (fun x => (FD.fn_eq _ _).trans (by kernel_rfl))
end
end Go.Proofs.YtgpgpelaabdkhaaGreatDoor
end

section
/-
YtgpgpelaabdkhaaGreatDoor: signalbench.signalbenchref43.Parse, as one plain function, its equations, its contract. No condition.
-/
set_option maxRecDepth 100000
set_option linter.unusedVariables false
set_option maxHeartbeats 4000000
open Go Go.AM
namespace Go.Proofs.YtgpgpelaabdkhaaGreatDoor
noncomputable section
def ref43_Parse_D : FD := ⟨T, lookC [(21, fc21), (28, fc28), (29, fc29), (30, fc30)], [], (Tryz.f10.body.getD .skip), Tryz.f10.results.toList, ⟨[.one .str], []⟩, ⟨[.row (.cons .str (.sl (.cons (.cons .str (.cons (.int .i64) (.cons (.int .i64) (.cons (.int .i64) (.int .i64))))) (.cons (.int .i64) (.cons (.int .i64) (.cons .bool (.cons .str (.cons (.int .i64) (.cons (.int .i64) (.cons (.int .i64) (.int .i64))))))))))), .one (.int .i64), .one (.int .i64)], []⟩, []⟩
def ref43_Parse (s : ByteArray) : (Option ((TTrigger × Int × Int × Unit) × Unit)) :=
  (ref05_Tokens s).bind fun y1 =>
    if (y1.1.2.2.1 != 0) = true then
      some ((((strB []), []), y1.1.2.1, y1.1.2.2.1, ()), ())
    else
      (ref43_takeTrigger y1.1.1).bind fun y2 =>
        if (!y2.1.2.2.1) = true then
          (ref43_line y1.1.1 y2.1.2.1).bind fun y3 =>
            some ((((strB []), []), y3.1.1, 4, ()), ())
        else
          (ref43_wrong y2.1.1).bind fun y4 =>
            if (y4.1.1 != 0) = true then
              some ((((strB []), []), 0, y4.1.1, ()), ())
            else
              some ((y2.1.1, 0, 0, ()), ())
def fc10 : FC := ⟨⟨[.one .str], []⟩, ⟨[.row (.cons .str (.sl (.cons (.cons .str (.cons (.int .i64) (.cons (.int .i64) (.cons (.int .i64) (.int .i64))))) (.cons (.int .i64) (.cons (.int .i64) (.cons .bool (.cons .str (.cons (.int .i64) (.cons (.int .i64) (.cons (.int .i64) (.int .i64))))))))))), .one (.int .i64), .one (.int .i64)], []⟩, fun x => ref43_Parse x.1.1⟩
theorem con10 : Contract Tryz.prog 10 fc10 :=
  ref43_Parse_D.contract tok (cok_of (l := [(21, fc21), (28, fc28), (29, fc29), (30, fc30)]) ⟨con21, con28, con29, con30, trivial⟩) mixed (fn' := Tryz.f10) (by kernel_rfl) (by kernel_rfl) rfl (by kernel_rfl) (fun x => (FD.fn_eq _ _).trans (by kernel_rfl))
end
end Go.Proofs.YtgpgpelaabdkhaaGreatDoor
end

section
/-
YtgpgpelaabdkhaaGreatDoor: signalbench.lex.hex, as one plain function, its equations, its contract. No condition.
-/
set_option maxRecDepth 100000
set_option linter.unusedVariables false
set_option maxHeartbeats 4000000
open Go Go.AM
namespace Go.Proofs.YtgpgpelaabdkhaaGreatDoor
noncomputable section
def lex_hex_D : FD := ⟨T, lookC [], [], (Tryz.f92.body.getD .skip), Tryz.f92.results.toList, ⟨[.one (.int .u8)], []⟩, ⟨[.one (.int .i64)], []⟩, []⟩
def lex_hex (c : Int) : (Option ((Int × Unit) × Unit)) :=
  if (decide ((48 : Int) ≤ c)) = true then
    if (decide (c ≤ 57)) = true then
      some ((IntKind.i64.wrap (IntKind.u8.wrap (c - 48)), ()), ())
    else
      if (decide ((97 : Int) ≤ c)) = true then
        if (decide (c ≤ 102)) = true then
          some ((IntKind.i64.wrap ((IntKind.i64.wrap (IntKind.u8.wrap (c - 97))) + 10), ()), ())
        else
          some (((-1), ()), ())
      else
        some (((-1), ()), ())
  else
    if (decide ((97 : Int) ≤ c)) = true then
      if (decide (c ≤ 102)) = true then
        some ((IntKind.i64.wrap ((IntKind.i64.wrap (IntKind.u8.wrap (c - 97))) + 10), ()), ())
      else
        some (((-1), ()), ())
    else
      some (((-1), ()), ())
def fc92 : FC := ⟨⟨[.one (.int .u8)], []⟩, ⟨[.one (.int .i64)], []⟩, fun x => lex_hex x.1.1⟩
theorem con92 : Contract Tryz.prog 92 fc92 :=
  lex_hex_D.contract tok (cok_of (l := []) trivial) mixed (fn' := Tryz.f92) (by kernel_rfl) (by kernel_rfl) rfl (by kernel_rfl) (fun x => (FD.fn_eq _ _).trans (by kernel_rfl))
end
end Go.Proofs.YtgpgpelaabdkhaaGreatDoor
end

section
/-
YtgpgpelaabdkhaaGreatDoor: signalbench.lex.escape, as one plain function, its equations, its contract. No condition.
-/
set_option maxRecDepth 100000
set_option linter.unusedVariables false
set_option maxHeartbeats 4000000
open Go Go.AM
namespace Go.Proofs.YtgpgpelaabdkhaaGreatDoor
noncomputable section
def lex_escape_F6 : FSh := ⟨[(0, .one .str), (8, .one (.int .u8)), (9, .one .bool)], []⟩
def lex_escape_D : FD := ⟨T, lookC [(92, fc92)], [6], (Tryz.f100.body.getD .skip), Tryz.f100.results.toList, ⟨[.one .str], []⟩, ⟨[.one (.int .u8), .one (.int .i64)], []⟩, [(6, lex_escape_F6)]⟩
def lex_escape_l6 (s : ByteArray) (t8 : Int) (t9 : Bool) : (Option ((Int × Int × Unit) × Unit)) := lex_escape_D.lab 6 lex_escape_F6 ((s, t8, t9, ()), ())
theorem lex_escape_l6_eq (s : ByteArray) (t8 : Int) (t9 : Bool) : lex_escape_l6 s t8 t9 =
  if t9 = true then
    if 0 ≤ (1 : Int) ∧ 1 < (s.size : Int) then
      some ((bt s 1, 2, ()), ())
    else
      none
  else
    if (t8 == 110) = true then
      some ((10, 2, ()), ())
    else
      if (t8 == 120) = true then
        if (decide ((s.size : Int) < 4)) = true then
          some ((0, 0, ()), ())
        else
          if 0 ≤ (2 : Int) ∧ 2 < (s.size : Int) then
            (lex_hex (bt s 2)).bind fun y1 =>
              if (decide (y1.1.1 < 0)) = true then
                some ((0, 0, ()), ())
              else
                if 0 ≤ (3 : Int) ∧ 3 < (s.size : Int) then
                  (lex_hex (bt s 3)).bind fun y2 =>
                    if (decide (y2.1.1 < 0)) = true then
                      some ((0, 0, ()), ())
                    else
                      if 0 ≤ (2 : Int) ∧ 2 < (s.size : Int) then
                        (lex_hex (bt s 2)).bind fun y3 =>
                          if 0 ≤ (3 : Int) ∧ 3 < (s.size : Int) then
                            (lex_hex (bt s 3)).bind fun y4 =>
                              some ((IntKind.u8.wrap (IntKind.i64.wrap ((IntKind.i64.wrap (16 * y3.1.1)) + y4.1.1)), 4, ()), ())
                          else
                            none
                      else
                        none
                else
                  none
          else
            none
      else
        some ((0, 0, ()), ()) := (FD.lab_eq _ _ _ _).trans (by kernel_rfl)
def lex_escape (s : ByteArray) : (Option ((Int × Int × Unit) × Unit)) :=
  if (decide ((s.size : Int) < 2)) = true then
    some ((0, 0, ()), ())
  else
    if 0 ≤ (1 : Int) ∧ 1 < (s.size : Int) then
      if ((bt s 1) == 34) = true then
        lex_escape_l6 s (bt s 1) true
      else
        lex_escape_l6 s (bt s 1) ((bt s 1) == 92)
    else
      none
def fc100 : FC := ⟨⟨[.one .str], []⟩, ⟨[.one (.int .u8), .one (.int .i64)], []⟩, fun x => lex_escape x.1.1⟩
theorem con100 : Contract Tryz.prog 100 fc100 :=
  lex_escape_D.contract tok (cok_of (l := [(92, fc92)]) ⟨con92, trivial⟩) mixed (fn' := Tryz.f100) (by kernel_rfl) (by kernel_rfl) rfl (by kernel_rfl) (fun x => (FD.fn_eq _ _).trans (by kernel_rfl))
end
end Go.Proofs.YtgpgpelaabdkhaaGreatDoor
end

section
/-
YtgpgpelaabdkhaaGreatDoor: slices.Index[[]string,string], as one plain function, its equations, its contract. No condition.
-/
set_option maxRecDepth 100000
set_option linter.unusedVariables false
set_option maxHeartbeats 4000000
open Go Go.AM
namespace Go.Proofs.YtgpgpelaabdkhaaGreatDoor
noncomputable section
def slices_Index_string_string_F3 : FSh := ⟨[(0, .one (.sl .str)), (1, .one .str), (7, .one (.int .i64)), (8, .one (.int .i64))], []⟩
def slices_Index_string_string_D : FD := ⟨T, lookC [], [], (Tryz.f101.body.getD .skip), Tryz.f101.results.toList, ⟨[.one (.sl .str), .one .str], []⟩, ⟨[.one (.int .i64)], []⟩, [(3, slices_Index_string_string_F3)]⟩
def slices_Index_string_string_l3 (s : (List ByteArray)) (v : ByteArray) (t7 : Int) (t8 : Int) : (Option ((Int × Unit) × Unit)) := slices_Index_string_string_D.lab 3 slices_Index_string_string_F3 ((s, v, t7, t8, ()), ())
theorem slices_Index_string_string_l3_eq (s : (List ByteArray)) (v : ByteArray) (t7 : Int) (t8 : Int) : slices_Index_string_string_l3 s v t7 t8 =
  if (decide (t8 < t7)) = true then
    if 0 ≤ t8 ∧ t8 < (s.length : Int) then
      if (v.toList == (s.getD t8.toNat (strB [])).toList) = true then
        some ((t8, ()), ())
      else
        slices_Index_string_string_l3 s v t7 (IntKind.i64.wrap (t8 + 1))
    else
      none
  else
    some (((-1), ()), ()) := (FD.lab_eq _ _ _ _).trans (by kernel_rfl)
def slices_Index_string_string (s : (List ByteArray)) (v : ByteArray) : (Option ((Int × Unit) × Unit)) :=
  slices_Index_string_string_l3 s v (s.length : Int) 0
def fc101 : FC := ⟨⟨[.one (.sl .str), .one .str], []⟩, ⟨[.one (.int .i64)], []⟩, fun x => slices_Index_string_string x.1.1 x.1.2.1⟩
theorem con101 : Contract Tryz.prog 101 fc101 :=
  slices_Index_string_string_D.contract tok (cok_of (l := []) trivial) mixed (fn' := Tryz.f101) (by kernel_rfl) (by kernel_rfl) rfl (by kernel_rfl) (fun x => (FD.fn_eq _ _).trans (by kernel_rfl))
end
end Go.Proofs.YtgpgpelaabdkhaaGreatDoor
end

section
/-
YtgpgpelaabdkhaaGreatDoor: internal.stringslite.HasPrefix, as one plain function, its equations, its contract. No condition.
-/
set_option maxRecDepth 100000
set_option linter.unusedVariables false
set_option maxHeartbeats 4000000
open Go Go.AM
namespace Go.Proofs.YtgpgpelaabdkhaaGreatDoor
noncomputable section
def stringslite_HasPrefix_D : FD := ⟨T, lookC [], [], (Tryz.f109.body.getD .skip), Tryz.f109.results.toList, ⟨[.one .str, .one .str], []⟩, ⟨[.one .bool], []⟩, []⟩
def stringslite_HasPrefix (s : ByteArray) (prefix_ : ByteArray) : (Option ((Bool × Unit) × Unit)) :=
  if (decide ((s.size : Int) ≥ (prefix_.size : Int))) = true then
    if 0 ≤ (0 : Int) ∧ (0 : Int) ≤ (prefix_.size : Int) ∧ (prefix_.size : Int) ≤ (s.size : Int) then
      some (((s.extract 0 (prefix_.size : Int).toNat).toList == prefix_.toList, ()), ())
    else
      none
  else
    some ((false, ()), ())
def fc109 : FC := ⟨⟨[.one .str, .one .str], []⟩, ⟨[.one .bool], []⟩, fun x => stringslite_HasPrefix x.1.1 x.1.2.1⟩
theorem con109 : Contract Tryz.prog 109 fc109 :=
  stringslite_HasPrefix_D.contract tok (cok_of (l := []) trivial) mixed (fn' := Tryz.f109) (by kernel_rfl) (by kernel_rfl) rfl (by kernel_rfl) (fun x => (FD.fn_eq _ _).trans (by kernel_rfl))
end
end Go.Proofs.YtgpgpelaabdkhaaGreatDoor
end

section
/-
YtgpgpelaabdkhaaGreatDoor: signalbench.signalbenchref43.Same, as one plain function, its equations, its contract. No condition.
-/
set_option maxRecDepth 100000
set_option linter.unusedVariables false
set_option maxHeartbeats 4000000
open Go Go.AM
namespace Go.Proofs.YtgpgpelaabdkhaaGreatDoor
noncomputable section
def ref43_Same_F6 : FSh := ⟨[(2, .one (.ptr 0 0)), (3, .one (.ptr 1 0)), (5, .one (.int .i64))], [.boxr 24 (.cons .str (.sl (.cons (.cons .str (.cons (.int .i64) (.cons (.int .i64) (.cons (.int .i64) (.int .i64))))) (.cons (.int .i64) (.cons (.int .i64) (.cons .bool (.cons .str (.cons (.int .i64) (.cons (.int .i64) (.cons (.int .i64) (.int .i64))))))))))), .boxr 24 (.cons .str (.sl (.cons (.cons .str (.cons (.int .i64) (.cons (.int .i64) (.cons (.int .i64) (.int .i64))))) (.cons (.int .i64) (.cons (.int .i64) (.cons .bool (.cons .str (.cons (.int .i64) (.cons (.int .i64) (.cons (.int .i64) (.int .i64)))))))))))]⟩
def ref43_Same_D : FD := ⟨T, lookC [], [], (Tryz.f11.body.getD .skip), Tryz.f11.results.toList, ⟨[.row (.cons .str (.sl (.cons (.cons .str (.cons (.int .i64) (.cons (.int .i64) (.cons (.int .i64) (.int .i64))))) (.cons (.int .i64) (.cons (.int .i64) (.cons .bool (.cons .str (.cons (.int .i64) (.cons (.int .i64) (.cons (.int .i64) (.int .i64))))))))))), .row (.cons .str (.sl (.cons (.cons .str (.cons (.int .i64) (.cons (.int .i64) (.cons (.int .i64) (.int .i64))))) (.cons (.int .i64) (.cons (.int .i64) (.cons .bool (.cons .str (.cons (.int .i64) (.cons (.int .i64) (.cons (.int .i64) (.int .i64)))))))))))], []⟩, ⟨[.one .bool], []⟩, [(6, ref43_Same_F6)]⟩
def ref43_Same_l6 (i : Int) (h0 : TTrigger) (h1 : TTrigger) : (Option ((Bool × Unit) × Unit)) := ref43_Same_D.lab 6 ref43_Same_F6 (((), (), i, ()), (h0, h1, ()))
theorem ref43_Same_l6_eq (i : Int) (h0 : TTrigger) (h1 : TTrigger) : ref43_Same_l6 i h0 h1 =
  if (decide (i < (h0.2.length : Int))) = true then
    if 0 ≤ i ∧ i < (h0.2.length : Int) then
      if 0 ≤ i ∧ i < (h1.2.length : Int) then
        if (!(eqU uTrigStep (h0.2.getD i.toNat dTrigStep) (h1.2.getD i.toNat dTrigStep))) = true then
          some ((false, ()), ())
        else
          ref43_Same_l6 (IntKind.i64.wrap (i + 1)) h0 h1
      else
        none
    else
      none
  else
    some ((true, ()), ()) := (FD.lab_eq _ _ _ _).trans (by kernel_rfl)
def ref43_Same (a : TTrigger) (b : TTrigger) : (Option ((Bool × Unit) × Unit)) :=
  if (!(a.1.toList == b.1.toList)) = true then
    some ((false, ()), ())
  else
    if ((a.2.length : Int) != (b.2.length : Int)) = true then
      some ((false, ()), ())
    else
      ref43_Same_l6 0 a b
def fc11 : FC := ⟨⟨[.row (.cons .str (.sl (.cons (.cons .str (.cons (.int .i64) (.cons (.int .i64) (.cons (.int .i64) (.int .i64))))) (.cons (.int .i64) (.cons (.int .i64) (.cons .bool (.cons .str (.cons (.int .i64) (.cons (.int .i64) (.cons (.int .i64) (.int .i64))))))))))), .row (.cons .str (.sl (.cons (.cons .str (.cons (.int .i64) (.cons (.int .i64) (.cons (.int .i64) (.int .i64))))) (.cons (.int .i64) (.cons (.int .i64) (.cons .bool (.cons .str (.cons (.int .i64) (.cons (.int .i64) (.cons (.int .i64) (.int .i64)))))))))))], []⟩, ⟨[.one .bool], []⟩, fun x => ref43_Same x.1.1 x.1.2.1⟩
theorem con11 : Contract Tryz.prog 11 fc11 :=
  ref43_Same_D.contract tok (cok_of (l := []) trivial) mixed (fn' := Tryz.f11) (by kernel_rfl) (by kernel_rfl) rfl (by kernel_rfl) (fun x => (FD.fn_eq _ _).trans (by kernel_rfl))
end
end Go.Proofs.YtgpgpelaabdkhaaGreatDoor
end

section
/-
YtgpgpelaabdkhaaGreatDoor: signalbench.signalbenchlaw43.brief, as one plain function, its equations, its contract. No condition.
-/
set_option maxRecDepth 100000
set_option linter.unusedVariables false
set_option maxHeartbeats 4000000
open Go Go.AM
namespace Go.Proofs.YtgpgpelaabdkhaaGreatDoor
noncomputable section
def law43_brief_D : FD := ⟨T, lookC [], [], (Tryz.f12.body.getD .skip), Tryz.f12.results.toList, ⟨[.one .str], []⟩, ⟨[.one .bool], []⟩, []⟩
def law43_brief (s : ByteArray) : (Option ((Bool × Unit) × Unit)) :=
  some ((decide ((s.size : Int) ≤ 20), ()), ())
def fc12 : FC := ⟨⟨[.one .str], []⟩, ⟨[.one .bool], []⟩, fun x => law43_brief x.1.1⟩
theorem con12 : Contract Tryz.prog 12 fc12 :=
  law43_brief_D.contract tok (cok_of (l := []) trivial) mixed (fn' := Tryz.f12) (by kernel_rfl) (by kernel_rfl) rfl (by kernel_rfl) (fun x => (FD.fn_eq _ _).trans (by kernel_rfl))
end
end Go.Proofs.YtgpgpelaabdkhaaGreatDoor
end

section
/-
YtgpgpelaabdkhaaGreatDoor: signalbench.lex.letter, as one plain function, its equations, its contract. No condition.
-/
set_option maxRecDepth 100000
set_option linter.unusedVariables false
set_option maxHeartbeats 4000000
open Go Go.AM
namespace Go.Proofs.YtgpgpelaabdkhaaGreatDoor
noncomputable section
def lex_letter_D : FD := ⟨T, lookC [], [], (Tryz.f64.body.getD .skip), Tryz.f64.results.toList, ⟨[.one (.int .i32)], []⟩, ⟨[.one .bool], []⟩, []⟩
def lex_letter (c : Int) : (Option ((Bool × Unit) × Unit)) :=
  if (decide ((97 : Int) ≤ c)) = true then
    some ((decide (c ≤ 122), ()), ())
  else
    some ((false, ()), ())
def fc64 : FC := ⟨⟨[.one (.int .i32)], []⟩, ⟨[.one .bool], []⟩, fun x => lex_letter x.1.1⟩
theorem con64 : Contract Tryz.prog 64 fc64 :=
  lex_letter_D.contract tok (cok_of (l := []) trivial) mixed (fn' := Tryz.f64) (by kernel_rfl) (by kernel_rfl) rfl (by kernel_rfl) (fun x => (FD.fn_eq _ _).trans (by kernel_rfl))
end
end Go.Proofs.YtgpgpelaabdkhaaGreatDoor
end

section
/-
YtgpgpelaabdkhaaGreatDoor: signalbench.lex.digit, as one plain function, its equations, its contract. No condition.
-/
set_option maxRecDepth 100000
set_option linter.unusedVariables false
set_option maxHeartbeats 4000000
open Go Go.AM
namespace Go.Proofs.YtgpgpelaabdkhaaGreatDoor
noncomputable section
def lex_digit_D : FD := ⟨T, lookC [], [], (Tryz.f82.body.getD .skip), Tryz.f82.results.toList, ⟨[.one (.int .i32)], []⟩, ⟨[.one .bool], []⟩, []⟩
def lex_digit (c : Int) : (Option ((Bool × Unit) × Unit)) :=
  if (decide ((48 : Int) ≤ c)) = true then
    some ((decide (c ≤ 57), ()), ())
  else
    some ((false, ()), ())
def fc82 : FC := ⟨⟨[.one (.int .i32)], []⟩, ⟨[.one .bool], []⟩, fun x => lex_digit x.1.1⟩
theorem con82 : Contract Tryz.prog 82 fc82 :=
  lex_digit_D.contract tok (cok_of (l := []) trivial) mixed (fn' := Tryz.f82) (by kernel_rfl) (by kernel_rfl) rfl (by kernel_rfl) (fun x => (FD.fn_eq _ _).trans (by kernel_rfl))
end
end Go.Proofs.YtgpgpelaabdkhaaGreatDoor
end

section
/-
YtgpgpelaabdkhaaGreatDoor: signalbench.lex.word, as one plain function, its equations, its contract. No condition.
-/
set_option maxRecDepth 100000
set_option linter.unusedVariables false
set_option maxHeartbeats 4000000
open Go Go.AM
namespace Go.Proofs.YtgpgpelaabdkhaaGreatDoor
noncomputable section
def lex_word_D : FD := ⟨T, lookC [(64, fc64), (82, fc82)], [], (Tryz.f65.body.getD .skip), Tryz.f65.results.toList, ⟨[.one (.int .i32)], []⟩, ⟨[.one .bool], []⟩, []⟩
def lex_word (c : Int) : (Option ((Bool × Unit) × Unit)) :=
  (lex_letter c).bind fun y1 =>
    if y1.1.1 = true then
      some ((true, ()), ())
    else
      (lex_digit c).bind fun y2 =>
        if y2.1.1 = true then
          some ((true, ()), ())
        else
          some ((c == 95, ()), ())
def fc65 : FC := ⟨⟨[.one (.int .i32)], []⟩, ⟨[.one .bool], []⟩, fun x => lex_word x.1.1⟩
theorem con65 : Contract Tryz.prog 65 fc65 :=
  lex_word_D.contract tok (cok_of (l := [(64, fc64), (82, fc82)]) ⟨con64, con82, trivial⟩) mixed (fn' := Tryz.f65) (by kernel_rfl) (by kernel_rfl) rfl (by kernel_rfl) (fun x => (FD.fn_eq _ _).trans (by kernel_rfl))
end
end Go.Proofs.YtgpgpelaabdkhaaGreatDoor
end

section
/-
YtgpgpelaabdkhaaGreatDoor: signalbench.lex.Name, as one plain function, its equations, its contract. No condition.
-/
set_option maxRecDepth 100000
set_option linter.unusedVariables false
set_option maxHeartbeats 4000000
open Go Go.AM
namespace Go.Proofs.YtgpgpelaabdkhaaGreatDoor
noncomputable section
def lex_Name_F6 : FSh := ⟨[(0, .one .str), (19, .one (.int .i64)), (20, .one (.int .i64))], []⟩
def lex_Name_D : FD := ⟨T, lookC [(64, fc64), (65, fc65)], [], (Tryz.f35.body.getD .skip), Tryz.f35.results.toList, ⟨[.one .str], []⟩, ⟨[.one .bool], []⟩, [(6, lex_Name_F6)]⟩
def lex_Name_l6 (s : ByteArray) (t19 : Int) (t20 : Int) : (Option ((Bool × Unit) × Unit)) := lex_Name_D.lab 6 lex_Name_F6 ((s, t19, t20, ()), ())
theorem lex_Name_l6_eq (s : ByteArray) (t19 : Int) (t20 : Int) : lex_Name_l6 s t19 t20 =
  if (decide (t20 < t19)) = true then
    if 0 ≤ t20 ∧ t20 < (s.size : Int) then
      (lex_word (IntKind.i32.wrap (bt s t20))).bind fun y1 =>
        if (!y1.1.1) = true then
          some ((false, ()), ())
        else
          lex_Name_l6 s t19 (IntKind.i64.wrap (t20 + 1))
    else
      none
  else
    some ((true, ()), ()) := (FD.lab_eq _ _ _ _).trans (by kernel_rfl)
def lex_Name (s : ByteArray) : (Option ((Bool × Unit) × Unit)) :=
  if (s.toList == (strB []).toList) = true then
    some ((false, ()), ())
  else
    if (decide ((s.size : Int) > 16)) = true then
      some ((false, ()), ())
    else
      if 0 ≤ (0 : Int) ∧ 0 < (s.size : Int) then
        (lex_letter (IntKind.i32.wrap (bt s 0))).bind fun y1 =>
          if (!y1.1.1) = true then
            some ((false, ()), ())
          else
            lex_Name_l6 s (s.size : Int) 0
      else
        none
def fc35 : FC := ⟨⟨[.one .str], []⟩, ⟨[.one .bool], []⟩, fun x => lex_Name x.1.1⟩
theorem con35 : Contract Tryz.prog 35 fc35 :=
  lex_Name_D.contract tok (cok_of (l := [(64, fc64), (65, fc65)]) ⟨con64, con65, trivial⟩) mixed (fn' := Tryz.f35) (by kernel_rfl) (by kernel_rfl) rfl (by kernel_rfl) (fun x => (FD.fn_eq _ _).trans (by kernel_rfl))
end
end Go.Proofs.YtgpgpelaabdkhaaGreatDoor
end

section
/-
YtgpgpelaabdkhaaGreatDoor: signalbench.trig.wrongCond, as one plain function, its equations, its contract. No condition.
-/
set_option maxRecDepth 100000
set_option linter.unusedVariables false
set_option maxHeartbeats 4000000
open Go Go.AM
namespace Go.Proofs.YtgpgpelaabdkhaaGreatDoor
noncomputable section
def trig_wrongCond_F4 : FSh := ⟨[(1, .one (.ptr 0 0)), (8, .one .bool)], [.boxr 35 (.cons .str (.cons (.int .i64) (.cons (.int .i64) (.cons (.int .i64) (.int .i64)))))]⟩
def trig_wrongCond_F6 : FSh := ⟨[(1, .one (.ptr 0 0)), (27, .one .bool)], [.boxr 35 (.cons .str (.cons (.int .i64) (.cons (.int .i64) (.cons (.int .i64) (.int .i64)))))]⟩
def trig_wrongCond_F8 : FSh := ⟨[(1, .one (.ptr 0 0)), (41, .one .bool)], [.boxr 35 (.cons .str (.cons (.int .i64) (.cons (.int .i64) (.cons (.int .i64) (.int .i64)))))]⟩
def trig_wrongCond_F10 : FSh := ⟨[(55, .one .bool)], []⟩
def trig_wrongCond_D : FD := ⟨T, lookC [(35, fc35)], [4, 6, 8, 10], (Tryz.f32.body.getD .skip), Tryz.f32.results.toList, ⟨[.row (.cons .str (.cons (.int .i64) (.cons (.int .i64) (.cons (.int .i64) (.int .i64)))))], []⟩, ⟨[.one (.int .i64)], []⟩, [(4, trig_wrongCond_F4), (6, trig_wrongCond_F6), (8, trig_wrongCond_F8), (10, trig_wrongCond_F10)]⟩
def trig_wrongCond_l4 (t8 : Bool) (h0 : TCond) : (Option ((Int × Unit) × Unit)) := trig_wrongCond_D.lab 4 trig_wrongCond_F4 (((), t8, ()), (h0, ()))
def trig_wrongCond_l6 (t27 : Bool) (h0 : TCond) : (Option ((Int × Unit) × Unit)) := trig_wrongCond_D.lab 6 trig_wrongCond_F6 (((), t27, ()), (h0, ()))
def trig_wrongCond_l8 (t41 : Bool) (h0 : TCond) : (Option ((Int × Unit) × Unit)) := trig_wrongCond_D.lab 8 trig_wrongCond_F8 (((), t41, ()), (h0, ()))
def trig_wrongCond_l10 (t55 : Bool) : (Option ((Int × Unit) × Unit)) := trig_wrongCond_D.lab 10 trig_wrongCond_F10 ((t55, ()), ())
theorem trig_wrongCond_l4_eq (t8 : Bool) (h0 : TCond) : trig_wrongCond_l4 t8 h0 =
  if t8 = true then
    some ((1, ()), ())
  else
    if (h0.2.2.2.1 == 0) = true then
      if (h0.2.2.1 != 0) = true then
        trig_wrongCond_l6 true h0
      else
        trig_wrongCond_l6 (h0.2.2.2.2 != 0) h0
    else
      trig_wrongCond_l6 false h0 := (FD.lab_eq _ _ _ _).trans (by kernel_rfl)
theorem trig_wrongCond_l6_eq (t27 : Bool) (h0 : TCond) : trig_wrongCond_l6 t27 h0 =
  if t27 = true then
    some ((1, ()), ())
  else
    if (h0.2.2.2.1 != 0) = true then
      if (decide (h0.2.2.1 < 1)) = true then
        trig_wrongCond_l8 true h0
      else
        trig_wrongCond_l8 (decide (h0.2.2.1 > 6)) h0
    else
      trig_wrongCond_l8 false h0 := (FD.lab_eq _ _ _ _).trans (by kernel_rfl)
theorem trig_wrongCond_l8_eq (t41 : Bool) (h0 : TCond) : trig_wrongCond_l8 t41 h0 =
  if t41 = true then
    some ((1, ()), ())
  else
    if (decide (h0.2.2.2.2 < (-9007199254740992))) = true then
      trig_wrongCond_l10 true
    else
      trig_wrongCond_l10 (decide (h0.2.2.2.2 > 9007199254740992)) := by obtain ⟨n, k, f, o, v⟩ := h0; cases v <;> exact (FD.lab_eq _ _ _ _).trans (by kernel_rfl)
theorem trig_wrongCond_l10_eq (t55 : Bool) : trig_wrongCond_l10 t55 =
  if t55 = true then
    some ((2, ()), ())
  else
    some ((0, ()), ()) := (FD.lab_eq _ _ _ _).trans (by kernel_rfl)
def trig_wrongCond (c : TCond) : (Option ((Int × Unit) × Unit)) :=
  (lex_Name c.1).bind fun y1 =>
    if (!y1.1.1) = true then
      some ((4, ()), ())
    else
      if (decide (c.2.1 < 0)) = true then
        trig_wrongCond_l4 true c
      else
        if (decide (c.2.1 > 8)) = true then
          trig_wrongCond_l4 true c
        else
          if (decide (c.2.2.2.1 < 0)) = true then
            trig_wrongCond_l4 true c
          else
            trig_wrongCond_l4 (decide (c.2.2.2.1 > 5)) c
def fc32 : FC := ⟨⟨[.row (.cons .str (.cons (.int .i64) (.cons (.int .i64) (.cons (.int .i64) (.int .i64)))))], []⟩, ⟨[.one (.int .i64)], []⟩, fun x => trig_wrongCond x.1.1⟩
theorem con32 : Contract Tryz.prog 32 fc32 :=
  trig_wrongCond_D.contract tok (cok_of (l := [(35, fc35)]) ⟨con35, trivial⟩) mixed (fn' := Tryz.f32) (by kernel_rfl) (by kernel_rfl) rfl (by kernel_rfl) (fun x => (FD.fn_eq _ _).trans (by kernel_rfl))
end
end Go.Proofs.YtgpgpelaabdkhaaGreatDoor
end

section
/-
YtgpgpelaabdkhaaGreatDoor: signalbench.trig.wrongStep, as one plain function, its equations, its contract. No condition.
-/
set_option maxRecDepth 100000
set_option linter.unusedVariables false
set_option maxHeartbeats 4000000
open Go Go.AM
namespace Go.Proofs.YtgpgpelaabdkhaaGreatDoor
noncomputable section
def trig_wrongStep_D : FD := ⟨T, lookC [(32, fc32)], [], (Tryz.f36.body.getD .skip), Tryz.f36.results.toList, ⟨[.row (.cons (.cons .str (.cons (.int .i64) (.cons (.int .i64) (.cons (.int .i64) (.int .i64))))) (.cons (.int .i64) (.cons (.int .i64) (.cons .bool (.cons .str (.cons (.int .i64) (.cons (.int .i64) (.cons (.int .i64) (.int .i64)))))))))], []⟩, ⟨[.one (.int .i64)], []⟩, []⟩
def trig_wrongStep (x0 : TTrigStep) : (Option ((Int × Unit) × Unit)) :=
  if (decide (x0.2.1 < 1)) = true then
    some ((1, ()), ())
  else
    if (decide (x0.2.2.1 < 0)) = true then
      some ((1, ()), ())
    else
      if (decide (x0.2.2.1 > 1099511627776)) = true then
        some ((1, ()), ())
      else
        (trig_wrongCond x0.1).bind fun y1 =>
          if (y1.1.1 != 0) = true then
            some ((y1.1.1, ()), ())
          else
            if x0.2.2.2.1 = true then
              (trig_wrongCond x0.2.2.2.2).bind fun y2 =>
                some ((y2.1.1, ()), ())
            else
              if (!(eqU uCond x0.2.2.2.2 ((strB []), 0, 0, 0, 0))) = true then
                some ((1, ()), ())
              else
                some ((0, ()), ())
def fc36 : FC := ⟨⟨[.row (.cons (.cons .str (.cons (.int .i64) (.cons (.int .i64) (.cons (.int .i64) (.int .i64))))) (.cons (.int .i64) (.cons (.int .i64) (.cons .bool (.cons .str (.cons (.int .i64) (.cons (.int .i64) (.cons (.int .i64) (.int .i64)))))))))], []⟩, ⟨[.one (.int .i64)], []⟩, fun x => trig_wrongStep x.1.1⟩
theorem con36 : Contract Tryz.prog 36 fc36 :=
  trig_wrongStep_D.contract tok (cok_of (l := [(32, fc32)]) ⟨con32, trivial⟩) mixed (fn' := Tryz.f36) (by kernel_rfl) (by kernel_rfl) rfl (by kernel_rfl) (fun x => (FD.fn_eq _ _).trans (by kernel_rfl))
end
end Go.Proofs.YtgpgpelaabdkhaaGreatDoor
end

section
/-
YtgpgpelaabdkhaaGreatDoor: signalbench.trig.wrong, as one plain function, its equations, its contract. No condition.
-/
set_option maxRecDepth 100000
set_option linter.unusedVariables false
set_option maxHeartbeats 4000000
open Go Go.AM
namespace Go.Proofs.YtgpgpelaabdkhaaGreatDoor
noncomputable section
def trig_wrong_F10 : FSh := ⟨[(1, .one (.ptr 0 0)), (25, .one (.sl (.cons (.cons .str (.cons (.int .i64) (.cons (.int .i64) (.cons (.int .i64) (.int .i64))))) (.cons (.int .i64) (.cons (.int .i64) (.cons .bool (.cons .str (.cons (.int .i64) (.cons (.int .i64) (.cons (.int .i64) (.int .i64))))))))))), (26, .one (.int .i64)), (27, .one (.int .i64))], [.boxr 24 (.cons .str (.sl (.cons (.cons .str (.cons (.int .i64) (.cons (.int .i64) (.cons (.int .i64) (.int .i64))))) (.cons (.int .i64) (.cons (.int .i64) (.cons .bool (.cons .str (.cons (.int .i64) (.cons (.int .i64) (.cons (.int .i64) (.int .i64)))))))))))]⟩
def trig_wrong_F21 : FSh := ⟨[(6, .one (.int .i64)), (38, .one (.sl (.cons (.cons .str (.cons (.int .i64) (.cons (.int .i64) (.cons (.int .i64) (.int .i64))))) (.cons (.int .i64) (.cons (.int .i64) (.cons .bool (.cons .str (.cons (.int .i64) (.cons (.int .i64) (.cons (.int .i64) (.int .i64))))))))))), (39, .one (.int .i64)), (40, .one (.int .i64))], []⟩
def trig_wrong_D : FD := ⟨T, lookC [(35, fc35), (36, fc36)], [], (Tryz.f15.body.getD .skip), Tryz.f15.results.toList, ⟨[.row (.cons .str (.sl (.cons (.cons .str (.cons (.int .i64) (.cons (.int .i64) (.cons (.int .i64) (.int .i64))))) (.cons (.int .i64) (.cons (.int .i64) (.cons .bool (.cons .str (.cons (.int .i64) (.cons (.int .i64) (.cons (.int .i64) (.int .i64)))))))))))], []⟩, ⟨[.one (.int .i64)], []⟩, [(10, trig_wrong_F10), (21, trig_wrong_F21)]⟩
def trig_wrong_l10 (t25 : (List TTrigStep)) (t26 : Int) (t27 : Int) (h0 : TTrigger) : (Option ((Int × Unit) × Unit)) := trig_wrong_D.lab 10 trig_wrong_F10 (((), t25, t26, t27, ()), (h0, ()))
def trig_wrong_l21 (left : Int) (t38 : (List TTrigStep)) (t39 : Int) (t40 : Int) : (Option ((Int × Unit) × Unit)) := trig_wrong_D.lab 21 trig_wrong_F21 ((left, t38, t39, t40, ()), ())
theorem trig_wrong_l10_eq (t25 : (List TTrigStep)) (t26 : Int) (t27 : Int) (h0 : TTrigger) : trig_wrong_l10 t25 t26 t27 h0 =
  if (decide (t27 < t26)) = true then
    if 0 ≤ t27 ∧ t27 < (t25.length : Int) then
      (trig_wrongStep (t25.getD t27.toNat dTrigStep)).bind fun y1 =>
        if (y1.1.1 != 0) = true then
          some ((y1.1.1, ()), ())
        else
          trig_wrong_l10 t25 t26 (IntKind.i64.wrap (t27 + 1)) h0
    else
      none
  else
    trig_wrong_l21 32 h0.2 (h0.2.length : Int) 0 := (FD.lab_eq _ _ _ _).trans (by kernel_rfl)
theorem trig_wrong_l21_eq (left : Int) (t38 : (List TTrigStep)) (t39 : Int) (t40 : Int) : trig_wrong_l21 left t38 t39 t40 =
  if (decide (t40 < t39)) = true then
    if 0 ≤ t40 ∧ t40 < (t38.length : Int) then
      if (decide ((t38.getD t40.toNat dTrigStep).2.1 > left)) = true then
        some ((6, ()), ())
      else
        trig_wrong_l21 (IntKind.i64.wrap (left - (t38.getD t40.toNat dTrigStep).2.1)) t38 t39 (IntKind.i64.wrap (t40 + 1))
    else
      none
  else
    some ((0, ()), ()) := (FD.lab_eq _ _ _ _).trans (by kernel_rfl)
def trig_wrong (t : TTrigger) : (Option ((Int × Unit) × Unit)) :=
  (lex_Name t.1).bind fun y1 =>
    if (!y1.1.1) = true then
      some ((4, ()), ())
    else
      if ((t.2.length : Int) == 0) = true then
        some ((1, ()), ())
      else
        if (decide ((t.2.length : Int) > 32)) = true then
          some ((6, ()), ())
        else
          trig_wrong_l10 t.2 (t.2.length : Int) 0 t
def fc15 : FC := ⟨⟨[.row (.cons .str (.sl (.cons (.cons .str (.cons (.int .i64) (.cons (.int .i64) (.cons (.int .i64) (.int .i64))))) (.cons (.int .i64) (.cons (.int .i64) (.cons .bool (.cons .str (.cons (.int .i64) (.cons (.int .i64) (.cons (.int .i64) (.int .i64)))))))))))], []⟩, ⟨[.one (.int .i64)], []⟩, fun x => trig_wrong x.1.1⟩
theorem con15 : Contract Tryz.prog 15 fc15 :=
  trig_wrong_D.contract tok (cok_of (l := [(35, fc35), (36, fc36)]) ⟨con35, con36, trivial⟩) mixed (fn' := Tryz.f15) (by kernel_rfl) (by kernel_rfl) rfl (by kernel_rfl) (fun x => (FD.fn_eq _ _).trans (by kernel_rfl))
end
end Go.Proofs.YtgpgpelaabdkhaaGreatDoor
end

section
/-
YtgpgpelaabdkhaaGreatDoor: signalbench.stackdef.Find$1, as one plain function, its equations, its contract. No condition.
-/
set_option maxRecDepth 100000
set_option linter.unusedVariables false
set_option maxHeartbeats 4000000
open Go Go.AM
namespace Go.Proofs.YtgpgpelaabdkhaaGreatDoor
noncomputable section
def stackdef_Find_1_D : FD := ⟨T, lookC [], [], (Tryz.f63.body.getD .skip), Tryz.f63.results.toList, ⟨[.row (.cons .str (.cons .str (.cons (.sl .str) (.sl (.cons .str (.int .i64)))))), .one (.ptr 0 0)], [.box 9 [.str]]⟩, ⟨[.one .bool], [.box 9 [.str]]⟩, []⟩
def stackdef_Find_1 (n : TNode) (h0_0 : ByteArray) : (Option ((Bool × Unit) × ((ByteArray × Unit) × Unit))) :=
  some ((n.1.toList == h0_0.toList, ()), ((h0_0, ()), ()))
def fc63 : FC := ⟨⟨[.row (.cons .str (.cons .str (.cons (.sl .str) (.sl (.cons .str (.int .i64)))))), .one (.ptr 0 0)], [.box 9 [.str]]⟩, ⟨[.one .bool], [.box 9 [.str]]⟩, fun x => stackdef_Find_1 x.1.1 x.2.1.1⟩
theorem con63 : Contract Tryz.prog 63 fc63 :=
  stackdef_Find_1_D.contract tok (cok_of (l := []) trivial) mixed (fn' := Tryz.f63) (by kernel_rfl) (by kernel_rfl) rfl (by kernel_rfl) (fun x => (FD.fn_eq _ _).trans (by kernel_rfl))
end
end Go.Proofs.YtgpgpelaabdkhaaGreatDoor
end

section
/-
YtgpgpelaabdkhaaGreatDoor: slices.IndexFunc[[]signalbench.api.Node,signalbench.api.Node], as one plain function, its equations, its contract. No condition.
-/
set_option maxRecDepth 100000
set_option linter.unusedVariables false
set_option maxHeartbeats 4000000
open Go Go.AM
namespace Go.Proofs.YtgpgpelaabdkhaaGreatDoor
noncomputable section
def api_Node_F3 : FSh := ⟨[(0, .one (.sl (.cons .str (.cons .str (.cons (.sl .str) (.sl (.cons .str (.int .i64)))))))), (1, .one (.fn 63 [0])), (7, .one (.int .i64)), (8, .one (.int .i64))], [.box 9 [.str]]⟩
def api_Node_D : FD := ⟨T, lookC [(63, fc63)], [], (Tryz.f62.body.getD .skip), Tryz.f62.results.toList, ⟨[.one (.sl (.cons .str (.cons .str (.cons (.sl .str) (.sl (.cons .str (.int .i64))))))), .one (.fn 63 [0])], [.box 9 [.str]]⟩, ⟨[.one (.int .i64)], [.box 9 [.str]]⟩, [(3, api_Node_F3)]⟩
def api_Node_l3 (s : (List TNode)) (t7 : Int) (t8 : Int) (h0_0 : ByteArray) : (Option ((Int × Unit) × ((ByteArray × Unit) × Unit))) := api_Node_D.lab 3 api_Node_F3 ((s, (), t7, t8, ()), ((h0_0, ()), ()))
theorem api_Node_l3_eq (s : (List TNode)) (t7 : Int) (t8 : Int) (h0_0 : ByteArray) : api_Node_l3 s t7 t8 h0_0 =
  if (decide (t8 < t7)) = true then
    if 0 ≤ t8 ∧ t8 < (s.length : Int) then
      (stackdef_Find_1 (s.getD t8.toNat dNode) h0_0).bind fun y1 =>
        if y1.1.1 = true then
          some ((t8, ()), ((y1.2.1.1, ()), ()))
        else
          api_Node_l3 s t7 (IntKind.i64.wrap (t8 + 1)) y1.2.1.1
    else
      none
  else
    some (((-1), ()), ((h0_0, ()), ())) := (FD.lab_eq _ _ _ _).trans (by kernel_rfl)
def api_Node (s : (List TNode)) (h0_0 : ByteArray) : (Option ((Int × Unit) × ((ByteArray × Unit) × Unit))) :=
  api_Node_l3 s (s.length : Int) 0 h0_0
def fc62 : FC := ⟨⟨[.one (.sl (.cons .str (.cons .str (.cons (.sl .str) (.sl (.cons .str (.int .i64))))))), .one (.fn 63 [0])], [.box 9 [.str]]⟩, ⟨[.one (.int .i64)], [.box 9 [.str]]⟩, fun x => api_Node x.1.1 x.2.1.1⟩
theorem con62 : Contract Tryz.prog 62 fc62 :=
  api_Node_D.contract tok (cok_of (l := [(63, fc63)]) ⟨con63, trivial⟩) mixed (fn' := Tryz.f62) (by kernel_rfl) (by kernel_rfl) rfl (by kernel_rfl) (fun x => (FD.fn_eq _ _).trans (by kernel_rfl))
end
end Go.Proofs.YtgpgpelaabdkhaaGreatDoor
end

section
/-
YtgpgpelaabdkhaaGreatDoor: signalbench.stackdef.Find, as one plain function, its equations, its contract. No condition.
-/
set_option maxRecDepth 100000
set_option linter.unusedVariables false
set_option maxHeartbeats 4000000
open Go Go.AM
namespace Go.Proofs.YtgpgpelaabdkhaaGreatDoor
noncomputable section
def stackdef_Find_D : FD := ⟨T, lookC [(62, fc62), (63, fc63)], [], (Tryz.f31.body.getD .skip), Tryz.f31.results.toList, ⟨[.row (.cons (.sl (.cons .str (.cons (.int .i64) (.cons (.int .i64) (.sl (.cons .str (.cons (.sl (.cons (.int .i64) (.cons (.int .i64) (.cons .str (.cons .bool (.sl (.cons (.int .i64) (.int .i64)))))))) (.cons .bool (.cons (.int .i64) (.cons (.int .i64) (.cons .str (.cons .bool (.sl (.cons (.int .i64) (.int .i64))))))))))))))) (.sl (.cons .str (.cons .str (.cons (.sl .str) (.sl (.cons .str (.int .i64)))))))), .one .str], []⟩, ⟨[.one (.int .i64)], []⟩, []⟩
def stackdef_Find (st : TStack) (name : ByteArray) : (Option ((Int × Unit) × Unit)) :=
  (api_Node st.2 name).bind fun y1 =>
    some ((y1.1.1, ()), ())
def fc31 : FC := ⟨⟨[.row (.cons (.sl (.cons .str (.cons (.int .i64) (.cons (.int .i64) (.sl (.cons .str (.cons (.sl (.cons (.int .i64) (.cons (.int .i64) (.cons .str (.cons .bool (.sl (.cons (.int .i64) (.int .i64)))))))) (.cons .bool (.cons (.int .i64) (.cons (.int .i64) (.cons .str (.cons .bool (.sl (.cons (.int .i64) (.int .i64))))))))))))))) (.sl (.cons .str (.cons .str (.cons (.sl .str) (.sl (.cons .str (.int .i64)))))))), .one .str], []⟩, ⟨[.one (.int .i64)], []⟩, fun x => stackdef_Find x.1.1 x.1.2.1⟩
theorem con31 : Contract Tryz.prog 31 fc31 :=
  stackdef_Find_D.contract tok (cok_of (l := [(62, fc62), (63, fc63)]) ⟨con62, con63, trivial⟩) mixed (fn' := Tryz.f31) (by kernel_rfl) (by kernel_rfl) rfl (by kernel_rfl) (fun x => (FD.fn_eq _ _).trans (by kernel_rfl))
end
end Go.Proofs.YtgpgpelaabdkhaaGreatDoor
end

section
/-
YtgpgpelaabdkhaaGreatDoor: signalbench.trig.Check, as one plain function, its equations, its contract. No condition.
-/
set_option maxRecDepth 100000
set_option linter.unusedVariables false
set_option maxHeartbeats 4000000
open Go Go.AM
namespace Go.Proofs.YtgpgpelaabdkhaaGreatDoor
noncomputable section
def trig_Check_F7 : FSh := ⟨[(3, .one (.ptr 0 0)), (14, .one (.sl (.cons (.cons .str (.cons (.int .i64) (.cons (.int .i64) (.cons (.int .i64) (.int .i64))))) (.cons (.int .i64) (.cons (.int .i64) (.cons .bool (.cons .str (.cons (.int .i64) (.cons (.int .i64) (.cons (.int .i64) (.int .i64))))))))))), (15, .one (.int .i64)), (16, .one (.int .i64))], [.boxr 45 (.cons (.sl (.cons .str (.cons (.int .i64) (.cons (.int .i64) (.sl (.cons .str (.cons (.sl (.cons (.int .i64) (.cons (.int .i64) (.cons .str (.cons .bool (.sl (.cons (.int .i64) (.int .i64)))))))) (.cons .bool (.cons (.int .i64) (.cons (.int .i64) (.cons .str (.cons .bool (.sl (.cons (.int .i64) (.int .i64))))))))))))))) (.sl (.cons .str (.cons .str (.cons (.sl .str) (.sl (.cons .str (.int .i64))))))))]⟩
def trig_Check_D : FD := ⟨T, lookC [(15, fc15), (31, fc31)], [], (Tryz.f13.body.getD .skip), Tryz.f13.results.toList, ⟨[.row (.cons .str (.sl (.cons (.cons .str (.cons (.int .i64) (.cons (.int .i64) (.cons (.int .i64) (.int .i64))))) (.cons (.int .i64) (.cons (.int .i64) (.cons .bool (.cons .str (.cons (.int .i64) (.cons (.int .i64) (.cons (.int .i64) (.int .i64))))))))))), .row (.cons (.sl (.cons .str (.cons (.int .i64) (.cons (.int .i64) (.sl (.cons .str (.cons (.sl (.cons (.int .i64) (.cons (.int .i64) (.cons .str (.cons .bool (.sl (.cons (.int .i64) (.int .i64)))))))) (.cons .bool (.cons (.int .i64) (.cons (.int .i64) (.cons .str (.cons .bool (.sl (.cons (.int .i64) (.int .i64))))))))))))))) (.sl (.cons .str (.cons .str (.cons (.sl .str) (.sl (.cons .str (.int .i64))))))))], []⟩, ⟨[.one (.int .i64)], []⟩, [(7, trig_Check_F7)]⟩
def trig_Check_l7 (t14 : (List TTrigStep)) (t15 : Int) (t16 : Int) (h0 : TStack) : (Option ((Int × Unit) × Unit)) := trig_Check_D.lab 7 trig_Check_F7 (((), t14, t15, t16, ()), (h0, ()))
theorem trig_Check_l7_eq (t14 : (List TTrigStep)) (t15 : Int) (t16 : Int) (h0 : TStack) : trig_Check_l7 t14 t15 t16 h0 =
  if (decide (t16 < t15)) = true then
    if 0 ≤ t16 ∧ t16 < (t14.length : Int) then
      (stackdef_Find h0 (t14.getD t16.toNat dTrigStep).1.1).bind fun y1 =>
        if (decide (y1.1.1 < 0)) = true then
          some ((8, ()), ())
        else
          if (t14.getD t16.toNat dTrigStep).2.2.2.1 = true then
            (stackdef_Find h0 (t14.getD t16.toNat dTrigStep).2.2.2.2.1).bind fun y2 =>
              if (decide (y2.1.1 < 0)) = true then
                some ((8, ()), ())
              else
                trig_Check_l7 t14 t15 (IntKind.i64.wrap (t16 + 1)) h0
          else
            trig_Check_l7 t14 t15 (IntKind.i64.wrap (t16 + 1)) h0
    else
      none
  else
    some ((0, ()), ()) := (FD.lab_eq _ _ _ _).trans (by kernel_rfl)
def trig_Check (t : TTrigger) (st : TStack) : (Option ((Int × Unit) × Unit)) :=
  (trig_wrong t).bind fun y1 =>
    if (y1.1.1 != 0) = true then
      some ((y1.1.1, ()), ())
    else
      trig_Check_l7 t.2 (t.2.length : Int) 0 st
def fc13 : FC := ⟨⟨[.row (.cons .str (.sl (.cons (.cons .str (.cons (.int .i64) (.cons (.int .i64) (.cons (.int .i64) (.int .i64))))) (.cons (.int .i64) (.cons (.int .i64) (.cons .bool (.cons .str (.cons (.int .i64) (.cons (.int .i64) (.cons (.int .i64) (.int .i64))))))))))), .row (.cons (.sl (.cons .str (.cons (.int .i64) (.cons (.int .i64) (.sl (.cons .str (.cons (.sl (.cons (.int .i64) (.cons (.int .i64) (.cons .str (.cons .bool (.sl (.cons (.int .i64) (.int .i64)))))))) (.cons .bool (.cons (.int .i64) (.cons (.int .i64) (.cons .str (.cons .bool (.sl (.cons (.int .i64) (.int .i64))))))))))))))) (.sl (.cons .str (.cons .str (.cons (.sl .str) (.sl (.cons .str (.int .i64))))))))], []⟩, ⟨[.one (.int .i64)], []⟩, fun x => trig_Check x.1.1 x.1.2.1⟩
theorem con13 : Contract Tryz.prog 13 fc13 :=
  trig_Check_D.contract tok (cok_of (l := [(15, fc15), (31, fc31)]) ⟨con15, con31, trivial⟩) mixed (fn' := Tryz.f13) (by kernel_rfl) (by kernel_rfl) rfl (by kernel_rfl) (fun x => (FD.fn_eq _ _).trans (by kernel_rfl))
end
end Go.Proofs.YtgpgpelaabdkhaaGreatDoor
end

section
/-
YtgpgpelaabdkhaaGreatDoor: signalbench.event.Valid, as one plain function, its equations, its contract. No condition.
-/
set_option maxRecDepth 100000
set_option linter.unusedVariables false
set_option maxHeartbeats 4000000
open Go Go.AM
namespace Go.Proofs.YtgpgpelaabdkhaaGreatDoor
noncomputable section
def event_Valid_F4 : FSh := ⟨[(1, .one (.ptr 0 0)), (12, .one .bool)], [.boxr 48 (.cons (.int .i64) (.cons (.int .i64) (.cons (.int .i64) (.cons (.int .i64) (.cons (.int .i64) (.cons .str (.int .i64)))))))]⟩
def event_Valid_F6 : FSh := ⟨[(1, .one (.ptr 0 0)), (28, .one .bool)], [.boxr 48 (.cons (.int .i64) (.cons (.int .i64) (.cons (.int .i64) (.cons (.int .i64) (.cons (.int .i64) (.cons .str (.int .i64)))))))]⟩
def event_Valid_F8 : FSh := ⟨[(2, .one .bool)], []⟩
def event_Valid_D : FD := ⟨T, lookC [], [4, 6, 8], (Tryz.f33.body.getD .skip), Tryz.f33.results.toList, ⟨[.row (.cons (.int .i64) (.cons (.int .i64) (.cons (.int .i64) (.cons (.int .i64) (.cons (.int .i64) (.cons .str (.int .i64)))))))], []⟩, ⟨[.one .bool], []⟩, [(4, event_Valid_F4), (6, event_Valid_F6), (8, event_Valid_F8)]⟩
def event_Valid_l4 (t12 : Bool) (h0 : TEvent) : (Option ((Bool × Unit) × Unit)) := event_Valid_D.lab 4 event_Valid_F4 (((), t12, ()), (h0, ()))
def event_Valid_l6 (t28 : Bool) (h0 : TEvent) : (Option ((Bool × Unit) × Unit)) := event_Valid_D.lab 6 event_Valid_F6 (((), t28, ()), (h0, ()))
def event_Valid_l8 (t2 : Bool) : (Option ((Bool × Unit) × Unit)) := event_Valid_D.lab 8 event_Valid_F8 ((t2, ()), ())
theorem event_Valid_l4_eq (t12 : Bool) (h0 : TEvent) : event_Valid_l4 t12 h0 =
  if t12 = true then
    some ((false, ()), ())
  else
    if (decide (h0.2.2.2.1 < (-9007199254740992))) = true then
      event_Valid_l6 true h0
    else
      if (decide (h0.2.2.2.1 > 9007199254740992)) = true then
        event_Valid_l6 true h0
      else
        if (decide (h0.2.2.2.2.1 < (-9007199254740992))) = true then
          event_Valid_l6 true h0
        else
          event_Valid_l6 (decide (h0.2.2.2.2.1 > 9007199254740992)) h0 := by obtain ⟨k, fr, to, a, b, d, f⟩ := h0; cases a <;> cases b <;> exact (FD.lab_eq _ _ _ _).trans (by kernel_rfl)
theorem event_Valid_l6_eq (t28 : Bool) (h0 : TEvent) : event_Valid_l6 t28 h0 =
  if t28 = true then
    some ((false, ()), ())
  else
    if (decide ((h0.2.2.2.2.2.1.size : Int) ≤ 4096)) = true then
      if (decide (h0.2.2.2.2.2.2 ≥ 0)) = true then
        event_Valid_l8 (decide (h0.2.2.2.2.2.2 ≤ 12))
      else
        event_Valid_l8 false
    else
      event_Valid_l8 false := (FD.lab_eq _ _ _ _).trans (by kernel_rfl)
theorem event_Valid_l8_eq (t2 : Bool) : event_Valid_l8 t2 =
  some ((t2, ()), ()) := (FD.lab_eq _ _ _ _).trans (by kernel_rfl)
def event_Valid (e0 : TEvent) : (Option ((Bool × Unit) × Unit)) :=
  if (decide (e0.1 < 1)) = true then
    some ((false, ()), ())
  else
    if (decide (e0.1 > 8)) = true then
      some ((false, ()), ())
    else
      if (decide (e0.2.1 < 0)) = true then
        event_Valid_l4 true e0
      else
        if (decide (e0.2.1 > e0.2.2.1)) = true then
          event_Valid_l4 true e0
        else
          event_Valid_l4 (decide (e0.2.2.1 > 1099511627776)) e0
def fc33 : FC := ⟨⟨[.row (.cons (.int .i64) (.cons (.int .i64) (.cons (.int .i64) (.cons (.int .i64) (.cons (.int .i64) (.cons .str (.int .i64)))))))], []⟩, ⟨[.one .bool], []⟩, fun x => event_Valid x.1.1⟩
theorem con33 : Contract Tryz.prog 33 fc33 :=
  event_Valid_D.contract tok (cok_of (l := []) trivial) mixed (fn' := Tryz.f33) (by kernel_rfl) (by kernel_rfl) rfl (by kernel_rfl) (fun x => (FD.fn_eq _ _).trans (by kernel_rfl))
end
end Go.Proofs.YtgpgpelaabdkhaaGreatDoor
end

section
/-
YtgpgpelaabdkhaaGreatDoor: signalbench.trig.field, as one plain function, its equations, its contract. No condition.
-/
set_option maxRecDepth 100000
set_option linter.unusedVariables false
set_option maxHeartbeats 4000000
open Go Go.AM
namespace Go.Proofs.YtgpgpelaabdkhaaGreatDoor
noncomputable section
def trig_field_D : FD := ⟨T, lookC [], [], (Tryz.f34.body.getD .skip), Tryz.f34.results.toList, ⟨[.row (.cons (.int .i64) (.cons (.int .i64) (.cons (.int .i64) (.cons (.int .i64) (.cons (.int .i64) (.cons .str (.int .i64))))))), .one (.int .i64)], []⟩, ⟨[.one (.int .i64)], []⟩, []⟩
def trig_field (e0 : TEvent) (number : Int) : (Option ((Int × Unit) × Unit)) :=
  if (number == 1) = true then
    some ((e0.2.2.2.1, ()), ())
  else
    if (number == 2) = true then
      some ((e0.2.2.2.2.1, ()), ())
    else
      if (number == 3) = true then
        some ((e0.2.2.2.2.2.2, ()), ())
      else
        if (number == 4) = true then
          some (((e0.2.2.2.2.2.1.size : Int), ()), ())
        else
          if (number == 5) = true then
            some ((IntKind.i64.wrap (e0.2.2.1 - e0.2.1), ()), ())
          else
            if (e0.2.2.2.2.2.1.toList == (strB []).toList) = true then
              some (((-1), ()), ())
            else
              if 0 ≤ (0 : Int) ∧ 0 < (e0.2.2.2.2.2.1.size : Int) then
                some ((IntKind.i64.wrap (bt e0.2.2.2.2.2.1 0), ()), ())
              else
                none
def fc34 : FC := ⟨⟨[.row (.cons (.int .i64) (.cons (.int .i64) (.cons (.int .i64) (.cons (.int .i64) (.cons (.int .i64) (.cons .str (.int .i64))))))), .one (.int .i64)], []⟩, ⟨[.one (.int .i64)], []⟩, fun x => trig_field x.1.1 x.1.2.1⟩
theorem con34 : Contract Tryz.prog 34 fc34 :=
  trig_field_D.contract tok (cok_of (l := []) trivial) mixed (fn' := Tryz.f34) (by kernel_rfl) (by kernel_rfl) rfl (by kernel_rfl) (fun x => (FD.fn_eq _ _).trans (by kernel_rfl))
end
end Go.Proofs.YtgpgpelaabdkhaaGreatDoor
end

section
/-
YtgpgpelaabdkhaaGreatDoor: signalbench.trig.Holds, as one plain function, its equations, its contract. No condition.
-/
set_option maxRecDepth 100000
set_option linter.unusedVariables false
set_option maxHeartbeats 4000000
open Go Go.AM
namespace Go.Proofs.YtgpgpelaabdkhaaGreatDoor
noncomputable section
def trig_Holds_D : FD := ⟨T, lookC [(31, fc31), (32, fc32), (33, fc33), (34, fc34)], [], (Tryz.f14.body.getD .skip), Tryz.f14.results.toList, ⟨[.row (.cons .str (.cons (.int .i64) (.cons (.int .i64) (.cons (.int .i64) (.int .i64))))), .row (.cons (.sl (.cons .str (.cons (.int .i64) (.cons (.int .i64) (.sl (.cons .str (.cons (.sl (.cons (.int .i64) (.cons (.int .i64) (.cons .str (.cons .bool (.sl (.cons (.int .i64) (.int .i64)))))))) (.cons .bool (.cons (.int .i64) (.cons (.int .i64) (.cons .str (.cons .bool (.sl (.cons (.int .i64) (.int .i64))))))))))))))) (.sl (.cons .str (.cons .str (.cons (.sl .str) (.sl (.cons .str (.int .i64)))))))), .row (.cons (.int .i64) (.cons (.int .i64) (.cons (.int .i64) (.cons (.int .i64) (.cons (.int .i64) (.cons (.int .i64) (.cons (.int .i64) (.cons .str (.int .i64)))))))))], []⟩, ⟨[.one .bool], []⟩, []⟩
def trig_Holds (c : TCond) (st : TStack) (o : TOut) : (Option ((Bool × Unit) × Unit)) :=
  (trig_wrongCond c).bind fun y1 =>
    if (y1.1.1 != 0) = true then
      some ((false, ()), ())
    else
      (event_Valid o.2.2).bind fun y2 =>
        if (!y2.1.1) = true then
          some ((false, ()), ())
        else
          (stackdef_Find st c.1).bind fun y3 =>
            if (decide (y3.1.1 < 0)) = true then
              some ((false, ()), ())
            else
              if (y3.1.1 != o.1) = true then
                some ((false, ()), ())
              else
                if (c.2.1 != 0) = true then
                  if (c.2.1 != o.2.2.1) = true then
                    some ((false, ()), ())
                  else
                    (trig_field o.2.2 c.2.2.1).bind fun y4 =>
                      if (c.2.2.2.1 == 1) = true then
                        some ((y4.1.1 == c.2.2.2.2, ()), ())
                      else
                        if (c.2.2.2.1 == 2) = true then
                          some ((y4.1.1 != c.2.2.2.2, ()), ())
                        else
                          if (c.2.2.2.1 == 3) = true then
                            some ((decide (y4.1.1 < c.2.2.2.2), ()), ())
                          else
                            if (c.2.2.2.1 == 4) = true then
                              some ((decide (y4.1.1 > c.2.2.2.2), ()), ())
                            else
                              if (c.2.2.2.1 == 5) = true then
                                some (((IntKind.i64.wrap (BitVec.ofInt 64 y4.1.1 &&& BitVec.ofInt 64 c.2.2.2.2).toNat) == c.2.2.2.2, ()), ())
                              else
                                some ((true, ()), ())
                else
                  (trig_field o.2.2 c.2.2.1).bind fun y5 =>
                    if (c.2.2.2.1 == 1) = true then
                      some ((y5.1.1 == c.2.2.2.2, ()), ())
                    else
                      if (c.2.2.2.1 == 2) = true then
                        some ((y5.1.1 != c.2.2.2.2, ()), ())
                      else
                        if (c.2.2.2.1 == 3) = true then
                          some ((decide (y5.1.1 < c.2.2.2.2), ()), ())
                        else
                          if (c.2.2.2.1 == 4) = true then
                            some ((decide (y5.1.1 > c.2.2.2.2), ()), ())
                          else
                            if (c.2.2.2.1 == 5) = true then
                              some (((IntKind.i64.wrap (BitVec.ofInt 64 y5.1.1 &&& BitVec.ofInt 64 c.2.2.2.2).toNat) == c.2.2.2.2, ()), ())
                            else
                              some ((true, ()), ())
def fc14 : FC := ⟨⟨[.row (.cons .str (.cons (.int .i64) (.cons (.int .i64) (.cons (.int .i64) (.int .i64))))), .row (.cons (.sl (.cons .str (.cons (.int .i64) (.cons (.int .i64) (.sl (.cons .str (.cons (.sl (.cons (.int .i64) (.cons (.int .i64) (.cons .str (.cons .bool (.sl (.cons (.int .i64) (.int .i64)))))))) (.cons .bool (.cons (.int .i64) (.cons (.int .i64) (.cons .str (.cons .bool (.sl (.cons (.int .i64) (.int .i64))))))))))))))) (.sl (.cons .str (.cons .str (.cons (.sl .str) (.sl (.cons .str (.int .i64)))))))), .row (.cons (.int .i64) (.cons (.int .i64) (.cons (.int .i64) (.cons (.int .i64) (.cons (.int .i64) (.cons (.int .i64) (.cons (.int .i64) (.cons .str (.int .i64)))))))))], []⟩, ⟨[.one .bool], []⟩, fun x => trig_Holds x.1.1 x.1.2.1 x.1.2.2.1⟩
theorem con14 : Contract Tryz.prog 14 fc14 :=
  trig_Holds_D.contract tok (cok_of (l := [(31, fc31), (32, fc32), (33, fc33), (34, fc34)]) ⟨con31, con32, con33, con34, trivial⟩) mixed (fn' := Tryz.f14) (by kernel_rfl) (by kernel_rfl) rfl (by kernel_rfl) (fun x => (FD.fn_eq _ _).trans (by kernel_rfl))
end
end Go.Proofs.YtgpgpelaabdkhaaGreatDoor
end

section
/-
YtgpgpelaabdkhaaGreatDoor: signalbench.trig.name, as one plain function, its equations, its contract. No condition.
-/
set_option maxRecDepth 100000
set_option linter.unusedVariables false
set_option maxHeartbeats 4000000
open Go Go.AM
namespace Go.Proofs.YtgpgpelaabdkhaaGreatDoor
noncomputable section
def trig_name_D : FD := ⟨T, lookC [], [], (Tryz.f16.body.getD .skip), Tryz.f16.results.toList, ⟨[.one .str], []⟩, ⟨[.row (.cons (.int .i64) (.cons .str (.cons (.int .i64) (.int .i64))))], []⟩, []⟩
def trig_name (s : ByteArray) : (Option ((TToken × Unit) × Unit)) :=
  some (((1, s, 0, 0), ()), ())
def fc16 : FC := ⟨⟨[.one .str], []⟩, ⟨[.row (.cons (.int .i64) (.cons .str (.cons (.int .i64) (.int .i64))))], []⟩, fun x => trig_name x.1.1⟩
theorem con16 : Contract Tryz.prog 16 fc16 :=
  trig_name_D.contract tok (cok_of (l := []) trivial) mixed (fn' := Tryz.f16) (by kernel_rfl) (by kernel_rfl) rfl (by kernel_rfl) (fun x => (FD.fn_eq _ _).trans (by kernel_rfl))
end
end Go.Proofs.YtgpgpelaabdkhaaGreatDoor
end

section
/-
YtgpgpelaabdkhaaGreatDoor: signalbench.trig.mark, as one plain function, its equations, its contract. No condition.
-/
set_option maxRecDepth 100000
set_option linter.unusedVariables false
set_option maxHeartbeats 4000000
open Go Go.AM
namespace Go.Proofs.YtgpgpelaabdkhaaGreatDoor
noncomputable section
def trig_mark_D : FD := ⟨T, lookC [], [], (Tryz.f17.body.getD .skip), Tryz.f17.results.toList, ⟨[.one .str], []⟩, ⟨[.row (.cons (.int .i64) (.cons .str (.cons (.int .i64) (.int .i64))))], []⟩, []⟩
def trig_mark (s : ByteArray) : (Option ((TToken × Unit) × Unit)) :=
  some (((4, s, 0, 0), ()), ())
def fc17 : FC := ⟨⟨[.one .str], []⟩, ⟨[.row (.cons (.int .i64) (.cons .str (.cons (.int .i64) (.int .i64))))], []⟩, fun x => trig_mark x.1.1⟩
theorem con17 : Contract Tryz.prog 17 fc17 :=
  trig_mark_D.contract tok (cok_of (l := []) trivial) mixed (fn' := Tryz.f17) (by kernel_rfl) (by kernel_rfl) rfl (by kernel_rfl) (fun x => (FD.fn_eq _ _).trans (by kernel_rfl))
end
end Go.Proofs.YtgpgpelaabdkhaaGreatDoor
end

section
/-
  DERIVED: THE SHELF's CONTRACTS AT THIS DUMP, IN PLAIN WORDS (tools/lay-plain.mjs out of 'TryzShelf.lean', which tools/lay-shelf.mjs wrote): THE SAME DECLARATIONS UNDER THE SAME NAMES: 'import', 'namespace', 'open', 'def', 'theorem' AND NOTHING ELSE: no command of the shelf's: FOR A HAND-IN. Each laying: the table of numbers ('.._ren') and one theorem, a field a fact of the dump's own or the kernel's comparison; each contract: ONE APPLICATION.
-/
namespace Go.Proofs
open Go.Shelf
def Tryz.lays170_ren : Go.Shelf.Ren := ⟨fun | 170 => 44 | n => n, fun | 70 => 79 | 3 => 3 | 0 => 0 | 72 => 82 | 37 => 80 | 5 => 5 | n => n, fun | n => n⟩
theorem Tryz.lays170 : Go.Proofs.Lays.n170 Tryz.prog Tryz.lays170_ren := {
  mixed := by kernel_rfl
  f170 := Tryz.func44.trans (congrArg some (by kernel_rfl))
  t0 := Tryz.underlying0
  a0 := Tryz.isAgg0
  z0 := Tryz.sizeOf0
  v0 := Tryz.zeroValue0
  t3 := Tryz.underlying3
  a3 := Tryz.isAgg3
  z3 := Tryz.sizeOf3
  v3 := Tryz.zeroValue3
  t37 := Tryz.underlying80
  a37 := Tryz.isAgg80
  z37 := Tryz.sizeOf80
  v37 := Tryz.zeroValue80
  t70 := Tryz.underlying79
  a70 := Tryz.isAgg79
  z70 := Tryz.sizeOf79
  v70 := Tryz.zeroValue79
  t72 := Tryz.underlying82
  a72 := Tryz.isAgg82
  z72 := Tryz.sizeOf82
  v72 := Tryz.zeroValue82 }
open Go.RowKit in
/-- (*strings.Builder).Len: "Len returns the number of accumulated bytes; b.Len() == len(b.String()).": the world is as it was. (LAID: no walk: one application.) -/
theorem Tryz.Builder_Len (B b : Nat) (bs : List Value) (w : World) (h : Lib.IsBuilder 82 5 B b bs w) :
    Calls Tryz.prog 44 #[.pointer (some ⟨b, 0, none⟩)] w fun e w' => e = .returned (.int .i64 bs.length) ∧ w' = w := Any.Builder_Len Tryz.lays170 B b bs w h
def Tryz.lays169_ren : Go.Shelf.Ren := ⟨fun | 169 => 45 | n => n, fun | 70 => 79 | 9 => 9 | 0 => 0 | 72 => 82 | 37 => 80 | 127 => 116 | 3 => 3 | 5 => 5 | n => n, fun | n => n⟩
theorem Tryz.lays169 : Go.Proofs.Lays.n169 Tryz.prog Tryz.lays169_ren := {
  mixed := by kernel_rfl
  f169 := Tryz.func45.trans (congrArg some (by kernel_rfl))
  t0 := Tryz.underlying0
  a0 := Tryz.isAgg0
  z0 := Tryz.sizeOf0
  v0 := Tryz.zeroValue0
  t3 := Tryz.underlying3
  a3 := Tryz.isAgg3
  z3 := Tryz.sizeOf3
  v3 := Tryz.zeroValue3
  t9 := Tryz.underlying9
  a9 := Tryz.isAgg9
  z9 := Tryz.sizeOf9
  v9 := Tryz.zeroValue9
  t37 := Tryz.underlying80
  a37 := Tryz.isAgg80
  z37 := Tryz.sizeOf80
  v37 := Tryz.zeroValue80
  t70 := Tryz.underlying79
  a70 := Tryz.isAgg79
  z70 := Tryz.sizeOf79
  v70 := Tryz.zeroValue79
  t72 := Tryz.underlying82
  a72 := Tryz.isAgg82
  z72 := Tryz.sizeOf82
  v72 := Tryz.zeroValue82
  t127 := Tryz.underlying116
  a127 := Tryz.isAgg116
  z127 := Tryz.sizeOf116
  v127 := Tryz.zeroValue116 }
theorem Tryz.Builder_Extra_169 : Builder.Extra Tryz.prog Tryz.lays169_ren := {
  sizeBuilder := by kernel_rfl
  liesBuilder := by kernel_rfl
  t5 := Tryz.underlying5
  a5 := Tryz.isAgg5
  z5 := Tryz.sizeOf5
  v5 := Tryz.zeroValue5
  infoByte := by kernel_rfl
  cellsByte := by kernel_rfl
  sizeByte := by kernel_rfl
  neB5 := by decide }
open Go.RowKit in
/-- (*strings.Builder).String: "String returns the accumulated string.": OF A BUILDER THAT HOLDS AT LEAST ONE BYTE. ✋ THE MODEL FREEZES THOSE BYTES IN THE BUFFER (unsafe.String): a later write INTO them ends the model's run without an answer; a later append BEHIND them goes on. The statement's order of evaluation is drawn: one draw. (LAID: no walk: one application.) -/
theorem Tryz.Builder_String (B b : Nat) (l : List UInt8) (w : World) (h : Lib.IsBuilder 82 5 B b (Lib.byteCells l) w) (h0 : l ≠ []) :
    Calls Tryz.prog 45 #[.pointer (some ⟨b, 0, none⟩)] w fun e w' => e = .returned (.string ⟨l.toArray⟩) ∧ Below B w w' := Any.Builder_String Tryz.lays169 Tryz.Builder_Extra_169 B b l w h h0
open Go.RowKit in
/-- (*strings.Builder).String OF A BUILDER THAT HOLDS NO BYTE: the empty string. (Its buffer is nil, or a row of which it has taken nothing yet; where that row has NO capacity the model lays one new block for unsafe.SliceData's 'some address'.) One draw. (LAID: no walk: one application.) -/
theorem Tryz.Builder_String_empty (B b : Nat) (w : World) (h : Lib.IsBuilder 82 5 B b [] w) (hBw : B ≤ w.heap.size) :
    Calls Tryz.prog 45 #[.pointer (some ⟨b, 0, none⟩)] w fun e w' => e = .returned (.string ⟨#[]⟩) ∧ Below B w w' := Any.Builder_String_empty Tryz.lays169 Tryz.Builder_Extra_169 B b w h hBw
open Go.RowKit in
/-- (*strings.Builder).String: "String returns the accumulated string.": WHATEVER THE BUILDER HOLDS. (LAID: no walk: one application.) -/
theorem Tryz.Builder_String_any (B b : Nat) (l : List UInt8) (w : World) (h : Lib.IsBuilder 82 5 B b (Lib.byteCells l) w) (hBw : B ≤ w.heap.size) :
    Calls Tryz.prog 45 #[.pointer (some ⟨b, 0, none⟩)] w fun e w' => e = .returned (.string ⟨l.toArray⟩) ∧ Below B w w' := Any.Builder_String_any Tryz.lays169 Tryz.Builder_Extra_169 B b l w h hBw
def Tryz.lays137_ren : Go.Shelf.Ren := ⟨fun | 137 => 53 | 217 => 80 | 266 => 99 | n => n, fun | 9 => 9 | 5 => 5 | 3 => 3 | n => n, fun | n => n⟩
theorem Tryz.lays137 : Go.Proofs.Lays.n137 Tryz.prog Tryz.lays137_ren := {
  mixed := by kernel_rfl
  f137 := Tryz.func53.trans (congrArg some (by kernel_rfl))
  f217 := Tryz.func80.trans (congrArg some (by kernel_rfl))
  f266 := Tryz.func99.trans (congrArg some (by kernel_rfl))
  t3 := Tryz.underlying3
  a3 := Tryz.isAgg3
  z3 := Tryz.sizeOf3
  v3 := Tryz.zeroValue3
  t5 := Tryz.underlying5
  a5 := Tryz.isAgg5
  z5 := Tryz.sizeOf5
  v5 := Tryz.zeroValue5
  t9 := Tryz.underlying9
  a9 := Tryz.isAgg9
  z9 := Tryz.sizeOf9
  v9 := Tryz.zeroValue9 }
open Go.RowKit in
/-- strings.IndexByte: "IndexByte returns the index of the first instance of c in s, or -1 if c is not present in s.": IT RETURNS 'Lib.indexByte s c'; the world is as it was. (LAID: no walk: one application.) -/
theorem Tryz.strings_IndexByte (s : ByteArray) (c : Int) (w : World) :
    Calls Tryz.prog 53 #[.string s, .int .u8 c] w fun e w' => e = .returned (.int .i64 (Lib.indexByte s.data.toList c.toNat.toUInt8)) ∧ w' = w := Any.strings_IndexByte Tryz.lays137 s c w
open Go.RowKit in
/-- (*strings.Builder).Len: "Len returns the number of accumulated bytes; b.Len() == len(b.String()).": the world is as it was. (THE FORM '_f': 'Lib.IsBuilderF'.) (LAID: no walk: one application.) -/
theorem Tryz.Builder_Len_f (B b : Nat) (bs : List Value) (w : World) (h : Lib.IsBuilderF 82 5 B b bs w) :
    Calls Tryz.prog 44 #[.pointer (some ⟨b, 0, none⟩)] w fun e w' => e = .returned (.int .i64 bs.length) ∧ w' = w := Any.Builder_Len_f Tryz.lays170 B b bs w h
open Go.RowKit in
/-- (*strings.Builder).String: "String returns the accumulated string.": OF A BUILDER THAT HOLDS AT LEAST ONE BYTE. ✋ THE MODEL FREEZES THOSE BYTES IN THE BUFFER (unsafe.String): a later write INTO them ends the model's run without an answer; a later append BEHIND them goes on. The statement's order of evaluation is drawn: one draw. THE FORM '_f': IT SAYS BESIDES THAT THE BUILDER IS A BUILDER STILL ('Lib.IsBuilderF', the same bytes): SO IT CAN BE WRITTEN ON: 'b.WriteString(b.String()[:k])'. (LAID: no walk: one application.) -/
theorem Tryz.Builder_String_f (B b : Nat) (l : List UInt8) (w : World) (h : Lib.IsBuilderF 82 5 B b (Lib.byteCells l) w) (h0 : l ≠ []) :
    Calls Tryz.prog 45 #[.pointer (some ⟨b, 0, none⟩)] w fun e w' => e = .returned (.string ⟨l.toArray⟩) ∧ (Lib.IsBuilderF 82 5 B b (Lib.byteCells l) w' ∧ Below B w w') := Any.Builder_String_f Tryz.lays169 Tryz.Builder_Extra_169 B b l w h h0
open Go.RowKit in
/-- (*strings.Builder).String OF A BUILDER THAT HOLDS NO BYTE: the empty string; THE FORM '_f': a builder still. (LAID: no walk: one application.) -/
theorem Tryz.Builder_String_empty_f (B b : Nat) (w : World) (h : Lib.IsBuilderF 82 5 B b [] w) (hBw : B ≤ w.heap.size) :
    Calls Tryz.prog 45 #[.pointer (some ⟨b, 0, none⟩)] w fun e w' => e = .returned (.string ⟨#[]⟩) ∧ (Lib.IsBuilderF 82 5 B b [] w' ∧ Below B w w') := Any.Builder_String_empty_f Tryz.lays169 Tryz.Builder_Extra_169 B b w h hBw
open Go.RowKit in
/-- (*strings.Builder).String: "String returns the accumulated string.": WHATEVER THE BUILDER HOLDS; THE FORM '_f': OF A BUILDER THAT MAY HAVE BEEN READ BEFORE; AND IT IS A BUILDER STILL, holding the same bytes: it can be written on. (LAID: no walk: one application.) -/
theorem Tryz.Builder_String_any_f (B b : Nat) (l : List UInt8) (w : World) (h : Lib.IsBuilderF 82 5 B b (Lib.byteCells l) w) (hBw : B ≤ w.heap.size) :
    Calls Tryz.prog 45 #[.pointer (some ⟨b, 0, none⟩)] w fun e w' => e = .returned (.string ⟨l.toArray⟩) ∧ (Lib.IsBuilderF 82 5 B b (Lib.byteCells l) w' ∧ Below B w w') := Any.Builder_String_any_f Tryz.lays169 Tryz.Builder_Extra_169 B b l w h hBw
open Go.RowKit in
/-- (*strings.Builder).String: "String returns the accumulated string.": OF A BUILDER THAT HOLDS AT LEAST ONE BYTE. ✋ THE MODEL FREEZES THOSE BYTES IN THE BUFFER (unsafe.String): a later write INTO them ends the model's run without an answer; a later append BEHIND them goes on. The statement's order of evaluation is drawn: one draw. THE FORM '_k': OVER 'Lib.IsBuilderF' (a builder that 'String()' may have read), AND WITH THE FRAME THAT REACHES ABOVE THE BUILDER: 'Lib.OthersKept': every block that is not b and is no row of uint8's stands as it stood: the iterator of a range among them. (LAID: no walk: one application.) -/
theorem Tryz.Builder_String_k (B b : Nat) (l : List UInt8) (w : World) (h : Lib.IsBuilderF 82 5 B b (Lib.byteCells l) w) (h0 : l ≠ []) :
    Calls Tryz.prog 45 #[.pointer (some ⟨b, 0, none⟩)] w fun e w' => e = .returned (.string ⟨l.toArray⟩) ∧ (Lib.IsBuilderF 82 5 B b (Lib.byteCells l) w' ∧ Below B w w' ∧ Lib.OthersKept 5 (some b) w w') := Any.Builder_String_k Tryz.lays169 Tryz.Builder_Extra_169 B b l w h h0
open Go.RowKit in
/-- (*strings.Builder).String OF A BUILDER THAT HOLDS NO BYTE: the empty string; THE FORM '_k': OVER 'Lib.IsBuilderF' (a builder that 'String()' may have read), AND WITH THE FRAME THAT REACHES ABOVE THE BUILDER: 'Lib.OthersKept': every block that is not b and is no row of uint8's stands as it stood: the iterator of a range among them. (LAID: no walk: one application.) -/
theorem Tryz.Builder_String_empty_k (B b : Nat) (w : World) (h : Lib.IsBuilderF 82 5 B b [] w) (hBw : B ≤ w.heap.size) :
    Calls Tryz.prog 45 #[.pointer (some ⟨b, 0, none⟩)] w fun e w' => e = .returned (.string ⟨#[]⟩) ∧ (Lib.IsBuilderF 82 5 B b [] w' ∧ Below B w w' ∧ Lib.OthersKept 5 (some b) w w') := Any.Builder_String_empty_k Tryz.lays169 Tryz.Builder_Extra_169 B b w h hBw
open Go.RowKit in
/-- (*strings.Builder).String: "String returns the accumulated string.": WHATEVER THE BUILDER HOLDS; THE FORM '_k': OVER 'Lib.IsBuilderF' (a builder that 'String()' may have read), AND WITH THE FRAME THAT REACHES ABOVE THE BUILDER: 'Lib.OthersKept': every block that is not b and is no row of uint8's stands as it stood: the iterator of a range among them. (LAID: no walk: one application.) -/
theorem Tryz.Builder_String_any_k (B b : Nat) (l : List UInt8) (w : World) (h : Lib.IsBuilderF 82 5 B b (Lib.byteCells l) w) (hBw : B ≤ w.heap.size) :
    Calls Tryz.prog 45 #[.pointer (some ⟨b, 0, none⟩)] w fun e w' => e = .returned (.string ⟨l.toArray⟩) ∧ (Lib.IsBuilderF 82 5 B b (Lib.byteCells l) w' ∧ Below B w w' ∧ Lib.OthersKept 5 (some b) w w') := Any.Builder_String_any_k Tryz.lays169 Tryz.Builder_Extra_169 B b l w h hBw
def Tryz.lays129_ren : Go.Shelf.Ren := ⟨fun | 129 => 112 | n => n, fun | 53 => 141 | 3 => 3 | 4 => 4 | 46 => 129 | 5 => 5 | 9 => 9 | n => n, fun | n => n⟩
theorem Tryz.lays129 : Go.Proofs.Lays.n129 Tryz.prog Tryz.lays129_ren := {
  mixed := by kernel_rfl
  f129 := Tryz.func112.trans (congrArg some (by kernel_rfl))
  t3 := Tryz.underlying3
  a3 := Tryz.isAgg3
  z3 := Tryz.sizeOf3
  v3 := Tryz.zeroValue3
  t4 := Tryz.underlying4
  a4 := Tryz.isAgg4
  z4 := Tryz.sizeOf4
  v4 := Tryz.zeroValue4
  t5 := Tryz.underlying5
  a5 := Tryz.isAgg5
  z5 := Tryz.sizeOf5
  v5 := Tryz.zeroValue5
  t9 := Tryz.underlying9
  a9 := Tryz.isAgg9
  z9 := Tryz.sizeOf9
  v9 := Tryz.zeroValue9
  t46 := Tryz.underlying129
  a46 := Tryz.isAgg129
  z46 := Tryz.sizeOf129
  v46 := Tryz.zeroValue129
  t53 := Tryz.underlying141
  a53 := Tryz.isAgg141
  z53 := Tryz.sizeOf141
  v53 := Tryz.zeroValue141 }
/-- bits.Len64: "Len64 returns the minimum number of bits required to represent x; the result is 0 for x == 0.": IT RETURNS 'Lib.bitLen x'; the world is as it was. ('h0', 'h1': x is a uint64.) (LAID: no walk: one application.) -/
theorem Tryz.bits_Len64 (x : Int) (w : World) (h0 : 0 ≤ x) (h1 : x ≤ 18446744073709551615) :
    Calls Tryz.prog 112 #[.int .u64 x] w fun e w' => e = .returned (.int .i64 (Lib.bitLen x.toNat)) ∧ w' = w := Any.bits_Len64 Tryz.lays129 x w h0 h1
def Tryz.lays317_ren : Go.Shelf.Ren := ⟨fun | 317 => 111 | n => n, fun | 3 => 3 | 46 => 129 | n => n, fun | n => n⟩
theorem Tryz.lays317 : Go.Proofs.Lays.n317 Tryz.prog Tryz.lays317_ren := {
  mixed := by kernel_rfl
  f317 := Tryz.func111.trans (congrArg some (by kernel_rfl))
  t3 := Tryz.underlying3
  a3 := Tryz.isAgg3
  z3 := Tryz.sizeOf3
  v3 := Tryz.zeroValue3
  t46 := Tryz.underlying129
  a46 := Tryz.isAgg129
  z46 := Tryz.sizeOf129
  v46 := Tryz.zeroValue129 }
open Go.Lib in
/-- internal/strconv.log10Pow2: "log10Pow2(x) returns ⌊log₁₀ 2**x⌋ = ⌊x * log₁₀ 2⌋.": '(x * 78913) >> 18', at an x up to 64 (a length in bits). The world is as it was. (LAID: no walk: one application.) -/
theorem Tryz.internal_strconv_log10Pow2 (x : Nat) (h : x ≤ 64) (w : World) :
    Calls Tryz.prog 111 #[.int .i64 x] w fun e w' => e = .returned (.int .i64 (Lib.l10 x)) ∧ w' = w := Any.internal_strconv_log10Pow2 Tryz.lays317 x h w
def Tryz.lays318_ren : Go.Shelf.Ren := ⟨fun | 318 => 113 | n => n, fun | 3 => 3 | 4 => 4 | n => n, fun | n => n⟩
theorem Tryz.lays318 : Go.Proofs.Lays.n318 Tryz.prog Tryz.lays318_ren := {
  mixed := by kernel_rfl
  f318 := Tryz.func113.trans (congrArg some (by kernel_rfl))
  t3 := Tryz.underlying3
  a3 := Tryz.isAgg3
  z3 := Tryz.sizeOf3
  v3 := Tryz.zeroValue3
  t4 := Tryz.underlying4
  a4 := Tryz.isAgg4
  z4 := Tryz.sizeOf4
  v4 := Tryz.zeroValue4 }
open Go.Lib in
/-- internal/strconv.bool2: "bool2 converts b to an integer: 1 for true, 0 for false." The world is as it was. (LAID: no walk: one application.) -/
theorem Tryz.internal_strconv_bool2_int (b : Bool) (w : World) :
    Calls Tryz.prog 113 #[.bool b] w fun e w' => e = .returned (.int .i64 (if b then 1 else 0)) ∧ w' = w := Any.internal_strconv_bool2_int Tryz.lays318 b w
def Tryz.lays283_ren : Go.Shelf.Ren := ⟨fun | 283 => 105 | n => n, fun | 3 => 3 | 9 => 9 | 4 => 4 | n => n, fun | n => n⟩
theorem Tryz.lays283 : Go.Proofs.Lays.n283 Tryz.prog Tryz.lays283_ren := {
  mixed := by kernel_rfl
  f283 := Tryz.func105.trans (congrArg some (by kernel_rfl))
  t3 := Tryz.underlying3
  a3 := Tryz.isAgg3
  z3 := Tryz.sizeOf3
  v3 := Tryz.zeroValue3
  t4 := Tryz.underlying4
  a4 := Tryz.isAgg4
  z4 := Tryz.sizeOf4
  v4 := Tryz.zeroValue4
  t9 := Tryz.underlying9
  a9 := Tryz.isAgg9
  z9 := Tryz.sizeOf9
  v9 := Tryz.zeroValue9 }
open Go.Lib in
/-- internal/strconv.small: "small returns the string for an i with 0 <= i < nSmalls.": i's decimal numeral. The world is as it was. (LAID: no walk: one application.) -/
theorem Tryz.internal_strconv_small (i : Nat) (h : i < 100) (w : World) :
    Calls Tryz.prog 105 #[.int .i64 i] w fun e w' => e = .returned (.string ⟨(Lib.decDigits i).toArray⟩) ∧ w' = w := Any.internal_strconv_small Tryz.lays283 i h w
def Tryz.laysM284_ren : Go.Shelf.Ren := ⟨fun | 284 => 106 | 129 => 112 | 317 => 111 | 318 => 113 | n => n, fun | 53 => 141 | 3 => 3 | 212 => 148 | 0 => 0 | 4 => 4 | 46 => 129 | 5 => 5 | 9 => 9 | n => n, fun | 17 => 1 | n => n⟩
theorem Tryz.laysM284 : Go.Proofs.LaysM.n284 Tryz.prog Tryz.laysM284_ren := {
  mixed := by kernel_rfl
  f129 := Tryz.func112.trans (congrArg some (by kernel_rfl))
  f284 := Tryz.func106.trans (congrArg some (by kernel_rfl))
  f317 := Tryz.func111.trans (congrArg some (by kernel_rfl))
  f318 := Tryz.func113.trans (congrArg some (by kernel_rfl))
  t0 := Tryz.underlying0
  a0 := Tryz.isAgg0
  z0 := Tryz.sizeOf0
  v0 := Tryz.zeroValue0
  t3 := Tryz.underlying3
  a3 := Tryz.isAgg3
  z3 := Tryz.sizeOf3
  v3 := Tryz.zeroValue3
  t4 := Tryz.underlying4
  a4 := Tryz.isAgg4
  z4 := Tryz.sizeOf4
  v4 := Tryz.zeroValue4
  t5 := Tryz.underlying5
  a5 := Tryz.isAgg5
  z5 := Tryz.sizeOf5
  v5 := Tryz.zeroValue5
  t9 := Tryz.underlying9
  a9 := Tryz.isAgg9
  z9 := Tryz.sizeOf9
  v9 := Tryz.zeroValue9
  t46 := Tryz.underlying129
  a46 := Tryz.isAgg129
  z46 := Tryz.sizeOf129
  v46 := Tryz.zeroValue129
  t53 := Tryz.underlying141
  a53 := Tryz.isAgg141
  z53 := Tryz.sizeOf141
  v53 := Tryz.zeroValue141
  t212 := Tryz.underlying148
  a212 := Tryz.isAgg148
  z212 := Tryz.sizeOf148
  v212 := Tryz.zeroValue148
  g17 := by kernel_rfl
  i0 := by kernel_rfl
  i3 := by kernel_rfl
  i4 := by kernel_rfl
  i5 := by kernel_rfl
  i9 := by kernel_rfl
  i46 := by kernel_rfl
  i53 := by kernel_rfl
  i212 := by kernel_rfl
  m17 := by kernel_rfl }
open Go.Lib in
/-- internal/strconv.numDigits, at a d that is not 0: THE NUMBER OF d's DECIMAL DIGITS. The world is as it was. (LAID: no walk: one application.) -/
theorem Tryz.internal_strconv_numDigits (u : Nat) (h1 : 1 ≤ u) (h2 : u < 18446744073709551616) (w : World) (htab : Lib.TabIs Tryz.prog w "internal/strconv.uint64pow10" .u64 Lib.pow10Tab) :
    Calls Tryz.prog 106 #[.int .u64 u] w fun e w' => e = .returned (.int .i64 (Lib.nDigits u)) ∧ w' = w := Any.internal_strconv_numDigits Tryz.laysM284 u h1 h2 w htab
def Tryz.lays285_ren : Go.Shelf.Ren := ⟨fun | 285 => 107 | n => n, fun | 37 => 80 | 53 => 141 | 3 => 3 | 4 => 4 | 51 => 149 | 9 => 9 | 5 => 5 | 0 => 0 | n => n, fun | n => n⟩
theorem Tryz.lays285 : Go.Proofs.Lays.n285 Tryz.prog Tryz.lays285_ren := {
  mixed := by kernel_rfl
  f285 := Tryz.func107.trans (congrArg some (by kernel_rfl))
  t0 := Tryz.underlying0
  a0 := Tryz.isAgg0
  z0 := Tryz.sizeOf0
  v0 := Tryz.zeroValue0
  t3 := Tryz.underlying3
  a3 := Tryz.isAgg3
  z3 := Tryz.sizeOf3
  v3 := Tryz.zeroValue3
  t4 := Tryz.underlying4
  a4 := Tryz.isAgg4
  z4 := Tryz.sizeOf4
  v4 := Tryz.zeroValue4
  t5 := Tryz.underlying5
  a5 := Tryz.isAgg5
  z5 := Tryz.sizeOf5
  v5 := Tryz.zeroValue5
  t9 := Tryz.underlying9
  a9 := Tryz.isAgg9
  z9 := Tryz.sizeOf9
  v9 := Tryz.zeroValue9
  t37 := Tryz.underlying80
  a37 := Tryz.isAgg80
  z37 := Tryz.sizeOf80
  v37 := Tryz.zeroValue80
  t51 := Tryz.underlying149
  a51 := Tryz.isAgg149
  z51 := Tryz.sizeOf149
  v51 := Tryz.zeroValue149
  t53 := Tryz.underlying141
  a53 := Tryz.isAgg141
  z53 := Tryz.sizeOf141
  v53 := Tryz.zeroValue141 }
open Go.RowKit Go.Sort Go.Lib in
/-- internal/strconv.formatBase10: "formatBase10 formats the decimal representation of u into a. The caller is responsible for ensuring that a is big enough to hold u. If a is too big, leading zeros will be filled in as needed.": THE ROW HOLDS u's DIGITS ('FmtInv .. 0 ..': every place t holds 'dg u (len - 1 - t)'); all else is as it was but for the count of draws. (LAID: no walk: one application.) -/
theorem Tryz.internal_strconv_formatBase10 (blk off cap : Nat) (u : Nat) (d : Array UInt8) (w : World) (hH : Holds (fun (b : UInt8) => Value.int .u8 (b.toNat : Int)) w blk off d) (hu : u < 10 ^ d.size) (hu64 : u < 18446744073709551616) (hsz : d.size < 4611686018427387904) :
    Calls Tryz.prog 107 #[.slice (some ⟨blk, off, none⟩) d.size cap, .int .u64 u] w fun e w' =>
      e = .returned (.tuple #[]) ∧ ∃ (n v' : Nat) (dk : Array UInt8), w' = (putRow (fun (b : UInt8) => Value.int .u8 (b.toNat : Int)) w blk off dk).drewN n ∧ FmtInv d.size u 0 v' dk := Any.internal_strconv_formatBase10 Tryz.lays285 blk off cap u d w hH hu hu64 hsz
def Tryz.laysM246_ren : Go.Shelf.Ren := ⟨fun | 246 => 90 | 283 => 105 | 284 => 106 | 285 => 107 | 286 => 108 | 129 => 112 | 317 => 111 | 318 => 113 | 319 => 114 | 320 => 115 | 337 => 116 | 338 => 117 | n => n, fun | 2 => 2 | 3 => 3 | 9 => 9 | 4 => 4 | 171 => 140 | 0 => 0 | 53 => 141 | 37 => 80 | 5 => 5 | 173 => 144 | 212 => 148 | 51 => 149 | 20 => 20 | 213 => 150 | 46 => 129 | 232 => 154 | 233 => 155 | n => n, fun | 17 => 1 | 18 => 2 | 19 => 3 | n => n⟩
theorem Tryz.laysM246 : Go.Proofs.LaysM.n246 Tryz.prog Tryz.laysM246_ren := {
  mixed := by kernel_rfl
  f129 := Tryz.func112.trans (congrArg some (by kernel_rfl))
  f246 := Tryz.func90.trans (congrArg some (by kernel_rfl))
  f283 := Tryz.func105.trans (congrArg some (by kernel_rfl))
  f284 := Tryz.func106.trans (congrArg some (by kernel_rfl))
  f285 := Tryz.func107.trans (congrArg some (by kernel_rfl))
  f286 := Tryz.func108.trans (congrArg some (by kernel_rfl))
  f317 := Tryz.func111.trans (congrArg some (by kernel_rfl))
  f318 := Tryz.func113.trans (congrArg some (by kernel_rfl))
  f319 := Tryz.func114.trans (congrArg some (by kernel_rfl))
  f320 := Tryz.func115.trans (congrArg some (by kernel_rfl))
  f337 := Tryz.func116.trans (congrArg some (by kernel_rfl))
  f338 := Tryz.func117.trans (congrArg some (by kernel_rfl))
  t0 := Tryz.underlying0
  a0 := Tryz.isAgg0
  z0 := Tryz.sizeOf0
  v0 := Tryz.zeroValue0
  t2 := Tryz.underlying2
  a2 := Tryz.isAgg2
  z2 := Tryz.sizeOf2
  v2 := Tryz.zeroValue2
  t3 := Tryz.underlying3
  a3 := Tryz.isAgg3
  z3 := Tryz.sizeOf3
  v3 := Tryz.zeroValue3
  t4 := Tryz.underlying4
  a4 := Tryz.isAgg4
  z4 := Tryz.sizeOf4
  v4 := Tryz.zeroValue4
  t5 := Tryz.underlying5
  a5 := Tryz.isAgg5
  z5 := Tryz.sizeOf5
  v5 := Tryz.zeroValue5
  t9 := Tryz.underlying9
  a9 := Tryz.isAgg9
  z9 := Tryz.sizeOf9
  v9 := Tryz.zeroValue9
  t20 := Tryz.underlying20
  a20 := Tryz.isAgg20
  z20 := Tryz.sizeOf20
  v20 := Tryz.zeroValue20
  t37 := Tryz.underlying80
  a37 := Tryz.isAgg80
  z37 := Tryz.sizeOf80
  v37 := Tryz.zeroValue80
  t46 := Tryz.underlying129
  a46 := Tryz.isAgg129
  z46 := Tryz.sizeOf129
  v46 := Tryz.zeroValue129
  t51 := Tryz.underlying149
  a51 := Tryz.isAgg149
  z51 := Tryz.sizeOf149
  v51 := Tryz.zeroValue149
  t53 := Tryz.underlying141
  a53 := Tryz.isAgg141
  z53 := Tryz.sizeOf141
  v53 := Tryz.zeroValue141
  t171 := Tryz.underlying140
  a171 := Tryz.isAgg140
  z171 := Tryz.sizeOf140
  v171 := Tryz.zeroValue140
  t173 := Tryz.underlying144
  a173 := Tryz.isAgg144
  z173 := Tryz.sizeOf144
  v173 := Tryz.zeroValue144
  t212 := Tryz.underlying148
  a212 := Tryz.isAgg148
  z212 := Tryz.sizeOf148
  v212 := Tryz.zeroValue148
  t213 := Tryz.underlying150
  a213 := Tryz.isAgg150
  z213 := Tryz.sizeOf150
  t232 := Tryz.underlying154
  a232 := Tryz.isAgg154
  z232 := Tryz.sizeOf154
  v232 := Tryz.zeroValue154
  t233 := Tryz.underlying155
  a233 := Tryz.isAgg155
  z233 := Tryz.sizeOf155
  v233 := Tryz.zeroValue155
  g17 := by kernel_rfl
  g18 := by kernel_rfl
  g19 := by kernel_rfl
  i0 := by kernel_rfl
  i2 := by kernel_rfl
  i3 := by kernel_rfl
  i4 := by kernel_rfl
  i5 := by kernel_rfl
  i9 := by kernel_rfl
  i20 := by kernel_rfl
  i37 := by kernel_rfl
  i46 := by kernel_rfl
  i51 := by kernel_rfl
  i53 := by kernel_rfl
  i171 := by kernel_rfl
  i173 := by kernel_rfl
  i212 := by kernel_rfl
  i232 := by kernel_rfl
  i233 := by kernel_rfl
  m17 := by kernel_rfl
  m18 := by kernel_rfl
  m19 := by kernel_rfl }
open Go.RowKit Go.Sort Go.Lib in
/-- internal/strconv.FormatInt: "FormatInt returns the string representation of i in the given base": AT BASE 10: i's decimal numeral, for every int64. The world behind the call: the world before it, new blocks behind the heap, draws. (LAID: no walk: one application.) -/
theorem Tryz.internal_strconv_FormatInt_10 (n : Int) (h0 : -9223372036854775808 ≤ n) (h1 : n ≤ 9223372036854775807) (w : World) (htab : Lib.TabIs Tryz.prog w "internal/strconv.uint64pow10" .u64 Lib.pow10Tab) :
    Calls Tryz.prog 90 #[.int .i64 n, .int .i64 10] w fun e w' => e = .returned (.string ⟨(Lib.itoa n).toArray⟩) ∧ ∃ k os, w' = grow (w.drewN k) os := Any.internal_strconv_FormatInt_10 Tryz.laysM246 n h0 h1 w htab
def Tryz.lays246_ren : Go.Shelf.Ren := ⟨fun | 246 => 90 | 283 => 105 | 284 => 106 | 285 => 107 | 286 => 108 | 129 => 112 | 317 => 111 | 318 => 113 | 319 => 114 | 320 => 115 | 337 => 116 | 338 => 117 | n => n, fun | 2 => 2 | 3 => 3 | 9 => 9 | 4 => 4 | 171 => 140 | 0 => 0 | 53 => 141 | 37 => 80 | 5 => 5 | 173 => 144 | 212 => 148 | 51 => 149 | 20 => 20 | 213 => 150 | 46 => 129 | 232 => 154 | 233 => 155 | n => n, fun | 17 => 1 | 18 => 2 | 19 => 3 | n => n⟩
theorem Tryz.lays246 : Go.Proofs.Lays.n246 Tryz.prog Tryz.lays246_ren := {
  mixed := by kernel_rfl
  f129 := Tryz.func112.trans (congrArg some (by kernel_rfl))
  f246 := Tryz.func90.trans (congrArg some (by kernel_rfl))
  f283 := Tryz.func105.trans (congrArg some (by kernel_rfl))
  f284 := Tryz.func106.trans (congrArg some (by kernel_rfl))
  f285 := Tryz.func107.trans (congrArg some (by kernel_rfl))
  f286 := Tryz.func108.trans (congrArg some (by kernel_rfl))
  f317 := Tryz.func111.trans (congrArg some (by kernel_rfl))
  f318 := Tryz.func113.trans (congrArg some (by kernel_rfl))
  f319 := Tryz.func114.trans (congrArg some (by kernel_rfl))
  f320 := Tryz.func115.trans (congrArg some (by kernel_rfl))
  f337 := Tryz.func116.trans (congrArg some (by kernel_rfl))
  f338 := Tryz.func117.trans (congrArg some (by kernel_rfl))
  t0 := Tryz.underlying0
  a0 := Tryz.isAgg0
  z0 := Tryz.sizeOf0
  v0 := Tryz.zeroValue0
  t2 := Tryz.underlying2
  a2 := Tryz.isAgg2
  z2 := Tryz.sizeOf2
  v2 := Tryz.zeroValue2
  t3 := Tryz.underlying3
  a3 := Tryz.isAgg3
  z3 := Tryz.sizeOf3
  v3 := Tryz.zeroValue3
  t4 := Tryz.underlying4
  a4 := Tryz.isAgg4
  z4 := Tryz.sizeOf4
  v4 := Tryz.zeroValue4
  t5 := Tryz.underlying5
  a5 := Tryz.isAgg5
  z5 := Tryz.sizeOf5
  v5 := Tryz.zeroValue5
  t9 := Tryz.underlying9
  a9 := Tryz.isAgg9
  z9 := Tryz.sizeOf9
  v9 := Tryz.zeroValue9
  t20 := Tryz.underlying20
  a20 := Tryz.isAgg20
  z20 := Tryz.sizeOf20
  v20 := Tryz.zeroValue20
  t37 := Tryz.underlying80
  a37 := Tryz.isAgg80
  z37 := Tryz.sizeOf80
  v37 := Tryz.zeroValue80
  t46 := Tryz.underlying129
  a46 := Tryz.isAgg129
  z46 := Tryz.sizeOf129
  v46 := Tryz.zeroValue129
  t51 := Tryz.underlying149
  a51 := Tryz.isAgg149
  z51 := Tryz.sizeOf149
  v51 := Tryz.zeroValue149
  t53 := Tryz.underlying141
  a53 := Tryz.isAgg141
  z53 := Tryz.sizeOf141
  v53 := Tryz.zeroValue141
  t171 := Tryz.underlying140
  a171 := Tryz.isAgg140
  z171 := Tryz.sizeOf140
  v171 := Tryz.zeroValue140
  t173 := Tryz.underlying144
  a173 := Tryz.isAgg144
  z173 := Tryz.sizeOf144
  v173 := Tryz.zeroValue144
  t212 := Tryz.underlying148
  a212 := Tryz.isAgg148
  z212 := Tryz.sizeOf148
  v212 := Tryz.zeroValue148
  t213 := Tryz.underlying150
  a213 := Tryz.isAgg150
  z213 := Tryz.sizeOf150
  t232 := Tryz.underlying154
  a232 := Tryz.isAgg154
  z232 := Tryz.sizeOf154
  v232 := Tryz.zeroValue154
  t233 := Tryz.underlying155
  a233 := Tryz.isAgg155
  z233 := Tryz.sizeOf155
  v233 := Tryz.zeroValue155
  g17 := by kernel_rfl
  g18 := by kernel_rfl
  g19 := by kernel_rfl }
open Go.RowKit Go.Sort Go.Lib in
/-- THE ROAD WITHOUT THE TABLE: 0 <= i < 100: two constants are read, nothing is laid: no premise on the world, and the world is as it was. (LAID: no walk: one application.) -/
theorem Tryz.internal_strconv_FormatInt_10_small (i : Nat) (hi : i < 100) (w : World) :
    Calls Tryz.prog 90 #[.int .i64 i, .int .i64 10] w fun e w' => e = .returned (.string ⟨(Lib.decDigits i).toArray⟩) ∧ w' = w := Any.internal_strconv_FormatInt_10_small Tryz.lays246 i hi w
def Tryz.laysM243_ren : Go.Shelf.Ren := ⟨fun | 243 => 66 | 246 => 90 | 283 => 105 | 284 => 106 | 285 => 107 | 286 => 108 | 129 => 112 | 317 => 111 | 318 => 113 | 319 => 114 | 320 => 115 | 337 => 116 | 338 => 117 | n => n, fun | 3 => 3 | 9 => 9 | 2 => 2 | 4 => 4 | 171 => 140 | 0 => 0 | 53 => 141 | 37 => 80 | 5 => 5 | 173 => 144 | 212 => 148 | 51 => 149 | 20 => 20 | 213 => 150 | 46 => 129 | 232 => 154 | 233 => 155 | n => n, fun | 17 => 1 | 18 => 2 | 19 => 3 | n => n⟩
theorem Tryz.laysM243 : Go.Proofs.LaysM.n243 Tryz.prog Tryz.laysM243_ren := {
  mixed := by kernel_rfl
  f129 := Tryz.func112.trans (congrArg some (by kernel_rfl))
  f243 := Tryz.func66.trans (congrArg some (by kernel_rfl))
  f246 := Tryz.func90.trans (congrArg some (by kernel_rfl))
  f283 := Tryz.func105.trans (congrArg some (by kernel_rfl))
  f284 := Tryz.func106.trans (congrArg some (by kernel_rfl))
  f285 := Tryz.func107.trans (congrArg some (by kernel_rfl))
  f286 := Tryz.func108.trans (congrArg some (by kernel_rfl))
  f317 := Tryz.func111.trans (congrArg some (by kernel_rfl))
  f318 := Tryz.func113.trans (congrArg some (by kernel_rfl))
  f319 := Tryz.func114.trans (congrArg some (by kernel_rfl))
  f320 := Tryz.func115.trans (congrArg some (by kernel_rfl))
  f337 := Tryz.func116.trans (congrArg some (by kernel_rfl))
  f338 := Tryz.func117.trans (congrArg some (by kernel_rfl))
  t0 := Tryz.underlying0
  a0 := Tryz.isAgg0
  z0 := Tryz.sizeOf0
  v0 := Tryz.zeroValue0
  t2 := Tryz.underlying2
  a2 := Tryz.isAgg2
  z2 := Tryz.sizeOf2
  v2 := Tryz.zeroValue2
  t3 := Tryz.underlying3
  a3 := Tryz.isAgg3
  z3 := Tryz.sizeOf3
  v3 := Tryz.zeroValue3
  t4 := Tryz.underlying4
  a4 := Tryz.isAgg4
  z4 := Tryz.sizeOf4
  v4 := Tryz.zeroValue4
  t5 := Tryz.underlying5
  a5 := Tryz.isAgg5
  z5 := Tryz.sizeOf5
  v5 := Tryz.zeroValue5
  t9 := Tryz.underlying9
  a9 := Tryz.isAgg9
  z9 := Tryz.sizeOf9
  v9 := Tryz.zeroValue9
  t20 := Tryz.underlying20
  a20 := Tryz.isAgg20
  z20 := Tryz.sizeOf20
  v20 := Tryz.zeroValue20
  t37 := Tryz.underlying80
  a37 := Tryz.isAgg80
  z37 := Tryz.sizeOf80
  v37 := Tryz.zeroValue80
  t46 := Tryz.underlying129
  a46 := Tryz.isAgg129
  z46 := Tryz.sizeOf129
  v46 := Tryz.zeroValue129
  t51 := Tryz.underlying149
  a51 := Tryz.isAgg149
  z51 := Tryz.sizeOf149
  v51 := Tryz.zeroValue149
  t53 := Tryz.underlying141
  a53 := Tryz.isAgg141
  z53 := Tryz.sizeOf141
  v53 := Tryz.zeroValue141
  t171 := Tryz.underlying140
  a171 := Tryz.isAgg140
  z171 := Tryz.sizeOf140
  v171 := Tryz.zeroValue140
  t173 := Tryz.underlying144
  a173 := Tryz.isAgg144
  z173 := Tryz.sizeOf144
  v173 := Tryz.zeroValue144
  t212 := Tryz.underlying148
  a212 := Tryz.isAgg148
  z212 := Tryz.sizeOf148
  v212 := Tryz.zeroValue148
  t213 := Tryz.underlying150
  a213 := Tryz.isAgg150
  z213 := Tryz.sizeOf150
  t232 := Tryz.underlying154
  a232 := Tryz.isAgg154
  z232 := Tryz.sizeOf154
  v232 := Tryz.zeroValue154
  t233 := Tryz.underlying155
  a233 := Tryz.isAgg155
  z233 := Tryz.sizeOf155
  v233 := Tryz.zeroValue155
  g17 := by kernel_rfl
  g18 := by kernel_rfl
  g19 := by kernel_rfl
  i0 := by kernel_rfl
  i2 := by kernel_rfl
  i3 := by kernel_rfl
  i4 := by kernel_rfl
  i5 := by kernel_rfl
  i9 := by kernel_rfl
  i20 := by kernel_rfl
  i37 := by kernel_rfl
  i46 := by kernel_rfl
  i51 := by kernel_rfl
  i53 := by kernel_rfl
  i171 := by kernel_rfl
  i173 := by kernel_rfl
  i212 := by kernel_rfl
  i232 := by kernel_rfl
  i233 := by kernel_rfl
  m17 := by kernel_rfl
  m18 := by kernel_rfl
  m19 := by kernel_rfl }
open Go.RowKit Go.Sort Go.Lib in
/-- internal/strconv.Itoa: "Itoa is equivalent to FormatInt(int64(i), 10).": i's decimal numeral, for every int. (LAID: no walk: one application.) -/
theorem Tryz.internal_strconv_Itoa (n : Int) (h0 : -9223372036854775808 ≤ n) (h1 : n ≤ 9223372036854775807) (w : World) (htab : Lib.TabIs Tryz.prog w "internal/strconv.uint64pow10" .u64 Lib.pow10Tab) :
    Calls Tryz.prog 66 #[.int .i64 n] w fun e w' => e = .returned (.string ⟨(Lib.itoa n).toArray⟩) ∧ ∃ k os, w' = grow (w.drewN k) os := Any.internal_strconv_Itoa Tryz.laysM243 n h0 h1 w htab
def Tryz.lays243_ren : Go.Shelf.Ren := ⟨fun | 243 => 66 | 246 => 90 | 283 => 105 | 284 => 106 | 285 => 107 | 286 => 108 | 129 => 112 | 317 => 111 | 318 => 113 | 319 => 114 | 320 => 115 | 337 => 116 | 338 => 117 | n => n, fun | 3 => 3 | 9 => 9 | 2 => 2 | 4 => 4 | 171 => 140 | 0 => 0 | 53 => 141 | 37 => 80 | 5 => 5 | 173 => 144 | 212 => 148 | 51 => 149 | 20 => 20 | 213 => 150 | 46 => 129 | 232 => 154 | 233 => 155 | n => n, fun | 17 => 1 | 18 => 2 | 19 => 3 | n => n⟩
theorem Tryz.lays243 : Go.Proofs.Lays.n243 Tryz.prog Tryz.lays243_ren := {
  mixed := by kernel_rfl
  f129 := Tryz.func112.trans (congrArg some (by kernel_rfl))
  f243 := Tryz.func66.trans (congrArg some (by kernel_rfl))
  f246 := Tryz.func90.trans (congrArg some (by kernel_rfl))
  f283 := Tryz.func105.trans (congrArg some (by kernel_rfl))
  f284 := Tryz.func106.trans (congrArg some (by kernel_rfl))
  f285 := Tryz.func107.trans (congrArg some (by kernel_rfl))
  f286 := Tryz.func108.trans (congrArg some (by kernel_rfl))
  f317 := Tryz.func111.trans (congrArg some (by kernel_rfl))
  f318 := Tryz.func113.trans (congrArg some (by kernel_rfl))
  f319 := Tryz.func114.trans (congrArg some (by kernel_rfl))
  f320 := Tryz.func115.trans (congrArg some (by kernel_rfl))
  f337 := Tryz.func116.trans (congrArg some (by kernel_rfl))
  f338 := Tryz.func117.trans (congrArg some (by kernel_rfl))
  t0 := Tryz.underlying0
  a0 := Tryz.isAgg0
  z0 := Tryz.sizeOf0
  v0 := Tryz.zeroValue0
  t2 := Tryz.underlying2
  a2 := Tryz.isAgg2
  z2 := Tryz.sizeOf2
  v2 := Tryz.zeroValue2
  t3 := Tryz.underlying3
  a3 := Tryz.isAgg3
  z3 := Tryz.sizeOf3
  v3 := Tryz.zeroValue3
  t4 := Tryz.underlying4
  a4 := Tryz.isAgg4
  z4 := Tryz.sizeOf4
  v4 := Tryz.zeroValue4
  t5 := Tryz.underlying5
  a5 := Tryz.isAgg5
  z5 := Tryz.sizeOf5
  v5 := Tryz.zeroValue5
  t9 := Tryz.underlying9
  a9 := Tryz.isAgg9
  z9 := Tryz.sizeOf9
  v9 := Tryz.zeroValue9
  t20 := Tryz.underlying20
  a20 := Tryz.isAgg20
  z20 := Tryz.sizeOf20
  v20 := Tryz.zeroValue20
  t37 := Tryz.underlying80
  a37 := Tryz.isAgg80
  z37 := Tryz.sizeOf80
  v37 := Tryz.zeroValue80
  t46 := Tryz.underlying129
  a46 := Tryz.isAgg129
  z46 := Tryz.sizeOf129
  v46 := Tryz.zeroValue129
  t51 := Tryz.underlying149
  a51 := Tryz.isAgg149
  z51 := Tryz.sizeOf149
  v51 := Tryz.zeroValue149
  t53 := Tryz.underlying141
  a53 := Tryz.isAgg141
  z53 := Tryz.sizeOf141
  v53 := Tryz.zeroValue141
  t171 := Tryz.underlying140
  a171 := Tryz.isAgg140
  z171 := Tryz.sizeOf140
  v171 := Tryz.zeroValue140
  t173 := Tryz.underlying144
  a173 := Tryz.isAgg144
  z173 := Tryz.sizeOf144
  v173 := Tryz.zeroValue144
  t212 := Tryz.underlying148
  a212 := Tryz.isAgg148
  z212 := Tryz.sizeOf148
  v212 := Tryz.zeroValue148
  t213 := Tryz.underlying150
  a213 := Tryz.isAgg150
  z213 := Tryz.sizeOf150
  t232 := Tryz.underlying154
  a232 := Tryz.isAgg154
  z232 := Tryz.sizeOf154
  v232 := Tryz.zeroValue154
  t233 := Tryz.underlying155
  a233 := Tryz.isAgg155
  z233 := Tryz.sizeOf155
  v233 := Tryz.zeroValue155
  g17 := by kernel_rfl
  g18 := by kernel_rfl
  g19 := by kernel_rfl }
open Go.RowKit Go.Sort Go.Lib in
/-- THE ROAD WITHOUT THE TABLE: 0 <= i < 100. (LAID: no walk: one application.) -/
theorem Tryz.internal_strconv_Itoa_small (i : Nat) (hi : i < 100) (w : World) :
    Calls Tryz.prog 66 #[.int .i64 i] w fun e w' => e = .returned (.string ⟨(Lib.decDigits i).toArray⟩) ∧ w' = w := Any.internal_strconv_Itoa_small Tryz.lays243 i hi w
def Tryz.laysM171_ren : Go.Shelf.Ren := ⟨fun | 171 => 40 | 243 => 66 | 246 => 90 | 283 => 105 | 284 => 106 | 285 => 107 | 286 => 108 | 129 => 112 | 317 => 111 | 318 => 113 | 319 => 114 | 320 => 115 | 337 => 116 | 338 => 117 | n => n, fun | 3 => 3 | 9 => 9 | 2 => 2 | 4 => 4 | 171 => 140 | 0 => 0 | 53 => 141 | 37 => 80 | 5 => 5 | 173 => 144 | 212 => 148 | 51 => 149 | 20 => 20 | 213 => 150 | 46 => 129 | 232 => 154 | 233 => 155 | n => n, fun | 17 => 1 | 18 => 2 | 19 => 3 | n => n⟩
theorem Tryz.laysM171 : Go.Proofs.LaysM.n171 Tryz.prog Tryz.laysM171_ren := {
  mixed := by kernel_rfl
  f129 := Tryz.func112.trans (congrArg some (by kernel_rfl))
  f171 := Tryz.func40.trans (congrArg some (by kernel_rfl))
  f243 := Tryz.func66.trans (congrArg some (by kernel_rfl))
  f246 := Tryz.func90.trans (congrArg some (by kernel_rfl))
  f283 := Tryz.func105.trans (congrArg some (by kernel_rfl))
  f284 := Tryz.func106.trans (congrArg some (by kernel_rfl))
  f285 := Tryz.func107.trans (congrArg some (by kernel_rfl))
  f286 := Tryz.func108.trans (congrArg some (by kernel_rfl))
  f317 := Tryz.func111.trans (congrArg some (by kernel_rfl))
  f318 := Tryz.func113.trans (congrArg some (by kernel_rfl))
  f319 := Tryz.func114.trans (congrArg some (by kernel_rfl))
  f320 := Tryz.func115.trans (congrArg some (by kernel_rfl))
  f337 := Tryz.func116.trans (congrArg some (by kernel_rfl))
  f338 := Tryz.func117.trans (congrArg some (by kernel_rfl))
  t0 := Tryz.underlying0
  a0 := Tryz.isAgg0
  z0 := Tryz.sizeOf0
  v0 := Tryz.zeroValue0
  t2 := Tryz.underlying2
  a2 := Tryz.isAgg2
  z2 := Tryz.sizeOf2
  v2 := Tryz.zeroValue2
  t3 := Tryz.underlying3
  a3 := Tryz.isAgg3
  z3 := Tryz.sizeOf3
  v3 := Tryz.zeroValue3
  t4 := Tryz.underlying4
  a4 := Tryz.isAgg4
  z4 := Tryz.sizeOf4
  v4 := Tryz.zeroValue4
  t5 := Tryz.underlying5
  a5 := Tryz.isAgg5
  z5 := Tryz.sizeOf5
  v5 := Tryz.zeroValue5
  t9 := Tryz.underlying9
  a9 := Tryz.isAgg9
  z9 := Tryz.sizeOf9
  v9 := Tryz.zeroValue9
  t20 := Tryz.underlying20
  a20 := Tryz.isAgg20
  z20 := Tryz.sizeOf20
  v20 := Tryz.zeroValue20
  t37 := Tryz.underlying80
  a37 := Tryz.isAgg80
  z37 := Tryz.sizeOf80
  v37 := Tryz.zeroValue80
  t46 := Tryz.underlying129
  a46 := Tryz.isAgg129
  z46 := Tryz.sizeOf129
  v46 := Tryz.zeroValue129
  t51 := Tryz.underlying149
  a51 := Tryz.isAgg149
  z51 := Tryz.sizeOf149
  v51 := Tryz.zeroValue149
  t53 := Tryz.underlying141
  a53 := Tryz.isAgg141
  z53 := Tryz.sizeOf141
  v53 := Tryz.zeroValue141
  t171 := Tryz.underlying140
  a171 := Tryz.isAgg140
  z171 := Tryz.sizeOf140
  v171 := Tryz.zeroValue140
  t173 := Tryz.underlying144
  a173 := Tryz.isAgg144
  z173 := Tryz.sizeOf144
  v173 := Tryz.zeroValue144
  t212 := Tryz.underlying148
  a212 := Tryz.isAgg148
  z212 := Tryz.sizeOf148
  v212 := Tryz.zeroValue148
  t213 := Tryz.underlying150
  a213 := Tryz.isAgg150
  z213 := Tryz.sizeOf150
  t232 := Tryz.underlying154
  a232 := Tryz.isAgg154
  z232 := Tryz.sizeOf154
  v232 := Tryz.zeroValue154
  t233 := Tryz.underlying155
  a233 := Tryz.isAgg155
  z233 := Tryz.sizeOf155
  v233 := Tryz.zeroValue155
  g17 := by kernel_rfl
  g18 := by kernel_rfl
  g19 := by kernel_rfl
  i0 := by kernel_rfl
  i2 := by kernel_rfl
  i3 := by kernel_rfl
  i4 := by kernel_rfl
  i5 := by kernel_rfl
  i9 := by kernel_rfl
  i20 := by kernel_rfl
  i37 := by kernel_rfl
  i46 := by kernel_rfl
  i51 := by kernel_rfl
  i53 := by kernel_rfl
  i171 := by kernel_rfl
  i173 := by kernel_rfl
  i212 := by kernel_rfl
  i232 := by kernel_rfl
  i233 := by kernel_rfl
  m17 := by kernel_rfl
  m18 := by kernel_rfl
  m19 := by kernel_rfl }
open Go.RowKit Go.Sort Go.Lib in
/-- strconv.Itoa: "Itoa is equivalent to FormatInt(int64(i), 10).": i's DECIMAL NUMERAL ('Lib.itoa': a '-' where i is negative, then the digits), FOR EVERY int. The world behind the call: the world before it, new blocks behind the heap (the library's 'var a [24]byte'), draws. (LAID: no walk: one application.) -/
theorem Tryz.strconv_Itoa (n : Int) (h0 : -9223372036854775808 ≤ n) (h1 : n ≤ 9223372036854775807) (w : World) (htab : Lib.TabIs Tryz.prog w "internal/strconv.uint64pow10" .u64 Lib.pow10Tab) :
    Calls Tryz.prog 40 #[.int .i64 n] w fun e w' => e = .returned (.string ⟨(Lib.itoa n).toArray⟩) ∧ ∃ k os, w' = grow (w.drewN k) os := Any.strconv_Itoa Tryz.laysM171 n h0 h1 w htab
def Tryz.lays171_ren : Go.Shelf.Ren := ⟨fun | 171 => 40 | 243 => 66 | 246 => 90 | 283 => 105 | 284 => 106 | 285 => 107 | 286 => 108 | 129 => 112 | 317 => 111 | 318 => 113 | 319 => 114 | 320 => 115 | 337 => 116 | 338 => 117 | n => n, fun | 3 => 3 | 9 => 9 | 2 => 2 | 4 => 4 | 171 => 140 | 0 => 0 | 53 => 141 | 37 => 80 | 5 => 5 | 173 => 144 | 212 => 148 | 51 => 149 | 20 => 20 | 213 => 150 | 46 => 129 | 232 => 154 | 233 => 155 | n => n, fun | 17 => 1 | 18 => 2 | 19 => 3 | n => n⟩
theorem Tryz.lays171 : Go.Proofs.Lays.n171 Tryz.prog Tryz.lays171_ren := {
  mixed := by kernel_rfl
  f129 := Tryz.func112.trans (congrArg some (by kernel_rfl))
  f171 := Tryz.func40.trans (congrArg some (by kernel_rfl))
  f243 := Tryz.func66.trans (congrArg some (by kernel_rfl))
  f246 := Tryz.func90.trans (congrArg some (by kernel_rfl))
  f283 := Tryz.func105.trans (congrArg some (by kernel_rfl))
  f284 := Tryz.func106.trans (congrArg some (by kernel_rfl))
  f285 := Tryz.func107.trans (congrArg some (by kernel_rfl))
  f286 := Tryz.func108.trans (congrArg some (by kernel_rfl))
  f317 := Tryz.func111.trans (congrArg some (by kernel_rfl))
  f318 := Tryz.func113.trans (congrArg some (by kernel_rfl))
  f319 := Tryz.func114.trans (congrArg some (by kernel_rfl))
  f320 := Tryz.func115.trans (congrArg some (by kernel_rfl))
  f337 := Tryz.func116.trans (congrArg some (by kernel_rfl))
  f338 := Tryz.func117.trans (congrArg some (by kernel_rfl))
  t0 := Tryz.underlying0
  a0 := Tryz.isAgg0
  z0 := Tryz.sizeOf0
  v0 := Tryz.zeroValue0
  t2 := Tryz.underlying2
  a2 := Tryz.isAgg2
  z2 := Tryz.sizeOf2
  v2 := Tryz.zeroValue2
  t3 := Tryz.underlying3
  a3 := Tryz.isAgg3
  z3 := Tryz.sizeOf3
  v3 := Tryz.zeroValue3
  t4 := Tryz.underlying4
  a4 := Tryz.isAgg4
  z4 := Tryz.sizeOf4
  v4 := Tryz.zeroValue4
  t5 := Tryz.underlying5
  a5 := Tryz.isAgg5
  z5 := Tryz.sizeOf5
  v5 := Tryz.zeroValue5
  t9 := Tryz.underlying9
  a9 := Tryz.isAgg9
  z9 := Tryz.sizeOf9
  v9 := Tryz.zeroValue9
  t20 := Tryz.underlying20
  a20 := Tryz.isAgg20
  z20 := Tryz.sizeOf20
  v20 := Tryz.zeroValue20
  t37 := Tryz.underlying80
  a37 := Tryz.isAgg80
  z37 := Tryz.sizeOf80
  v37 := Tryz.zeroValue80
  t46 := Tryz.underlying129
  a46 := Tryz.isAgg129
  z46 := Tryz.sizeOf129
  v46 := Tryz.zeroValue129
  t51 := Tryz.underlying149
  a51 := Tryz.isAgg149
  z51 := Tryz.sizeOf149
  v51 := Tryz.zeroValue149
  t53 := Tryz.underlying141
  a53 := Tryz.isAgg141
  z53 := Tryz.sizeOf141
  v53 := Tryz.zeroValue141
  t171 := Tryz.underlying140
  a171 := Tryz.isAgg140
  z171 := Tryz.sizeOf140
  v171 := Tryz.zeroValue140
  t173 := Tryz.underlying144
  a173 := Tryz.isAgg144
  z173 := Tryz.sizeOf144
  v173 := Tryz.zeroValue144
  t212 := Tryz.underlying148
  a212 := Tryz.isAgg148
  z212 := Tryz.sizeOf148
  v212 := Tryz.zeroValue148
  t213 := Tryz.underlying150
  a213 := Tryz.isAgg150
  z213 := Tryz.sizeOf150
  t232 := Tryz.underlying154
  a232 := Tryz.isAgg154
  z232 := Tryz.sizeOf154
  v232 := Tryz.zeroValue154
  t233 := Tryz.underlying155
  a233 := Tryz.isAgg155
  z233 := Tryz.sizeOf155
  v233 := Tryz.zeroValue155
  g17 := by kernel_rfl
  g18 := by kernel_rfl
  g19 := by kernel_rfl }
open Go.RowKit Go.Sort Go.Lib in
/-- THE ROAD WITHOUT THE TABLE: 0 <= i < 100: NO PREMISE ON THE WORLD, AND THE WORLD IS AS IT WAS: a row that keeps its argument in that range need list no table ('laid = []'). (LAID: no walk: one application.) -/
theorem Tryz.strconv_Itoa_small (i : Nat) (hi : i < 100) (w : World) :
    Calls Tryz.prog 40 #[.int .i64 i] w fun e w' => e = .returned (.string ⟨(Lib.decDigits i).toArray⟩) ∧ w' = w := Any.strconv_Itoa_small Tryz.lays171 i hi w
def Tryz.lays217_ren : Go.Shelf.Ren := ⟨fun | 217 => 80 | 266 => 99 | n => n, fun | 9 => 9 | 5 => 5 | 3 => 3 | n => n, fun | n => n⟩
theorem Tryz.lays217 : Go.Proofs.Lays.n217 Tryz.prog Tryz.lays217_ren := {
  mixed := by kernel_rfl
  f217 := Tryz.func80.trans (congrArg some (by kernel_rfl))
  f266 := Tryz.func99.trans (congrArg some (by kernel_rfl))
  t3 := Tryz.underlying3
  a3 := Tryz.isAgg3
  z3 := Tryz.sizeOf3
  v3 := Tryz.zeroValue3
  t5 := Tryz.underlying5
  a5 := Tryz.isAgg5
  z5 := Tryz.sizeOf5
  v5 := Tryz.zeroValue5
  t9 := Tryz.underlying9
  a9 := Tryz.isAgg9
  z9 := Tryz.sizeOf9
  v9 := Tryz.zeroValue9 }
open Go.RowKit Go.Lib in
/-- internal/stringslite.IndexByte (what strings.IndexByte calls): IT RETURNS 'Lib.indexByte s c'; the world is as it was. (LAID: no walk: one application.) -/
theorem Tryz.stringslite_IndexByte (s : ByteArray) (c : Int) (w : World) :
    Calls Tryz.prog 80 #[.string s, .int .u8 c] w fun e w' => e = .returned (.int .i64 (Lib.indexByte s.data.toList c.toNat.toUInt8)) ∧ w' = w := Any.stringslite_IndexByte Tryz.lays217 s c w
end Go.Proofs
end

section
/-
YtgpgpelaabdkhaaGreatDoor: strconv.Itoa, by the shelf: its contract. No condition.
-/
open Go Go.AM
namespace Go.Proofs.YtgpgpelaabdkhaaGreatDoor
noncomputable section
def itoaG (n : Int) : Option (ByteArray × Unit) := if -9223372036854775808 ≤ n ∧ n ≤ 9223372036854775807 then some (strB (Lib.itoa n), ()) else none
def strconv_Itoa (n : Int) : Option ((ByteArray × Unit) × Unit) := (itoaG n).bind fun y => some (y, ())
def fc40 : FC := ⟨⟨[.one (.int .i64)], []⟩, ⟨[.one .str], []⟩, fun x => strconv_Itoa x.1.1⟩
theorem con40 : Contract Tryz.prog 40 fc40 :=
  Contract.below (P := Tryz.prog) (f := 40) (sa := [.one (.int .i64)]) (sr := [.one .str]) (fn := Tryz.f40) (c := Tryz.f40.body.getD .skip) Tryz.func40 (by kernel_rfl) (by kernel_rfl) (g := fun x => itoaG x.1) (fun w M G x y vals hI hv hg => by
    obtain ⟨n, u⟩ := x
    obtain ⟨vs⟩ := vals
    match vs, hv with
    | [v1], hv =>
      obtain ⟨⟨rfl, _⟩, _⟩ := hv
      have hg' : itoaG n = some y := hg
      unfold itoaG at hg'
      split at hg'
      · rename_i hn
        cases hg'
        refine (Tryz.strconv_Itoa n hn.1 hn.2 w (zone_tab (hI.zone _ _ zone_pow))).mono ?_
        rintro e w' ⟨rfl, k, os, rfl⟩
        refine ⟨_, rfl, ⟨rfl, rfl, rfl, ?_, fun i hi => ?_⟩, rfl, rfl⟩
        · show w.heap.size ≤ (w.heap ++ os).size
          simp
        · show (w.heap ++ os)[i]? = w.heap[i]?
          rw [Array.getElem?_append_left hi]
      · cases hg'
    | [], hv => exact hv.elim
    | _ :: _ :: _, hv => exact hv.2.elim)
end
end Go.Proofs.YtgpgpelaabdkhaaGreatDoor
end

section
/-
YtgpgpelaabdkhaaGreatDoor: signalbench.trig.number, as one plain function, its equations, its contract. No condition.
-/
set_option maxRecDepth 100000
set_option linter.unusedVariables false
set_option maxHeartbeats 4000000
open Go Go.AM
namespace Go.Proofs.YtgpgpelaabdkhaaGreatDoor
noncomputable section
def trig_number_D : FD := ⟨T, lookC [(40, fc40)], [], (Tryz.f19.body.getD .skip), Tryz.f19.results.toList, ⟨[.one (.int .i64)], []⟩, ⟨[.row (.cons (.int .i64) (.cons .str (.cons (.int .i64) (.int .i64))))], []⟩, []⟩
def trig_number (n : Int) : (Option ((TToken × Unit) × Unit)) :=
  (strconv_Itoa n).bind fun y1 =>
    some (((2, y1.1.1, n, 0), ()), ())
def fc19 : FC := ⟨⟨[.one (.int .i64)], []⟩, ⟨[.row (.cons (.int .i64) (.cons .str (.cons (.int .i64) (.int .i64))))], []⟩, fun x => trig_number x.1.1⟩
theorem con19 : Contract Tryz.prog 19 fc19 :=
  trig_number_D.contract tok (cok_of (l := [(40, fc40)]) ⟨con40, trivial⟩) mixed (fn' := Tryz.f19) (by kernel_rfl) (by kernel_rfl) rfl (by kernel_rfl) (fun x => (FD.fn_eq _ _).trans (by kernel_rfl))
end
end Go.Proofs.YtgpgpelaabdkhaaGreatDoor
end

section
/-
YtgpgpelaabdkhaaGreatDoor: signalbench.trig.kinds, as one plain function, its equations, its contract. No condition.
-/
set_option maxRecDepth 100000
set_option linter.unusedVariables false
set_option maxHeartbeats 4000000
open Go Go.AM
namespace Go.Proofs.YtgpgpelaabdkhaaGreatDoor
noncomputable section
def trig_kinds_D : FD := ⟨T, lookC [], [], (Tryz.f37.body.getD .skip), Tryz.f37.results.toList, ⟨[], []⟩, ⟨[.one (.sl .str)], []⟩, []⟩
def trig_kinds : (Option (((List ByteArray) × Unit) × Unit)) :=
  some (([(strB [97, 110, 121]), (strB [108, 101, 118, 101, 108]), (strB [98, 105, 116]), (strB [98, 121, 116, 101]), (strB [109, 97, 114, 107]), (strB [102, 114, 97, 109, 101]), (strB [112, 97, 99, 107, 101, 116]), (strB [99, 111, 109, 109, 97, 110, 100]), (strB [112, 97, 105, 114])], ()), ())
def fc37 : FC := ⟨⟨[], []⟩, ⟨[.one (.sl .str)], []⟩, fun x => trig_kinds⟩
theorem con37 : Contract Tryz.prog 37 fc37 :=
  trig_kinds_D.contract tok (cok_of (l := []) trivial) mixed (fn' := Tryz.f37) (by kernel_rfl) (by kernel_rfl) rfl (by kernel_rfl) (fun x => (FD.fn_eq _ _).trans (by kernel_rfl))
end
end Go.Proofs.YtgpgpelaabdkhaaGreatDoor
end

section
/-
YtgpgpelaabdkhaaGreatDoor: signalbench.trig.fields, as one plain function, its equations, its contract. No condition.
-/
set_option maxRecDepth 100000
set_option linter.unusedVariables false
set_option maxHeartbeats 4000000
open Go Go.AM
namespace Go.Proofs.YtgpgpelaabdkhaaGreatDoor
noncomputable section
def trig_fields_D : FD := ⟨T, lookC [], [], (Tryz.f38.body.getD .skip), Tryz.f38.results.toList, ⟨[], []⟩, ⟨[.one (.sl .str)], []⟩, []⟩
def trig_fields : (Option (((List ByteArray) × Unit) × Unit)) :=
  some (([(strB [118, 97, 108, 117, 101]), (strB [97, 117, 120]), (strB [102, 97, 117, 108, 116]), (strB [108, 101, 110, 103, 116, 104]), (strB [116, 105, 99, 107, 115]), (strB [102, 105, 114, 115, 116])], ()), ())
def fc38 : FC := ⟨⟨[], []⟩, ⟨[.one (.sl .str)], []⟩, fun x => trig_fields⟩
theorem con38 : Contract Tryz.prog 38 fc38 :=
  trig_fields_D.contract tok (cok_of (l := []) trivial) mixed (fn' := Tryz.f38) (by kernel_rfl) (by kernel_rfl) rfl (by kernel_rfl) (fun x => (FD.fn_eq _ _).trans (by kernel_rfl))
end
end Go.Proofs.YtgpgpelaabdkhaaGreatDoor
end

section
/-
YtgpgpelaabdkhaaGreatDoor: signalbench.trig.ops, as one plain function, its equations, its contract. No condition.
-/
set_option maxRecDepth 100000
set_option linter.unusedVariables false
set_option maxHeartbeats 4000000
open Go Go.AM
namespace Go.Proofs.YtgpgpelaabdkhaaGreatDoor
noncomputable section
def trig_ops_D : FD := ⟨T, lookC [], [], (Tryz.f39.body.getD .skip), Tryz.f39.results.toList, ⟨[.one (.int .i64)], []⟩, ⟨[.one (.sl .str)], []⟩, []⟩
def trig_ops (op : Int) : (Option (((List ByteArray) × Unit) × Unit)) :=
  if (op == 1) = true then
    some (([(strB [61])], ()), ())
  else
    if (op == 2) = true then
      some (([(strB [33]), (strB [61])], ()), ())
    else
      if (op == 3) = true then
        some (([(strB [60])], ()), ())
      else
        if (op == 4) = true then
          some (([(strB [62])], ()), ())
        else
          some (([(strB [38])], ()), ())
def fc39 : FC := ⟨⟨[.one (.int .i64)], []⟩, ⟨[.one (.sl .str)], []⟩, fun x => trig_ops x.1.1⟩
theorem con39 : Contract Tryz.prog 39 fc39 :=
  trig_ops_D.contract tok (cok_of (l := []) trivial) mixed (fn' := Tryz.f39) (by kernel_rfl) (by kernel_rfl) rfl (by kernel_rfl) (fun x => (FD.fn_eq _ _).trans (by kernel_rfl))
end
end Go.Proofs.YtgpgpelaabdkhaaGreatDoor
end

section
/-
YtgpgpelaabdkhaaGreatDoor: signalbench.trig.cond, as one plain function, its equations, its contract. No condition.
-/
set_option maxRecDepth 100000
set_option linter.unusedVariables false
set_option maxHeartbeats 4000000
open Go Go.AM
namespace Go.Proofs.YtgpgpelaabdkhaaGreatDoor
noncomputable section
def trig_cond_F8 : FSh := ⟨[(1, .one (.ptr 0 0)), (3, .one (.own 1)), (33, .one (.sl .str)), (34, .one (.int .i64)), (35, .one (.int .i64))], [.boxr 35 (.cons .str (.cons (.int .i64) (.cons (.int .i64) (.cons (.int .i64) (.int .i64))))), .arr 54 (.cons (.int .i64) (.cons .str (.cons (.int .i64) (.int .i64)))) true]⟩
def trig_cond_D : FD := ⟨T, lookC [(16, fc16), (17, fc17), (19, fc19), (37, fc37), (38, fc38), (39, fc39)], [], (Tryz.f18.body.getD .skip), Tryz.f18.results.toList, ⟨[.row (.cons .str (.cons (.int .i64) (.cons (.int .i64) (.cons (.int .i64) (.int .i64)))))], []⟩, ⟨[.one (.sl (.cons (.int .i64) (.cons .str (.cons (.int .i64) (.int .i64)))))], []⟩, [(8, trig_cond_F8)]⟩
def trig_cond_l8 (t33 : (List ByteArray)) (t34 : Int) (t35 : Int) (h0 : TCond) (l1 : (List TToken)) : (Option (((List TToken) × Unit) × Unit)) := trig_cond_D.lab 8 trig_cond_F8 (((), (), t33, t34, t35, ()), (h0, l1, ()))
theorem trig_cond_l8_eq (t33 : (List ByteArray)) (t34 : Int) (t35 : Int) (h0 : TCond) (l1 : (List TToken)) : trig_cond_l8 t33 t34 t35 h0 l1 =
  if (decide (t35 < t34)) = true then
    if 0 ≤ t35 ∧ t35 < (t33.length : Int) then
      (trig_mark (t33.getD t35.toNat (strB []))).bind fun y1 =>
        if (l1.length + 1) * 40 ≤ 140737488355328 ∧ 0 < 40 then
          trig_cond_l8 t33 t34 (IntKind.i64.wrap (t35 + 1)) h0 (l1 ++ [y1.1.1])
        else
          none
    else
      none
  else
    (trig_number h0.2.2.2.2).bind fun y2 =>
      if (l1.length + 1) * 40 ≤ 140737488355328 ∧ 0 < 40 then
        some ((l1 ++ [y2.1.1], ()), ())
      else
        none := (FD.lab_eq _ _ _ _).trans (by kernel_rfl)
def trig_cond (c : TCond) : (Option (((List TToken) × Unit) × Unit)) :=
  (trig_name c.1).bind fun y1 =>
    (trig_mark (strB [46])).bind fun y2 =>
      (trig_kinds).bind fun y3 =>
        if 0 ≤ c.2.1 ∧ c.2.1 < (y3.1.1.length : Int) then
          (trig_name (y3.1.1.getD c.2.1.toNat (strB []))).bind fun y4 =>
            if (c.2.2.2.1 == 0) = true then
              some (([y1.1.1, y2.1.1, y4.1.1], ()), ())
            else
              (trig_fields).bind fun y5 =>
                if 0 ≤ IntKind.i64.wrap (c.2.2.1 - 1) ∧ IntKind.i64.wrap (c.2.2.1 - 1) < (y5.1.1.length : Int) then
                  (trig_name (y5.1.1.getD (IntKind.i64.wrap (c.2.2.1 - 1)).toNat (strB []))).bind fun y6 =>
                    (trig_ops c.2.2.2.1).bind fun y7 =>
                      trig_cond_l8 y7.1.1 (y7.1.1.length : Int) 0 c [y1.1.1, y2.1.1, y4.1.1, y6.1.1]
                else
                  none
        else
          none
def fc18 : FC := ⟨⟨[.row (.cons .str (.cons (.int .i64) (.cons (.int .i64) (.cons (.int .i64) (.int .i64)))))], []⟩, ⟨[.one (.sl (.cons (.int .i64) (.cons .str (.cons (.int .i64) (.int .i64)))))], []⟩, fun x => trig_cond x.1.1⟩
theorem con18 : Contract Tryz.prog 18 fc18 :=
  trig_cond_D.contract tok (cok_of (l := [(16, fc16), (17, fc17), (19, fc19), (37, fc37), (38, fc38), (39, fc39)]) ⟨con16, con17, con19, con37, con38, con39, trivial⟩) mixed (fn' := Tryz.f18) (by kernel_rfl) (by kernel_rfl) rfl (by kernel_rfl) (fun x => (FD.fn_eq _ _).trans (by kernel_rfl))
end
end Go.Proofs.YtgpgpelaabdkhaaGreatDoor
end

section
/-
YtgpgpelaabdkhaaGreatDoor: strings.HasPrefix, as one plain function, its equations, its contract. No condition.
-/
set_option maxRecDepth 100000
set_option linter.unusedVariables false
set_option maxHeartbeats 4000000
open Go Go.AM
namespace Go.Proofs.YtgpgpelaabdkhaaGreatDoor
noncomputable section
def strings_HasPrefix_D : FD := ⟨T, lookC [(109, fc109)], [], (Tryz.f91.body.getD .skip), Tryz.f91.results.toList, ⟨[.one .str, .one .str], []⟩, ⟨[.one .bool], []⟩, []⟩
def strings_HasPrefix (s : ByteArray) (prefix_ : ByteArray) : (Option ((Bool × Unit) × Unit)) :=
  (stringslite_HasPrefix s prefix_).bind fun y1 =>
    some ((y1.1.1, ()), ())
def fc91 : FC := ⟨⟨[.one .str, .one .str], []⟩, ⟨[.one .bool], []⟩, fun x => strings_HasPrefix x.1.1 x.1.2.1⟩
theorem con91 : Contract Tryz.prog 91 fc91 :=
  strings_HasPrefix_D.contract tok (cok_of (l := [(109, fc109)]) ⟨con109, trivial⟩) mixed (fn' := Tryz.f91) (by kernel_rfl) (by kernel_rfl) rfl (by kernel_rfl) (fun x => (FD.fn_eq _ _).trans (by kernel_rfl))
end
end Go.Proofs.YtgpgpelaabdkhaaGreatDoor
end

section
/-
YtgpgpelaabdkhaaGreatDoor: signalbench.lex.Number, as one plain function, its equations, its contract. No condition.
-/
set_option maxRecDepth 100000
set_option linter.unusedVariables false
set_option maxHeartbeats 4000000
open Go Go.AM
namespace Go.Proofs.YtgpgpelaabdkhaaGreatDoor
noncomputable section
def lex_Number_F2 : FSh := ⟨[(0, .one .str), (4, .one .bool)], []⟩
def lex_Number_F5 : FSh := ⟨[(0, .one .str), (4, .one .bool), (5, .one (.int .i64))], []⟩
def lex_Number_F13 : FSh := ⟨[(0, .one .str), (4, .one .bool), (5, .one (.int .i64)), (6, .one (.int .i64)), (34, .one (.int .i64)), (35, .one (.int .i64))], []⟩
def lex_Number_D : FD := ⟨T, lookC [(91, fc91), (92, fc92)], [5, 2], (Tryz.f67.body.getD .skip), Tryz.f67.results.toList, ⟨[.one .str], []⟩, ⟨[.one (.int .i64), .one (.int .i64)], []⟩, [(2, lex_Number_F2), (5, lex_Number_F5), (13, lex_Number_F13)]⟩
def lex_Number_l2 (s : ByteArray) (minus : Bool) : (Option ((Int × Int × Unit) × Unit)) := lex_Number_D.lab 2 lex_Number_F2 ((s, minus, ()), ())
def lex_Number_l5 (s : ByteArray) (minus : Bool) (base : Int) : (Option ((Int × Int × Unit) × Unit)) := lex_Number_D.lab 5 lex_Number_F5 ((s, minus, base, ()), ())
def lex_Number_l13 (s : ByteArray) (minus : Bool) (base : Int) (n : Int) (t34 : Int) (t35 : Int) : (Option ((Int × Int × Unit) × Unit)) := lex_Number_D.lab 13 lex_Number_F13 ((s, minus, base, n, t34, t35, ()), ())
theorem lex_Number_l2_eq (s : ByteArray) (minus : Bool) : lex_Number_l2 s minus =
  (strings_HasPrefix s (strB [48, 120])).bind fun y1 =>
    if y1.1.1 = true then
      if 0 ≤ (2 : Int) ∧ 2 ≤ (s.size : Int) then
        lex_Number_l5 (s.extract 2 s.size) minus 16
      else
        none
    else
      lex_Number_l5 s minus 10 := (FD.lab_eq _ _ _ _).trans (by kernel_rfl)
theorem lex_Number_l5_eq (s : ByteArray) (minus : Bool) (base : Int) : lex_Number_l5 s minus base =
  if (s.toList == (strB []).toList) = true then
    some ((0, 4, ()), ())
  else
    if 0 ≤ (0 : Int) ∧ 0 < (s.size : Int) then
      if ((bt s 0) == 48) = true then
        if minus = true then
          some ((0, 4, ()), ())
        else
          if (decide ((s.size : Int) > 1)) = true then
            some ((0, 4, ()), ())
          else
            lex_Number_l13 s minus base 0 (s.size : Int) 0
      else
        lex_Number_l13 s minus base 0 (s.size : Int) 0
    else
      none := (FD.lab_eq _ _ _ _).trans (by kernel_rfl)
theorem lex_Number_l13_eq (s : ByteArray) (minus : Bool) (base : Int) (n : Int) (t34 : Int) (t35 : Int) : lex_Number_l13 s minus base n t34 t35 =
  if (decide (t35 < t34)) = true then
    if 0 ≤ t35 ∧ t35 < (s.size : Int) then
      (lex_hex (bt s t35)).bind fun y1 =>
        if (decide (y1.1.1 < 0)) = true then
          some ((0, 4, ()), ())
        else
          if (decide (y1.1.1 ≥ base)) = true then
            some ((0, 4, ()), ())
          else
            lex_Number_l13 s minus base (if (9007199254740993 : Int) < IntKind.i64.wrap ((IntKind.i64.wrap (base * n)) + y1.1.1) then 9007199254740993 else IntKind.i64.wrap ((IntKind.i64.wrap (base * n)) + y1.1.1)) t34 (IntKind.i64.wrap (t35 + 1))
    else
      none
  else
    if (decide (n > 9007199254740992)) = true then
      some ((0, 2, ()), ())
    else
      if minus = true then
        some ((IntKind.i64.wrap (0 - n), 0, ()), ())
      else
        some ((n, 0, ()), ()) := (FD.lab_eq _ _ _ _).trans (by kernel_rfl)
def lex_Number (s : ByteArray) : (Option ((Int × Int × Unit) × Unit)) :=
  (strings_HasPrefix s (strB [45])).bind fun y1 =>
    if y1.1.1 = true then
      if 0 ≤ (1 : Int) ∧ 1 ≤ (s.size : Int) then
        lex_Number_l2 (s.extract 1 s.size) y1.1.1
      else
        none
    else
      lex_Number_l2 s y1.1.1
def fc67 : FC := ⟨⟨[.one .str], []⟩, ⟨[.one (.int .i64), .one (.int .i64)], []⟩, fun x => lex_Number x.1.1⟩
theorem con67 : Contract Tryz.prog 67 fc67 :=
  lex_Number_D.contract tok (cok_of (l := [(91, fc91), (92, fc92)]) ⟨con91, con92, trivial⟩) mixed (fn' := Tryz.f67) (by kernel_rfl) (by kernel_rfl) rfl (by kernel_rfl) (fun x => (FD.fn_eq _ _).trans (by kernel_rfl))
end
end Go.Proofs.YtgpgpelaabdkhaaGreatDoor
end

section
/-
YtgpgpelaabdkhaaGreatDoor: strings.Builder's copyCheck and String, by walks; their contracts. No condition.
-/
open Go Go.AM Go.RowKit
set_option maxRecDepth 1000000
namespace Go.Proofs.YtgpgpelaabdkhaaGreatDoor
section
variable [Inhabited ZMem]

theorem cc_used (b : Nat) (w : World) (h0 : w.cell? ⟨b, 0, none⟩ = some (.pointer (some ⟨b, 0, none⟩))) :
    Calls Tryz.prog 70 #[.pointer (some ⟨b, 0, none⟩)] w fun e w' => e = .returned (.tuple #[]) ∧ w' = w := by
  obtain ⟨j, hj, _⟩ := Option.map_eq_some_iff.1 (show (Tryz.prog.info? 82).map (·.size) = some 2 by kernel_rfl)
  go_enter Tryz.func70, Tryz.ntmps70
  go_wp2
  rw [Lib.run_neq_ptr_same w _ Tryz.underlying79 hj]
  go_wp2
  go_end0
  exact ⟨rfl, rfl⟩

theorem cc_fresh (b : Nat) (w : World) (h0 : w.cell? ⟨b, 0, none⟩ = some (.pointer none)) (hsh : w.shape? b = some (82, 2)) (hfz : w.frozen? ⟨b, 0, none⟩ = false) :
    Calls Tryz.prog 70 #[.pointer (some ⟨b, 0, none⟩)] w fun e w' => e = .returned (.tuple #[]) ∧ w' = w.setCell ⟨b, 0, none⟩ (.pointer (some ⟨b, 0, none⟩)) := by
  obtain ⟨j, hj, hjs⟩ := Option.map_eq_some_iff.1 (show (Tryz.prog.info? 82).map (·.size) = some 2 by kernel_rfl)
  go_enter Tryz.func70, Tryz.ntmps70
  go_wp2
  rw [Lib.run_to_unsafe w ⟨b, 0, none⟩ Tryz.underlying79 Tryz.underlying130 hj (by rw [hjs]; decide) hsh (Nat.zero_lt_succ 1)]
  simp only [Result.andThen]
  rw [Oper.upon_value]
  go_wp2
  rw [run_callFunc_extern Tryz.func94 (by kernel_rfl) (by kernel_rfl) (by kernel_rfl) (e := Extern.AbiNoEscape.same) (by kernel_rfl)]
  rw [Lib.run_noEscape]
  simp only [Result.andThen]
  rw [Oper.upon_value]
  go_wp2
  rw [Lib.run_from_unsafe w ⟨b, 0, none⟩ Tryz.underlying130 Tryz.underlying79 hj hsh (show liesAt Tryz.prog Tryz.prog.depth 82 (2 / Tryz.prog.cellsOf 82) 0 82 1 = true by kernel_rfl)]
  simp only [Result.andThen]
  rw [Oper.upon_value]
  go_wp2
  go_end0
  exact ⟨rfl, rfl⟩

theorem st_row (b g p cap : Nat) (w : World) (cs cur : Array Value) (l : List UInt8) (h0 : l ≠ []) (hbk : w.heap[b]? = some (.cells cs 82 (0, 0))) (hc1 : cs[1]? = some (.slice (some ⟨g, p, none⟩) l.length cap))
    (hg : w.heap[g]? = some (.cells cur 5 (0, 0))) (hn : l.length ≤ cap) (hcap : p + cap ≤ cur.size) (hm : cap ≤ maxLen)
    (hcell : ∀ j x, l[j]? = some x → w.cell? ((⟨g, p, none⟩ : Addr).add j) = some (.int .u8 x.toNat)) :
    Calls Tryz.prog 45 #[.pointer (some ⟨b, 0, none⟩)] w fun e w' => e = .returned (.string ⟨l.toArray⟩) ∧ w' = w.drew.freeze ⟨g, p, none⟩ l.length := by
  have hl0 : l.length ≠ 0 := by simpa using h0
  have c1 : w.drew.cell? ⟨b, 1, none⟩ = some (.slice (some ⟨g, p, none⟩) l.length cap) := by
    have : w.drew.heap[b]? = some (.cells cs 82 (0, 0)) := hbk
    rw [Lib.cell_of_heap this]; exact hc1
  have hSD : (Builtin.unsafeSliceData_ #[80] 116 #[.slice (some ⟨g, p, none⟩) l.length cap]).run Tryz.prog w.drew = .ok (.pointer (some ⟨g, p, none⟩)) w.drew :=
    Lib.run_unsafeSliceData_row _ _ _ _ _ _ (by omega)
  have hUS : (Builtin.unsafeString_ #[116, 3] 9 #[.pointer (some ⟨g, p, none⟩), .int .i64 l.length]).run Tryz.prog w.drew = .ok (.string ⟨l.toArray⟩) (w.drew.freeze ⟨g, p, none⟩ l.length) :=
    run_unsafeString_at w.drew 116 3 9 5 Tryz.underlying116 (by kernel_rfl) g p cur.size (by have hg' : w.drew.heap[g]? = some (.cells cur 5 (0, 0)) := hg; simp [World.shape?, hg']) l h0 (by omega) (by unfold maxLen at hm; omega) hcell
  clear hl0 hn hcap hm hcell
  go_enter Tryz.func45, Tryz.ntmps45
  go_wp2
  go_region
  all_goals (go_wp2; go_ret; exact ⟨rfl, rfl⟩)

theorem st_nil (b : Nat) (w : World) (cs : Array Value) (hbk : w.heap[b]? = some (.cells cs 82 (0, 0))) (hc1 : cs[1]? = some (.slice none 0 0)) :
    Calls Tryz.prog 45 #[.pointer (some ⟨b, 0, none⟩)] w fun e w' => e = .returned (.string .empty) ∧ w' = w.drew := by
  have hUS := Lib.run_unsafeString_none (P := Tryz.prog) w.drew 116 3 9 none
  have c1 : w.drew.cell? ⟨b, 1, none⟩ = some (.slice none 0 0) := by
    have : w.drew.heap[b]? = some (.cells cs 82 (0, 0)) := hbk
    rw [Lib.cell_of_heap this]; exact hc1
  have hSD : (Builtin.unsafeSliceData_ #[80] 116 #[.slice none 0 0]).run Tryz.prog w.drew = .ok (.pointer none) w.drew := rfl
  go_enter Tryz.func45, Tryz.ntmps45
  go_wp2
  go_region
  all_goals (go_wp2; go_ret; exact ⟨rfl, rfl⟩)

theorem st_room (b g p cap : Nat) (hcap : cap ≠ 0) (w : World) (cs : Array Value) (hbk : w.heap[b]? = some (.cells cs 82 (0, 0))) (hc1 : cs[1]? = some (.slice (some ⟨g, p, none⟩) 0 cap)) :
    Calls Tryz.prog 45 #[.pointer (some ⟨b, 0, none⟩)] w fun e w' => e = .returned (.string .empty) ∧ w' = w.drew := by
  have hUS := Lib.run_unsafeString_none (P := Tryz.prog) w.drew 116 3 9 (some ⟨g, p, none⟩)
  have c1 : w.drew.cell? ⟨b, 1, none⟩ = some (.slice (some ⟨g, p, none⟩) 0 cap) := by
    have : w.drew.heap[b]? = some (.cells cs 82 (0, 0)) := hbk
    rw [Lib.cell_of_heap this]; exact hc1
  have hSD : (Builtin.unsafeSliceData_ #[80] 116 #[.slice (some ⟨g, p, none⟩) 0 cap]).run Tryz.prog w.drew = .ok (.pointer (some ⟨g, p, none⟩)) w.drew :=
    Lib.run_unsafeSliceData_row _ _ _ _ _ _ hcap
  clear hcap
  go_enter Tryz.func45, Tryz.ntmps45
  go_wp2
  go_region
  all_goals (go_wp2; go_ret; exact ⟨rfl, rfl⟩)

theorem st_noroom (b g p : Nat) (w : World) (cs cur : Array Value) (hbk : w.heap[b]? = some (.cells cs 82 (0, 0))) (hc1 : cs[1]? = some (.slice (some ⟨g, p, none⟩) 0 0))
    (hg : w.heap[g]? = some (.cells cur 5 (0, 0))) :
    Calls Tryz.prog 45 #[.pointer (some ⟨b, 0, none⟩)] w fun e w' => e = .returned (.string .empty) ∧ w' = w.drew.alloc (.view ⟨g, p, none⟩ 5) := by
  have hlt : b < w.heap.size := by
    rcases Nat.lt_or_ge b w.heap.size with h' | h'
    · exact h'
    · simp [Array.getElem?_eq_none h'] at hbk
  have hUS := Lib.run_unsafeString_none (P := Tryz.prog) (w.drew.alloc (.view ⟨g, p, none⟩ 5)) 116 3 9 (some ⟨w.drew.heap.size, 0, none⟩)
  have hUS2 : (Builtin.unsafeString_ #[116, 3] 9 #[.pointer (some ⟨w.heap.size, 0, none⟩), .int .i64 0]).run Tryz.prog (w.alloc (.view ⟨g, p, none⟩ 5)).drew = .ok (.string .empty) (w.alloc (.view ⟨g, p, none⟩ 5)).drew := Lib.run_unsafeString_none _ 116 3 9 _
  have c1 : w.drew.cell? ⟨b, 1, none⟩ = some (.slice (some ⟨g, p, none⟩) 0 0) := by
    have : w.drew.heap[b]? = some (.cells cs 82 (0, 0)) := hbk
    rw [Lib.cell_of_heap this]; exact hc1
  have hSD : (Builtin.unsafeSliceData_ #[80] 116 #[.slice (some ⟨g, p, none⟩) 0 0]).run Tryz.prog w.drew = .ok (.pointer (some ⟨w.drew.heap.size, 0, none⟩)) (w.drew.alloc (.view ⟨g, p, none⟩ 5)) :=
    Lib.run_unsafeSliceData_zero w.drew _ _ 5 Tryz.underlying116 ⟨g, p, none⟩ 0 (5, cur.size) (by have hg' : w.drew.heap[g]? = some (.cells cur 5 (0, 0)) := hg; simp [World.shape?, hg'])
  have c2 : (w.drew.alloc (.view ⟨g, p, none⟩ 5)).cell? ⟨b, 1, none⟩ = some (.slice (some ⟨g, p, none⟩) 0 0) := by
    have : (w.drew.alloc (.view ⟨g, p, none⟩ 5)).heap[b]? = _ := (Lib.alloc_old w.drew _ b hlt).trans hbk
    rw [Lib.cell_of_heap this]; exact hc1
  have c3 : (w.alloc (.view ⟨g, p, none⟩ 5)).drew.cell? ⟨b, 1, none⟩ = some (.slice (some ⟨g, p, none⟩) 0 0) := c2
  have c0 : w.cell? ⟨b, 1, none⟩ = some (.slice (some ⟨g, p, none⟩) 0 0) := c1
  go_enter Tryz.func45, Tryz.ntmps45
  go_wp2
  go_region
  all_goals (go_wp2; go_ret; exact ⟨rfl, rfl⟩)

def strings_Builder_copyCheck (l : List Int) : Option (Unit × ((Unit × Unit × Unit) × List Int × Unit)) := some ((), (((), (), ()), l, ()))
def fc70 : FC := ⟨⟨[.one (.ptr 0 0)], bShape 82 5⟩, ⟨[], bShape 82 5⟩, fun x => strings_Builder_copyCheck x.2.2.1⟩
theorem con70 : Contract Tryz.prog 70 fc70 :=
  Contract.copyCheck (fn := Tryz.f70) (c := Tryz.f70.body.getD .skip) Tryz.func70 (by kernel_rfl) (by kernel_rfl) (fun b w h => cc_used b w h) (fun b w h h' h'' => cc_fresh b w h h' h'')

def strings_Builder_String (l : List Int) : Option ((ByteArray × Unit) × (Unit × Unit × Unit)) := if byteL l = true then some ((strOfBytes l, ()), ((), (), ())) else none
def fc45 : FC := ⟨⟨[.one (.ptr 0 0)], bShape 82 5⟩, ⟨[.one .str], [.dead, .dead]⟩, fun x => strings_Builder_String x.2.2.1⟩
theorem con45 : Contract Tryz.prog 45 fc45 :=
  Contract.bString (fn := Tryz.f45) (c := Tryz.f45.body.getD .skip) Tryz.func45 (by kernel_rfl) (by kernel_rfl) (fun b w cs h h' => st_nil b w cs h h') (fun b g p cap hc w cs h h' => st_room b g p cap hc w cs h h')
    (fun b g p w cs cur h h' h'' => st_noroom b g p w cs cur h h' h'') (fun b g p cap w cs cur l h1 h2 h3 h4 h5 h6 h7 h8 => st_row b g p cap w cs cur l h1 h2 h3 h4 h5 h6 h7 h8)

end
end Go.Proofs.YtgpgpelaabdkhaaGreatDoor
end

section
/-
YtgpgpelaabdkhaaGreatDoor: (*strings.Builder).WriteByte, as one plain function, its equations, its contract. No condition.
-/
set_option maxRecDepth 100000
set_option linter.unusedVariables false
set_option maxHeartbeats 4000000
open Go Go.AM
namespace Go.Proofs.YtgpgpelaabdkhaaGreatDoor
noncomputable section
def strings_Builder_WriteByte_D : FD := ⟨T, lookC [(70, fc70)], [], (Tryz.f42.body.getD .skip), Tryz.f42.results.toList, ⟨[.one (.ptr 0 0), .one (.int .u8)], [.box 82 [(.oself 0), (.own 1)], .arr 5 (.int .u8) true]⟩, ⟨[.one .junk], [.box 82 [(.oself 0), (.own 2)], .dead, .arr 5 (.int .u8) true]⟩, []⟩
def strings_Builder_WriteByte (c : Int) (l1 : (List Int)) : (Option ((Unit × Unit) × ((Unit × Unit × Unit) × Unit × (List Int) × Unit))) :=
  (strings_Builder_copyCheck l1).bind fun y1 =>
    if (y1.2.2.1.length + 1) * 1 ≤ 140737488355328 ∧ 0 < 1 then
      some (((), ()), (((), (), ()), (), y1.2.2.1 ++ [c], ()))
    else
      none
def fc42 : FC := ⟨⟨[.one (.ptr 0 0), .one (.int .u8)], [.box 82 [(.oself 0), (.own 1)], .arr 5 (.int .u8) true]⟩, ⟨[.one .junk], [.box 82 [(.oself 0), (.own 2)], .dead, .arr 5 (.int .u8) true]⟩, fun x => strings_Builder_WriteByte x.1.2.1 x.2.2.1⟩
theorem con42 : Contract Tryz.prog 42 fc42 :=
  strings_Builder_WriteByte_D.contract tok (cok_of (l := [(70, fc70)]) ⟨con70, trivial⟩) mixed (fn' := Tryz.f42) (by kernel_rfl) (by kernel_rfl) rfl (by kernel_rfl) (fun x => (FD.fn_eq _ _).trans (by kernel_rfl))
end
end Go.Proofs.YtgpgpelaabdkhaaGreatDoor
end

section
/-
YtgpgpelaabdkhaaGreatDoor: (*strings.Builder).WriteString, as one plain function, its equations, its contract. No condition.
-/
set_option maxRecDepth 100000
set_option linter.unusedVariables false
set_option maxHeartbeats 4000000
open Go Go.AM
namespace Go.Proofs.YtgpgpelaabdkhaaGreatDoor
noncomputable section
def strings_Builder_WriteString_D : FD := ⟨T, lookC [(70, fc70)], [], (Tryz.f43.body.getD .skip), Tryz.f43.results.toList, ⟨[.one (.ptr 0 0), .one .str], [.box 82 [(.oself 0), (.own 1)], .arr 5 (.int .u8) true]⟩, ⟨[.one (.int .i64), .one .junk], [.box 82 [(.oself 0), (.own 2)], .dead, .arr 5 (.int .u8) true]⟩, []⟩
def strings_Builder_WriteString (s : ByteArray) (l1 : (List Int)) : (Option ((Int × Unit × Unit) × ((Unit × Unit × Unit) × Unit × (List Int) × Unit))) :=
  (strings_Builder_copyCheck l1).bind fun y1 =>
    if (y1.2.2.1.length + (bytesOfStr s).length) * 1 ≤ 140737488355328 ∧ 0 < 1 then
      some (((s.size : Int), (), ()), (((), (), ()), (), y1.2.2.1 ++ (bytesOfStr s), ()))
    else
      none
def fc43 : FC := ⟨⟨[.one (.ptr 0 0), .one .str], [.box 82 [(.oself 0), (.own 1)], .arr 5 (.int .u8) true]⟩, ⟨[.one (.int .i64), .one .junk], [.box 82 [(.oself 0), (.own 2)], .dead, .arr 5 (.int .u8) true]⟩, fun x => strings_Builder_WriteString x.1.2.1 x.2.2.1⟩
theorem con43 : Contract Tryz.prog 43 fc43 :=
  strings_Builder_WriteString_D.contract tok (cok_of (l := [(70, fc70)]) ⟨con70, trivial⟩) mixed (fn' := Tryz.f43) (by kernel_rfl) (by kernel_rfl) rfl (by kernel_rfl) (fun x => (FD.fn_eq _ _).trans (by kernel_rfl))
end
end Go.Proofs.YtgpgpelaabdkhaaGreatDoor
end

section
/-
YtgpgpelaabdkhaaGreatDoor: signalbench.lex.plain, as one plain function, its equations, its contract. No condition.
-/
set_option maxRecDepth 100000
set_option linter.unusedVariables false
set_option maxHeartbeats 4000000
open Go Go.AM
namespace Go.Proofs.YtgpgpelaabdkhaaGreatDoor
noncomputable section
def lex_plain_D : FD := ⟨T, lookC [], [], (Tryz.f93.body.getD .skip), Tryz.f93.results.toList, ⟨[.one (.int .i32)], []⟩, ⟨[.one .bool], []⟩, []⟩
def lex_plain (c : Int) : (Option ((Bool × Unit) × Unit)) :=
  if (decide ((32 : Int) ≤ c)) = true then
    if (decide (c ≤ 126)) = true then
      if (c != 34) = true then
        some ((c != 92, ()), ())
      else
        some ((false, ()), ())
    else
      some ((false, ()), ())
  else
    some ((false, ()), ())
def fc93 : FC := ⟨⟨[.one (.int .i32)], []⟩, ⟨[.one .bool], []⟩, fun x => lex_plain x.1.1⟩
theorem con93 : Contract Tryz.prog 93 fc93 :=
  lex_plain_D.contract tok (cok_of (l := []) trivial) mixed (fn' := Tryz.f93) (by kernel_rfl) (by kernel_rfl) rfl (by kernel_rfl) (fun x => (FD.fn_eq _ _).trans (by kernel_rfl))
end
end Go.Proofs.YtgpgpelaabdkhaaGreatDoor
end

section
/-
YtgpgpelaabdkhaaGreatDoor: signalbench.lex.Quote, as one plain function, its equations, its contract. No condition.
-/
set_option maxRecDepth 100000
set_option linter.unusedVariables false
set_option maxHeartbeats 4000000
open Go Go.AM
namespace Go.Proofs.YtgpgpelaabdkhaaGreatDoor
noncomputable section
def lex_Quote_F5 : FSh := ⟨[(0, .one .str), (3, .one (.ptr 0 0)), (8, .one (.int .i64)), (9, .one (.int .i64))], [.box 82 [(.oself 0), (.own 1)], .arr 5 (.int .u8) true]⟩
def lex_Quote_D : FD := ⟨T, lookC [(42, fc42), (43, fc43), (45, fc45), (93, fc93)], [], (Tryz.f68.body.getD .skip), Tryz.f68.results.toList, ⟨[.one .str], []⟩, ⟨[.one .str], []⟩, [(5, lex_Quote_F5)]⟩
def lex_Quote_l5 (s : ByteArray) (t8 : Int) (t9 : Int) (l1 : (List Int)) : (Option ((ByteArray × Unit) × Unit)) := lex_Quote_D.lab 5 lex_Quote_F5 ((s, (), t8, t9, ()), (((), (), ()), l1, ()))
theorem lex_Quote_l5_eq (s : ByteArray) (t8 : Int) (t9 : Int) (l1 : (List Int)) : lex_Quote_l5 s t8 t9 l1 =
  if (decide (t9 < t8)) = true then
    if 0 ≤ t9 ∧ t9 < (s.size : Int) then
      (lex_plain (IntKind.i32.wrap (bt s t9))).bind fun y1 =>
        if y1.1.1 = true then
          (strings_Builder_WriteByte (bt s t9) l1).bind fun y2 =>
            lex_Quote_l5 s t8 (IntKind.i64.wrap (t9 + 1)) y2.2.2.2.1
        else
          if ((bt s t9) == 34) = true then
            (strings_Builder_WriteByte 92 l1).bind fun y3 =>
              (strings_Builder_WriteByte (bt s t9) y3.2.2.2.1).bind fun y4 =>
                lex_Quote_l5 s t8 (IntKind.i64.wrap (t9 + 1)) y4.2.2.2.1
          else
            if ((bt s t9) == 92) = true then
              (strings_Builder_WriteByte 92 l1).bind fun y5 =>
                (strings_Builder_WriteByte (bt s t9) y5.2.2.2.1).bind fun y6 =>
                  lex_Quote_l5 s t8 (IntKind.i64.wrap (t9 + 1)) y6.2.2.2.1
            else
              if ((bt s t9) == 10) = true then
                (strings_Builder_WriteString (strB [92, 110]) l1).bind fun y7 =>
                  lex_Quote_l5 s t8 (IntKind.i64.wrap (t9 + 1)) y7.2.2.2.1
              else
                (strings_Builder_WriteString (strB [92, 120]) l1).bind fun y8 =>
                  if 0 ≤ (bt s t9).fdiv 16 ∧ (bt s t9).fdiv 16 < ((strB [48, 49, 50, 51, 52, 53, 54, 55, 56, 57, 97, 98, 99, 100, 101, 102]).size : Int) then
                    (strings_Builder_WriteByte (bt (strB [48, 49, 50, 51, 52, 53, 54, 55, 56, 57, 97, 98, 99, 100, 101, 102]) ((bt s t9).fdiv 16)) y8.2.2.2.1).bind fun y9 =>
                      if 0 ≤ IntKind.u8.wrap (BitVec.ofInt 8 (bt s t9) &&& BitVec.ofInt 8 15).toNat ∧ IntKind.u8.wrap (BitVec.ofInt 8 (bt s t9) &&& BitVec.ofInt 8 15).toNat < ((strB [48, 49, 50, 51, 52, 53, 54, 55, 56, 57, 97, 98, 99, 100, 101, 102]).size : Int) then
                        (strings_Builder_WriteByte (bt (strB [48, 49, 50, 51, 52, 53, 54, 55, 56, 57, 97, 98, 99, 100, 101, 102]) (IntKind.u8.wrap (BitVec.ofInt 8 (bt s t9) &&& BitVec.ofInt 8 15).toNat)) y9.2.2.2.1).bind fun y10 =>
                          lex_Quote_l5 s t8 (IntKind.i64.wrap (t9 + 1)) y10.2.2.2.1
                      else
                        none
                  else
                    none
    else
      none
  else
    (strings_Builder_WriteByte 34 l1).bind fun y11 =>
      (strings_Builder_String y11.2.2.2.1).bind fun y12 =>
        some ((y12.1.1, ()), ()) := (FD.lab_eq _ _ _ _).trans (by kernel_rfl)
def lex_Quote (s : ByteArray) : (Option ((ByteArray × Unit) × Unit)) :=
  (strings_Builder_WriteByte 34 []).bind fun y1 =>
    lex_Quote_l5 s (s.size : Int) 0 y1.2.2.2.1
def fc68 : FC := ⟨⟨[.one .str], []⟩, ⟨[.one .str], []⟩, fun x => lex_Quote x.1.1⟩
theorem con68 : Contract Tryz.prog 68 fc68 :=
  lex_Quote_D.contract tok (cok_of (l := [(42, fc42), (43, fc43), (45, fc45), (93, fc93)]) ⟨con42, con43, con45, con93, trivial⟩) mixed (fn' := Tryz.f68) (by kernel_rfl) (by kernel_rfl) rfl (by kernel_rfl) (fun x => (FD.fn_eq _ _).trans (by kernel_rfl))
end
end Go.Proofs.YtgpgpelaabdkhaaGreatDoor
end

section
/-
YtgpgpelaabdkhaaGreatDoor: signalbench.lex.mark, as one plain function, its equations, its contract. No condition.
-/
set_option maxRecDepth 100000
set_option linter.unusedVariables false
set_option maxHeartbeats 4000000
open Go Go.AM
namespace Go.Proofs.YtgpgpelaabdkhaaGreatDoor
noncomputable section
def lex_mark_D : FD := ⟨T, lookC [], [], (Tryz.f69.body.getD .skip), Tryz.f69.results.toList, ⟨[.one (.int .i32)], []⟩, ⟨[.one .bool], []⟩, []⟩
def lex_mark (c : Int) : (Option ((Bool × Unit) × Unit)) :=
  if (c == 40) = true then
    some ((true, ()), ())
  else
    if (c == 41) = true then
      some ((true, ()), ())
    else
      if (c == 91) = true then
        some ((true, ()), ())
      else
        if (c == 93) = true then
          some ((true, ()), ())
        else
          if (c == 123) = true then
            some ((true, ()), ())
          else
            if (c == 125) = true then
              some ((true, ()), ())
            else
              if (c == 60) = true then
                some ((true, ()), ())
              else
                if (c == 62) = true then
                  some ((true, ()), ())
                else
                  if (c == 61) = true then
                    some ((true, ()), ())
                  else
                    if (c == 44) = true then
                      some ((true, ()), ())
                    else
                      if (c == 59) = true then
                        some ((true, ()), ())
                      else
                        if (c == 58) = true then
                          some ((true, ()), ())
                        else
                          if (c == 46) = true then
                            some ((true, ()), ())
                          else
                            if (c == 47) = true then
                              some ((true, ()), ())
                            else
                              if (c == 42) = true then
                                some ((true, ()), ())
                              else
                                if (c == 43) = true then
                                  some ((true, ()), ())
                                else
                                  if (c == 33) = true then
                                    some ((true, ()), ())
                                  else
                                    if (c == 38) = true then
                                      some ((true, ()), ())
                                    else
                                      if (c == 124) = true then
                                        some ((true, ()), ())
                                      else
                                        some ((false, ()), ())
def fc69 : FC := ⟨⟨[.one (.int .i32)], []⟩, ⟨[.one .bool], []⟩, fun x => lex_mark x.1.1⟩
theorem con69 : Contract Tryz.prog 69 fc69 :=
  lex_mark_D.contract tok (cok_of (l := []) trivial) mixed (fn' := Tryz.f69) (by kernel_rfl) (by kernel_rfl) rfl (by kernel_rfl) (fun x => (FD.fn_eq _ _).trans (by kernel_rfl))
end
end Go.Proofs.YtgpgpelaabdkhaaGreatDoor
end

section
/-
YtgpgpelaabdkhaaGreatDoor: signalbench.lex.form, as one plain function, its equations, its contract. No condition.
-/
set_option maxRecDepth 100000
set_option linter.unusedVariables false
set_option maxHeartbeats 4000000
open Go Go.AM
namespace Go.Proofs.YtgpgpelaabdkhaaGreatDoor
noncomputable section
def lex_form_D : FD := ⟨T, lookC [(35, fc35), (40, fc40), (67, fc67), (68, fc68), (69, fc69)], [], (Tryz.f41.body.getD .skip), Tryz.f41.results.toList, ⟨[.row (.cons (.int .i64) (.cons .str (.cons (.int .i64) (.int .i64))))], []⟩, ⟨[.one .str, .one .bool], []⟩, []⟩
def lex_form (t : TToken) : (Option ((ByteArray × Bool × Unit) × Unit)) :=
  if (t.1 == 1) = true then
    (lex_Name t.2.1).bind fun y1 =>
      if y1.1.1 = true then
        some ((t.2.1, t.2.2.1 == 0, ()), ())
      else
        some ((t.2.1, false, ()), ())
  else
    if (t.1 == 2) = true then
      (lex_Number t.2.1).bind fun y2 =>
        (strconv_Itoa t.2.2.1).bind fun y3 =>
          if (y2.1.2.1 == 0) = true then
            some ((y3.1.1, y2.1.1 == t.2.2.1, ()), ())
          else
            some ((y3.1.1, false, ()), ())
    else
      if (t.1 == 3) = true then
        (lex_Quote t.2.1).bind fun y4 =>
          some ((y4.1.1, t.2.2.1 == 0, ()), ())
      else
        if (t.1 == 4) = true then
          if ((t.2.1.size : Int) == 1) = true then
            if 0 ≤ (0 : Int) ∧ 0 < (t.2.1.size : Int) then
              (lex_mark (IntKind.i32.wrap (bt t.2.1 0))).bind fun y5 =>
                if y5.1.1 = true then
                  some ((t.2.1, t.2.2.1 == 0, ()), ())
                else
                  some ((t.2.1, false, ()), ())
            else
              none
          else
            some ((t.2.1, false, ()), ())
        else
          some (((strB []), false, ()), ())
def fc41 : FC := ⟨⟨[.row (.cons (.int .i64) (.cons .str (.cons (.int .i64) (.int .i64))))], []⟩, ⟨[.one .str, .one .bool], []⟩, fun x => lex_form x.1.1⟩
theorem con41 : Contract Tryz.prog 41 fc41 :=
  lex_form_D.contract tok (cok_of (l := [(35, fc35), (40, fc40), (67, fc67), (68, fc68), (69, fc69)]) ⟨con35, con40, con67, con68, con69, trivial⟩) mixed (fn' := Tryz.f41) (by kernel_rfl) (by kernel_rfl) rfl (by kernel_rfl) (fun x => (FD.fn_eq _ _).trans (by kernel_rfl))
end
end Go.Proofs.YtgpgpelaabdkhaaGreatDoor
end

section
/-
YtgpgpelaabdkhaaGreatDoor: (*strings.Builder).Len, as one plain function, its equations, its contract. No condition.
-/
set_option maxRecDepth 100000
set_option linter.unusedVariables false
set_option maxHeartbeats 4000000
open Go Go.AM
namespace Go.Proofs.YtgpgpelaabdkhaaGreatDoor
noncomputable section
def strings_Builder_Len_D : FD := ⟨T, lookC [], [], (Tryz.f44.body.getD .skip), Tryz.f44.results.toList, ⟨[.one (.ptr 0 0)], [.box 82 [(.oself 0), (.own 1)], .arr 5 (.int .u8) true]⟩, ⟨[.one (.int .i64)], [.box 82 [(.oself 0), (.own 2)], .dead, .arr 5 (.int .u8) true]⟩, []⟩
def strings_Builder_Len (l1 : (List Int)) : (Option ((Int × Unit) × ((Unit × Unit × Unit) × Unit × (List Int) × Unit))) :=
  some (((l1.length : Int), ()), (((), (), ()), (), l1, ()))
def fc44 : FC := ⟨⟨[.one (.ptr 0 0)], [.box 82 [(.oself 0), (.own 1)], .arr 5 (.int .u8) true]⟩, ⟨[.one (.int .i64)], [.box 82 [(.oself 0), (.own 2)], .dead, .arr 5 (.int .u8) true]⟩, fun x => strings_Builder_Len x.2.2.1⟩
theorem con44 : Contract Tryz.prog 44 fc44 :=
  strings_Builder_Len_D.contract tok (cok_of (l := []) trivial) mixed (fn' := Tryz.f44) (by kernel_rfl) (by kernel_rfl) rfl (by kernel_rfl) (fun x => (FD.fn_eq _ _).trans (by kernel_rfl))
end
end Go.Proofs.YtgpgpelaabdkhaaGreatDoor
end

section
/-
YtgpgpelaabdkhaaGreatDoor: signalbench.lex.Text, as one plain function, its equations, its contract. No condition.
-/
set_option maxRecDepth 100000
set_option linter.unusedVariables false
set_option maxHeartbeats 4000000
open Go Go.AM
namespace Go.Proofs.YtgpgpelaabdkhaaGreatDoor
noncomputable section
def lex_Text_F4 : FSh := ⟨[(0, .one (.sl (.cons (.int .i64) (.cons .str (.cons (.int .i64) (.int .i64)))))), (4, .one (.ptr 0 0)), (9, .one (.int .i64)), (10, .one (.int .i64))], [.box 82 [(.oself 0), (.own 1)], .arr 5 (.int .u8) true]⟩
def lex_Text_D : FD := ⟨T, lookC [(41, fc41), (42, fc42), (43, fc43), (44, fc44), (45, fc45)], [], (Tryz.f20.body.getD .skip), Tryz.f20.results.toList, ⟨[.one (.sl (.cons (.int .i64) (.cons .str (.cons (.int .i64) (.int .i64)))))], []⟩, ⟨[.one .str, .one (.int .i64)], []⟩, [(4, lex_Text_F4)]⟩
def lex_Text_l4 (l : (List TToken)) (t9 : Int) (t10 : Int) (l1 : (List Int)) : (Option ((ByteArray × Int × Unit) × Unit)) := lex_Text_D.lab 4 lex_Text_F4 ((l, (), t9, t10, ()), (((), (), ()), l1, ()))
theorem lex_Text_l4_eq (l : (List TToken)) (t9 : Int) (t10 : Int) (l1 : (List Int)) : lex_Text_l4 l t9 t10 l1 =
  if (decide (t10 < t9)) = true then
    if 0 ≤ t10 ∧ t10 < (l.length : Int) then
      (lex_form (l.getD t10.toNat dToken)).bind fun y1 =>
        if (!y1.1.2.1) = true then
          some (((strB []), 1, ()), ())
        else
          if (decide (t10 > 0)) = true then
            (strings_Builder_WriteByte 32 l1).bind fun y2 =>
              (strings_Builder_WriteString y1.1.1 y2.2.2.2.1).bind fun y3 =>
                lex_Text_l4 l t9 (IntKind.i64.wrap (t10 + 1)) y3.2.2.2.1
          else
            (strings_Builder_WriteString y1.1.1 l1).bind fun y4 =>
              lex_Text_l4 l t9 (IntKind.i64.wrap (t10 + 1)) y4.2.2.2.1
    else
      none
  else
    (strings_Builder_Len l1).bind fun y5 =>
      if (decide (y5.1.1 > 1048576)) = true then
        some (((strB []), 6, ()), ())
      else
        (strings_Builder_String y5.2.2.2.1).bind fun y6 =>
          some ((y6.1.1, 0, ()), ()) := (FD.lab_eq _ _ _ _).trans (by kernel_rfl)
def lex_Text (l : (List TToken)) : (Option ((ByteArray × Int × Unit) × Unit)) :=
  lex_Text_l4 l (l.length : Int) 0 []
def fc20 : FC := ⟨⟨[.one (.sl (.cons (.int .i64) (.cons .str (.cons (.int .i64) (.int .i64)))))], []⟩, ⟨[.one .str, .one (.int .i64)], []⟩, fun x => lex_Text x.1.1⟩
theorem con20 : Contract Tryz.prog 20 fc20 :=
  lex_Text_D.contract tok (cok_of (l := [(41, fc41), (42, fc42), (43, fc43), (44, fc44), (45, fc45)]) ⟨con41, con42, con43, con44, con45, trivial⟩) mixed (fn' := Tryz.f20) (by kernel_rfl) (by kernel_rfl) rfl (by kernel_rfl) (fun x => (FD.fn_eq _ _).trans (by kernel_rfl))
end
end Go.Proofs.YtgpgpelaabdkhaaGreatDoor
end

section
/-
YtgpgpelaabdkhaaGreatDoor: signalbench.signalbenchref05.Right, as one plain function, its equations, its contract. No condition.
-/
set_option maxRecDepth 100000
set_option linter.unusedVariables false
set_option maxHeartbeats 4000000
open Go Go.AM
namespace Go.Proofs.YtgpgpelaabdkhaaGreatDoor
noncomputable section
def ref05_Right_D : FD := ⟨T, lookC [(46, fc46), (74, fc74), (75, fc75)], [], (Tryz.f48.body.getD .skip), Tryz.f48.results.toList, ⟨[.row (.cons (.int .i64) (.cons .str (.cons (.int .i64) (.int .i64))))], []⟩, ⟨[.one .bool], []⟩, []⟩
def ref05_Right (t : TToken) : (Option ((Bool × Unit) × Unit)) :=
  if (t.1 == 2) = true then
    (ref05_Number t.2.1).bind fun y1 =>
      if (y1.1.2.1 == 0) = true then
        some ((y1.1.1 == t.2.2.1, ()), ())
      else
        some ((false, ()), ())
  else
    if (t.2.2.1 != 0) = true then
      some ((false, ()), ())
    else
      if (t.1 == 1) = true then
        (ref05_Name t.2.1).bind fun y2 =>
          some ((y2.1.1, ()), ())
      else
        if (t.1 == 4) = true then
          if ((t.2.1.size : Int) == 1) = true then
            if 0 ≤ (0 : Int) ∧ 0 < (t.2.1.size : Int) then
              (ref05_Mark (bt t.2.1 0)).bind fun y3 =>
                some ((y3.1.1, ()), ())
            else
              none
          else
            some ((false, ()), ())
        else
          some ((t.1 == 3, ()), ())
def fc48 : FC := ⟨⟨[.row (.cons (.int .i64) (.cons .str (.cons (.int .i64) (.int .i64))))], []⟩, ⟨[.one .bool], []⟩, fun x => ref05_Right x.1.1⟩
theorem con48 : Contract Tryz.prog 48 fc48 :=
  ref05_Right_D.contract tok (cok_of (l := [(46, fc46), (74, fc74), (75, fc75)]) ⟨con46, con74, con75, trivial⟩) mixed (fn' := Tryz.f48) (by kernel_rfl) (by kernel_rfl) rfl (by kernel_rfl) (fun x => (FD.fn_eq _ _).trans (by kernel_rfl))
end
end Go.Proofs.YtgpgpelaabdkhaaGreatDoor
end

section
/-
YtgpgpelaabdkhaaGreatDoor: signalbench.signalbenchref05.Decimal, as one plain function, its equations, its contract. No condition.
-/
set_option maxRecDepth 100000
set_option linter.unusedVariables false
set_option maxHeartbeats 4000000
open Go Go.AM
namespace Go.Proofs.YtgpgpelaabdkhaaGreatDoor
noncomputable section
def ref05_Decimal_F8 : FSh := ⟨[(0, .one (.int .i64)), (3, .one .str), (4, .one (.int .i64)), (5, .one .str)], []⟩
def ref05_Decimal_F12 : FSh := ⟨[(0, .one (.int .i64)), (3, .one .str), (4, .one (.int .i64)), (5, .one .str), (6, .one (.int .i64))], []⟩
def ref05_Decimal_D : FD := ⟨T, lookC [], [12], (Tryz.f76.body.getD .skip), Tryz.f76.results.toList, ⟨[.one (.int .i64)], []⟩, ⟨[.one .str], []⟩, [(8, ref05_Decimal_F8), (12, ref05_Decimal_F12)]⟩
def ref05_Decimal_l8 (n : Int) (digits : ByteArray) (rest : Int) (out : ByteArray) : (Option ((ByteArray × Unit) × Unit)) := ref05_Decimal_D.lab 8 ref05_Decimal_F8 ((n, digits, rest, out, ()), ())
def ref05_Decimal_l12 (n : Int) (digits : ByteArray) (rest : Int) (out : ByteArray) (d : Int) : (Option ((ByteArray × Unit) × Unit)) := ref05_Decimal_D.lab 12 ref05_Decimal_F12 ((n, digits, rest, out, d, ()), ())
theorem ref05_Decimal_l8_eq (n : Int) (digits : ByteArray) (rest : Int) (out : ByteArray) : ref05_Decimal_l8 n digits rest out =
  if (rest != 0) = true then
    if (decide ((rest.tmod 10) < 0)) = true then
      ref05_Decimal_l12 n digits rest out (IntKind.i64.wrap (0 - (rest.tmod 10)))
    else
      ref05_Decimal_l12 n digits rest out (rest.tmod 10)
  else
    if (decide (n < 0)) = true then
      if (strB [45]).size + out.size ≤ 9223372036854775807 then
        some (((strB [45]) ++ out, ()), ())
      else
        none
    else
      some ((out, ()), ()) := (FD.lab_eq _ _ _ _).trans (by kernel_rfl)
theorem ref05_Decimal_l12_eq (n : Int) (digits : ByteArray) (rest : Int) (out : ByteArray) (d : Int) : ref05_Decimal_l12 n digits rest out d =
  if 0 ≤ d ∧ d ≤ IntKind.i64.wrap (d + 1) ∧ IntKind.i64.wrap (d + 1) ≤ (digits.size : Int) then
    if (digits.extract d.toNat (IntKind.i64.wrap (d + 1)).toNat).size + out.size ≤ 9223372036854775807 then
      ref05_Decimal_l8 n digits (IntKind.i64.wrap (rest.tdiv 10)) ((digits.extract d.toNat (IntKind.i64.wrap (d + 1)).toNat) ++ out)
    else
      none
  else
    none := (FD.lab_eq _ _ _ _).trans (by kernel_rfl)
def ref05_Decimal (n : Int) : (Option ((ByteArray × Unit) × Unit)) :=
  if (n == 0) = true then
    some (((strB [48]), ()), ())
  else
    ref05_Decimal_l8 n (strB [48, 49, 50, 51, 52, 53, 54, 55, 56, 57]) n (strB [])
def fc76 : FC := ⟨⟨[.one (.int .i64)], []⟩, ⟨[.one .str], []⟩, fun x => ref05_Decimal x.1.1⟩
theorem con76 : Contract Tryz.prog 76 fc76 :=
  ref05_Decimal_D.contract tok (cok_of (l := []) trivial) mixed (fn' := Tryz.f76) (by kernel_rfl) (by kernel_rfl) rfl (by kernel_rfl) (fun x => (FD.fn_eq _ _).trans (by kernel_rfl))
end
end Go.Proofs.YtgpgpelaabdkhaaGreatDoor
end

section
/-
YtgpgpelaabdkhaaGreatDoor: signalbench.signalbenchref05.Quote, as one plain function, its equations, its contract. No condition.
-/
set_option maxRecDepth 100000
set_option linter.unusedVariables false
set_option maxHeartbeats 4000000
open Go Go.AM
namespace Go.Proofs.YtgpgpelaabdkhaaGreatDoor
noncomputable section
def ref05_Quote_F5 : FSh := ⟨[(0, .one .str), (3, .one .str), (4, .one (.own 0)), (5, .one (.int .i64))], [.arr 5 (.int .u8) true]⟩
def ref05_Quote_D : FD := ⟨T, lookC [], [], (Tryz.f77.body.getD .skip), Tryz.f77.results.toList, ⟨[.one .str], []⟩, ⟨[.one .str], []⟩, [(5, ref05_Quote_F5)]⟩
def ref05_Quote_l5 (s : ByteArray) (digits : ByteArray) (i : Int) (l0 : (List Int)) : (Option ((ByteArray × Unit) × Unit)) := ref05_Quote_D.lab 5 ref05_Quote_F5 ((s, digits, (), i, ()), (l0, ()))
theorem ref05_Quote_l5_eq (s : ByteArray) (digits : ByteArray) (i : Int) (l0 : (List Int)) : ref05_Quote_l5 s digits i l0 =
  if (decide (i < (s.size : Int))) = true then
    if 0 ≤ i ∧ i < (s.size : Int) then
      if ((bt s i) == 34) = true then
        if (l0.length + 2) * 1 ≤ 140737488355328 ∧ 0 < 1 then
          ref05_Quote_l5 s digits (IntKind.i64.wrap (i + 1)) (l0 ++ [92, bt s i])
        else
          none
      else
        if ((bt s i) == 92) = true then
          if (l0.length + 2) * 1 ≤ 140737488355328 ∧ 0 < 1 then
            ref05_Quote_l5 s digits (IntKind.i64.wrap (i + 1)) (l0 ++ [92, bt s i])
          else
            none
        else
          if ((bt s i) == 10) = true then
            if (l0.length + 2) * 1 ≤ 140737488355328 ∧ 0 < 1 then
              ref05_Quote_l5 s digits (IntKind.i64.wrap (i + 1)) (l0 ++ [92, 110])
            else
              none
          else
            if (decide ((bt s i) < 32)) = true then
              if 0 ≤ IntKind.u8.wrap ((bt s i).tdiv 16) ∧ IntKind.u8.wrap ((bt s i).tdiv 16) < (digits.size : Int) then
                if 0 ≤ (bt s i).tmod 16 ∧ (bt s i).tmod 16 < (digits.size : Int) then
                  if (l0.length + 4) * 1 ≤ 140737488355328 ∧ 0 < 1 then
                    ref05_Quote_l5 s digits (IntKind.i64.wrap (i + 1)) (l0 ++ [92, 120, bt digits (IntKind.u8.wrap ((bt s i).tdiv 16)), bt digits ((bt s i).tmod 16)])
                  else
                    none
                else
                  none
              else
                none
            else
              if (decide ((bt s i) > 126)) = true then
                if 0 ≤ IntKind.u8.wrap ((bt s i).tdiv 16) ∧ IntKind.u8.wrap ((bt s i).tdiv 16) < (digits.size : Int) then
                  if 0 ≤ (bt s i).tmod 16 ∧ (bt s i).tmod 16 < (digits.size : Int) then
                    if (l0.length + 4) * 1 ≤ 140737488355328 ∧ 0 < 1 then
                      ref05_Quote_l5 s digits (IntKind.i64.wrap (i + 1)) (l0 ++ [92, 120, bt digits (IntKind.u8.wrap ((bt s i).tdiv 16)), bt digits ((bt s i).tmod 16)])
                    else
                      none
                  else
                    none
                else
                  none
              else
                if (l0.length + 1) * 1 ≤ 140737488355328 ∧ 0 < 1 then
                  ref05_Quote_l5 s digits (IntKind.i64.wrap (i + 1)) (l0 ++ [bt s i])
                else
                  none
    else
      none
  else
    if (l0.length + 1) * 1 ≤ 140737488355328 ∧ 0 < 1 then
      some ((strOfBytes (l0 ++ [34]), ()), ())
    else
      none := (FD.lab_eq _ _ _ _).trans (by kernel_rfl)
def ref05_Quote (s : ByteArray) : (Option ((ByteArray × Unit) × Unit)) :=
  ref05_Quote_l5 s (strB [48, 49, 50, 51, 52, 53, 54, 55, 56, 57, 97, 98, 99, 100, 101, 102]) 0 [34]
def fc77 : FC := ⟨⟨[.one .str], []⟩, ⟨[.one .str], []⟩, fun x => ref05_Quote x.1.1⟩
theorem con77 : Contract Tryz.prog 77 fc77 :=
  ref05_Quote_D.contract tok (cok_of (l := []) trivial) mixed (fn' := Tryz.f77) (by kernel_rfl) (by kernel_rfl) rfl (by kernel_rfl) (fun x => (FD.fn_eq _ _).trans (by kernel_rfl))
end
end Go.Proofs.YtgpgpelaabdkhaaGreatDoor
end

section
/-
YtgpgpelaabdkhaaGreatDoor: signalbench.signalbenchref05.written, as one plain function, its equations, its contract. No condition.
-/
set_option maxRecDepth 100000
set_option linter.unusedVariables false
set_option maxHeartbeats 4000000
open Go Go.AM
namespace Go.Proofs.YtgpgpelaabdkhaaGreatDoor
noncomputable section
def ref05_written_D : FD := ⟨T, lookC [(76, fc76), (77, fc77)], [], (Tryz.f49.body.getD .skip), Tryz.f49.results.toList, ⟨[.row (.cons (.int .i64) (.cons .str (.cons (.int .i64) (.int .i64))))], []⟩, ⟨[.one .str], []⟩, []⟩
def ref05_written (t : TToken) : (Option ((ByteArray × Unit) × Unit)) :=
  if (t.1 == 2) = true then
    (ref05_Decimal t.2.2.1).bind fun y1 =>
      some ((y1.1.1, ()), ())
  else
    if (t.1 == 3) = true then
      (ref05_Quote t.2.1).bind fun y2 =>
        some ((y2.1.1, ()), ())
    else
      some ((t.2.1, ()), ())
def fc49 : FC := ⟨⟨[.row (.cons (.int .i64) (.cons .str (.cons (.int .i64) (.int .i64))))], []⟩, ⟨[.one .str], []⟩, fun x => ref05_written x.1.1⟩
theorem con49 : Contract Tryz.prog 49 fc49 :=
  ref05_written_D.contract tok (cok_of (l := [(76, fc76), (77, fc77)]) ⟨con76, con77, trivial⟩) mixed (fn' := Tryz.f49) (by kernel_rfl) (by kernel_rfl) rfl (by kernel_rfl) (fun x => (FD.fn_eq _ _).trans (by kernel_rfl))
end
end Go.Proofs.YtgpgpelaabdkhaaGreatDoor
end

section
/-
YtgpgpelaabdkhaaGreatDoor: signalbench.signalbenchref05.Text, as one plain function, its equations, its contract. No condition.
-/
set_option maxRecDepth 100000
set_option linter.unusedVariables false
set_option maxHeartbeats 4000000
open Go Go.AM
namespace Go.Proofs.YtgpgpelaabdkhaaGreatDoor
noncomputable section
def ref05_Text_F3 : FSh := ⟨[(0, .one (.sl (.cons (.int .i64) (.cons .str (.cons (.int .i64) (.int .i64)))))), (4, .one (.int .i64))], []⟩
def ref05_Text_F12 : FSh := ⟨[(0, .one (.sl (.cons (.int .i64) (.cons .str (.cons (.int .i64) (.int .i64)))))), (5, .one (.own 0)), (6, .one (.int .i64))], [.arr 5 (.int .u8) true]⟩
def ref05_Text_F16 : FSh := ⟨[(0, .one (.sl (.cons (.int .i64) (.cons .str (.cons (.int .i64) (.int .i64)))))), (5, .one (.own 0)), (6, .one (.int .i64))], [.arr 5 (.int .u8) true]⟩
def ref05_Text_D : FD := ⟨T, lookC [(48, fc48), (49, fc49)], [16], (Tryz.f22.body.getD .skip), Tryz.f22.results.toList, ⟨[.one (.sl (.cons (.int .i64) (.cons .str (.cons (.int .i64) (.int .i64)))))], []⟩, ⟨[.one .str, .one (.int .i64)], []⟩, [(3, ref05_Text_F3), (12, ref05_Text_F12), (16, ref05_Text_F16)]⟩
def ref05_Text_l3 (l : (List TToken)) (i : Int) : (Option ((ByteArray × Int × Unit) × Unit)) := ref05_Text_D.lab 3 ref05_Text_F3 ((l, i, ()), ())
def ref05_Text_l12 (l : (List TToken)) (i : Int) (l0 : (List Int)) : (Option ((ByteArray × Int × Unit) × Unit)) := ref05_Text_D.lab 12 ref05_Text_F12 ((l, (), i, ()), (l0, ()))
def ref05_Text_l16 (l : (List TToken)) (i : Int) (l0 : (List Int)) : (Option ((ByteArray × Int × Unit) × Unit)) := ref05_Text_D.lab 16 ref05_Text_F16 ((l, (), i, ()), (l0, ()))
theorem ref05_Text_l3_eq (l : (List TToken)) (i : Int) : ref05_Text_l3 l i =
  if (decide (i < (l.length : Int))) = true then
    if 0 ≤ i ∧ i < (l.length : Int) then
      (ref05_Right (l.getD i.toNat dToken)).bind fun y1 =>
        if (!y1.1.1) = true then
          some (((strB []), 1, ()), ())
        else
          ref05_Text_l3 l (IntKind.i64.wrap (i + 1))
    else
      none
  else
    ref05_Text_l12 l 0 [] := (FD.lab_eq _ _ _ _).trans (by kernel_rfl)
theorem ref05_Text_l12_eq (l : (List TToken)) (i : Int) (l0 : (List Int)) : ref05_Text_l12 l i l0 =
  if (decide (i < (l.length : Int))) = true then
    if (decide (i > 0)) = true then
      if (l0.length + 1) * 1 ≤ 140737488355328 ∧ 0 < 1 then
        ref05_Text_l16 l i (l0 ++ [32])
      else
        none
    else
      ref05_Text_l16 l i l0
  else
    some ((strOfBytes l0, 0, ()), ()) := (FD.lab_eq _ _ _ _).trans (by kernel_rfl)
theorem ref05_Text_l16_eq (l : (List TToken)) (i : Int) (l0 : (List Int)) : ref05_Text_l16 l i l0 =
  if 0 ≤ i ∧ i < (l.length : Int) then
    (ref05_written (l.getD i.toNat dToken)).bind fun y1 =>
      if (l0.length + (bytesOfStr y1.1.1).length) * 1 ≤ 140737488355328 ∧ 0 < 1 then
        if (decide (((l0 ++ (bytesOfStr y1.1.1)).length : Int) > 1048576)) = true then
          some (((strB []), 6, ()), ())
        else
          ref05_Text_l12 l (IntKind.i64.wrap (i + 1)) (l0 ++ (bytesOfStr y1.1.1))
      else
        none
  else
    none := (FD.lab_eq _ _ _ _).trans (by kernel_rfl)
def ref05_Text (l : (List TToken)) : (Option ((ByteArray × Int × Unit) × Unit)) :=
  ref05_Text_l3 l 0
def fc22 : FC := ⟨⟨[.one (.sl (.cons (.int .i64) (.cons .str (.cons (.int .i64) (.int .i64)))))], []⟩, ⟨[.one .str, .one (.int .i64)], []⟩, fun x => ref05_Text x.1.1⟩
theorem con22 : Contract Tryz.prog 22 fc22 :=
  ref05_Text_D.contract tok (cok_of (l := [(48, fc48), (49, fc49)]) ⟨con48, con49, trivial⟩) mixed (fn' := Tryz.f22) (by kernel_rfl) (by kernel_rfl) rfl (by kernel_rfl) (fun x => (FD.fn_eq _ _).trans (by kernel_rfl))
end
end Go.Proofs.YtgpgpelaabdkhaaGreatDoor
end

section
/-
YtgpgpelaabdkhaaGreatDoor: signalbench.signalbenchref43.word, as one plain function, its equations, its contract. No condition.
-/
set_option maxRecDepth 100000
set_option linter.unusedVariables false
set_option maxHeartbeats 4000000
open Go Go.AM
namespace Go.Proofs.YtgpgpelaabdkhaaGreatDoor
noncomputable section
def ref43_word_D : FD := ⟨T, lookC [], [], (Tryz.f50.body.getD .skip), Tryz.f50.results.toList, ⟨[.one .str], []⟩, ⟨[.row (.cons (.int .i64) (.cons .str (.cons (.int .i64) (.int .i64))))], []⟩, []⟩
def ref43_word (s : ByteArray) : (Option ((TToken × Unit) × Unit)) :=
  some (((1, s, 0, 0), ()), ())
def fc50 : FC := ⟨⟨[.one .str], []⟩, ⟨[.row (.cons (.int .i64) (.cons .str (.cons (.int .i64) (.int .i64))))], []⟩, fun x => ref43_word x.1.1⟩
theorem con50 : Contract Tryz.prog 50 fc50 :=
  ref43_word_D.contract tok (cok_of (l := []) trivial) mixed (fn' := Tryz.f50) (by kernel_rfl) (by kernel_rfl) rfl (by kernel_rfl) (fun x => (FD.fn_eq _ _).trans (by kernel_rfl))
end
end Go.Proofs.YtgpgpelaabdkhaaGreatDoor
end

section
/-
YtgpgpelaabdkhaaGreatDoor: signalbench.signalbenchref43.mark, as one plain function, its equations, its contract. No condition.
-/
set_option maxRecDepth 100000
set_option linter.unusedVariables false
set_option maxHeartbeats 4000000
open Go Go.AM
namespace Go.Proofs.YtgpgpelaabdkhaaGreatDoor
noncomputable section
def ref43_mark_D : FD := ⟨T, lookC [], [], (Tryz.f51.body.getD .skip), Tryz.f51.results.toList, ⟨[.one .str], []⟩, ⟨[.row (.cons (.int .i64) (.cons .str (.cons (.int .i64) (.int .i64))))], []⟩, []⟩
def ref43_mark (s : ByteArray) : (Option ((TToken × Unit) × Unit)) :=
  some (((4, s, 0, 0), ()), ())
def fc51 : FC := ⟨⟨[.one .str], []⟩, ⟨[.row (.cons (.int .i64) (.cons .str (.cons (.int .i64) (.int .i64))))], []⟩, fun x => ref43_mark x.1.1⟩
theorem con51 : Contract Tryz.prog 51 fc51 :=
  ref43_mark_D.contract tok (cok_of (l := []) trivial) mixed (fn' := Tryz.f51) (by kernel_rfl) (by kernel_rfl) rfl (by kernel_rfl) (fun x => (FD.fn_eq _ _).trans (by kernel_rfl))
end
end Go.Proofs.YtgpgpelaabdkhaaGreatDoor
end

section
/-
YtgpgpelaabdkhaaGreatDoor: signalbench.signalbenchref43.digits, as one plain function, its equations, its contract. No condition.
-/
set_option maxRecDepth 100000
set_option linter.unusedVariables false
set_option maxHeartbeats 4000000
open Go Go.AM
namespace Go.Proofs.YtgpgpelaabdkhaaGreatDoor
noncomputable section
def ref43_digits_R : Nat → Int → (Option ((ByteArray × Unit) × Unit))
  | 0, _ => none
  | k + 1, n =>
    if (decide (n < 10)) = true then
      if 0 ≤ n ∧ n ≤ IntKind.i64.wrap (n + 1) ∧ IntKind.i64.wrap (n + 1) ≤ ((strB [48, 49, 50, 51, 52, 53, 54, 55, 56, 57]).size : Int) then
        some (((strB [48, 49, 50, 51, 52, 53, 54, 55, 56, 57]).extract n.toNat (IntKind.i64.wrap (n + 1)).toNat, ()), ())
      else
        none
    else
      (ref43_digits_R k (IntKind.i64.wrap (n.tdiv 10))).bind fun y1 =>
        if 0 ≤ n.tmod 10 ∧ n.tmod 10 ≤ IntKind.i64.wrap ((n.tmod 10) + 1) ∧ IntKind.i64.wrap ((n.tmod 10) + 1) ≤ ((strB [48, 49, 50, 51, 52, 53, 54, 55, 56, 57]).size : Int) then
          if y1.1.1.size + ((strB [48, 49, 50, 51, 52, 53, 54, 55, 56, 57]).extract (n.tmod 10).toNat (IntKind.i64.wrap ((n.tmod 10) + 1)).toNat).size ≤ 9223372036854775807 then
            some ((y1.1.1 ++ ((strB [48, 49, 50, 51, 52, 53, 54, 55, 56, 57]).extract (n.tmod 10).toNat (IntKind.i64.wrap ((n.tmod 10) + 1)).toNat), ()), ())
          else
            none
        else
          none
def ref43_digits_fc (k : Nat) : FC := ⟨⟨[.one (.int .i64)], []⟩, ⟨[.one .str], []⟩, fun x => ref43_digits_R k x.1.1⟩
def ref43_digits_D (k : Nat) : FD := ⟨T, lookC [(98, ref43_digits_fc k)], [], (Tryz.f98.body.getD .skip), Tryz.f98.results.toList, ⟨[.one (.int .i64)], []⟩, ⟨[.one .str], []⟩, []⟩
theorem ref43_digits_con : ∀ k, Contract Tryz.prog 98 (ref43_digits_fc k)
  | 0 => ⟨by decide, fun w M G x vals hI hv h1 h0 y hy => by cases hy⟩
  | k + 1 => (ref43_digits_D k).contract tok (cok_of (l := [(98, ref43_digits_fc k)]) ⟨ref43_digits_con k, trivial⟩) mixed (fn' := Tryz.f98) (by kernel_rfl) (by kernel_rfl) rfl (by kernel_rfl) (fun x => (FD.fn_eq _ _).trans (by kernel_rfl))
def ref43_digits (n : Int) : (Option ((ByteArray × Unit) × Unit)) := ref43_digits_R 20 n
def fc98 : FC := ⟨⟨[.one (.int .i64)], []⟩, ⟨[.one .str], []⟩, fun x => ref43_digits x.1.1⟩
theorem con98 : Contract Tryz.prog 98 fc98 := ref43_digits_con 20
end
end Go.Proofs.YtgpgpelaabdkhaaGreatDoor
end

section
/-
YtgpgpelaabdkhaaGreatDoor: signalbench.signalbenchref43.number, as one plain function, its equations, its contract. No condition.
-/
set_option maxRecDepth 100000
set_option linter.unusedVariables false
set_option maxHeartbeats 4000000
open Go Go.AM
namespace Go.Proofs.YtgpgpelaabdkhaaGreatDoor
noncomputable section
def ref43_number_D : FD := ⟨T, lookC [(98, fc98)], [], (Tryz.f79.body.getD .skip), Tryz.f79.results.toList, ⟨[.one (.int .i64)], []⟩, ⟨[.row (.cons (.int .i64) (.cons .str (.cons (.int .i64) (.int .i64))))], []⟩, []⟩
def ref43_number (n : Int) : (Option ((TToken × Unit) × Unit)) :=
  if (decide (n < 0)) = true then
    (ref43_digits (IntKind.i64.wrap (0 - n))).bind fun y1 =>
      if (strB [45]).size + y1.1.1.size ≤ 9223372036854775807 then
        some (((2, (strB [45]) ++ y1.1.1, n, 0), ()), ())
      else
        none
  else
    (ref43_digits n).bind fun y2 =>
      some (((2, y2.1.1, n, 0), ()), ())
def fc79 : FC := ⟨⟨[.one (.int .i64)], []⟩, ⟨[.row (.cons (.int .i64) (.cons .str (.cons (.int .i64) (.int .i64))))], []⟩, fun x => ref43_number x.1.1⟩
theorem con79 : Contract Tryz.prog 79 fc79 :=
  ref43_number_D.contract tok (cok_of (l := [(98, fc98)]) ⟨con98, trivial⟩) mixed (fn' := Tryz.f79) (by kernel_rfl) (by kernel_rfl) rfl (by kernel_rfl) (fun x => (FD.fn_eq _ _).trans (by kernel_rfl))
end
end Go.Proofs.YtgpgpelaabdkhaaGreatDoor
end

section
/-
YtgpgpelaabdkhaaGreatDoor: signalbench.signalbenchref43.cond, as one plain function, its equations, its contract. No condition.
-/
set_option maxRecDepth 100000
set_option linter.unusedVariables false
set_option maxHeartbeats 4000000
open Go Go.AM
namespace Go.Proofs.YtgpgpelaabdkhaaGreatDoor
noncomputable section
def ref43_cond_F6 : FSh := ⟨[(1, .one (.ptr 0 0)), (3, .one (.own 1))], [.boxr 35 (.cons .str (.cons (.int .i64) (.cons (.int .i64) (.cons (.int .i64) (.int .i64))))), .arr 54 (.cons (.int .i64) (.cons .str (.cons (.int .i64) (.int .i64)))) true]⟩
def ref43_cond_D : FD := ⟨T, lookC [(50, fc50), (51, fc51), (79, fc79), (96, fc96), (97, fc97)], [6], (Tryz.f78.body.getD .skip), Tryz.f78.results.toList, ⟨[.row (.cons .str (.cons (.int .i64) (.cons (.int .i64) (.cons (.int .i64) (.int .i64)))))], []⟩, ⟨[.one (.own 0)], [.arr 54 (.cons (.int .i64) (.cons .str (.cons (.int .i64) (.int .i64)))) true]⟩, [(6, ref43_cond_F6)]⟩
def ref43_cond_l6 (h0 : TCond) (l1 : (List TToken)) : (Option ((Unit × Unit) × ((List TToken) × Unit))) := ref43_cond_D.lab 6 ref43_cond_F6 (((), (), ()), (h0, l1, ()))
theorem ref43_cond_l6_eq (h0 : TCond) (l1 : (List TToken)) : ref43_cond_l6 h0 l1 =
  (ref43_number h0.2.2.2.2).bind fun y1 =>
    if (l1.length + 1) * 40 ≤ 140737488355328 ∧ 0 < 40 then
      some (((), ()), (l1 ++ [y1.1.1], ()))
    else
      none := (FD.lab_eq _ _ _ _).trans (by kernel_rfl)
def ref43_cond (c : TCond) : (Option ((Unit × Unit) × ((List TToken) × Unit))) :=
  (ref43_word c.1).bind fun y1 =>
    (ref43_mark (strB [46])).bind fun y2 =>
      (ref43_kinds).bind fun y3 =>
        if 0 ≤ c.2.1 ∧ c.2.1 < (y3.1.1.length : Int) then
          (ref43_word (y3.1.1.getD c.2.1.toNat (strB []))).bind fun y4 =>
            if (c.2.2.2.1 == 0) = true then
              some (((), ()), ([y1.1.1, y2.1.1, y4.1.1], ()))
            else
              (ref43_fields).bind fun y5 =>
                if 0 ≤ IntKind.i64.wrap (c.2.2.1 - 1) ∧ IntKind.i64.wrap (c.2.2.1 - 1) < (y5.1.1.length : Int) then
                  (ref43_word (y5.1.1.getD (IntKind.i64.wrap (c.2.2.1 - 1)).toNat (strB []))).bind fun y6 =>
                    if (c.2.2.2.1 == 1) = true then
                      (ref43_mark (strB [61])).bind fun y7 =>
                        ref43_cond_l6 c [y1.1.1, y2.1.1, y4.1.1, y6.1.1, y7.1.1]
                    else
                      if (c.2.2.2.1 == 2) = true then
                        (ref43_mark (strB [33])).bind fun y8 =>
                          (ref43_mark (strB [61])).bind fun y9 =>
                            ref43_cond_l6 c [y1.1.1, y2.1.1, y4.1.1, y6.1.1, y8.1.1, y9.1.1]
                      else
                        if (c.2.2.2.1 == 3) = true then
                          (ref43_mark (strB [60])).bind fun y10 =>
                            ref43_cond_l6 c [y1.1.1, y2.1.1, y4.1.1, y6.1.1, y10.1.1]
                        else
                          if (c.2.2.2.1 == 4) = true then
                            (ref43_mark (strB [62])).bind fun y11 =>
                              ref43_cond_l6 c [y1.1.1, y2.1.1, y4.1.1, y6.1.1, y11.1.1]
                          else
                            if (c.2.2.2.1 == 5) = true then
                              (ref43_mark (strB [38])).bind fun y12 =>
                                ref43_cond_l6 c [y1.1.1, y2.1.1, y4.1.1, y6.1.1, y12.1.1]
                            else
                              ref43_cond_l6 c [y1.1.1, y2.1.1, y4.1.1, y6.1.1]
                else
                  none
        else
          none
def fc78 : FC := ⟨⟨[.row (.cons .str (.cons (.int .i64) (.cons (.int .i64) (.cons (.int .i64) (.int .i64)))))], []⟩, ⟨[.one (.own 0)], [.arr 54 (.cons (.int .i64) (.cons .str (.cons (.int .i64) (.int .i64)))) true]⟩, fun x => ref43_cond x.1.1⟩
theorem con78 : Contract Tryz.prog 78 fc78 :=
  ref43_cond_D.contract tok (cok_of (l := [(50, fc50), (51, fc51), (79, fc79), (96, fc96), (97, fc97)]) ⟨con50, con51, con79, con96, con97, trivial⟩) mixed (fn' := Tryz.f78) (by kernel_rfl) (by kernel_rfl) rfl (by kernel_rfl) (fun x => (FD.fn_eq _ _).trans (by kernel_rfl))
end
end Go.Proofs.YtgpgpelaabdkhaaGreatDoor
end

section
/-
YtgpgpelaabdkhaaGreatDoor: signalbench.signalbenchref43.step, as one plain function, its equations, its contract. No condition.
-/
set_option maxRecDepth 100000
set_option linter.unusedVariables false
set_option maxHeartbeats 4000000
open Go Go.AM
namespace Go.Proofs.YtgpgpelaabdkhaaGreatDoor
noncomputable section
def ref43_step_F2 : FSh := ⟨[(1, .one (.ptr 0 0)), (3, .one (.own 1))], [.boxr 37 (.cons (.cons .str (.cons (.int .i64) (.cons (.int .i64) (.cons (.int .i64) (.int .i64))))) (.cons (.int .i64) (.cons (.int .i64) (.cons .bool (.cons .str (.cons (.int .i64) (.cons (.int .i64) (.cons (.int .i64) (.int .i64))))))))), .arr 54 (.cons (.int .i64) (.cons .str (.cons (.int .i64) (.int .i64)))) true]⟩
def ref43_step_F4 : FSh := ⟨[(1, .one (.ptr 0 0)), (3, .one (.own 1))], [.boxr 37 (.cons (.cons .str (.cons (.int .i64) (.cons (.int .i64) (.cons (.int .i64) (.int .i64))))) (.cons (.int .i64) (.cons (.int .i64) (.cons .bool (.cons .str (.cons (.int .i64) (.cons (.int .i64) (.cons (.int .i64) (.int .i64))))))))), .arr 54 (.cons (.int .i64) (.cons .str (.cons (.int .i64) (.int .i64)))) true]⟩
def ref43_step_D : FD := ⟨T, lookC [(50, fc50), (78, fc78), (79, fc79)], [4, 2], (Tryz.f52.body.getD .skip), Tryz.f52.results.toList, ⟨[.row (.cons (.cons .str (.cons (.int .i64) (.cons (.int .i64) (.cons (.int .i64) (.int .i64))))) (.cons (.int .i64) (.cons (.int .i64) (.cons .bool (.cons .str (.cons (.int .i64) (.cons (.int .i64) (.cons (.int .i64) (.int .i64)))))))))], []⟩, ⟨[.one (.sl (.cons (.int .i64) (.cons .str (.cons (.int .i64) (.int .i64)))))], []⟩, [(2, ref43_step_F2), (4, ref43_step_F4)]⟩
def ref43_step_l2 (h0 : TTrigStep) (l1 : (List TToken)) : (Option (((List TToken) × Unit) × Unit)) := ref43_step_D.lab 2 ref43_step_F2 (((), (), ()), (h0, l1, ()))
def ref43_step_l4 (h0 : TTrigStep) (l1 : (List TToken)) : (Option (((List TToken) × Unit) × Unit)) := ref43_step_D.lab 4 ref43_step_F4 (((), (), ()), (h0, l1, ()))
theorem ref43_step_l2_eq (h0 : TTrigStep) (l1 : (List TToken)) : ref43_step_l2 h0 l1 =
  if (h0.2.2.1 != 0) = true then
    (ref43_word (strB [119, 105, 116, 104, 105, 110])).bind fun y1 =>
      (ref43_number h0.2.2.1).bind fun y2 =>
        if (l1.length + 2) * 40 ≤ 140737488355328 ∧ 0 < 40 then
          ref43_step_l4 h0 (l1 ++ [y1.1.1, y2.1.1])
        else
          none
  else
    ref43_step_l4 h0 l1 := (FD.lab_eq _ _ _ _).trans (by kernel_rfl)
theorem ref43_step_l4_eq (h0 : TTrigStep) (l1 : (List TToken)) : ref43_step_l4 h0 l1 =
  if h0.2.2.2.1 = true then
    (ref43_word (strB [117, 110, 108, 101, 115, 115])).bind fun y1 =>
      if (l1.length + 1) * 40 ≤ 140737488355328 ∧ 0 < 40 then
        (ref43_cond h0.2.2.2.2).bind fun y2 =>
          if ((l1 ++ [y1.1.1]).length + y2.2.1.length) * 40 ≤ 140737488355328 ∧ 0 < 40 then
            some (((l1 ++ [y1.1.1]) ++ y2.2.1, ()), ())
          else
            none
      else
        none
  else
    some ((l1, ()), ()) := (FD.lab_eq _ _ _ _).trans (by kernel_rfl)
def ref43_step (s : TTrigStep) : (Option (((List TToken) × Unit) × Unit)) :=
  (ref43_cond s.1).bind fun y1 =>
    if (s.2.1 != 1) = true then
      (ref43_word (strB [120])).bind fun y2 =>
        (ref43_number s.2.1).bind fun y3 =>
          if (y1.2.1.length + 2) * 40 ≤ 140737488355328 ∧ 0 < 40 then
            ref43_step_l2 s (y1.2.1 ++ [y2.1.1, y3.1.1])
          else
            none
    else
      ref43_step_l2 s y1.2.1
def fc52 : FC := ⟨⟨[.row (.cons (.cons .str (.cons (.int .i64) (.cons (.int .i64) (.cons (.int .i64) (.int .i64))))) (.cons (.int .i64) (.cons (.int .i64) (.cons .bool (.cons .str (.cons (.int .i64) (.cons (.int .i64) (.cons (.int .i64) (.int .i64)))))))))], []⟩, ⟨[.one (.sl (.cons (.int .i64) (.cons .str (.cons (.int .i64) (.int .i64)))))], []⟩, fun x => ref43_step x.1.1⟩
theorem con52 : Contract Tryz.prog 52 fc52 :=
  ref43_step_D.contract tok (cok_of (l := [(50, fc50), (78, fc78), (79, fc79)]) ⟨con50, con78, con79, trivial⟩) mixed (fn' := Tryz.f52) (by kernel_rfl) (by kernel_rfl) rfl (by kernel_rfl) (fun x => (FD.fn_eq _ _).trans (by kernel_rfl))
end
end Go.Proofs.YtgpgpelaabdkhaaGreatDoor
end

section
/-
YtgpgpelaabdkhaaGreatDoor: signalbench.signalbenchref43.Tokens, as one plain function, its equations, its contract. No condition.
-/
set_option maxRecDepth 100000
set_option linter.unusedVariables false
set_option maxHeartbeats 4000000
open Go Go.AM
namespace Go.Proofs.YtgpgpelaabdkhaaGreatDoor
noncomputable section
def ref43_Tokens_F4 : FSh := ⟨[(1, .one (.ptr 0 0)), (3, .one (.own 1)), (4, .one (.int .i64))], [.boxr 24 (.cons .str (.sl (.cons (.cons .str (.cons (.int .i64) (.cons (.int .i64) (.cons (.int .i64) (.int .i64))))) (.cons (.int .i64) (.cons (.int .i64) (.cons .bool (.cons .str (.cons (.int .i64) (.cons (.int .i64) (.cons (.int .i64) (.int .i64))))))))))), .arr 54 (.cons (.int .i64) (.cons .str (.cons (.int .i64) (.int .i64)))) true]⟩
def ref43_Tokens_F8 : FSh := ⟨[(1, .one (.ptr 0 0)), (3, .one (.own 1)), (4, .one (.int .i64))], [.boxr 24 (.cons .str (.sl (.cons (.cons .str (.cons (.int .i64) (.cons (.int .i64) (.cons (.int .i64) (.int .i64))))) (.cons (.int .i64) (.cons (.int .i64) (.cons .bool (.cons .str (.cons (.int .i64) (.cons (.int .i64) (.cons (.int .i64) (.int .i64))))))))))), .arr 54 (.cons (.int .i64) (.cons .str (.cons (.int .i64) (.int .i64)))) true]⟩
def ref43_Tokens_D : FD := ⟨T, lookC [(50, fc50), (51, fc51), (52, fc52)], [8], (Tryz.f23.body.getD .skip), Tryz.f23.results.toList, ⟨[.row (.cons .str (.sl (.cons (.cons .str (.cons (.int .i64) (.cons (.int .i64) (.cons (.int .i64) (.int .i64))))) (.cons (.int .i64) (.cons (.int .i64) (.cons .bool (.cons .str (.cons (.int .i64) (.cons (.int .i64) (.cons (.int .i64) (.int .i64)))))))))))], []⟩, ⟨[.one (.sl (.cons (.int .i64) (.cons .str (.cons (.int .i64) (.int .i64)))))], []⟩, [(4, ref43_Tokens_F4), (8, ref43_Tokens_F8)]⟩
def ref43_Tokens_l4 (i : Int) (h0 : TTrigger) (l1 : (List TToken)) : (Option (((List TToken) × Unit) × Unit)) := ref43_Tokens_D.lab 4 ref43_Tokens_F4 (((), (), i, ()), (h0, l1, ()))
def ref43_Tokens_l8 (i : Int) (h0 : TTrigger) (l1 : (List TToken)) : (Option (((List TToken) × Unit) × Unit)) := ref43_Tokens_D.lab 8 ref43_Tokens_F8 (((), (), i, ()), (h0, l1, ()))
theorem ref43_Tokens_l4_eq (i : Int) (h0 : TTrigger) (l1 : (List TToken)) : ref43_Tokens_l4 i h0 l1 =
  if (decide (i < (h0.2.length : Int))) = true then
    if (decide (i > 0)) = true then
      (ref43_mark (strB [59])).bind fun y1 =>
        if (l1.length + 1) * 40 ≤ 140737488355328 ∧ 0 < 40 then
          ref43_Tokens_l8 i h0 (l1 ++ [y1.1.1])
        else
          none
    else
      ref43_Tokens_l8 i h0 l1
  else
    some ((l1, ()), ()) := (FD.lab_eq _ _ _ _).trans (by kernel_rfl)
theorem ref43_Tokens_l8_eq (i : Int) (h0 : TTrigger) (l1 : (List TToken)) : ref43_Tokens_l8 i h0 l1 =
  if 0 ≤ i ∧ i < (h0.2.length : Int) then
    (ref43_step (h0.2.getD i.toNat dTrigStep)).bind fun y1 =>
      if (l1.length + y1.1.1.length) * 40 ≤ 140737488355328 ∧ 0 < 40 then
        ref43_Tokens_l4 (IntKind.i64.wrap (i + 1)) h0 (l1 ++ y1.1.1)
      else
        none
  else
    none := (FD.lab_eq _ _ _ _).trans (by kernel_rfl)
def ref43_Tokens (t : TTrigger) : (Option (((List TToken) × Unit) × Unit)) :=
  (ref43_word (strB [116, 114, 105, 103, 103, 101, 114])).bind fun y1 =>
    (ref43_word t.1).bind fun y2 =>
      (ref43_mark (strB [58])).bind fun y3 =>
        ref43_Tokens_l4 0 t [y1.1.1, y2.1.1, y3.1.1]
def fc23 : FC := ⟨⟨[.row (.cons .str (.sl (.cons (.cons .str (.cons (.int .i64) (.cons (.int .i64) (.cons (.int .i64) (.int .i64))))) (.cons (.int .i64) (.cons (.int .i64) (.cons .bool (.cons .str (.cons (.int .i64) (.cons (.int .i64) (.cons (.int .i64) (.int .i64)))))))))))], []⟩, ⟨[.one (.sl (.cons (.int .i64) (.cons .str (.cons (.int .i64) (.int .i64)))))], []⟩, fun x => ref43_Tokens x.1.1⟩
theorem con23 : Contract Tryz.prog 23 fc23 :=
  ref43_Tokens_D.contract tok (cok_of (l := [(50, fc50), (51, fc51), (52, fc52)]) ⟨con50, con51, con52, trivial⟩) mixed (fn' := Tryz.f23) (by kernel_rfl) (by kernel_rfl) rfl (by kernel_rfl) (fun x => (FD.fn_eq _ _).trans (by kernel_rfl))
end
end Go.Proofs.YtgpgpelaabdkhaaGreatDoor
end
