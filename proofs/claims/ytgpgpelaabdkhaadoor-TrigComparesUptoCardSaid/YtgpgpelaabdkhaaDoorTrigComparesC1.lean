/-
The plain functions of the program that the law TrigCompares reaches, that the program computes them, and what they come to. No condition.
-/
import Derived.Test.YtgpgpelaabdkhaaDoorRows
import Derived.Test.YtgpgpelaabdkhaaDoorChecked
import Derived.Lib.ItoaNum
import Derived.Lib.LaidTab
import Derived.Shelf.Strings.Builder1
import Derived.Shelf.Small.Strs
import Derived.Shelf.Strings.BuilderF
import Derived.Shelf.Strings.BuilderK
import Derived.Shelf.Strconv.Itoa0
import Derived.Shelf.Strconv.Itoa1
import Derived.Shelf.LaysM
import Derived.Shelf.Strconv.Itoa2
import Derived.Shelf.Strconv.Itoa3
import Derived.Shelf.Strings.Search1
import Derived.Shelf.Strings.BuilderCap
import Derived.Test.YtgpgpelaabdkhaaDoorProg
import Derived.Lib.Builder
import Derived.Lib.UnsafeStr
import Derived.Lib.Walk
import Derived.WalkKit
import Derived.Laws.Externs
import Derived.Test.YtgpgpelaabdkhaaDoorAm1
import Derived.Test.YtgpgpelaabdkhaaDoorAm2
import Derived.Test.YtgpgpelaabdkhaaDoorAm3
set_option linter.unusedVariables false
set_option linter.unusedSimpArgs false
set_option linter.unusedSectionVars false

section
/-
YtgpgpelaabdkhaaDoor: the given measure of what is read is the machine's. No condition.
-/
namespace Go.Proofs.YtgpgpelaabdkhaaDoor
open Go

mutual
theorem bulk_eq {H : Type} : ∀ d : DataW H, Rows.uptoBulk d = AM.bulkW d
  | .lit (.string _) => by simp [Rows.uptoBulk, AM.bulkW]
  | .lit (.bool _) => by simp [Rows.uptoBulk, AM.bulkW]
  | .lit (.int _ _) => by simp [Rows.uptoBulk, AM.bulkW]
  | .lit (.float _ _) => by simp [Rows.uptoBulk, AM.bulkW]
  | .lit .nil => by simp [Rows.uptoBulk, AM.bulkW]
  | .nil => by simp [Rows.uptoBulk, AM.bulkW]
  | .ptr d => by simp [Rows.uptoBulk, AM.bulkW, bulk_eq d]
  | .slice a b => by simp [Rows.uptoBulk, AM.bulkW, bulkAll_eq a, bulkAll_eq b]
  | .agg a => by simp [Rows.uptoBulk, AM.bulkW, bulkAll_eq a]
  | .iface _ d => by simp [Rows.uptoBulk, AM.bulkW, bulk_eq d]
  | .map es => by simp [Rows.uptoBulk, AM.bulkW, bulkEntries_eq es]
  | .held _ => by simp [Rows.uptoBulk, AM.bulkW]
theorem bulkAll_eq {H : Type} : ∀ l : List (DataW H), Rows.uptoBulkAll l = AM.bulkAll l
  | [] => by simp [Rows.uptoBulkAll, AM.bulkAll]
  | d :: r => by simp [Rows.uptoBulkAll, AM.bulkAll, bulk_eq d, bulkAll_eq r]
theorem bulkEntries_eq {H : Type} : ∀ l : List (Lit × DataW H), Rows.uptoBulkEntries l = AM.bulkEntries l
  | [] => by simp [Rows.uptoBulkEntries, AM.bulkEntries]
  | x :: r => by simp [Rows.uptoBulkEntries, AM.bulkEntries, bulkEntry_eq x, bulkEntries_eq r]
theorem bulkEntry_eq {H : Type} : ∀ x : Lit × DataW H, Rows.uptoBulkEntry x = AM.bulkEntry x
  | (.string _, d) => by simp [Rows.uptoBulkEntry, AM.bulkEntry, bulk_eq d]
  | (.bool _, d) => by simp [Rows.uptoBulkEntry, AM.bulkEntry, bulk_eq d]
  | (.int _ _, d) => by simp [Rows.uptoBulkEntry, AM.bulkEntry, bulk_eq d]
  | (.float _ _, d) => by simp [Rows.uptoBulkEntry, AM.bulkEntry, bulk_eq d]
  | (.nil, d) => by simp [Rows.uptoBulkEntry, AM.bulkEntry, bulk_eq d]
end

theorem bulk_bound {H : Type} {l : List (DataW H)} (hk : Rows.uptoSmall H l = true) : AM.bulkAll l ≤ 1048576 := by
  rw [← bulkAll_eq]
  exact of_decide_eq_true hk

theorem own : ownKnob Tryd.prog.godebug = none := by kernel_rfl
theorem laidOut : laidOutB Tryd.prog = true := by kernel_rfl

end Go.Proofs.YtgpgpelaabdkhaaDoor
end

section
/-
YtgpgpelaabdkhaaDoor: the library's table that the row lists, as every state holds it. No condition.
-/
open Go Go.AM
namespace Go.Proofs.YtgpgpelaabdkhaaDoor
noncomputable section
def powCells : Array Value := (Lib.pow10Tab.map fun z => Value.int .u64 z).toArray
instance zoneI : Inhabited ZMem := ⟨fun b => if b = 1 then some powCells else none⟩

theorem zone_pow : Zone 1 = some powCells := rfl

theorem zone_tab {w : World} (h : HoldsB w 1 powCells) : Lib.TabIs Tryd.prog w "internal/strconv.uint64pow10" .u64 Lib.pow10Tab := by
  obtain ⟨t, fr, h⟩ := h
  unfold Lib.TabIs World.var?
  rw [show Tryd.prog.globalNamed "internal/strconv.uint64pow10" = some 1 by kernel_rfl]
  simp only [Option.bind_some]
  rw [h]
  rfl

theorem zone_met {w : World} (h : Lib.TabIs Tryd.prog w "internal/strconv.uint64pow10" .u64 Lib.pow10Tab) : ∀ (b : Nat) (o : Array Value), Zone b = some o → HoldsB w b o := by
  intro b o hz
  have hz' : (if b = 1 then some powCells else none) = some o := hz
  split at hz'
  · rename_i e
    subst e
    cases hz'
    unfold Lib.TabIs World.var? at h
    rw [show Tryd.prog.globalNamed "internal/strconv.uint64pow10" = some 1 by kernel_rfl] at h
    simp only [Option.bind_some] at h
    split at h
    · rename_i cs t fr hq
      cases h
      exact ⟨t, fr, hq⟩
    · cases h
  · cases hz'
end
end Go.Proofs.YtgpgpelaabdkhaaDoor
end

section
/-
YtgpgpelaabdkhaaDoor: the types that the functions use. No condition.
-/
set_option maxRecDepth 100000
open Go Go.AM
namespace Go.Proofs.YtgpgpelaabdkhaaDoor
noncomputable section
abbrev TAct : Type := Int × Int
abbrev uAct : U := (.cons (.int .i64) (.int .i64))
def dAct : TAct := (0, 0)
abbrev TCond : Type := ByteArray × Int × Int × TAct
abbrev uCond : U := (.cons .str (.cons (.int .i64) (.cons (.int .i64) (.cons (.int .i64) (.int .i64)))))
def dCond : TCond := ((strB []), (0, (0, dAct)))
abbrev TTrigStep : Type := TCond × Int × Int × Bool × TCond
abbrev uTrigStep : U := (.cons (.cons .str (.cons (.int .i64) (.cons (.int .i64) (.cons (.int .i64) (.int .i64))))) (.cons (.int .i64) (.cons (.int .i64) (.cons .bool (.cons .str (.cons (.int .i64) (.cons (.int .i64) (.cons (.int .i64) (.int .i64)))))))))
def dTrigStep : TTrigStep := (dCond, (0, (0, (false, dCond))))
abbrev TTrigger : Type := ByteArray × (List TTrigStep)
abbrev uTrigger : U := (.cons .str (.sl (.cons (.cons .str (.cons (.int .i64) (.cons (.int .i64) (.cons (.int .i64) (.int .i64))))) (.cons (.int .i64) (.cons (.int .i64) (.cons .bool (.cons .str (.cons (.int .i64) (.cons (.int .i64) (.cons (.int .i64) (.int .i64)))))))))))
def dTrigger : TTrigger := ((strB []), [])
abbrev TRule : Type := Int × Int × ByteArray × Bool × (List TAct)
abbrev uRule : U := (.cons (.int .i64) (.cons (.int .i64) (.cons .str (.cons .bool (.sl (.cons (.int .i64) (.int .i64)))))))
def dRule : TRule := (0, (0, ((strB []), (false, []))))
abbrev TDeclState : Type := ByteArray × (List TRule) × Bool × TRule
abbrev uDeclState : U := (.cons .str (.cons (.sl (.cons (.int .i64) (.cons (.int .i64) (.cons .str (.cons .bool (.sl (.cons (.int .i64) (.int .i64)))))))) (.cons .bool (.cons (.int .i64) (.cons (.int .i64) (.cons .str (.cons .bool (.sl (.cons (.int .i64) (.int .i64))))))))))
def dDeclState : TDeclState := ((strB []), ([], (false, dRule)))
abbrev TDecl : Type := ByteArray × Int × Int × (List TDeclState)
abbrev uDecl : U := (.cons .str (.cons (.int .i64) (.cons (.int .i64) (.sl (.cons .str (.cons (.sl (.cons (.int .i64) (.cons (.int .i64) (.cons .str (.cons .bool (.sl (.cons (.int .i64) (.int .i64)))))))) (.cons .bool (.cons (.int .i64) (.cons (.int .i64) (.cons .str (.cons .bool (.sl (.cons (.int .i64) (.int .i64))))))))))))))
def dDecl : TDecl := ((strB []), (0, (0, [])))
abbrev TParam : Type := ByteArray × Int
abbrev uParam : U := (.cons .str (.int .i64))
def dParam : TParam := ((strB []), 0)
abbrev TNode : Type := ByteArray × ByteArray × (List ByteArray) × (List TParam)
abbrev uNode : U := (.cons .str (.cons .str (.cons (.sl .str) (.sl (.cons .str (.int .i64))))))
def dNode : TNode := ((strB []), ((strB []), ([], [])))
abbrev TStack : Type := (List TDecl) × (List TNode)
abbrev uStack : U := (.cons (.sl (.cons .str (.cons (.int .i64) (.cons (.int .i64) (.sl (.cons .str (.cons (.sl (.cons (.int .i64) (.cons (.int .i64) (.cons .str (.cons .bool (.sl (.cons (.int .i64) (.int .i64)))))))) (.cons .bool (.cons (.int .i64) (.cons (.int .i64) (.cons .str (.cons .bool (.sl (.cons (.int .i64) (.int .i64))))))))))))))) (.sl (.cons .str (.cons .str (.cons (.sl .str) (.sl (.cons .str (.int .i64))))))))
def dStack : TStack := ([], [])
abbrev TEvent : Type := Int × Int × Int × Int × Int × TParam
abbrev uEvent : U := (.cons (.int .i64) (.cons (.int .i64) (.cons (.int .i64) (.cons (.int .i64) (.cons (.int .i64) (.cons .str (.int .i64)))))))
def dEvent : TEvent := (0, (0, (0, (0, (0, dParam)))))
abbrev TOut : Type := Int × Int × TEvent
abbrev uOut : U := (.cons (.int .i64) (.cons (.int .i64) (.cons (.int .i64) (.cons (.int .i64) (.cons (.int .i64) (.cons (.int .i64) (.cons (.int .i64) (.cons .str (.int .i64)))))))))
def dOut : TOut := (0, (0, dEvent))
abbrev TToken : Type := Int × ByteArray × TAct
abbrev uToken : U := (.cons (.int .i64) (.cons .str (.cons (.int .i64) (.int .i64))))
def dToken : TToken := (0, ((strB []), dAct))
abbrev Treader : Type := (List TToken) × Int × Bool
abbrev ureader : U := (.cons (.sl (.cons (.int .i64) (.cons .str (.cons (.int .i64) (.int .i64))))) (.cons (.int .i64) .bool))
def dreader : Treader := ([], (0, false))
def TL : List (Nat × TD) := [
  (3, ⟨.int .i64, 1, 8, [.val (.int .i64 0)], some (.int .i64), false, []⟩),
  (4, ⟨.bool, 1, 1, [.val (.bool false)], some .bool, false, []⟩),
  (5, ⟨.int .u8, 1, 1, [.val (.int .u8 0)], some (.int .u8), false, []⟩),
  (9, ⟨.string, 1, 16, [.val (.string ⟨#[]⟩)], some .str, false, []⟩),
  (20, ⟨(Tryd.t20.desc), 1, 16, [.val (.nilIface)], some .any, false, []⟩),
  (21, ⟨.int .i32, 1, 4, [.val (.int .i32 0)], some (.int .i32), false, []⟩),
  (22, ⟨.slice 57, 1, 24, [.val (.slice none 0 0)], some (.sl (.cons (.cons .str (.cons (.int .i64) (.cons (.int .i64) (.cons (.int .i64) (.int .i64))))) (.cons (.int .i64) (.cons (.int .i64) (.cons .bool (.cons .str (.cons (.int .i64) (.cons (.int .i64) (.cons (.int .i64) (.int .i64)))))))))), false, []⟩),
  (24, ⟨(Tryd.t23.desc), 2, 40, [.val (.string ⟨#[]⟩), .val (.slice none 0 0)], some (.cons .str (.sl (.cons (.cons .str (.cons (.int .i64) (.cons (.int .i64) (.cons (.int .i64) (.int .i64))))) (.cons (.int .i64) (.cons (.int .i64) (.cons .bool (.cons .str (.cons (.int .i64) (.cons (.int .i64) (.cons (.int .i64) (.int .i64))))))))))), false, [(0, 1), (1, 1)]⟩),
  (25, ⟨.slice 153, 1, 24, [.val (.slice none 0 0)], some (.sl (.cons .str (.cons (.int .i64) (.cons (.int .i64) (.sl (.cons .str (.cons (.sl (.cons (.int .i64) (.cons (.int .i64) (.cons .str (.cons .bool (.sl (.cons (.int .i64) (.int .i64)))))))) (.cons .bool (.cons (.int .i64) (.cons (.int .i64) (.cons .str (.cons .bool (.sl (.cons (.int .i64) (.int .i64))))))))))))))), false, []⟩),
  (26, ⟨.slice 52, 1, 24, [.val (.slice none 0 0)], some (.sl (.cons .str (.cons .str (.cons (.sl .str) (.sl (.cons .str (.int .i64))))))), false, []⟩),
  (28, ⟨(Tryd.t27.desc), 2, 48, [.val (.slice none 0 0), .val (.slice none 0 0)], some (.cons (.sl (.cons .str (.cons (.int .i64) (.cons (.int .i64) (.sl (.cons .str (.cons (.sl (.cons (.int .i64) (.cons (.int .i64) (.cons .str (.cons .bool (.sl (.cons (.int .i64) (.int .i64)))))))) (.cons .bool (.cons (.int .i64) (.cons (.int .i64) (.cons .str (.cons .bool (.sl (.cons (.int .i64) (.int .i64))))))))))))))) (.sl (.cons .str (.cons .str (.cons (.sl .str) (.sl (.cons .str (.int .i64)))))))), false, [(0, 1), (1, 1)]⟩),
  (32, ⟨.int .i64, 1, 8, [.val (.int .i64 0)], some (.int .i64), false, []⟩),
  (36, ⟨(Tryd.t35.desc), 5, 48, [.val (.string ⟨#[]⟩), .val (.int .i64 0), .val (.int .i64 0), .val (.int .i64 0), .val (.int .i64 0)], some (.cons .str (.cons (.int .i64) (.cons (.int .i64) (.cons (.int .i64) (.int .i64))))), true, [(0, 1), (1, 1), (2, 1), (3, 1), (4, 1)]⟩),
  (38, ⟨(Tryd.t37.desc), 7, 64, [.val (.int .i64 0), .val (.int .i64 0), .val (.int .i64 0), .val (.int .i64 0), .val (.int .i64 0), .val (.string ⟨#[]⟩), .val (.int .i64 0)], some (.cons (.int .i64) (.cons (.int .i64) (.cons (.int .i64) (.cons (.int .i64) (.cons (.int .i64) (.cons .str (.int .i64))))))), false, [(0, 1), (1, 1), (2, 1), (3, 1), (4, 1), (5, 1), (6, 1)]⟩),
  (40, ⟨(Tryd.t39.desc), 9, 80, [.val (.int .i64 0), .val (.int .i64 0), .val (.int .i64 0), .val (.int .i64 0), .val (.int .i64 0), .val (.int .i64 0), .val (.int .i64 0), .val (.string ⟨#[]⟩), .val (.int .i64 0)], some (.cons (.int .i64) (.cons (.int .i64) (.cons (.int .i64) (.cons (.int .i64) (.cons (.int .i64) (.cons (.int .i64) (.cons (.int .i64) (.cons .str (.int .i64))))))))), false, [(0, 1), (1, 1), (2, 7)]⟩),
  (49, ⟨.slice 9, 1, 24, [.val (.slice none 0 0)], some (.sl .str), false, []⟩),
  (50, ⟨.slice 155, 1, 24, [.val (.slice none 0 0)], some (.sl (.cons .str (.int .i64))), false, []⟩),
  (52, ⟨(Tryd.t51.desc), 4, 80, [.val (.string ⟨#[]⟩), .val (.string ⟨#[]⟩), .val (.slice none 0 0), .val (.slice none 0 0)], some (.cons .str (.cons .str (.cons (.sl .str) (.sl (.cons .str (.int .i64)))))), false, [(0, 1), (1, 1), (2, 1), (3, 1)]⟩),
  (53, ⟨.array 6 4, 6, 6, [.val (.bool false), .val (.bool false), .val (.bool false), .val (.bool false), .val (.bool false), .val (.bool false)], some (.cons .bool (.cons .bool (.cons .bool (.cons .bool (.cons .bool .bool))))), false, []⟩),
  (57, ⟨(Tryd.t56.desc), 13, 120, [.val (.string ⟨#[]⟩), .val (.int .i64 0), .val (.int .i64 0), .val (.int .i64 0), .val (.int .i64 0), .val (.int .i64 0), .val (.int .i64 0), .val (.bool false), .val (.string ⟨#[]⟩), .val (.int .i64 0), .val (.int .i64 0), .val (.int .i64 0), .val (.int .i64 0)], some (.cons (.cons .str (.cons (.int .i64) (.cons (.int .i64) (.cons (.int .i64) (.int .i64))))) (.cons (.int .i64) (.cons (.int .i64) (.cons .bool (.cons .str (.cons (.int .i64) (.cons (.int .i64) (.cons (.int .i64) (.int .i64))))))))), true, [(0, 5), (5, 1), (6, 1), (7, 1), (8, 5)]⟩),
  (63, ⟨(Tryd.t62.desc), 4, 40, [.val (.int .i64 0), .val (.string ⟨#[]⟩), .val (.int .i64 0), .val (.int .i64 0)], some (.cons (.int .i64) (.cons .str (.cons (.int .i64) (.int .i64)))), false, [(0, 1), (1, 1), (2, 1), (3, 1)]⟩),
  (65, ⟨.slice 63, 1, 24, [.val (.slice none 0 0)], some (.sl (.cons (.int .i64) (.cons .str (.cons (.int .i64) (.int .i64))))), false, []⟩),
  (71, ⟨.pointer 73, 1, 8, [.val (.pointer none)], none, false, []⟩),
  (73, ⟨(Tryd.t72.desc), 3, 40, [.val (.slice none 0 0), .val (.int .i64 0), .val (.bool false)], some (.cons (.sl (.cons (.int .i64) (.cons .str (.cons (.int .i64) (.int .i64))))) (.cons (.int .i64) .bool)), false, [(0, 1), (1, 1), (2, 1)]⟩),
  (78, ⟨(Tryd.t78.desc), 1, 8, [.val (.nilFunc)], none, false, []⟩),
  (82, ⟨.pointer 85, 1, 8, [.val (.pointer none)], none, false, []⟩),
  (83, ⟨.slice 5, 1, 24, [.val (.slice none 0 0)], some (.sl (.int .u8)), false, []⟩),
  (85, ⟨(Tryd.t84.desc), 2, 32, [.val (.pointer none), .val (.slice none 0 0)], none, false, [(0, 1), (1, 1)]⟩),
  (89, ⟨(Tryd.t88.desc), 1, 16, [.val (.nilIface)], some .any, false, []⟩),
  (100, ⟨.slice 20, 1, 24, [.val (.slice none 0 0)], some (.sl .any), false, []⟩),
  (102, ⟨.int .i64, 1, 8, [.val (.int .i64 0)], some (.int .i64), false, []⟩),
  (103, ⟨.int .i64, 1, 8, [.val (.int .i64 0)], some (.int .i64), false, []⟩),
  (104, ⟨(Tryd.t35.desc), 5, 48, [.val (.string ⟨#[]⟩), .val (.int .i64 0), .val (.int .i64 0), .val (.int .i64 0), .val (.int .i64 0)], some (.cons .str (.cons (.int .i64) (.cons (.int .i64) (.cons (.int .i64) (.int .i64))))), false, [(0, 1), (1, 1), (2, 1), (3, 1), (4, 1)]⟩),
  (110, ⟨.pointer 5, 1, 8, [.val (.pointer none)], none, false, []⟩),
  (151, ⟨.slice 161, 1, 24, [.val (.slice none 0 0)], some (.sl (.cons .str (.cons (.sl (.cons (.int .i64) (.cons (.int .i64) (.cons .str (.cons .bool (.sl (.cons (.int .i64) (.int .i64)))))))) (.cons .bool (.cons (.int .i64) (.cons (.int .i64) (.cons .str (.cons .bool (.sl (.cons (.int .i64) (.int .i64))))))))))), false, []⟩),
  (153, ⟨(Tryd.t152.desc), 4, 56, [.val (.string ⟨#[]⟩), .val (.int .i64 0), .val (.int .i64 0), .val (.slice none 0 0)], some (.cons .str (.cons (.int .i64) (.cons (.int .i64) (.sl (.cons .str (.cons (.sl (.cons (.int .i64) (.cons (.int .i64) (.cons .str (.cons .bool (.sl (.cons (.int .i64) (.int .i64)))))))) (.cons .bool (.cons (.int .i64) (.cons (.int .i64) (.cons .str (.cons .bool (.sl (.cons (.int .i64) (.int .i64)))))))))))))), false, [(0, 1), (1, 1), (2, 1), (3, 1)]⟩),
  (155, ⟨(Tryd.t154.desc), 2, 24, [.val (.string ⟨#[]⟩), .val (.int .i64 0)], some (.cons .str (.int .i64)), false, [(0, 1), (1, 1)]⟩),
  (156, ⟨.slice 159, 1, 24, [.val (.slice none 0 0)], some (.sl (.cons (.int .i64) (.cons (.int .i64) (.cons .str (.cons .bool (.sl (.cons (.int .i64) (.int .i64)))))))), false, []⟩),
  (157, ⟨.slice 163, 1, 24, [.val (.slice none 0 0)], some (.sl (.cons (.int .i64) (.int .i64))), false, []⟩),
  (159, ⟨(Tryd.t158.desc), 5, 64, [.val (.int .i64 0), .val (.int .i64 0), .val (.string ⟨#[]⟩), .val (.bool false), .val (.slice none 0 0)], some (.cons (.int .i64) (.cons (.int .i64) (.cons .str (.cons .bool (.sl (.cons (.int .i64) (.int .i64))))))), false, [(0, 1), (1, 1), (2, 1), (3, 1), (4, 1)]⟩),
  (161, ⟨(Tryd.t160.desc), 8, 112, [.val (.string ⟨#[]⟩), .val (.slice none 0 0), .val (.bool false), .val (.int .i64 0), .val (.int .i64 0), .val (.string ⟨#[]⟩), .val (.bool false), .val (.slice none 0 0)], some (.cons .str (.cons (.sl (.cons (.int .i64) (.cons (.int .i64) (.cons .str (.cons .bool (.sl (.cons (.int .i64) (.int .i64)))))))) (.cons .bool (.cons (.int .i64) (.cons (.int .i64) (.cons .str (.cons .bool (.sl (.cons (.int .i64) (.int .i64)))))))))), false, [(0, 1), (1, 1), (2, 1), (3, 5)]⟩),
  (163, ⟨(Tryd.t162.desc), 2, 16, [.val (.int .i64 0), .val (.int .i64 0)], some (.cons (.int .i64) (.int .i64)), false, [(0, 1), (1, 1)]⟩)]
def T : TT := lookT TL
theorem tokAll : AllT Tryd.prog TL := ⟨
  TOk.of Tryd.t3 (.int .i64 0) (by kernel_rfl) (by kernel_rfl) (by kernel_rfl) (by kernel_rfl) (by kernel_rfl) (by kernel_rfl) (fun fs h => nomatch h) (fun h => nomatch h),
  TOk.of Tryd.t4 (.bool false) (by kernel_rfl) (by kernel_rfl) (by kernel_rfl) (by kernel_rfl) (by kernel_rfl) (by kernel_rfl) (fun fs h => nomatch h) (fun h => nomatch h),
  TOk.of Tryd.t5 (.int .u8 0) (by kernel_rfl) (by kernel_rfl) (by kernel_rfl) (by kernel_rfl) (by kernel_rfl) (by kernel_rfl) (fun fs h => nomatch h) (fun h => nomatch h),
  TOk.of Tryd.t9 (.string ⟨#[]⟩) (by kernel_rfl) (by kernel_rfl) (by kernel_rfl) (by kernel_rfl) (by kernel_rfl) (by kernel_rfl) (fun fs h => nomatch h) (fun h => nomatch h),
  TOk.of Tryd.t20 (.nilIface) (by kernel_rfl) (by kernel_rfl) (by kernel_rfl) (by kernel_rfl) (by kernel_rfl) (by kernel_rfl) (fun fs h => nomatch h) (fun h => nomatch h),
  TOk.of Tryd.t21 (.int .i32 0) (by kernel_rfl) (by kernel_rfl) (by kernel_rfl) (by kernel_rfl) (by kernel_rfl) (by kernel_rfl) (fun fs h => nomatch h) (fun h => nomatch h),
  TOk.of Tryd.t22 (.slice none 0 0) (by kernel_rfl) (by kernel_rfl) (by kernel_rfl) (by kernel_rfl) (by kernel_rfl) (by kernel_rfl) (fun fs h => nomatch h) (fun h => nomatch h),
  TOk.of Tryd.t24 (.agg #[.string ⟨#[]⟩, .slice none 0 0]) (by kernel_rfl) (by kernel_rfl) (by kernel_rfl) (by kernel_rfl) (by kernel_rfl) (by kernel_rfl) (fun fs h => by cases h; kernel_rfl) (fun h => nomatch h),
  TOk.of Tryd.t25 (.slice none 0 0) (by kernel_rfl) (by kernel_rfl) (by kernel_rfl) (by kernel_rfl) (by kernel_rfl) (by kernel_rfl) (fun fs h => nomatch h) (fun h => nomatch h),
  TOk.of Tryd.t26 (.slice none 0 0) (by kernel_rfl) (by kernel_rfl) (by kernel_rfl) (by kernel_rfl) (by kernel_rfl) (by kernel_rfl) (fun fs h => nomatch h) (fun h => nomatch h),
  TOk.of Tryd.t28 (.agg #[.slice none 0 0, .slice none 0 0]) (by kernel_rfl) (by kernel_rfl) (by kernel_rfl) (by kernel_rfl) (by kernel_rfl) (by kernel_rfl) (fun fs h => by cases h; kernel_rfl) (fun h => nomatch h),
  TOk.of Tryd.t32 (.int .i64 0) (by kernel_rfl) (by kernel_rfl) (by kernel_rfl) (by kernel_rfl) (by kernel_rfl) (by kernel_rfl) (fun fs h => nomatch h) (fun h => nomatch h),
  TOk.of Tryd.t36 (.agg #[.string ⟨#[]⟩, .int .i64 0, .int .i64 0, .int .i64 0, .int .i64 0]) (by kernel_rfl) (by kernel_rfl) (by kernel_rfl) (by kernel_rfl) (by kernel_rfl) (by kernel_rfl) (fun fs h => by cases h; kernel_rfl) (eq_ok (fs := (Tryd.prog.fieldsOf 36)) rfl (by kernel_rfl) (by kernel_rfl) (by kernel_rfl) (by kernel_rfl)),
  TOk.of Tryd.t38 (.agg #[.int .i64 0, .int .i64 0, .int .i64 0, .int .i64 0, .int .i64 0, .string ⟨#[]⟩, .int .i64 0]) (by kernel_rfl) (by kernel_rfl) (by kernel_rfl) (by kernel_rfl) (by kernel_rfl) (by kernel_rfl) (fun fs h => by cases h; kernel_rfl) (fun h => nomatch h),
  TOk.of Tryd.t40 (.agg #[.int .i64 0, .int .i64 0, .int .i64 0, .int .i64 0, .int .i64 0, .int .i64 0, .int .i64 0, .string ⟨#[]⟩, .int .i64 0]) (by kernel_rfl) (by kernel_rfl) (by kernel_rfl) (by kernel_rfl) (by kernel_rfl) (by kernel_rfl) (fun fs h => by cases h; kernel_rfl) (fun h => nomatch h),
  TOk.of Tryd.t49 (.slice none 0 0) (by kernel_rfl) (by kernel_rfl) (by kernel_rfl) (by kernel_rfl) (by kernel_rfl) (by kernel_rfl) (fun fs h => nomatch h) (fun h => nomatch h),
  TOk.of Tryd.t50 (.slice none 0 0) (by kernel_rfl) (by kernel_rfl) (by kernel_rfl) (by kernel_rfl) (by kernel_rfl) (by kernel_rfl) (fun fs h => nomatch h) (fun h => nomatch h),
  TOk.of Tryd.t52 (.agg #[.string ⟨#[]⟩, .string ⟨#[]⟩, .slice none 0 0, .slice none 0 0]) (by kernel_rfl) (by kernel_rfl) (by kernel_rfl) (by kernel_rfl) (by kernel_rfl) (by kernel_rfl) (fun fs h => by cases h; kernel_rfl) (fun h => nomatch h),
  TOk.of Tryd.t53 (.agg #[.bool false, .bool false, .bool false, .bool false, .bool false, .bool false]) (by kernel_rfl) (by kernel_rfl) (by kernel_rfl) (by kernel_rfl) (by kernel_rfl) (by kernel_rfl) (fun fs h => nomatch h) (fun h => nomatch h),
  TOk.of Tryd.t57 (.agg #[.string ⟨#[]⟩, .int .i64 0, .int .i64 0, .int .i64 0, .int .i64 0, .int .i64 0, .int .i64 0, .bool false, .string ⟨#[]⟩, .int .i64 0, .int .i64 0, .int .i64 0, .int .i64 0]) (by kernel_rfl) (by kernel_rfl) (by kernel_rfl) (by kernel_rfl) (by kernel_rfl) (by kernel_rfl) (fun fs h => by cases h; kernel_rfl) (eq_ok (fs := (Tryd.prog.fieldsOf 57)) rfl (by kernel_rfl) (by kernel_rfl) (by kernel_rfl) (by kernel_rfl)),
  TOk.of Tryd.t63 (.agg #[.int .i64 0, .string ⟨#[]⟩, .int .i64 0, .int .i64 0]) (by kernel_rfl) (by kernel_rfl) (by kernel_rfl) (by kernel_rfl) (by kernel_rfl) (by kernel_rfl) (fun fs h => by cases h; kernel_rfl) (fun h => nomatch h),
  TOk.of Tryd.t65 (.slice none 0 0) (by kernel_rfl) (by kernel_rfl) (by kernel_rfl) (by kernel_rfl) (by kernel_rfl) (by kernel_rfl) (fun fs h => nomatch h) (fun h => nomatch h),
  TOk.of Tryd.t71 (.pointer none) (by kernel_rfl) (by kernel_rfl) (by kernel_rfl) (by kernel_rfl) (by kernel_rfl) (by kernel_rfl) (fun fs h => nomatch h) (fun h => nomatch h),
  TOk.of Tryd.t73 (.agg #[.slice none 0 0, .int .i64 0, .bool false]) (by kernel_rfl) (by kernel_rfl) (by kernel_rfl) (by kernel_rfl) (by kernel_rfl) (by kernel_rfl) (fun fs h => by cases h; kernel_rfl) (fun h => nomatch h),
  TOk.of Tryd.t78 (.nilFunc) (by kernel_rfl) (by kernel_rfl) (by kernel_rfl) (by kernel_rfl) (by kernel_rfl) (by kernel_rfl) (fun fs h => nomatch h) (fun h => nomatch h),
  TOk.of Tryd.t82 (.pointer none) (by kernel_rfl) (by kernel_rfl) (by kernel_rfl) (by kernel_rfl) (by kernel_rfl) (by kernel_rfl) (fun fs h => nomatch h) (fun h => nomatch h),
  TOk.of Tryd.t83 (.slice none 0 0) (by kernel_rfl) (by kernel_rfl) (by kernel_rfl) (by kernel_rfl) (by kernel_rfl) (by kernel_rfl) (fun fs h => nomatch h) (fun h => nomatch h),
  TOk.of Tryd.t85 (.agg #[.pointer none, .slice none 0 0]) (by kernel_rfl) (by kernel_rfl) (by kernel_rfl) (by kernel_rfl) (by kernel_rfl) (by kernel_rfl) (fun fs h => by cases h; kernel_rfl) (fun h => nomatch h),
  TOk.of Tryd.t89 (.nilIface) (by kernel_rfl) (by kernel_rfl) (by kernel_rfl) (by kernel_rfl) (by kernel_rfl) (by kernel_rfl) (fun fs h => nomatch h) (fun h => nomatch h),
  TOk.of Tryd.t100 (.slice none 0 0) (by kernel_rfl) (by kernel_rfl) (by kernel_rfl) (by kernel_rfl) (by kernel_rfl) (by kernel_rfl) (fun fs h => nomatch h) (fun h => nomatch h),
  TOk.of Tryd.t102 (.int .i64 0) (by kernel_rfl) (by kernel_rfl) (by kernel_rfl) (by kernel_rfl) (by kernel_rfl) (by kernel_rfl) (fun fs h => nomatch h) (fun h => nomatch h),
  TOk.of Tryd.t103 (.int .i64 0) (by kernel_rfl) (by kernel_rfl) (by kernel_rfl) (by kernel_rfl) (by kernel_rfl) (by kernel_rfl) (fun fs h => nomatch h) (fun h => nomatch h),
  TOk.of Tryd.t104 (.agg #[.string ⟨#[]⟩, .int .i64 0, .int .i64 0, .int .i64 0, .int .i64 0]) (by kernel_rfl) (by kernel_rfl) (by kernel_rfl) (by kernel_rfl) (by kernel_rfl) (by kernel_rfl) (fun fs h => by cases h; kernel_rfl) (fun h => nomatch h),
  TOk.of Tryd.t110 (.pointer none) (by kernel_rfl) (by kernel_rfl) (by kernel_rfl) (by kernel_rfl) (by kernel_rfl) (by kernel_rfl) (fun fs h => nomatch h) (fun h => nomatch h),
  TOk.of Tryd.t151 (.slice none 0 0) (by kernel_rfl) (by kernel_rfl) (by kernel_rfl) (by kernel_rfl) (by kernel_rfl) (by kernel_rfl) (fun fs h => nomatch h) (fun h => nomatch h),
  TOk.of Tryd.t153 (.agg #[.string ⟨#[]⟩, .int .i64 0, .int .i64 0, .slice none 0 0]) (by kernel_rfl) (by kernel_rfl) (by kernel_rfl) (by kernel_rfl) (by kernel_rfl) (by kernel_rfl) (fun fs h => by cases h; kernel_rfl) (fun h => nomatch h),
  TOk.of Tryd.t155 (.agg #[.string ⟨#[]⟩, .int .i64 0]) (by kernel_rfl) (by kernel_rfl) (by kernel_rfl) (by kernel_rfl) (by kernel_rfl) (by kernel_rfl) (fun fs h => by cases h; kernel_rfl) (fun h => nomatch h),
  TOk.of Tryd.t156 (.slice none 0 0) (by kernel_rfl) (by kernel_rfl) (by kernel_rfl) (by kernel_rfl) (by kernel_rfl) (by kernel_rfl) (fun fs h => nomatch h) (fun h => nomatch h),
  TOk.of Tryd.t157 (.slice none 0 0) (by kernel_rfl) (by kernel_rfl) (by kernel_rfl) (by kernel_rfl) (by kernel_rfl) (by kernel_rfl) (fun fs h => nomatch h) (fun h => nomatch h),
  TOk.of Tryd.t159 (.agg #[.int .i64 0, .int .i64 0, .string ⟨#[]⟩, .bool false, .slice none 0 0]) (by kernel_rfl) (by kernel_rfl) (by kernel_rfl) (by kernel_rfl) (by kernel_rfl) (by kernel_rfl) (fun fs h => by cases h; kernel_rfl) (fun h => nomatch h),
  TOk.of Tryd.t161 (.agg #[.string ⟨#[]⟩, .slice none 0 0, .bool false, .int .i64 0, .int .i64 0, .string ⟨#[]⟩, .bool false, .slice none 0 0]) (by kernel_rfl) (by kernel_rfl) (by kernel_rfl) (by kernel_rfl) (by kernel_rfl) (by kernel_rfl) (fun fs h => by cases h; kernel_rfl) (fun h => nomatch h),
  TOk.of Tryd.t163 (.agg #[.int .i64 0, .int .i64 0]) (by kernel_rfl) (by kernel_rfl) (by kernel_rfl) (by kernel_rfl) (by kernel_rfl) (by kernel_rfl) (fun fs h => by cases h; kernel_rfl) (fun h => nomatch h),
  trivial⟩
theorem tok : TOK Tryd.prog T := tok_of tokAll
theorem mixed : Tryd.prog.follows .mixedOrders = true := by kernel_rfl
end
end Go.Proofs.YtgpgpelaabdkhaaDoor
end

section
/-
YtgpgpelaabdkhaaDoor: signalbench.lex.letter, as one plain function, its equations, its contract. No condition.
-/
set_option maxRecDepth 100000
set_option linter.unusedVariables false
set_option maxHeartbeats 4000000
open Go Go.AM
namespace Go.Proofs.YtgpgpelaabdkhaaDoor
noncomputable section
def lex_letter_D : FD := ⟨T, lookC [], [], (Tryd.f61.body.getD .skip), Tryd.f61.results.toList, ⟨[.one (.int .i32)], []⟩, ⟨[.one .bool], []⟩, []⟩
def lex_letter (c : Int) : (Option ((Bool × Unit) × Unit)) :=
  if (decide ((97 : Int) ≤ c)) = true then
    some ((decide (c ≤ 122), ()), ())
  else
    some ((false, ()), ())
def fc61 : FC := ⟨⟨[.one (.int .i32)], []⟩, ⟨[.one .bool], []⟩, fun x => lex_letter x.1.1⟩
theorem con61 : Contract Tryd.prog 61 fc61 :=
  lex_letter_D.contract tok (cok_of (l := []) trivial) mixed (fn' := Tryd.f61) (by kernel_rfl) (by kernel_rfl) rfl (by kernel_rfl) (fun x => (FD.fn_eq _ _).trans (by kernel_rfl))
end
end Go.Proofs.YtgpgpelaabdkhaaDoor
end

section
/-
YtgpgpelaabdkhaaDoor: signalbench.lex.digit, as one plain function, its equations, its contract. No condition.
-/
set_option maxRecDepth 100000
set_option linter.unusedVariables false
set_option maxHeartbeats 4000000
open Go Go.AM
namespace Go.Proofs.YtgpgpelaabdkhaaDoor
noncomputable section
def lex_digit_D : FD := ⟨T, lookC [], [], (Tryd.f70.body.getD .skip), Tryd.f70.results.toList, ⟨[.one (.int .i32)], []⟩, ⟨[.one .bool], []⟩, []⟩
def lex_digit (c : Int) : (Option ((Bool × Unit) × Unit)) :=
  if (decide ((48 : Int) ≤ c)) = true then
    some ((decide (c ≤ 57), ()), ())
  else
    some ((false, ()), ())
def fc70 : FC := ⟨⟨[.one (.int .i32)], []⟩, ⟨[.one .bool], []⟩, fun x => lex_digit x.1.1⟩
theorem con70 : Contract Tryd.prog 70 fc70 :=
  lex_digit_D.contract tok (cok_of (l := []) trivial) mixed (fn' := Tryd.f70) (by kernel_rfl) (by kernel_rfl) rfl (by kernel_rfl) (fun x => (FD.fn_eq _ _).trans (by kernel_rfl))
end
end Go.Proofs.YtgpgpelaabdkhaaDoor
end

section
/-
YtgpgpelaabdkhaaDoor: signalbench.lex.word, as one plain function, its equations, its contract. No condition.
-/
set_option maxRecDepth 100000
set_option linter.unusedVariables false
set_option maxHeartbeats 4000000
open Go Go.AM
namespace Go.Proofs.YtgpgpelaabdkhaaDoor
noncomputable section
def lex_word_D : FD := ⟨T, lookC [(61, fc61), (70, fc70)], [], (Tryd.f62.body.getD .skip), Tryd.f62.results.toList, ⟨[.one (.int .i32)], []⟩, ⟨[.one .bool], []⟩, []⟩
def lex_word (c : Int) : (Option ((Bool × Unit) × Unit)) :=
  (lex_letter c).bind fun y1 =>
    if y1.1.1 = true then
      some ((true, ()), ())
    else
      (lex_digit c).bind fun y2 =>
        if y2.1.1 = true then
          some ((true, ()), ())
        else
          some ((c == 95, ()), ())
def fc62 : FC := ⟨⟨[.one (.int .i32)], []⟩, ⟨[.one .bool], []⟩, fun x => lex_word x.1.1⟩
theorem con62 : Contract Tryd.prog 62 fc62 :=
  lex_word_D.contract tok (cok_of (l := [(61, fc61), (70, fc70)]) ⟨con61, con70, trivial⟩) mixed (fn' := Tryd.f62) (by kernel_rfl) (by kernel_rfl) rfl (by kernel_rfl) (fun x => (FD.fn_eq _ _).trans (by kernel_rfl))
end
end Go.Proofs.YtgpgpelaabdkhaaDoor
end

section
/-
YtgpgpelaabdkhaaDoor: signalbench.lex.Name, as one plain function, its equations, its contract. No condition.
-/
set_option maxRecDepth 100000
set_option linter.unusedVariables false
set_option maxHeartbeats 4000000
open Go Go.AM
namespace Go.Proofs.YtgpgpelaabdkhaaDoor
noncomputable section
def lex_Name_F6 : FSh := ⟨[(0, .one .str), (19, .one (.int .i64)), (20, .one (.int .i64))], []⟩
def lex_Name_D : FD := ⟨T, lookC [(61, fc61), (62, fc62)], [], (Tryd.f40.body.getD .skip), Tryd.f40.results.toList, ⟨[.one .str], []⟩, ⟨[.one .bool], []⟩, [(6, lex_Name_F6)]⟩
def lex_Name_l6 (s : ByteArray) (t19 : Int) (t20 : Int) : (Option ((Bool × Unit) × Unit)) := lex_Name_D.lab 6 lex_Name_F6 ((s, t19, t20, ()), ())
theorem lex_Name_l6_eq (s : ByteArray) (t19 : Int) (t20 : Int) : lex_Name_l6 s t19 t20 =
  if (decide (t20 < t19)) = true then
    if 0 ≤ t20 ∧ t20 < (s.size : Int) then
      (lex_word (IntKind.i32.wrap (bt s t20))).bind fun y1 =>
        if (!y1.1.1) = true then
          some ((false, ()), ())
        else
          lex_Name_l6 s t19 (IntKind.i64.wrap (t20 + 1))
    else
      none
  else
    some ((true, ()), ()) := (FD.lab_eq _ _ _ _).trans (by kernel_rfl)
def lex_Name (s : ByteArray) : (Option ((Bool × Unit) × Unit)) :=
  if (s.toList == (strB []).toList) = true then
    some ((false, ()), ())
  else
    if (decide ((s.size : Int) > 16)) = true then
      some ((false, ()), ())
    else
      if 0 ≤ (0 : Int) ∧ 0 < (s.size : Int) then
        (lex_letter (IntKind.i32.wrap (bt s 0))).bind fun y1 =>
          if (!y1.1.1) = true then
            some ((false, ()), ())
          else
            lex_Name_l6 s (s.size : Int) 0
      else
        none
def fc40 : FC := ⟨⟨[.one .str], []⟩, ⟨[.one .bool], []⟩, fun x => lex_Name x.1.1⟩
theorem con40 : Contract Tryd.prog 40 fc40 :=
  lex_Name_D.contract tok (cok_of (l := [(61, fc61), (62, fc62)]) ⟨con61, con62, trivial⟩) mixed (fn' := Tryd.f40) (by kernel_rfl) (by kernel_rfl) rfl (by kernel_rfl) (fun x => (FD.fn_eq _ _).trans (by kernel_rfl))
end
end Go.Proofs.YtgpgpelaabdkhaaDoor
end

section
/-
YtgpgpelaabdkhaaDoor: signalbench.trig.wrongCond, as one plain function, its equations, its contract. No condition.
-/
set_option maxRecDepth 100000
set_option linter.unusedVariables false
set_option maxHeartbeats 4000000
open Go Go.AM
namespace Go.Proofs.YtgpgpelaabdkhaaDoor
noncomputable section
def trig_wrongCond_F4 : FSh := ⟨[(1, .one (.ptr 0 0)), (8, .one .bool)], [.boxr 36 (.cons .str (.cons (.int .i64) (.cons (.int .i64) (.cons (.int .i64) (.int .i64)))))]⟩
def trig_wrongCond_F6 : FSh := ⟨[(1, .one (.ptr 0 0)), (27, .one .bool)], [.boxr 36 (.cons .str (.cons (.int .i64) (.cons (.int .i64) (.cons (.int .i64) (.int .i64)))))]⟩
def trig_wrongCond_F8 : FSh := ⟨[(1, .one (.ptr 0 0)), (41, .one .bool)], [.boxr 36 (.cons .str (.cons (.int .i64) (.cons (.int .i64) (.cons (.int .i64) (.int .i64)))))]⟩
def trig_wrongCond_F10 : FSh := ⟨[(55, .one .bool)], []⟩
def trig_wrongCond_D : FD := ⟨T, lookC [(40, fc40)], [4, 6, 8, 10], (Tryd.f25.body.getD .skip), Tryd.f25.results.toList, ⟨[.row (.cons .str (.cons (.int .i64) (.cons (.int .i64) (.cons (.int .i64) (.int .i64)))))], []⟩, ⟨[.one (.int .i64)], []⟩, [(4, trig_wrongCond_F4), (6, trig_wrongCond_F6), (8, trig_wrongCond_F8), (10, trig_wrongCond_F10)]⟩
def trig_wrongCond_l4 (t8 : Bool) (h0 : TCond) : (Option ((Int × Unit) × Unit)) := trig_wrongCond_D.lab 4 trig_wrongCond_F4 (((), t8, ()), (h0, ()))
def trig_wrongCond_l6 (t27 : Bool) (h0 : TCond) : (Option ((Int × Unit) × Unit)) := trig_wrongCond_D.lab 6 trig_wrongCond_F6 (((), t27, ()), (h0, ()))
def trig_wrongCond_l8 (t41 : Bool) (h0 : TCond) : (Option ((Int × Unit) × Unit)) := trig_wrongCond_D.lab 8 trig_wrongCond_F8 (((), t41, ()), (h0, ()))
def trig_wrongCond_l10 (t55 : Bool) : (Option ((Int × Unit) × Unit)) := trig_wrongCond_D.lab 10 trig_wrongCond_F10 ((t55, ()), ())
theorem trig_wrongCond_l4_eq (t8 : Bool) (h0 : TCond) : trig_wrongCond_l4 t8 h0 =
  if t8 = true then
    some ((1, ()), ())
  else
    if (h0.2.2.2.1 == 0) = true then
      if (h0.2.2.1 != 0) = true then
        trig_wrongCond_l6 true h0
      else
        trig_wrongCond_l6 (h0.2.2.2.2 != 0) h0
    else
      trig_wrongCond_l6 false h0 := (FD.lab_eq _ _ _ _).trans (by kernel_rfl)
theorem trig_wrongCond_l6_eq (t27 : Bool) (h0 : TCond) : trig_wrongCond_l6 t27 h0 =
  if t27 = true then
    some ((1, ()), ())
  else
    if (h0.2.2.2.1 != 0) = true then
      if (decide (h0.2.2.1 < 1)) = true then
        trig_wrongCond_l8 true h0
      else
        trig_wrongCond_l8 (decide (h0.2.2.1 > 6)) h0
    else
      trig_wrongCond_l8 false h0 := (FD.lab_eq _ _ _ _).trans (by kernel_rfl)
theorem trig_wrongCond_l8_eq (t41 : Bool) (h0 : TCond) : trig_wrongCond_l8 t41 h0 =
  if t41 = true then
    some ((1, ()), ())
  else
    if (decide (h0.2.2.2.2 < (-9007199254740992))) = true then
      trig_wrongCond_l10 true
    else
      trig_wrongCond_l10 (decide (h0.2.2.2.2 > 9007199254740992)) := by obtain ⟨n, k, f, o, v⟩ := h0; cases v <;> exact (FD.lab_eq _ _ _ _).trans (by kernel_rfl)
theorem trig_wrongCond_l10_eq (t55 : Bool) : trig_wrongCond_l10 t55 =
  if t55 = true then
    some ((2, ()), ())
  else
    some ((0, ()), ()) := (FD.lab_eq _ _ _ _).trans (by kernel_rfl)
def trig_wrongCond (c : TCond) : (Option ((Int × Unit) × Unit)) :=
  (lex_Name c.1).bind fun y1 =>
    if (!y1.1.1) = true then
      some ((4, ()), ())
    else
      if (decide (c.2.1 < 0)) = true then
        trig_wrongCond_l4 true c
      else
        if (decide (c.2.1 > 8)) = true then
          trig_wrongCond_l4 true c
        else
          if (decide (c.2.2.2.1 < 0)) = true then
            trig_wrongCond_l4 true c
          else
            trig_wrongCond_l4 (decide (c.2.2.2.1 > 5)) c
def fc25 : FC := ⟨⟨[.row (.cons .str (.cons (.int .i64) (.cons (.int .i64) (.cons (.int .i64) (.int .i64)))))], []⟩, ⟨[.one (.int .i64)], []⟩, fun x => trig_wrongCond x.1.1⟩
theorem con25 : Contract Tryd.prog 25 fc25 :=
  trig_wrongCond_D.contract tok (cok_of (l := [(40, fc40)]) ⟨con40, trivial⟩) mixed (fn' := Tryd.f25) (by kernel_rfl) (by kernel_rfl) rfl (by kernel_rfl) (fun x => (FD.fn_eq _ _).trans (by kernel_rfl))
end
end Go.Proofs.YtgpgpelaabdkhaaDoor
end

section
/-
YtgpgpelaabdkhaaDoor: signalbench.trig.wrongStep, as one plain function, its equations, its contract. No condition.
-/
set_option maxRecDepth 100000
set_option linter.unusedVariables false
set_option maxHeartbeats 4000000
open Go Go.AM
namespace Go.Proofs.YtgpgpelaabdkhaaDoor
noncomputable section
def trig_wrongStep_D : FD := ⟨T, lookC [(25, fc25)], [], (Tryd.f41.body.getD .skip), Tryd.f41.results.toList, ⟨[.row (.cons (.cons .str (.cons (.int .i64) (.cons (.int .i64) (.cons (.int .i64) (.int .i64))))) (.cons (.int .i64) (.cons (.int .i64) (.cons .bool (.cons .str (.cons (.int .i64) (.cons (.int .i64) (.cons (.int .i64) (.int .i64)))))))))], []⟩, ⟨[.one (.int .i64)], []⟩, []⟩
def trig_wrongStep (x0 : TTrigStep) : (Option ((Int × Unit) × Unit)) :=
  if (decide (x0.2.1 < 1)) = true then
    some ((1, ()), ())
  else
    if (decide (x0.2.2.1 < 0)) = true then
      some ((1, ()), ())
    else
      if (decide (x0.2.2.1 > 1099511627776)) = true then
        some ((1, ()), ())
      else
        (trig_wrongCond x0.1).bind fun y1 =>
          if (y1.1.1 != 0) = true then
            some ((y1.1.1, ()), ())
          else
            if x0.2.2.2.1 = true then
              (trig_wrongCond x0.2.2.2.2).bind fun y2 =>
                some ((y2.1.1, ()), ())
            else
              if (!(eqU uCond x0.2.2.2.2 ((strB []), 0, 0, 0, 0))) = true then
                some ((1, ()), ())
              else
                some ((0, ()), ())
def fc41 : FC := ⟨⟨[.row (.cons (.cons .str (.cons (.int .i64) (.cons (.int .i64) (.cons (.int .i64) (.int .i64))))) (.cons (.int .i64) (.cons (.int .i64) (.cons .bool (.cons .str (.cons (.int .i64) (.cons (.int .i64) (.cons (.int .i64) (.int .i64)))))))))], []⟩, ⟨[.one (.int .i64)], []⟩, fun x => trig_wrongStep x.1.1⟩
theorem con41 : Contract Tryd.prog 41 fc41 :=
  trig_wrongStep_D.contract tok (cok_of (l := [(25, fc25)]) ⟨con25, trivial⟩) mixed (fn' := Tryd.f41) (by kernel_rfl) (by kernel_rfl) rfl (by kernel_rfl) (fun x => (FD.fn_eq _ _).trans (by kernel_rfl))
end
end Go.Proofs.YtgpgpelaabdkhaaDoor
end

section
/-
YtgpgpelaabdkhaaDoor: signalbench.trig.wrong, as one plain function, its equations, its contract. No condition.
-/
set_option maxRecDepth 100000
set_option linter.unusedVariables false
set_option maxHeartbeats 4000000
open Go Go.AM
namespace Go.Proofs.YtgpgpelaabdkhaaDoor
noncomputable section
def trig_wrong_F10 : FSh := ⟨[(1, .one (.ptr 0 0)), (25, .one (.sl (.cons (.cons .str (.cons (.int .i64) (.cons (.int .i64) (.cons (.int .i64) (.int .i64))))) (.cons (.int .i64) (.cons (.int .i64) (.cons .bool (.cons .str (.cons (.int .i64) (.cons (.int .i64) (.cons (.int .i64) (.int .i64))))))))))), (26, .one (.int .i64)), (27, .one (.int .i64))], [.boxr 24 (.cons .str (.sl (.cons (.cons .str (.cons (.int .i64) (.cons (.int .i64) (.cons (.int .i64) (.int .i64))))) (.cons (.int .i64) (.cons (.int .i64) (.cons .bool (.cons .str (.cons (.int .i64) (.cons (.int .i64) (.cons (.int .i64) (.int .i64)))))))))))]⟩
def trig_wrong_F21 : FSh := ⟨[(6, .one (.int .i64)), (38, .one (.sl (.cons (.cons .str (.cons (.int .i64) (.cons (.int .i64) (.cons (.int .i64) (.int .i64))))) (.cons (.int .i64) (.cons (.int .i64) (.cons .bool (.cons .str (.cons (.int .i64) (.cons (.int .i64) (.cons (.int .i64) (.int .i64))))))))))), (39, .one (.int .i64)), (40, .one (.int .i64))], []⟩
def trig_wrong_D : FD := ⟨T, lookC [(40, fc40), (41, fc41)], [], (Tryd.f21.body.getD .skip), Tryd.f21.results.toList, ⟨[.row (.cons .str (.sl (.cons (.cons .str (.cons (.int .i64) (.cons (.int .i64) (.cons (.int .i64) (.int .i64))))) (.cons (.int .i64) (.cons (.int .i64) (.cons .bool (.cons .str (.cons (.int .i64) (.cons (.int .i64) (.cons (.int .i64) (.int .i64)))))))))))], []⟩, ⟨[.one (.int .i64)], []⟩, [(10, trig_wrong_F10), (21, trig_wrong_F21)]⟩
def trig_wrong_l10 (t25 : (List TTrigStep)) (t26 : Int) (t27 : Int) (h0 : TTrigger) : (Option ((Int × Unit) × Unit)) := trig_wrong_D.lab 10 trig_wrong_F10 (((), t25, t26, t27, ()), (h0, ()))
def trig_wrong_l21 (left : Int) (t38 : (List TTrigStep)) (t39 : Int) (t40 : Int) : (Option ((Int × Unit) × Unit)) := trig_wrong_D.lab 21 trig_wrong_F21 ((left, t38, t39, t40, ()), ())
theorem trig_wrong_l10_eq (t25 : (List TTrigStep)) (t26 : Int) (t27 : Int) (h0 : TTrigger) : trig_wrong_l10 t25 t26 t27 h0 =
  if (decide (t27 < t26)) = true then
    if 0 ≤ t27 ∧ t27 < (t25.length : Int) then
      (trig_wrongStep (t25.getD t27.toNat dTrigStep)).bind fun y1 =>
        if (y1.1.1 != 0) = true then
          some ((y1.1.1, ()), ())
        else
          trig_wrong_l10 t25 t26 (IntKind.i64.wrap (t27 + 1)) h0
    else
      none
  else
    trig_wrong_l21 32 h0.2 (h0.2.length : Int) 0 := (FD.lab_eq _ _ _ _).trans (by kernel_rfl)
theorem trig_wrong_l21_eq (left : Int) (t38 : (List TTrigStep)) (t39 : Int) (t40 : Int) : trig_wrong_l21 left t38 t39 t40 =
  if (decide (t40 < t39)) = true then
    if 0 ≤ t40 ∧ t40 < (t38.length : Int) then
      if (decide ((t38.getD t40.toNat dTrigStep).2.1 > left)) = true then
        some ((6, ()), ())
      else
        trig_wrong_l21 (IntKind.i64.wrap (left - (t38.getD t40.toNat dTrigStep).2.1)) t38 t39 (IntKind.i64.wrap (t40 + 1))
    else
      none
  else
    some ((0, ()), ()) := (FD.lab_eq _ _ _ _).trans (by kernel_rfl)
def trig_wrong (t : TTrigger) : (Option ((Int × Unit) × Unit)) :=
  (lex_Name t.1).bind fun y1 =>
    if (!y1.1.1) = true then
      some ((4, ()), ())
    else
      if ((t.2.length : Int) == 0) = true then
        some ((1, ()), ())
      else
        if (decide ((t.2.length : Int) > 32)) = true then
          some ((6, ()), ())
        else
          trig_wrong_l10 t.2 (t.2.length : Int) 0 t
def fc21 : FC := ⟨⟨[.row (.cons .str (.sl (.cons (.cons .str (.cons (.int .i64) (.cons (.int .i64) (.cons (.int .i64) (.int .i64))))) (.cons (.int .i64) (.cons (.int .i64) (.cons .bool (.cons .str (.cons (.int .i64) (.cons (.int .i64) (.cons (.int .i64) (.int .i64)))))))))))], []⟩, ⟨[.one (.int .i64)], []⟩, fun x => trig_wrong x.1.1⟩
theorem con21 : Contract Tryd.prog 21 fc21 :=
  trig_wrong_D.contract tok (cok_of (l := [(40, fc40), (41, fc41)]) ⟨con40, con41, trivial⟩) mixed (fn' := Tryd.f21) (by kernel_rfl) (by kernel_rfl) rfl (by kernel_rfl) (fun x => (FD.fn_eq _ _).trans (by kernel_rfl))
end
end Go.Proofs.YtgpgpelaabdkhaaDoor
end

section
/-
YtgpgpelaabdkhaaDoor: signalbench.stackdef.Find$1, as one plain function, its equations, its contract. No condition.
-/
set_option maxRecDepth 100000
set_option linter.unusedVariables false
set_option maxHeartbeats 4000000
open Go Go.AM
namespace Go.Proofs.YtgpgpelaabdkhaaDoor
noncomputable section
def stackdef_Find_1_D : FD := ⟨T, lookC [], [], (Tryd.f43.body.getD .skip), Tryd.f43.results.toList, ⟨[.row (.cons .str (.cons .str (.cons (.sl .str) (.sl (.cons .str (.int .i64)))))), .one (.ptr 0 0)], [.box 9 [.str]]⟩, ⟨[.one .bool], [.box 9 [.str]]⟩, []⟩
def stackdef_Find_1 (n : TNode) (h0_0 : ByteArray) : (Option ((Bool × Unit) × ((ByteArray × Unit) × Unit))) :=
  some ((n.1.toList == h0_0.toList, ()), ((h0_0, ()), ()))
def fc43 : FC := ⟨⟨[.row (.cons .str (.cons .str (.cons (.sl .str) (.sl (.cons .str (.int .i64)))))), .one (.ptr 0 0)], [.box 9 [.str]]⟩, ⟨[.one .bool], [.box 9 [.str]]⟩, fun x => stackdef_Find_1 x.1.1 x.2.1.1⟩
theorem con43 : Contract Tryd.prog 43 fc43 :=
  stackdef_Find_1_D.contract tok (cok_of (l := []) trivial) mixed (fn' := Tryd.f43) (by kernel_rfl) (by kernel_rfl) rfl (by kernel_rfl) (fun x => (FD.fn_eq _ _).trans (by kernel_rfl))
end
end Go.Proofs.YtgpgpelaabdkhaaDoor
end

section
/-
YtgpgpelaabdkhaaDoor: slices.IndexFunc[[]signalbench.api.Node,signalbench.api.Node], as one plain function, its equations, its contract. No condition.
-/
set_option maxRecDepth 100000
set_option linter.unusedVariables false
set_option maxHeartbeats 4000000
open Go Go.AM
namespace Go.Proofs.YtgpgpelaabdkhaaDoor
noncomputable section
def api_Node_F3 : FSh := ⟨[(0, .one (.sl (.cons .str (.cons .str (.cons (.sl .str) (.sl (.cons .str (.int .i64)))))))), (1, .one (.fn 43 [0])), (7, .one (.int .i64)), (8, .one (.int .i64))], [.box 9 [.str]]⟩
def api_Node_D : FD := ⟨T, lookC [(43, fc43)], [], (Tryd.f42.body.getD .skip), Tryd.f42.results.toList, ⟨[.one (.sl (.cons .str (.cons .str (.cons (.sl .str) (.sl (.cons .str (.int .i64))))))), .one (.fn 43 [0])], [.box 9 [.str]]⟩, ⟨[.one (.int .i64)], [.box 9 [.str]]⟩, [(3, api_Node_F3)]⟩
def api_Node_l3 (s : (List TNode)) (t7 : Int) (t8 : Int) (h0_0 : ByteArray) : (Option ((Int × Unit) × ((ByteArray × Unit) × Unit))) := api_Node_D.lab 3 api_Node_F3 ((s, (), t7, t8, ()), ((h0_0, ()), ()))
theorem api_Node_l3_eq (s : (List TNode)) (t7 : Int) (t8 : Int) (h0_0 : ByteArray) : api_Node_l3 s t7 t8 h0_0 =
  if (decide (t8 < t7)) = true then
    if 0 ≤ t8 ∧ t8 < (s.length : Int) then
      (stackdef_Find_1 (s.getD t8.toNat dNode) h0_0).bind fun y1 =>
        if y1.1.1 = true then
          some ((t8, ()), ((y1.2.1.1, ()), ()))
        else
          api_Node_l3 s t7 (IntKind.i64.wrap (t8 + 1)) y1.2.1.1
    else
      none
  else
    some (((-1), ()), ((h0_0, ()), ())) := (FD.lab_eq _ _ _ _).trans (by kernel_rfl)
def api_Node (s : (List TNode)) (h0_0 : ByteArray) : (Option ((Int × Unit) × ((ByteArray × Unit) × Unit))) :=
  api_Node_l3 s (s.length : Int) 0 h0_0
def fc42 : FC := ⟨⟨[.one (.sl (.cons .str (.cons .str (.cons (.sl .str) (.sl (.cons .str (.int .i64))))))), .one (.fn 43 [0])], [.box 9 [.str]]⟩, ⟨[.one (.int .i64)], [.box 9 [.str]]⟩, fun x => api_Node x.1.1 x.2.1.1⟩
theorem con42 : Contract Tryd.prog 42 fc42 :=
  api_Node_D.contract tok (cok_of (l := [(43, fc43)]) ⟨con43, trivial⟩) mixed (fn' := Tryd.f42) (by kernel_rfl) (by kernel_rfl) rfl (by kernel_rfl) (fun x => (FD.fn_eq _ _).trans (by kernel_rfl))
end
end Go.Proofs.YtgpgpelaabdkhaaDoor
end

section
/-
YtgpgpelaabdkhaaDoor: signalbench.stackdef.Find, as one plain function, its equations, its contract. No condition.
-/
set_option maxRecDepth 100000
set_option linter.unusedVariables false
set_option maxHeartbeats 4000000
open Go Go.AM
namespace Go.Proofs.YtgpgpelaabdkhaaDoor
noncomputable section
def stackdef_Find_D : FD := ⟨T, lookC [(42, fc42), (43, fc43)], [], (Tryd.f22.body.getD .skip), Tryd.f22.results.toList, ⟨[.row (.cons (.sl (.cons .str (.cons (.int .i64) (.cons (.int .i64) (.sl (.cons .str (.cons (.sl (.cons (.int .i64) (.cons (.int .i64) (.cons .str (.cons .bool (.sl (.cons (.int .i64) (.int .i64)))))))) (.cons .bool (.cons (.int .i64) (.cons (.int .i64) (.cons .str (.cons .bool (.sl (.cons (.int .i64) (.int .i64))))))))))))))) (.sl (.cons .str (.cons .str (.cons (.sl .str) (.sl (.cons .str (.int .i64)))))))), .one .str], []⟩, ⟨[.one (.int .i64)], []⟩, []⟩
def stackdef_Find (st : TStack) (name : ByteArray) : (Option ((Int × Unit) × Unit)) :=
  (api_Node st.2 name).bind fun y1 =>
    some ((y1.1.1, ()), ())
def fc22 : FC := ⟨⟨[.row (.cons (.sl (.cons .str (.cons (.int .i64) (.cons (.int .i64) (.sl (.cons .str (.cons (.sl (.cons (.int .i64) (.cons (.int .i64) (.cons .str (.cons .bool (.sl (.cons (.int .i64) (.int .i64)))))))) (.cons .bool (.cons (.int .i64) (.cons (.int .i64) (.cons .str (.cons .bool (.sl (.cons (.int .i64) (.int .i64))))))))))))))) (.sl (.cons .str (.cons .str (.cons (.sl .str) (.sl (.cons .str (.int .i64)))))))), .one .str], []⟩, ⟨[.one (.int .i64)], []⟩, fun x => stackdef_Find x.1.1 x.1.2.1⟩
theorem con22 : Contract Tryd.prog 22 fc22 :=
  stackdef_Find_D.contract tok (cok_of (l := [(42, fc42), (43, fc43)]) ⟨con42, con43, trivial⟩) mixed (fn' := Tryd.f22) (by kernel_rfl) (by kernel_rfl) rfl (by kernel_rfl) (fun x => (FD.fn_eq _ _).trans (by kernel_rfl))
end
end Go.Proofs.YtgpgpelaabdkhaaDoor
end

section
/-
YtgpgpelaabdkhaaDoor: signalbench.trig.Check, as one plain function, its equations, its contract. No condition.
-/
set_option maxRecDepth 100000
set_option linter.unusedVariables false
set_option maxHeartbeats 4000000
open Go Go.AM
namespace Go.Proofs.YtgpgpelaabdkhaaDoor
noncomputable section
def trig_Check_F7 : FSh := ⟨[(3, .one (.ptr 0 0)), (14, .one (.sl (.cons (.cons .str (.cons (.int .i64) (.cons (.int .i64) (.cons (.int .i64) (.int .i64))))) (.cons (.int .i64) (.cons (.int .i64) (.cons .bool (.cons .str (.cons (.int .i64) (.cons (.int .i64) (.cons (.int .i64) (.int .i64))))))))))), (15, .one (.int .i64)), (16, .one (.int .i64))], [.boxr 28 (.cons (.sl (.cons .str (.cons (.int .i64) (.cons (.int .i64) (.sl (.cons .str (.cons (.sl (.cons (.int .i64) (.cons (.int .i64) (.cons .str (.cons .bool (.sl (.cons (.int .i64) (.int .i64)))))))) (.cons .bool (.cons (.int .i64) (.cons (.int .i64) (.cons .str (.cons .bool (.sl (.cons (.int .i64) (.int .i64))))))))))))))) (.sl (.cons .str (.cons .str (.cons (.sl .str) (.sl (.cons .str (.int .i64))))))))]⟩
def trig_Check_D : FD := ⟨T, lookC [(21, fc21), (22, fc22)], [], (Tryd.f11.body.getD .skip), Tryd.f11.results.toList, ⟨[.row (.cons .str (.sl (.cons (.cons .str (.cons (.int .i64) (.cons (.int .i64) (.cons (.int .i64) (.int .i64))))) (.cons (.int .i64) (.cons (.int .i64) (.cons .bool (.cons .str (.cons (.int .i64) (.cons (.int .i64) (.cons (.int .i64) (.int .i64))))))))))), .row (.cons (.sl (.cons .str (.cons (.int .i64) (.cons (.int .i64) (.sl (.cons .str (.cons (.sl (.cons (.int .i64) (.cons (.int .i64) (.cons .str (.cons .bool (.sl (.cons (.int .i64) (.int .i64)))))))) (.cons .bool (.cons (.int .i64) (.cons (.int .i64) (.cons .str (.cons .bool (.sl (.cons (.int .i64) (.int .i64))))))))))))))) (.sl (.cons .str (.cons .str (.cons (.sl .str) (.sl (.cons .str (.int .i64))))))))], []⟩, ⟨[.one (.int .i64)], []⟩, [(7, trig_Check_F7)]⟩
def trig_Check_l7 (t14 : (List TTrigStep)) (t15 : Int) (t16 : Int) (h0 : TStack) : (Option ((Int × Unit) × Unit)) := trig_Check_D.lab 7 trig_Check_F7 (((), t14, t15, t16, ()), (h0, ()))
theorem trig_Check_l7_eq (t14 : (List TTrigStep)) (t15 : Int) (t16 : Int) (h0 : TStack) : trig_Check_l7 t14 t15 t16 h0 =
  if (decide (t16 < t15)) = true then
    if 0 ≤ t16 ∧ t16 < (t14.length : Int) then
      (stackdef_Find h0 (t14.getD t16.toNat dTrigStep).1.1).bind fun y1 =>
        if (decide (y1.1.1 < 0)) = true then
          some ((8, ()), ())
        else
          if (t14.getD t16.toNat dTrigStep).2.2.2.1 = true then
            (stackdef_Find h0 (t14.getD t16.toNat dTrigStep).2.2.2.2.1).bind fun y2 =>
              if (decide (y2.1.1 < 0)) = true then
                some ((8, ()), ())
              else
                trig_Check_l7 t14 t15 (IntKind.i64.wrap (t16 + 1)) h0
          else
            trig_Check_l7 t14 t15 (IntKind.i64.wrap (t16 + 1)) h0
    else
      none
  else
    some ((0, ()), ()) := (FD.lab_eq _ _ _ _).trans (by kernel_rfl)
def trig_Check (t : TTrigger) (st : TStack) : (Option ((Int × Unit) × Unit)) :=
  (trig_wrong t).bind fun y1 =>
    if (y1.1.1 != 0) = true then
      some ((y1.1.1, ()), ())
    else
      trig_Check_l7 t.2 (t.2.length : Int) 0 st
def fc11 : FC := ⟨⟨[.row (.cons .str (.sl (.cons (.cons .str (.cons (.int .i64) (.cons (.int .i64) (.cons (.int .i64) (.int .i64))))) (.cons (.int .i64) (.cons (.int .i64) (.cons .bool (.cons .str (.cons (.int .i64) (.cons (.int .i64) (.cons (.int .i64) (.int .i64))))))))))), .row (.cons (.sl (.cons .str (.cons (.int .i64) (.cons (.int .i64) (.sl (.cons .str (.cons (.sl (.cons (.int .i64) (.cons (.int .i64) (.cons .str (.cons .bool (.sl (.cons (.int .i64) (.int .i64)))))))) (.cons .bool (.cons (.int .i64) (.cons (.int .i64) (.cons .str (.cons .bool (.sl (.cons (.int .i64) (.int .i64))))))))))))))) (.sl (.cons .str (.cons .str (.cons (.sl .str) (.sl (.cons .str (.int .i64))))))))], []⟩, ⟨[.one (.int .i64)], []⟩, fun x => trig_Check x.1.1 x.1.2.1⟩
theorem con11 : Contract Tryd.prog 11 fc11 :=
  trig_Check_D.contract tok (cok_of (l := [(21, fc21), (22, fc22)]) ⟨con21, con22, trivial⟩) mixed (fn' := Tryd.f11) (by kernel_rfl) (by kernel_rfl) rfl (by kernel_rfl) (fun x => (FD.fn_eq _ _).trans (by kernel_rfl))
end
end Go.Proofs.YtgpgpelaabdkhaaDoor
end

section
/-
YtgpgpelaabdkhaaDoor: signalbench.event.Valid, as one plain function, its equations, its contract. No condition.
-/
set_option maxRecDepth 100000
set_option linter.unusedVariables false
set_option maxHeartbeats 4000000
open Go Go.AM
namespace Go.Proofs.YtgpgpelaabdkhaaDoor
noncomputable section
def event_Valid_F4 : FSh := ⟨[(1, .one (.ptr 0 0)), (12, .one .bool)], [.boxr 38 (.cons (.int .i64) (.cons (.int .i64) (.cons (.int .i64) (.cons (.int .i64) (.cons (.int .i64) (.cons .str (.int .i64)))))))]⟩
def event_Valid_F6 : FSh := ⟨[(1, .one (.ptr 0 0)), (28, .one .bool)], [.boxr 38 (.cons (.int .i64) (.cons (.int .i64) (.cons (.int .i64) (.cons (.int .i64) (.cons (.int .i64) (.cons .str (.int .i64)))))))]⟩
def event_Valid_F8 : FSh := ⟨[(2, .one .bool)], []⟩
def event_Valid_D : FD := ⟨T, lookC [], [4, 6, 8], (Tryd.f26.body.getD .skip), Tryd.f26.results.toList, ⟨[.row (.cons (.int .i64) (.cons (.int .i64) (.cons (.int .i64) (.cons (.int .i64) (.cons (.int .i64) (.cons .str (.int .i64)))))))], []⟩, ⟨[.one .bool], []⟩, [(4, event_Valid_F4), (6, event_Valid_F6), (8, event_Valid_F8)]⟩
def event_Valid_l4 (t12 : Bool) (h0 : TEvent) : (Option ((Bool × Unit) × Unit)) := event_Valid_D.lab 4 event_Valid_F4 (((), t12, ()), (h0, ()))
def event_Valid_l6 (t28 : Bool) (h0 : TEvent) : (Option ((Bool × Unit) × Unit)) := event_Valid_D.lab 6 event_Valid_F6 (((), t28, ()), (h0, ()))
def event_Valid_l8 (t2 : Bool) : (Option ((Bool × Unit) × Unit)) := event_Valid_D.lab 8 event_Valid_F8 ((t2, ()), ())
theorem event_Valid_l4_eq (t12 : Bool) (h0 : TEvent) : event_Valid_l4 t12 h0 =
  if t12 = true then
    some ((false, ()), ())
  else
    if (decide (h0.2.2.2.1 < (-9007199254740992))) = true then
      event_Valid_l6 true h0
    else
      if (decide (h0.2.2.2.1 > 9007199254740992)) = true then
        event_Valid_l6 true h0
      else
        if (decide (h0.2.2.2.2.1 < (-9007199254740992))) = true then
          event_Valid_l6 true h0
        else
          event_Valid_l6 (decide (h0.2.2.2.2.1 > 9007199254740992)) h0 := by obtain ⟨k, fr, to, a, b, d, f⟩ := h0; cases a <;> cases b <;> exact (FD.lab_eq _ _ _ _).trans (by kernel_rfl)
theorem event_Valid_l6_eq (t28 : Bool) (h0 : TEvent) : event_Valid_l6 t28 h0 =
  if t28 = true then
    some ((false, ()), ())
  else
    if (decide ((h0.2.2.2.2.2.1.size : Int) ≤ 4096)) = true then
      if (decide (h0.2.2.2.2.2.2 ≥ 0)) = true then
        event_Valid_l8 (decide (h0.2.2.2.2.2.2 ≤ 12))
      else
        event_Valid_l8 false
    else
      event_Valid_l8 false := (FD.lab_eq _ _ _ _).trans (by kernel_rfl)
theorem event_Valid_l8_eq (t2 : Bool) : event_Valid_l8 t2 =
  some ((t2, ()), ()) := (FD.lab_eq _ _ _ _).trans (by kernel_rfl)
def event_Valid (e0 : TEvent) : (Option ((Bool × Unit) × Unit)) :=
  if (decide (e0.1 < 1)) = true then
    some ((false, ()), ())
  else
    if (decide (e0.1 > 8)) = true then
      some ((false, ()), ())
    else
      if (decide (e0.2.1 < 0)) = true then
        event_Valid_l4 true e0
      else
        if (decide (e0.2.1 > e0.2.2.1)) = true then
          event_Valid_l4 true e0
        else
          event_Valid_l4 (decide (e0.2.2.1 > 1099511627776)) e0
def fc26 : FC := ⟨⟨[.row (.cons (.int .i64) (.cons (.int .i64) (.cons (.int .i64) (.cons (.int .i64) (.cons (.int .i64) (.cons .str (.int .i64)))))))], []⟩, ⟨[.one .bool], []⟩, fun x => event_Valid x.1.1⟩
theorem con26 : Contract Tryd.prog 26 fc26 :=
  event_Valid_D.contract tok (cok_of (l := []) trivial) mixed (fn' := Tryd.f26) (by kernel_rfl) (by kernel_rfl) rfl (by kernel_rfl) (fun x => (FD.fn_eq _ _).trans (by kernel_rfl))
end
end Go.Proofs.YtgpgpelaabdkhaaDoor
end

section
/-
YtgpgpelaabdkhaaDoor: signalbench.trig.field, as one plain function, its equations, its contract. No condition.
-/
set_option maxRecDepth 100000
set_option linter.unusedVariables false
set_option maxHeartbeats 4000000
open Go Go.AM
namespace Go.Proofs.YtgpgpelaabdkhaaDoor
noncomputable section
def trig_field_D : FD := ⟨T, lookC [], [], (Tryd.f27.body.getD .skip), Tryd.f27.results.toList, ⟨[.row (.cons (.int .i64) (.cons (.int .i64) (.cons (.int .i64) (.cons (.int .i64) (.cons (.int .i64) (.cons .str (.int .i64))))))), .one (.int .i64)], []⟩, ⟨[.one (.int .i64)], []⟩, []⟩
def trig_field (e0 : TEvent) (number : Int) : (Option ((Int × Unit) × Unit)) :=
  if (number == 1) = true then
    some ((e0.2.2.2.1, ()), ())
  else
    if (number == 2) = true then
      some ((e0.2.2.2.2.1, ()), ())
    else
      if (number == 3) = true then
        some ((e0.2.2.2.2.2.2, ()), ())
      else
        if (number == 4) = true then
          some (((e0.2.2.2.2.2.1.size : Int), ()), ())
        else
          if (number == 5) = true then
            some ((IntKind.i64.wrap (e0.2.2.1 - e0.2.1), ()), ())
          else
            if (e0.2.2.2.2.2.1.toList == (strB []).toList) = true then
              some (((-1), ()), ())
            else
              if 0 ≤ (0 : Int) ∧ 0 < (e0.2.2.2.2.2.1.size : Int) then
                some ((IntKind.i64.wrap (bt e0.2.2.2.2.2.1 0), ()), ())
              else
                none
def fc27 : FC := ⟨⟨[.row (.cons (.int .i64) (.cons (.int .i64) (.cons (.int .i64) (.cons (.int .i64) (.cons (.int .i64) (.cons .str (.int .i64))))))), .one (.int .i64)], []⟩, ⟨[.one (.int .i64)], []⟩, fun x => trig_field x.1.1 x.1.2.1⟩
theorem con27 : Contract Tryd.prog 27 fc27 :=
  trig_field_D.contract tok (cok_of (l := []) trivial) mixed (fn' := Tryd.f27) (by kernel_rfl) (by kernel_rfl) rfl (by kernel_rfl) (fun x => (FD.fn_eq _ _).trans (by kernel_rfl))
end
end Go.Proofs.YtgpgpelaabdkhaaDoor
end

section
/-
YtgpgpelaabdkhaaDoor: signalbench.trig.Holds, as one plain function, its equations, its contract. No condition.
-/
set_option maxRecDepth 100000
set_option linter.unusedVariables false
set_option maxHeartbeats 4000000
open Go Go.AM
namespace Go.Proofs.YtgpgpelaabdkhaaDoor
noncomputable section
def trig_Holds_D : FD := ⟨T, lookC [(22, fc22), (25, fc25), (26, fc26), (27, fc27)], [], (Tryd.f14.body.getD .skip), Tryd.f14.results.toList, ⟨[.row (.cons .str (.cons (.int .i64) (.cons (.int .i64) (.cons (.int .i64) (.int .i64))))), .row (.cons (.sl (.cons .str (.cons (.int .i64) (.cons (.int .i64) (.sl (.cons .str (.cons (.sl (.cons (.int .i64) (.cons (.int .i64) (.cons .str (.cons .bool (.sl (.cons (.int .i64) (.int .i64)))))))) (.cons .bool (.cons (.int .i64) (.cons (.int .i64) (.cons .str (.cons .bool (.sl (.cons (.int .i64) (.int .i64))))))))))))))) (.sl (.cons .str (.cons .str (.cons (.sl .str) (.sl (.cons .str (.int .i64)))))))), .row (.cons (.int .i64) (.cons (.int .i64) (.cons (.int .i64) (.cons (.int .i64) (.cons (.int .i64) (.cons (.int .i64) (.cons (.int .i64) (.cons .str (.int .i64)))))))))], []⟩, ⟨[.one .bool], []⟩, []⟩
def trig_Holds (c : TCond) (st : TStack) (o : TOut) : (Option ((Bool × Unit) × Unit)) :=
  (trig_wrongCond c).bind fun y1 =>
    if (y1.1.1 != 0) = true then
      some ((false, ()), ())
    else
      (event_Valid o.2.2).bind fun y2 =>
        if (!y2.1.1) = true then
          some ((false, ()), ())
        else
          (stackdef_Find st c.1).bind fun y3 =>
            if (decide (y3.1.1 < 0)) = true then
              some ((false, ()), ())
            else
              if (y3.1.1 != o.1) = true then
                some ((false, ()), ())
              else
                if (c.2.1 != 0) = true then
                  if (c.2.1 != o.2.2.1) = true then
                    some ((false, ()), ())
                  else
                    (trig_field o.2.2 c.2.2.1).bind fun y4 =>
                      if (c.2.2.2.1 == 1) = true then
                        some ((y4.1.1 == c.2.2.2.2, ()), ())
                      else
                        if (c.2.2.2.1 == 2) = true then
                          some ((y4.1.1 != c.2.2.2.2, ()), ())
                        else
                          if (c.2.2.2.1 == 3) = true then
                            some ((decide (y4.1.1 < c.2.2.2.2), ()), ())
                          else
                            if (c.2.2.2.1 == 4) = true then
                              some ((decide (y4.1.1 > c.2.2.2.2), ()), ())
                            else
                              if (c.2.2.2.1 == 5) = true then
                                some (((IntKind.i64.wrap (BitVec.ofInt 64 y4.1.1 &&& BitVec.ofInt 64 c.2.2.2.2).toNat) == c.2.2.2.2, ()), ())
                              else
                                some ((true, ()), ())
                else
                  (trig_field o.2.2 c.2.2.1).bind fun y5 =>
                    if (c.2.2.2.1 == 1) = true then
                      some ((y5.1.1 == c.2.2.2.2, ()), ())
                    else
                      if (c.2.2.2.1 == 2) = true then
                        some ((y5.1.1 != c.2.2.2.2, ()), ())
                      else
                        if (c.2.2.2.1 == 3) = true then
                          some ((decide (y5.1.1 < c.2.2.2.2), ()), ())
                        else
                          if (c.2.2.2.1 == 4) = true then
                            some ((decide (y5.1.1 > c.2.2.2.2), ()), ())
                          else
                            if (c.2.2.2.1 == 5) = true then
                              some (((IntKind.i64.wrap (BitVec.ofInt 64 y5.1.1 &&& BitVec.ofInt 64 c.2.2.2.2).toNat) == c.2.2.2.2, ()), ())
                            else
                              some ((true, ()), ())
def fc14 : FC := ⟨⟨[.row (.cons .str (.cons (.int .i64) (.cons (.int .i64) (.cons (.int .i64) (.int .i64))))), .row (.cons (.sl (.cons .str (.cons (.int .i64) (.cons (.int .i64) (.sl (.cons .str (.cons (.sl (.cons (.int .i64) (.cons (.int .i64) (.cons .str (.cons .bool (.sl (.cons (.int .i64) (.int .i64)))))))) (.cons .bool (.cons (.int .i64) (.cons (.int .i64) (.cons .str (.cons .bool (.sl (.cons (.int .i64) (.int .i64))))))))))))))) (.sl (.cons .str (.cons .str (.cons (.sl .str) (.sl (.cons .str (.int .i64)))))))), .row (.cons (.int .i64) (.cons (.int .i64) (.cons (.int .i64) (.cons (.int .i64) (.cons (.int .i64) (.cons (.int .i64) (.cons (.int .i64) (.cons .str (.int .i64)))))))))], []⟩, ⟨[.one .bool], []⟩, fun x => trig_Holds x.1.1 x.1.2.1 x.1.2.2.1⟩
theorem con14 : Contract Tryd.prog 14 fc14 :=
  trig_Holds_D.contract tok (cok_of (l := [(22, fc22), (25, fc25), (26, fc26), (27, fc27)]) ⟨con22, con25, con26, con27, trivial⟩) mixed (fn' := Tryd.f14) (by kernel_rfl) (by kernel_rfl) rfl (by kernel_rfl) (fun x => (FD.fn_eq _ _).trans (by kernel_rfl))
end
end Go.Proofs.YtgpgpelaabdkhaaDoor
end

section
/-
YtgpgpelaabdkhaaDoor: signalbench.trig.name, as one plain function, its equations, its contract. No condition.
-/
set_option maxRecDepth 100000
set_option linter.unusedVariables false
set_option maxHeartbeats 4000000
open Go Go.AM
namespace Go.Proofs.YtgpgpelaabdkhaaDoor
noncomputable section
def trig_name_D : FD := ⟨T, lookC [], [], (Tryd.f30.body.getD .skip), Tryd.f30.results.toList, ⟨[.one .str], []⟩, ⟨[.row (.cons (.int .i64) (.cons .str (.cons (.int .i64) (.int .i64))))], []⟩, []⟩
def trig_name (s : ByteArray) : (Option ((TToken × Unit) × Unit)) :=
  some (((1, s, 0, 0), ()), ())
def fc30 : FC := ⟨⟨[.one .str], []⟩, ⟨[.row (.cons (.int .i64) (.cons .str (.cons (.int .i64) (.int .i64))))], []⟩, fun x => trig_name x.1.1⟩
theorem con30 : Contract Tryd.prog 30 fc30 :=
  trig_name_D.contract tok (cok_of (l := []) trivial) mixed (fn' := Tryd.f30) (by kernel_rfl) (by kernel_rfl) rfl (by kernel_rfl) (fun x => (FD.fn_eq _ _).trans (by kernel_rfl))
end
end Go.Proofs.YtgpgpelaabdkhaaDoor
end

section
/-
YtgpgpelaabdkhaaDoor: signalbench.trig.mark, as one plain function, its equations, its contract. No condition.
-/
set_option maxRecDepth 100000
set_option linter.unusedVariables false
set_option maxHeartbeats 4000000
open Go Go.AM
namespace Go.Proofs.YtgpgpelaabdkhaaDoor
noncomputable section
def trig_mark_D : FD := ⟨T, lookC [], [], (Tryd.f31.body.getD .skip), Tryd.f31.results.toList, ⟨[.one .str], []⟩, ⟨[.row (.cons (.int .i64) (.cons .str (.cons (.int .i64) (.int .i64))))], []⟩, []⟩
def trig_mark (s : ByteArray) : (Option ((TToken × Unit) × Unit)) :=
  some (((4, s, 0, 0), ()), ())
def fc31 : FC := ⟨⟨[.one .str], []⟩, ⟨[.row (.cons (.int .i64) (.cons .str (.cons (.int .i64) (.int .i64))))], []⟩, fun x => trig_mark x.1.1⟩
theorem con31 : Contract Tryd.prog 31 fc31 :=
  trig_mark_D.contract tok (cok_of (l := []) trivial) mixed (fn' := Tryd.f31) (by kernel_rfl) (by kernel_rfl) rfl (by kernel_rfl) (fun x => (FD.fn_eq _ _).trans (by kernel_rfl))
end
end Go.Proofs.YtgpgpelaabdkhaaDoor
end

section
/-
  DERIVED: THE SHELF's CONTRACTS AT THIS DUMP, IN PLAIN WORDS (tools/lay-plain.mjs out of 'TrydShelf.lean', which tools/lay-shelf.mjs wrote): THE SAME DECLARATIONS UNDER THE SAME NAMES: 'import', 'namespace', 'open', 'def', 'theorem' AND NOTHING ELSE: no command of the shelf's: FOR A HAND-IN. Each laying: the table of numbers ('.._ren') and one theorem, a field a fact of the dump's own or the kernel's comparison; each contract: ONE APPLICATION.
-/
namespace Go.Proofs
open Go.Shelf
def Tryd.lays170_ren : Go.Shelf.Ren := ⟨fun | 170 => 52 | n => n, fun | 70 => 82 | 3 => 3 | 0 => 0 | 72 => 85 | 37 => 83 | 5 => 5 | n => n, fun | n => n⟩
theorem Tryd.lays170 : Go.Proofs.Lays.n170 Tryd.prog Tryd.lays170_ren := {
  mixed := by kernel_rfl
  f170 := Tryd.func52.trans (congrArg some (by kernel_rfl))
  t0 := Tryd.underlying0
  a0 := Tryd.isAgg0
  z0 := Tryd.sizeOf0
  v0 := Tryd.zeroValue0
  t3 := Tryd.underlying3
  a3 := Tryd.isAgg3
  z3 := Tryd.sizeOf3
  v3 := Tryd.zeroValue3
  t37 := Tryd.underlying83
  a37 := Tryd.isAgg83
  z37 := Tryd.sizeOf83
  v37 := Tryd.zeroValue83
  t70 := Tryd.underlying82
  a70 := Tryd.isAgg82
  z70 := Tryd.sizeOf82
  v70 := Tryd.zeroValue82
  t72 := Tryd.underlying85
  a72 := Tryd.isAgg85
  z72 := Tryd.sizeOf85
  v72 := Tryd.zeroValue85 }
open Go.RowKit in
/-- (*strings.Builder).Len: "Len returns the number of accumulated bytes; b.Len() == len(b.String()).": the world is as it was. (LAID: no walk: one application.) -/
theorem Tryd.Builder_Len (B b : Nat) (bs : List Value) (w : World) (h : Lib.IsBuilder 85 5 B b bs w) :
    Calls Tryd.prog 52 #[.pointer (some ⟨b, 0, none⟩)] w fun e w' => e = .returned (.int .i64 bs.length) ∧ w' = w := Any.Builder_Len Tryd.lays170 B b bs w h
def Tryd.lays169_ren : Go.Shelf.Ren := ⟨fun | 169 => 53 | n => n, fun | 70 => 82 | 9 => 9 | 0 => 0 | 72 => 85 | 37 => 83 | 127 => 110 | 3 => 3 | 5 => 5 | n => n, fun | n => n⟩
theorem Tryd.lays169 : Go.Proofs.Lays.n169 Tryd.prog Tryd.lays169_ren := {
  mixed := by kernel_rfl
  f169 := Tryd.func53.trans (congrArg some (by kernel_rfl))
  t0 := Tryd.underlying0
  a0 := Tryd.isAgg0
  z0 := Tryd.sizeOf0
  v0 := Tryd.zeroValue0
  t3 := Tryd.underlying3
  a3 := Tryd.isAgg3
  z3 := Tryd.sizeOf3
  v3 := Tryd.zeroValue3
  t9 := Tryd.underlying9
  a9 := Tryd.isAgg9
  z9 := Tryd.sizeOf9
  v9 := Tryd.zeroValue9
  t37 := Tryd.underlying83
  a37 := Tryd.isAgg83
  z37 := Tryd.sizeOf83
  v37 := Tryd.zeroValue83
  t70 := Tryd.underlying82
  a70 := Tryd.isAgg82
  z70 := Tryd.sizeOf82
  v70 := Tryd.zeroValue82
  t72 := Tryd.underlying85
  a72 := Tryd.isAgg85
  z72 := Tryd.sizeOf85
  v72 := Tryd.zeroValue85
  t127 := Tryd.underlying110
  a127 := Tryd.isAgg110
  z127 := Tryd.sizeOf110
  v127 := Tryd.zeroValue110 }
theorem Tryd.Builder_Extra_169 : Builder.Extra Tryd.prog Tryd.lays169_ren := {
  sizeBuilder := by kernel_rfl
  liesBuilder := by kernel_rfl
  t5 := Tryd.underlying5
  a5 := Tryd.isAgg5
  z5 := Tryd.sizeOf5
  v5 := Tryd.zeroValue5
  infoByte := by kernel_rfl
  cellsByte := by kernel_rfl
  sizeByte := by kernel_rfl
  neB5 := by decide }
open Go.RowKit in
/-- (*strings.Builder).String: "String returns the accumulated string.": OF A BUILDER THAT HOLDS AT LEAST ONE BYTE. ✋ THE MODEL FREEZES THOSE BYTES IN THE BUFFER (unsafe.String): a later write INTO them ends the model's run without an answer; a later append BEHIND them goes on. The statement's order of evaluation is drawn: one draw. (LAID: no walk: one application.) -/
theorem Tryd.Builder_String (B b : Nat) (l : List UInt8) (w : World) (h : Lib.IsBuilder 85 5 B b (Lib.byteCells l) w) (h0 : l ≠ []) :
    Calls Tryd.prog 53 #[.pointer (some ⟨b, 0, none⟩)] w fun e w' => e = .returned (.string ⟨l.toArray⟩) ∧ Below B w w' := Any.Builder_String Tryd.lays169 Tryd.Builder_Extra_169 B b l w h h0
open Go.RowKit in
/-- (*strings.Builder).String OF A BUILDER THAT HOLDS NO BYTE: the empty string. (Its buffer is nil, or a row of which it has taken nothing yet; where that row has NO capacity the model lays one new block for unsafe.SliceData's 'some address'.) One draw. (LAID: no walk: one application.) -/
theorem Tryd.Builder_String_empty (B b : Nat) (w : World) (h : Lib.IsBuilder 85 5 B b [] w) (hBw : B ≤ w.heap.size) :
    Calls Tryd.prog 53 #[.pointer (some ⟨b, 0, none⟩)] w fun e w' => e = .returned (.string ⟨#[]⟩) ∧ Below B w w' := Any.Builder_String_empty Tryd.lays169 Tryd.Builder_Extra_169 B b w h hBw
open Go.RowKit in
/-- (*strings.Builder).String: "String returns the accumulated string.": WHATEVER THE BUILDER HOLDS. (LAID: no walk: one application.) -/
theorem Tryd.Builder_String_any (B b : Nat) (l : List UInt8) (w : World) (h : Lib.IsBuilder 85 5 B b (Lib.byteCells l) w) (hBw : B ≤ w.heap.size) :
    Calls Tryd.prog 53 #[.pointer (some ⟨b, 0, none⟩)] w fun e w' => e = .returned (.string ⟨l.toArray⟩) ∧ Below B w w' := Any.Builder_String_any Tryd.lays169 Tryd.Builder_Extra_169 B b l w h hBw
def Tryd.lays137_ren : Go.Shelf.Ren := ⟨fun | 137 => 54 | 217 => 68 | 266 => 80 | n => n, fun | 9 => 9 | 5 => 5 | 3 => 3 | n => n, fun | n => n⟩
theorem Tryd.lays137 : Go.Proofs.Lays.n137 Tryd.prog Tryd.lays137_ren := {
  mixed := by kernel_rfl
  f137 := Tryd.func54.trans (congrArg some (by kernel_rfl))
  f217 := Tryd.func68.trans (congrArg some (by kernel_rfl))
  f266 := Tryd.func80.trans (congrArg some (by kernel_rfl))
  t3 := Tryd.underlying3
  a3 := Tryd.isAgg3
  z3 := Tryd.sizeOf3
  v3 := Tryd.zeroValue3
  t5 := Tryd.underlying5
  a5 := Tryd.isAgg5
  z5 := Tryd.sizeOf5
  v5 := Tryd.zeroValue5
  t9 := Tryd.underlying9
  a9 := Tryd.isAgg9
  z9 := Tryd.sizeOf9
  v9 := Tryd.zeroValue9 }
open Go.RowKit in
/-- strings.IndexByte: "IndexByte returns the index of the first instance of c in s, or -1 if c is not present in s.": IT RETURNS 'Lib.indexByte s c'; the world is as it was. (LAID: no walk: one application.) -/
theorem Tryd.strings_IndexByte (s : ByteArray) (c : Int) (w : World) :
    Calls Tryd.prog 54 #[.string s, .int .u8 c] w fun e w' => e = .returned (.int .i64 (Lib.indexByte s.data.toList c.toNat.toUInt8)) ∧ w' = w := Any.strings_IndexByte Tryd.lays137 s c w
open Go.RowKit in
/-- (*strings.Builder).Len: "Len returns the number of accumulated bytes; b.Len() == len(b.String()).": the world is as it was. (THE FORM '_f': 'Lib.IsBuilderF'.) (LAID: no walk: one application.) -/
theorem Tryd.Builder_Len_f (B b : Nat) (bs : List Value) (w : World) (h : Lib.IsBuilderF 85 5 B b bs w) :
    Calls Tryd.prog 52 #[.pointer (some ⟨b, 0, none⟩)] w fun e w' => e = .returned (.int .i64 bs.length) ∧ w' = w := Any.Builder_Len_f Tryd.lays170 B b bs w h
open Go.RowKit in
/-- (*strings.Builder).String: "String returns the accumulated string.": OF A BUILDER THAT HOLDS AT LEAST ONE BYTE. ✋ THE MODEL FREEZES THOSE BYTES IN THE BUFFER (unsafe.String): a later write INTO them ends the model's run without an answer; a later append BEHIND them goes on. The statement's order of evaluation is drawn: one draw. THE FORM '_f': IT SAYS BESIDES THAT THE BUILDER IS A BUILDER STILL ('Lib.IsBuilderF', the same bytes): SO IT CAN BE WRITTEN ON: 'b.WriteString(b.String()[:k])'. (LAID: no walk: one application.) -/
theorem Tryd.Builder_String_f (B b : Nat) (l : List UInt8) (w : World) (h : Lib.IsBuilderF 85 5 B b (Lib.byteCells l) w) (h0 : l ≠ []) :
    Calls Tryd.prog 53 #[.pointer (some ⟨b, 0, none⟩)] w fun e w' => e = .returned (.string ⟨l.toArray⟩) ∧ (Lib.IsBuilderF 85 5 B b (Lib.byteCells l) w' ∧ Below B w w') := Any.Builder_String_f Tryd.lays169 Tryd.Builder_Extra_169 B b l w h h0
open Go.RowKit in
/-- (*strings.Builder).String OF A BUILDER THAT HOLDS NO BYTE: the empty string; THE FORM '_f': a builder still. (LAID: no walk: one application.) -/
theorem Tryd.Builder_String_empty_f (B b : Nat) (w : World) (h : Lib.IsBuilderF 85 5 B b [] w) (hBw : B ≤ w.heap.size) :
    Calls Tryd.prog 53 #[.pointer (some ⟨b, 0, none⟩)] w fun e w' => e = .returned (.string ⟨#[]⟩) ∧ (Lib.IsBuilderF 85 5 B b [] w' ∧ Below B w w') := Any.Builder_String_empty_f Tryd.lays169 Tryd.Builder_Extra_169 B b w h hBw
open Go.RowKit in
/-- (*strings.Builder).String: "String returns the accumulated string.": WHATEVER THE BUILDER HOLDS; THE FORM '_f': OF A BUILDER THAT MAY HAVE BEEN READ BEFORE; AND IT IS A BUILDER STILL, holding the same bytes: it can be written on. (LAID: no walk: one application.) -/
theorem Tryd.Builder_String_any_f (B b : Nat) (l : List UInt8) (w : World) (h : Lib.IsBuilderF 85 5 B b (Lib.byteCells l) w) (hBw : B ≤ w.heap.size) :
    Calls Tryd.prog 53 #[.pointer (some ⟨b, 0, none⟩)] w fun e w' => e = .returned (.string ⟨l.toArray⟩) ∧ (Lib.IsBuilderF 85 5 B b (Lib.byteCells l) w' ∧ Below B w w') := Any.Builder_String_any_f Tryd.lays169 Tryd.Builder_Extra_169 B b l w h hBw
open Go.RowKit in
/-- (*strings.Builder).String: "String returns the accumulated string.": OF A BUILDER THAT HOLDS AT LEAST ONE BYTE. ✋ THE MODEL FREEZES THOSE BYTES IN THE BUFFER (unsafe.String): a later write INTO them ends the model's run without an answer; a later append BEHIND them goes on. The statement's order of evaluation is drawn: one draw. THE FORM '_k': OVER 'Lib.IsBuilderF' (a builder that 'String()' may have read), AND WITH THE FRAME THAT REACHES ABOVE THE BUILDER: 'Lib.OthersKept': every block that is not b and is no row of uint8's stands as it stood: the iterator of a range among them. (LAID: no walk: one application.) -/
theorem Tryd.Builder_String_k (B b : Nat) (l : List UInt8) (w : World) (h : Lib.IsBuilderF 85 5 B b (Lib.byteCells l) w) (h0 : l ≠ []) :
    Calls Tryd.prog 53 #[.pointer (some ⟨b, 0, none⟩)] w fun e w' => e = .returned (.string ⟨l.toArray⟩) ∧ (Lib.IsBuilderF 85 5 B b (Lib.byteCells l) w' ∧ Below B w w' ∧ Lib.OthersKept 5 (some b) w w') := Any.Builder_String_k Tryd.lays169 Tryd.Builder_Extra_169 B b l w h h0
open Go.RowKit in
/-- (*strings.Builder).String OF A BUILDER THAT HOLDS NO BYTE: the empty string; THE FORM '_k': OVER 'Lib.IsBuilderF' (a builder that 'String()' may have read), AND WITH THE FRAME THAT REACHES ABOVE THE BUILDER: 'Lib.OthersKept': every block that is not b and is no row of uint8's stands as it stood: the iterator of a range among them. (LAID: no walk: one application.) -/
theorem Tryd.Builder_String_empty_k (B b : Nat) (w : World) (h : Lib.IsBuilderF 85 5 B b [] w) (hBw : B ≤ w.heap.size) :
    Calls Tryd.prog 53 #[.pointer (some ⟨b, 0, none⟩)] w fun e w' => e = .returned (.string ⟨#[]⟩) ∧ (Lib.IsBuilderF 85 5 B b [] w' ∧ Below B w w' ∧ Lib.OthersKept 5 (some b) w w') := Any.Builder_String_empty_k Tryd.lays169 Tryd.Builder_Extra_169 B b w h hBw
open Go.RowKit in
/-- (*strings.Builder).String: "String returns the accumulated string.": WHATEVER THE BUILDER HOLDS; THE FORM '_k': OVER 'Lib.IsBuilderF' (a builder that 'String()' may have read), AND WITH THE FRAME THAT REACHES ABOVE THE BUILDER: 'Lib.OthersKept': every block that is not b and is no row of uint8's stands as it stood: the iterator of a range among them. (LAID: no walk: one application.) -/
theorem Tryd.Builder_String_any_k (B b : Nat) (l : List UInt8) (w : World) (h : Lib.IsBuilderF 85 5 B b (Lib.byteCells l) w) (hBw : B ≤ w.heap.size) :
    Calls Tryd.prog 53 #[.pointer (some ⟨b, 0, none⟩)] w fun e w' => e = .returned (.string ⟨l.toArray⟩) ∧ (Lib.IsBuilderF 85 5 B b (Lib.byteCells l) w' ∧ Below B w w' ∧ Lib.OthersKept 5 (some b) w w') := Any.Builder_String_any_k Tryd.lays169 Tryd.Builder_Extra_169 B b l w h hBw
def Tryd.lays129_ren : Go.Shelf.Ren := ⟨fun | 129 => 89 | n => n, fun | 53 => 124 | 3 => 3 | 4 => 4 | 46 => 117 | 5 => 5 | 9 => 9 | n => n, fun | n => n⟩
theorem Tryd.lays129 : Go.Proofs.Lays.n129 Tryd.prog Tryd.lays129_ren := {
  mixed := by kernel_rfl
  f129 := Tryd.func89.trans (congrArg some (by kernel_rfl))
  t3 := Tryd.underlying3
  a3 := Tryd.isAgg3
  z3 := Tryd.sizeOf3
  v3 := Tryd.zeroValue3
  t4 := Tryd.underlying4
  a4 := Tryd.isAgg4
  z4 := Tryd.sizeOf4
  v4 := Tryd.zeroValue4
  t5 := Tryd.underlying5
  a5 := Tryd.isAgg5
  z5 := Tryd.sizeOf5
  v5 := Tryd.zeroValue5
  t9 := Tryd.underlying9
  a9 := Tryd.isAgg9
  z9 := Tryd.sizeOf9
  v9 := Tryd.zeroValue9
  t46 := Tryd.underlying117
  a46 := Tryd.isAgg117
  z46 := Tryd.sizeOf117
  v46 := Tryd.zeroValue117
  t53 := Tryd.underlying124
  a53 := Tryd.isAgg124
  z53 := Tryd.sizeOf124
  v53 := Tryd.zeroValue124 }
/-- bits.Len64: "Len64 returns the minimum number of bits required to represent x; the result is 0 for x == 0.": IT RETURNS 'Lib.bitLen x'; the world is as it was. ('h0', 'h1': x is a uint64.) (LAID: no walk: one application.) -/
theorem Tryd.bits_Len64 (x : Int) (w : World) (h0 : 0 ≤ x) (h1 : x ≤ 18446744073709551615) :
    Calls Tryd.prog 89 #[.int .u64 x] w fun e w' => e = .returned (.int .i64 (Lib.bitLen x.toNat)) ∧ w' = w := Any.bits_Len64 Tryd.lays129 x w h0 h1
def Tryd.lays317_ren : Go.Shelf.Ren := ⟨fun | 317 => 88 | n => n, fun | 3 => 3 | 46 => 117 | n => n, fun | n => n⟩
theorem Tryd.lays317 : Go.Proofs.Lays.n317 Tryd.prog Tryd.lays317_ren := {
  mixed := by kernel_rfl
  f317 := Tryd.func88.trans (congrArg some (by kernel_rfl))
  t3 := Tryd.underlying3
  a3 := Tryd.isAgg3
  z3 := Tryd.sizeOf3
  v3 := Tryd.zeroValue3
  t46 := Tryd.underlying117
  a46 := Tryd.isAgg117
  z46 := Tryd.sizeOf117
  v46 := Tryd.zeroValue117 }
open Go.Lib in
/-- internal/strconv.log10Pow2: "log10Pow2(x) returns ⌊log₁₀ 2**x⌋ = ⌊x * log₁₀ 2⌋.": '(x * 78913) >> 18', at an x up to 64 (a length in bits). The world is as it was. (LAID: no walk: one application.) -/
theorem Tryd.internal_strconv_log10Pow2 (x : Nat) (h : x ≤ 64) (w : World) :
    Calls Tryd.prog 88 #[.int .i64 x] w fun e w' => e = .returned (.int .i64 (Lib.l10 x)) ∧ w' = w := Any.internal_strconv_log10Pow2 Tryd.lays317 x h w
def Tryd.lays318_ren : Go.Shelf.Ren := ⟨fun | 318 => 90 | n => n, fun | 3 => 3 | 4 => 4 | n => n, fun | n => n⟩
theorem Tryd.lays318 : Go.Proofs.Lays.n318 Tryd.prog Tryd.lays318_ren := {
  mixed := by kernel_rfl
  f318 := Tryd.func90.trans (congrArg some (by kernel_rfl))
  t3 := Tryd.underlying3
  a3 := Tryd.isAgg3
  z3 := Tryd.sizeOf3
  v3 := Tryd.zeroValue3
  t4 := Tryd.underlying4
  a4 := Tryd.isAgg4
  z4 := Tryd.sizeOf4
  v4 := Tryd.zeroValue4 }
open Go.Lib in
/-- internal/strconv.bool2: "bool2 converts b to an integer: 1 for true, 0 for false." The world is as it was. (LAID: no walk: one application.) -/
theorem Tryd.internal_strconv_bool2_int (b : Bool) (w : World) :
    Calls Tryd.prog 90 #[.bool b] w fun e w' => e = .returned (.int .i64 (if b then 1 else 0)) ∧ w' = w := Any.internal_strconv_bool2_int Tryd.lays318 b w
def Tryd.lays283_ren : Go.Shelf.Ren := ⟨fun | 283 => 83 | n => n, fun | 3 => 3 | 9 => 9 | 4 => 4 | n => n, fun | n => n⟩
theorem Tryd.lays283 : Go.Proofs.Lays.n283 Tryd.prog Tryd.lays283_ren := {
  mixed := by kernel_rfl
  f283 := Tryd.func83.trans (congrArg some (by kernel_rfl))
  t3 := Tryd.underlying3
  a3 := Tryd.isAgg3
  z3 := Tryd.sizeOf3
  v3 := Tryd.zeroValue3
  t4 := Tryd.underlying4
  a4 := Tryd.isAgg4
  z4 := Tryd.sizeOf4
  v4 := Tryd.zeroValue4
  t9 := Tryd.underlying9
  a9 := Tryd.isAgg9
  z9 := Tryd.sizeOf9
  v9 := Tryd.zeroValue9 }
open Go.Lib in
/-- internal/strconv.small: "small returns the string for an i with 0 <= i < nSmalls.": i's decimal numeral. The world is as it was. (LAID: no walk: one application.) -/
theorem Tryd.internal_strconv_small (i : Nat) (h : i < 100) (w : World) :
    Calls Tryd.prog 83 #[.int .i64 i] w fun e w' => e = .returned (.string ⟨(Lib.decDigits i).toArray⟩) ∧ w' = w := Any.internal_strconv_small Tryd.lays283 i h w
def Tryd.laysM284_ren : Go.Shelf.Ren := ⟨fun | 284 => 84 | 129 => 89 | 317 => 88 | 318 => 90 | n => n, fun | 53 => 124 | 3 => 3 | 212 => 131 | 0 => 0 | 4 => 4 | 46 => 117 | 5 => 5 | 9 => 9 | n => n, fun | 17 => 1 | n => n⟩
theorem Tryd.laysM284 : Go.Proofs.LaysM.n284 Tryd.prog Tryd.laysM284_ren := {
  mixed := by kernel_rfl
  f129 := Tryd.func89.trans (congrArg some (by kernel_rfl))
  f284 := Tryd.func84.trans (congrArg some (by kernel_rfl))
  f317 := Tryd.func88.trans (congrArg some (by kernel_rfl))
  f318 := Tryd.func90.trans (congrArg some (by kernel_rfl))
  t0 := Tryd.underlying0
  a0 := Tryd.isAgg0
  z0 := Tryd.sizeOf0
  v0 := Tryd.zeroValue0
  t3 := Tryd.underlying3
  a3 := Tryd.isAgg3
  z3 := Tryd.sizeOf3
  v3 := Tryd.zeroValue3
  t4 := Tryd.underlying4
  a4 := Tryd.isAgg4
  z4 := Tryd.sizeOf4
  v4 := Tryd.zeroValue4
  t5 := Tryd.underlying5
  a5 := Tryd.isAgg5
  z5 := Tryd.sizeOf5
  v5 := Tryd.zeroValue5
  t9 := Tryd.underlying9
  a9 := Tryd.isAgg9
  z9 := Tryd.sizeOf9
  v9 := Tryd.zeroValue9
  t46 := Tryd.underlying117
  a46 := Tryd.isAgg117
  z46 := Tryd.sizeOf117
  v46 := Tryd.zeroValue117
  t53 := Tryd.underlying124
  a53 := Tryd.isAgg124
  z53 := Tryd.sizeOf124
  v53 := Tryd.zeroValue124
  t212 := Tryd.underlying131
  a212 := Tryd.isAgg131
  z212 := Tryd.sizeOf131
  v212 := Tryd.zeroValue131
  g17 := by kernel_rfl
  i0 := by kernel_rfl
  i3 := by kernel_rfl
  i4 := by kernel_rfl
  i5 := by kernel_rfl
  i9 := by kernel_rfl
  i46 := by kernel_rfl
  i53 := by kernel_rfl
  i212 := by kernel_rfl
  m17 := by kernel_rfl }
open Go.Lib in
/-- internal/strconv.numDigits, at a d that is not 0: THE NUMBER OF d's DECIMAL DIGITS. The world is as it was. (LAID: no walk: one application.) -/
theorem Tryd.internal_strconv_numDigits (u : Nat) (h1 : 1 ≤ u) (h2 : u < 18446744073709551616) (w : World) (htab : Lib.TabIs Tryd.prog w "internal/strconv.uint64pow10" .u64 Lib.pow10Tab) :
    Calls Tryd.prog 84 #[.int .u64 u] w fun e w' => e = .returned (.int .i64 (Lib.nDigits u)) ∧ w' = w := Any.internal_strconv_numDigits Tryd.laysM284 u h1 h2 w htab
def Tryd.lays285_ren : Go.Shelf.Ren := ⟨fun | 285 => 85 | n => n, fun | 37 => 83 | 53 => 124 | 3 => 3 | 4 => 4 | 51 => 132 | 9 => 9 | 5 => 5 | 0 => 0 | n => n, fun | n => n⟩
theorem Tryd.lays285 : Go.Proofs.Lays.n285 Tryd.prog Tryd.lays285_ren := {
  mixed := by kernel_rfl
  f285 := Tryd.func85.trans (congrArg some (by kernel_rfl))
  t0 := Tryd.underlying0
  a0 := Tryd.isAgg0
  z0 := Tryd.sizeOf0
  v0 := Tryd.zeroValue0
  t3 := Tryd.underlying3
  a3 := Tryd.isAgg3
  z3 := Tryd.sizeOf3
  v3 := Tryd.zeroValue3
  t4 := Tryd.underlying4
  a4 := Tryd.isAgg4
  z4 := Tryd.sizeOf4
  v4 := Tryd.zeroValue4
  t5 := Tryd.underlying5
  a5 := Tryd.isAgg5
  z5 := Tryd.sizeOf5
  v5 := Tryd.zeroValue5
  t9 := Tryd.underlying9
  a9 := Tryd.isAgg9
  z9 := Tryd.sizeOf9
  v9 := Tryd.zeroValue9
  t37 := Tryd.underlying83
  a37 := Tryd.isAgg83
  z37 := Tryd.sizeOf83
  v37 := Tryd.zeroValue83
  t51 := Tryd.underlying132
  a51 := Tryd.isAgg132
  z51 := Tryd.sizeOf132
  v51 := Tryd.zeroValue132
  t53 := Tryd.underlying124
  a53 := Tryd.isAgg124
  z53 := Tryd.sizeOf124
  v53 := Tryd.zeroValue124 }
open Go.RowKit Go.Sort Go.Lib in
/-- internal/strconv.formatBase10: "formatBase10 formats the decimal representation of u into a. The caller is responsible for ensuring that a is big enough to hold u. If a is too big, leading zeros will be filled in as needed.": THE ROW HOLDS u's DIGITS ('FmtInv .. 0 ..': every place t holds 'dg u (len - 1 - t)'); all else is as it was but for the count of draws. (LAID: no walk: one application.) -/
theorem Tryd.internal_strconv_formatBase10 (blk off cap : Nat) (u : Nat) (d : Array UInt8) (w : World) (hH : Holds (fun (b : UInt8) => Value.int .u8 (b.toNat : Int)) w blk off d) (hu : u < 10 ^ d.size) (hu64 : u < 18446744073709551616) (hsz : d.size < 4611686018427387904) :
    Calls Tryd.prog 85 #[.slice (some ⟨blk, off, none⟩) d.size cap, .int .u64 u] w fun e w' =>
      e = .returned (.tuple #[]) ∧ ∃ (n v' : Nat) (dk : Array UInt8), w' = (putRow (fun (b : UInt8) => Value.int .u8 (b.toNat : Int)) w blk off dk).drewN n ∧ FmtInv d.size u 0 v' dk := Any.internal_strconv_formatBase10 Tryd.lays285 blk off cap u d w hH hu hu64 hsz
def Tryd.laysM246_ren : Go.Shelf.Ren := ⟨fun | 246 => 75 | 283 => 83 | 284 => 84 | 285 => 85 | 286 => 86 | 129 => 89 | 317 => 88 | 318 => 90 | 319 => 91 | 320 => 92 | 337 => 93 | 338 => 94 | n => n, fun | 2 => 2 | 3 => 3 | 9 => 9 | 4 => 4 | 171 => 123 | 0 => 0 | 53 => 124 | 37 => 83 | 5 => 5 | 173 => 127 | 212 => 131 | 51 => 132 | 20 => 20 | 213 => 133 | 46 => 117 | 232 => 137 | 233 => 138 | n => n, fun | 17 => 1 | 18 => 2 | 19 => 3 | n => n⟩
theorem Tryd.laysM246 : Go.Proofs.LaysM.n246 Tryd.prog Tryd.laysM246_ren := {
  mixed := by kernel_rfl
  f129 := Tryd.func89.trans (congrArg some (by kernel_rfl))
  f246 := Tryd.func75.trans (congrArg some (by kernel_rfl))
  f283 := Tryd.func83.trans (congrArg some (by kernel_rfl))
  f284 := Tryd.func84.trans (congrArg some (by kernel_rfl))
  f285 := Tryd.func85.trans (congrArg some (by kernel_rfl))
  f286 := Tryd.func86.trans (congrArg some (by kernel_rfl))
  f317 := Tryd.func88.trans (congrArg some (by kernel_rfl))
  f318 := Tryd.func90.trans (congrArg some (by kernel_rfl))
  f319 := Tryd.func91.trans (congrArg some (by kernel_rfl))
  f320 := Tryd.func92.trans (congrArg some (by kernel_rfl))
  f337 := Tryd.func93.trans (congrArg some (by kernel_rfl))
  f338 := Tryd.func94.trans (congrArg some (by kernel_rfl))
  t0 := Tryd.underlying0
  a0 := Tryd.isAgg0
  z0 := Tryd.sizeOf0
  v0 := Tryd.zeroValue0
  t2 := Tryd.underlying2
  a2 := Tryd.isAgg2
  z2 := Tryd.sizeOf2
  v2 := Tryd.zeroValue2
  t3 := Tryd.underlying3
  a3 := Tryd.isAgg3
  z3 := Tryd.sizeOf3
  v3 := Tryd.zeroValue3
  t4 := Tryd.underlying4
  a4 := Tryd.isAgg4
  z4 := Tryd.sizeOf4
  v4 := Tryd.zeroValue4
  t5 := Tryd.underlying5
  a5 := Tryd.isAgg5
  z5 := Tryd.sizeOf5
  v5 := Tryd.zeroValue5
  t9 := Tryd.underlying9
  a9 := Tryd.isAgg9
  z9 := Tryd.sizeOf9
  v9 := Tryd.zeroValue9
  t20 := Tryd.underlying20
  a20 := Tryd.isAgg20
  z20 := Tryd.sizeOf20
  v20 := Tryd.zeroValue20
  t37 := Tryd.underlying83
  a37 := Tryd.isAgg83
  z37 := Tryd.sizeOf83
  v37 := Tryd.zeroValue83
  t46 := Tryd.underlying117
  a46 := Tryd.isAgg117
  z46 := Tryd.sizeOf117
  v46 := Tryd.zeroValue117
  t51 := Tryd.underlying132
  a51 := Tryd.isAgg132
  z51 := Tryd.sizeOf132
  v51 := Tryd.zeroValue132
  t53 := Tryd.underlying124
  a53 := Tryd.isAgg124
  z53 := Tryd.sizeOf124
  v53 := Tryd.zeroValue124
  t171 := Tryd.underlying123
  a171 := Tryd.isAgg123
  z171 := Tryd.sizeOf123
  v171 := Tryd.zeroValue123
  t173 := Tryd.underlying127
  a173 := Tryd.isAgg127
  z173 := Tryd.sizeOf127
  v173 := Tryd.zeroValue127
  t212 := Tryd.underlying131
  a212 := Tryd.isAgg131
  z212 := Tryd.sizeOf131
  v212 := Tryd.zeroValue131
  t213 := Tryd.underlying133
  a213 := Tryd.isAgg133
  z213 := Tryd.sizeOf133
  t232 := Tryd.underlying137
  a232 := Tryd.isAgg137
  z232 := Tryd.sizeOf137
  v232 := Tryd.zeroValue137
  t233 := Tryd.underlying138
  a233 := Tryd.isAgg138
  z233 := Tryd.sizeOf138
  v233 := Tryd.zeroValue138
  g17 := by kernel_rfl
  g18 := by kernel_rfl
  g19 := by kernel_rfl
  i0 := by kernel_rfl
  i2 := by kernel_rfl
  i3 := by kernel_rfl
  i4 := by kernel_rfl
  i5 := by kernel_rfl
  i9 := by kernel_rfl
  i20 := by kernel_rfl
  i37 := by kernel_rfl
  i46 := by kernel_rfl
  i51 := by kernel_rfl
  i53 := by kernel_rfl
  i171 := by kernel_rfl
  i173 := by kernel_rfl
  i212 := by kernel_rfl
  i232 := by kernel_rfl
  i233 := by kernel_rfl
  m17 := by kernel_rfl
  m18 := by kernel_rfl
  m19 := by kernel_rfl }
open Go.RowKit Go.Sort Go.Lib in
/-- internal/strconv.FormatInt: "FormatInt returns the string representation of i in the given base": AT BASE 10: i's decimal numeral, for every int64. The world behind the call: the world before it, new blocks behind the heap, draws. (LAID: no walk: one application.) -/
theorem Tryd.internal_strconv_FormatInt_10 (n : Int) (h0 : -9223372036854775808 ≤ n) (h1 : n ≤ 9223372036854775807) (w : World) (htab : Lib.TabIs Tryd.prog w "internal/strconv.uint64pow10" .u64 Lib.pow10Tab) :
    Calls Tryd.prog 75 #[.int .i64 n, .int .i64 10] w fun e w' => e = .returned (.string ⟨(Lib.itoa n).toArray⟩) ∧ ∃ k os, w' = grow (w.drewN k) os := Any.internal_strconv_FormatInt_10 Tryd.laysM246 n h0 h1 w htab
def Tryd.lays246_ren : Go.Shelf.Ren := ⟨fun | 246 => 75 | 283 => 83 | 284 => 84 | 285 => 85 | 286 => 86 | 129 => 89 | 317 => 88 | 318 => 90 | 319 => 91 | 320 => 92 | 337 => 93 | 338 => 94 | n => n, fun | 2 => 2 | 3 => 3 | 9 => 9 | 4 => 4 | 171 => 123 | 0 => 0 | 53 => 124 | 37 => 83 | 5 => 5 | 173 => 127 | 212 => 131 | 51 => 132 | 20 => 20 | 213 => 133 | 46 => 117 | 232 => 137 | 233 => 138 | n => n, fun | 17 => 1 | 18 => 2 | 19 => 3 | n => n⟩
theorem Tryd.lays246 : Go.Proofs.Lays.n246 Tryd.prog Tryd.lays246_ren := {
  mixed := by kernel_rfl
  f129 := Tryd.func89.trans (congrArg some (by kernel_rfl))
  f246 := Tryd.func75.trans (congrArg some (by kernel_rfl))
  f283 := Tryd.func83.trans (congrArg some (by kernel_rfl))
  f284 := Tryd.func84.trans (congrArg some (by kernel_rfl))
  f285 := Tryd.func85.trans (congrArg some (by kernel_rfl))
  f286 := Tryd.func86.trans (congrArg some (by kernel_rfl))
  f317 := Tryd.func88.trans (congrArg some (by kernel_rfl))
  f318 := Tryd.func90.trans (congrArg some (by kernel_rfl))
  f319 := Tryd.func91.trans (congrArg some (by kernel_rfl))
  f320 := Tryd.func92.trans (congrArg some (by kernel_rfl))
  f337 := Tryd.func93.trans (congrArg some (by kernel_rfl))
  f338 := Tryd.func94.trans (congrArg some (by kernel_rfl))
  t0 := Tryd.underlying0
  a0 := Tryd.isAgg0
  z0 := Tryd.sizeOf0
  v0 := Tryd.zeroValue0
  t2 := Tryd.underlying2
  a2 := Tryd.isAgg2
  z2 := Tryd.sizeOf2
  v2 := Tryd.zeroValue2
  t3 := Tryd.underlying3
  a3 := Tryd.isAgg3
  z3 := Tryd.sizeOf3
  v3 := Tryd.zeroValue3
  t4 := Tryd.underlying4
  a4 := Tryd.isAgg4
  z4 := Tryd.sizeOf4
  v4 := Tryd.zeroValue4
  t5 := Tryd.underlying5
  a5 := Tryd.isAgg5
  z5 := Tryd.sizeOf5
  v5 := Tryd.zeroValue5
  t9 := Tryd.underlying9
  a9 := Tryd.isAgg9
  z9 := Tryd.sizeOf9
  v9 := Tryd.zeroValue9
  t20 := Tryd.underlying20
  a20 := Tryd.isAgg20
  z20 := Tryd.sizeOf20
  v20 := Tryd.zeroValue20
  t37 := Tryd.underlying83
  a37 := Tryd.isAgg83
  z37 := Tryd.sizeOf83
  v37 := Tryd.zeroValue83
  t46 := Tryd.underlying117
  a46 := Tryd.isAgg117
  z46 := Tryd.sizeOf117
  v46 := Tryd.zeroValue117
  t51 := Tryd.underlying132
  a51 := Tryd.isAgg132
  z51 := Tryd.sizeOf132
  v51 := Tryd.zeroValue132
  t53 := Tryd.underlying124
  a53 := Tryd.isAgg124
  z53 := Tryd.sizeOf124
  v53 := Tryd.zeroValue124
  t171 := Tryd.underlying123
  a171 := Tryd.isAgg123
  z171 := Tryd.sizeOf123
  v171 := Tryd.zeroValue123
  t173 := Tryd.underlying127
  a173 := Tryd.isAgg127
  z173 := Tryd.sizeOf127
  v173 := Tryd.zeroValue127
  t212 := Tryd.underlying131
  a212 := Tryd.isAgg131
  z212 := Tryd.sizeOf131
  v212 := Tryd.zeroValue131
  t213 := Tryd.underlying133
  a213 := Tryd.isAgg133
  z213 := Tryd.sizeOf133
  t232 := Tryd.underlying137
  a232 := Tryd.isAgg137
  z232 := Tryd.sizeOf137
  v232 := Tryd.zeroValue137
  t233 := Tryd.underlying138
  a233 := Tryd.isAgg138
  z233 := Tryd.sizeOf138
  v233 := Tryd.zeroValue138
  g17 := by kernel_rfl
  g18 := by kernel_rfl
  g19 := by kernel_rfl }
open Go.RowKit Go.Sort Go.Lib in
/-- THE ROAD WITHOUT THE TABLE: 0 <= i < 100: two constants are read, nothing is laid: no premise on the world, and the world is as it was. (LAID: no walk: one application.) -/
theorem Tryd.internal_strconv_FormatInt_10_small (i : Nat) (hi : i < 100) (w : World) :
    Calls Tryd.prog 75 #[.int .i64 i, .int .i64 10] w fun e w' => e = .returned (.string ⟨(Lib.decDigits i).toArray⟩) ∧ w' = w := Any.internal_strconv_FormatInt_10_small Tryd.lays246 i hi w
def Tryd.laysM243_ren : Go.Shelf.Ren := ⟨fun | 243 => 63 | 246 => 75 | 283 => 83 | 284 => 84 | 285 => 85 | 286 => 86 | 129 => 89 | 317 => 88 | 318 => 90 | 319 => 91 | 320 => 92 | 337 => 93 | 338 => 94 | n => n, fun | 3 => 3 | 9 => 9 | 2 => 2 | 4 => 4 | 171 => 123 | 0 => 0 | 53 => 124 | 37 => 83 | 5 => 5 | 173 => 127 | 212 => 131 | 51 => 132 | 20 => 20 | 213 => 133 | 46 => 117 | 232 => 137 | 233 => 138 | n => n, fun | 17 => 1 | 18 => 2 | 19 => 3 | n => n⟩
theorem Tryd.laysM243 : Go.Proofs.LaysM.n243 Tryd.prog Tryd.laysM243_ren := {
  mixed := by kernel_rfl
  f129 := Tryd.func89.trans (congrArg some (by kernel_rfl))
  f243 := Tryd.func63.trans (congrArg some (by kernel_rfl))
  f246 := Tryd.func75.trans (congrArg some (by kernel_rfl))
  f283 := Tryd.func83.trans (congrArg some (by kernel_rfl))
  f284 := Tryd.func84.trans (congrArg some (by kernel_rfl))
  f285 := Tryd.func85.trans (congrArg some (by kernel_rfl))
  f286 := Tryd.func86.trans (congrArg some (by kernel_rfl))
  f317 := Tryd.func88.trans (congrArg some (by kernel_rfl))
  f318 := Tryd.func90.trans (congrArg some (by kernel_rfl))
  f319 := Tryd.func91.trans (congrArg some (by kernel_rfl))
  f320 := Tryd.func92.trans (congrArg some (by kernel_rfl))
  f337 := Tryd.func93.trans (congrArg some (by kernel_rfl))
  f338 := Tryd.func94.trans (congrArg some (by kernel_rfl))
  t0 := Tryd.underlying0
  a0 := Tryd.isAgg0
  z0 := Tryd.sizeOf0
  v0 := Tryd.zeroValue0
  t2 := Tryd.underlying2
  a2 := Tryd.isAgg2
  z2 := Tryd.sizeOf2
  v2 := Tryd.zeroValue2
  t3 := Tryd.underlying3
  a3 := Tryd.isAgg3
  z3 := Tryd.sizeOf3
  v3 := Tryd.zeroValue3
  t4 := Tryd.underlying4
  a4 := Tryd.isAgg4
  z4 := Tryd.sizeOf4
  v4 := Tryd.zeroValue4
  t5 := Tryd.underlying5
  a5 := Tryd.isAgg5
  z5 := Tryd.sizeOf5
  v5 := Tryd.zeroValue5
  t9 := Tryd.underlying9
  a9 := Tryd.isAgg9
  z9 := Tryd.sizeOf9
  v9 := Tryd.zeroValue9
  t20 := Tryd.underlying20
  a20 := Tryd.isAgg20
  z20 := Tryd.sizeOf20
  v20 := Tryd.zeroValue20
  t37 := Tryd.underlying83
  a37 := Tryd.isAgg83
  z37 := Tryd.sizeOf83
  v37 := Tryd.zeroValue83
  t46 := Tryd.underlying117
  a46 := Tryd.isAgg117
  z46 := Tryd.sizeOf117
  v46 := Tryd.zeroValue117
  t51 := Tryd.underlying132
  a51 := Tryd.isAgg132
  z51 := Tryd.sizeOf132
  v51 := Tryd.zeroValue132
  t53 := Tryd.underlying124
  a53 := Tryd.isAgg124
  z53 := Tryd.sizeOf124
  v53 := Tryd.zeroValue124
  t171 := Tryd.underlying123
  a171 := Tryd.isAgg123
  z171 := Tryd.sizeOf123
  v171 := Tryd.zeroValue123
  t173 := Tryd.underlying127
  a173 := Tryd.isAgg127
  z173 := Tryd.sizeOf127
  v173 := Tryd.zeroValue127
  t212 := Tryd.underlying131
  a212 := Tryd.isAgg131
  z212 := Tryd.sizeOf131
  v212 := Tryd.zeroValue131
  t213 := Tryd.underlying133
  a213 := Tryd.isAgg133
  z213 := Tryd.sizeOf133
  t232 := Tryd.underlying137
  a232 := Tryd.isAgg137
  z232 := Tryd.sizeOf137
  v232 := Tryd.zeroValue137
  t233 := Tryd.underlying138
  a233 := Tryd.isAgg138
  z233 := Tryd.sizeOf138
  v233 := Tryd.zeroValue138
  g17 := by kernel_rfl
  g18 := by kernel_rfl
  g19 := by kernel_rfl
  i0 := by kernel_rfl
  i2 := by kernel_rfl
  i3 := by kernel_rfl
  i4 := by kernel_rfl
  i5 := by kernel_rfl
  i9 := by kernel_rfl
  i20 := by kernel_rfl
  i37 := by kernel_rfl
  i46 := by kernel_rfl
  i51 := by kernel_rfl
  i53 := by kernel_rfl
  i171 := by kernel_rfl
  i173 := by kernel_rfl
  i212 := by kernel_rfl
  i232 := by kernel_rfl
  i233 := by kernel_rfl
  m17 := by kernel_rfl
  m18 := by kernel_rfl
  m19 := by kernel_rfl }
open Go.RowKit Go.Sort Go.Lib in
/-- internal/strconv.Itoa: "Itoa is equivalent to FormatInt(int64(i), 10).": i's decimal numeral, for every int. (LAID: no walk: one application.) -/
theorem Tryd.internal_strconv_Itoa (n : Int) (h0 : -9223372036854775808 ≤ n) (h1 : n ≤ 9223372036854775807) (w : World) (htab : Lib.TabIs Tryd.prog w "internal/strconv.uint64pow10" .u64 Lib.pow10Tab) :
    Calls Tryd.prog 63 #[.int .i64 n] w fun e w' => e = .returned (.string ⟨(Lib.itoa n).toArray⟩) ∧ ∃ k os, w' = grow (w.drewN k) os := Any.internal_strconv_Itoa Tryd.laysM243 n h0 h1 w htab
def Tryd.lays243_ren : Go.Shelf.Ren := ⟨fun | 243 => 63 | 246 => 75 | 283 => 83 | 284 => 84 | 285 => 85 | 286 => 86 | 129 => 89 | 317 => 88 | 318 => 90 | 319 => 91 | 320 => 92 | 337 => 93 | 338 => 94 | n => n, fun | 3 => 3 | 9 => 9 | 2 => 2 | 4 => 4 | 171 => 123 | 0 => 0 | 53 => 124 | 37 => 83 | 5 => 5 | 173 => 127 | 212 => 131 | 51 => 132 | 20 => 20 | 213 => 133 | 46 => 117 | 232 => 137 | 233 => 138 | n => n, fun | 17 => 1 | 18 => 2 | 19 => 3 | n => n⟩
theorem Tryd.lays243 : Go.Proofs.Lays.n243 Tryd.prog Tryd.lays243_ren := {
  mixed := by kernel_rfl
  f129 := Tryd.func89.trans (congrArg some (by kernel_rfl))
  f243 := Tryd.func63.trans (congrArg some (by kernel_rfl))
  f246 := Tryd.func75.trans (congrArg some (by kernel_rfl))
  f283 := Tryd.func83.trans (congrArg some (by kernel_rfl))
  f284 := Tryd.func84.trans (congrArg some (by kernel_rfl))
  f285 := Tryd.func85.trans (congrArg some (by kernel_rfl))
  f286 := Tryd.func86.trans (congrArg some (by kernel_rfl))
  f317 := Tryd.func88.trans (congrArg some (by kernel_rfl))
  f318 := Tryd.func90.trans (congrArg some (by kernel_rfl))
  f319 := Tryd.func91.trans (congrArg some (by kernel_rfl))
  f320 := Tryd.func92.trans (congrArg some (by kernel_rfl))
  f337 := Tryd.func93.trans (congrArg some (by kernel_rfl))
  f338 := Tryd.func94.trans (congrArg some (by kernel_rfl))
  t0 := Tryd.underlying0
  a0 := Tryd.isAgg0
  z0 := Tryd.sizeOf0
  v0 := Tryd.zeroValue0
  t2 := Tryd.underlying2
  a2 := Tryd.isAgg2
  z2 := Tryd.sizeOf2
  v2 := Tryd.zeroValue2
  t3 := Tryd.underlying3
  a3 := Tryd.isAgg3
  z3 := Tryd.sizeOf3
  v3 := Tryd.zeroValue3
  t4 := Tryd.underlying4
  a4 := Tryd.isAgg4
  z4 := Tryd.sizeOf4
  v4 := Tryd.zeroValue4
  t5 := Tryd.underlying5
  a5 := Tryd.isAgg5
  z5 := Tryd.sizeOf5
  v5 := Tryd.zeroValue5
  t9 := Tryd.underlying9
  a9 := Tryd.isAgg9
  z9 := Tryd.sizeOf9
  v9 := Tryd.zeroValue9
  t20 := Tryd.underlying20
  a20 := Tryd.isAgg20
  z20 := Tryd.sizeOf20
  v20 := Tryd.zeroValue20
  t37 := Tryd.underlying83
  a37 := Tryd.isAgg83
  z37 := Tryd.sizeOf83
  v37 := Tryd.zeroValue83
  t46 := Tryd.underlying117
  a46 := Tryd.isAgg117
  z46 := Tryd.sizeOf117
  v46 := Tryd.zeroValue117
  t51 := Tryd.underlying132
  a51 := Tryd.isAgg132
  z51 := Tryd.sizeOf132
  v51 := Tryd.zeroValue132
  t53 := Tryd.underlying124
  a53 := Tryd.isAgg124
  z53 := Tryd.sizeOf124
  v53 := Tryd.zeroValue124
  t171 := Tryd.underlying123
  a171 := Tryd.isAgg123
  z171 := Tryd.sizeOf123
  v171 := Tryd.zeroValue123
  t173 := Tryd.underlying127
  a173 := Tryd.isAgg127
  z173 := Tryd.sizeOf127
  v173 := Tryd.zeroValue127
  t212 := Tryd.underlying131
  a212 := Tryd.isAgg131
  z212 := Tryd.sizeOf131
  v212 := Tryd.zeroValue131
  t213 := Tryd.underlying133
  a213 := Tryd.isAgg133
  z213 := Tryd.sizeOf133
  t232 := Tryd.underlying137
  a232 := Tryd.isAgg137
  z232 := Tryd.sizeOf137
  v232 := Tryd.zeroValue137
  t233 := Tryd.underlying138
  a233 := Tryd.isAgg138
  z233 := Tryd.sizeOf138
  v233 := Tryd.zeroValue138
  g17 := by kernel_rfl
  g18 := by kernel_rfl
  g19 := by kernel_rfl }
open Go.RowKit Go.Sort Go.Lib in
/-- THE ROAD WITHOUT THE TABLE: 0 <= i < 100. (LAID: no walk: one application.) -/
theorem Tryd.internal_strconv_Itoa_small (i : Nat) (hi : i < 100) (w : World) :
    Calls Tryd.prog 63 #[.int .i64 i] w fun e w' => e = .returned (.string ⟨(Lib.decDigits i).toArray⟩) ∧ w' = w := Any.internal_strconv_Itoa_small Tryd.lays243 i hi w
def Tryd.laysM171_ren : Go.Shelf.Ren := ⟨fun | 171 => 48 | 243 => 63 | 246 => 75 | 283 => 83 | 284 => 84 | 285 => 85 | 286 => 86 | 129 => 89 | 317 => 88 | 318 => 90 | 319 => 91 | 320 => 92 | 337 => 93 | 338 => 94 | n => n, fun | 3 => 3 | 9 => 9 | 2 => 2 | 4 => 4 | 171 => 123 | 0 => 0 | 53 => 124 | 37 => 83 | 5 => 5 | 173 => 127 | 212 => 131 | 51 => 132 | 20 => 20 | 213 => 133 | 46 => 117 | 232 => 137 | 233 => 138 | n => n, fun | 17 => 1 | 18 => 2 | 19 => 3 | n => n⟩
theorem Tryd.laysM171 : Go.Proofs.LaysM.n171 Tryd.prog Tryd.laysM171_ren := {
  mixed := by kernel_rfl
  f129 := Tryd.func89.trans (congrArg some (by kernel_rfl))
  f171 := Tryd.func48.trans (congrArg some (by kernel_rfl))
  f243 := Tryd.func63.trans (congrArg some (by kernel_rfl))
  f246 := Tryd.func75.trans (congrArg some (by kernel_rfl))
  f283 := Tryd.func83.trans (congrArg some (by kernel_rfl))
  f284 := Tryd.func84.trans (congrArg some (by kernel_rfl))
  f285 := Tryd.func85.trans (congrArg some (by kernel_rfl))
  f286 := Tryd.func86.trans (congrArg some (by kernel_rfl))
  f317 := Tryd.func88.trans (congrArg some (by kernel_rfl))
  f318 := Tryd.func90.trans (congrArg some (by kernel_rfl))
  f319 := Tryd.func91.trans (congrArg some (by kernel_rfl))
  f320 := Tryd.func92.trans (congrArg some (by kernel_rfl))
  f337 := Tryd.func93.trans (congrArg some (by kernel_rfl))
  f338 := Tryd.func94.trans (congrArg some (by kernel_rfl))
  t0 := Tryd.underlying0
  a0 := Tryd.isAgg0
  z0 := Tryd.sizeOf0
  v0 := Tryd.zeroValue0
  t2 := Tryd.underlying2
  a2 := Tryd.isAgg2
  z2 := Tryd.sizeOf2
  v2 := Tryd.zeroValue2
  t3 := Tryd.underlying3
  a3 := Tryd.isAgg3
  z3 := Tryd.sizeOf3
  v3 := Tryd.zeroValue3
  t4 := Tryd.underlying4
  a4 := Tryd.isAgg4
  z4 := Tryd.sizeOf4
  v4 := Tryd.zeroValue4
  t5 := Tryd.underlying5
  a5 := Tryd.isAgg5
  z5 := Tryd.sizeOf5
  v5 := Tryd.zeroValue5
  t9 := Tryd.underlying9
  a9 := Tryd.isAgg9
  z9 := Tryd.sizeOf9
  v9 := Tryd.zeroValue9
  t20 := Tryd.underlying20
  a20 := Tryd.isAgg20
  z20 := Tryd.sizeOf20
  v20 := Tryd.zeroValue20
  t37 := Tryd.underlying83
  a37 := Tryd.isAgg83
  z37 := Tryd.sizeOf83
  v37 := Tryd.zeroValue83
  t46 := Tryd.underlying117
  a46 := Tryd.isAgg117
  z46 := Tryd.sizeOf117
  v46 := Tryd.zeroValue117
  t51 := Tryd.underlying132
  a51 := Tryd.isAgg132
  z51 := Tryd.sizeOf132
  v51 := Tryd.zeroValue132
  t53 := Tryd.underlying124
  a53 := Tryd.isAgg124
  z53 := Tryd.sizeOf124
  v53 := Tryd.zeroValue124
  t171 := Tryd.underlying123
  a171 := Tryd.isAgg123
  z171 := Tryd.sizeOf123
  v171 := Tryd.zeroValue123
  t173 := Tryd.underlying127
  a173 := Tryd.isAgg127
  z173 := Tryd.sizeOf127
  v173 := Tryd.zeroValue127
  t212 := Tryd.underlying131
  a212 := Tryd.isAgg131
  z212 := Tryd.sizeOf131
  v212 := Tryd.zeroValue131
  t213 := Tryd.underlying133
  a213 := Tryd.isAgg133
  z213 := Tryd.sizeOf133
  t232 := Tryd.underlying137
  a232 := Tryd.isAgg137
  z232 := Tryd.sizeOf137
  v232 := Tryd.zeroValue137
  t233 := Tryd.underlying138
  a233 := Tryd.isAgg138
  z233 := Tryd.sizeOf138
  v233 := Tryd.zeroValue138
  g17 := by kernel_rfl
  g18 := by kernel_rfl
  g19 := by kernel_rfl
  i0 := by kernel_rfl
  i2 := by kernel_rfl
  i3 := by kernel_rfl
  i4 := by kernel_rfl
  i5 := by kernel_rfl
  i9 := by kernel_rfl
  i20 := by kernel_rfl
  i37 := by kernel_rfl
  i46 := by kernel_rfl
  i51 := by kernel_rfl
  i53 := by kernel_rfl
  i171 := by kernel_rfl
  i173 := by kernel_rfl
  i212 := by kernel_rfl
  i232 := by kernel_rfl
  i233 := by kernel_rfl
  m17 := by kernel_rfl
  m18 := by kernel_rfl
  m19 := by kernel_rfl }
open Go.RowKit Go.Sort Go.Lib in
/-- strconv.Itoa: "Itoa is equivalent to FormatInt(int64(i), 10).": i's DECIMAL NUMERAL ('Lib.itoa': a '-' where i is negative, then the digits), FOR EVERY int. The world behind the call: the world before it, new blocks behind the heap (the library's 'var a [24]byte'), draws. (LAID: no walk: one application.) -/
theorem Tryd.strconv_Itoa (n : Int) (h0 : -9223372036854775808 ≤ n) (h1 : n ≤ 9223372036854775807) (w : World) (htab : Lib.TabIs Tryd.prog w "internal/strconv.uint64pow10" .u64 Lib.pow10Tab) :
    Calls Tryd.prog 48 #[.int .i64 n] w fun e w' => e = .returned (.string ⟨(Lib.itoa n).toArray⟩) ∧ ∃ k os, w' = grow (w.drewN k) os := Any.strconv_Itoa Tryd.laysM171 n h0 h1 w htab
def Tryd.lays171_ren : Go.Shelf.Ren := ⟨fun | 171 => 48 | 243 => 63 | 246 => 75 | 283 => 83 | 284 => 84 | 285 => 85 | 286 => 86 | 129 => 89 | 317 => 88 | 318 => 90 | 319 => 91 | 320 => 92 | 337 => 93 | 338 => 94 | n => n, fun | 3 => 3 | 9 => 9 | 2 => 2 | 4 => 4 | 171 => 123 | 0 => 0 | 53 => 124 | 37 => 83 | 5 => 5 | 173 => 127 | 212 => 131 | 51 => 132 | 20 => 20 | 213 => 133 | 46 => 117 | 232 => 137 | 233 => 138 | n => n, fun | 17 => 1 | 18 => 2 | 19 => 3 | n => n⟩
theorem Tryd.lays171 : Go.Proofs.Lays.n171 Tryd.prog Tryd.lays171_ren := {
  mixed := by kernel_rfl
  f129 := Tryd.func89.trans (congrArg some (by kernel_rfl))
  f171 := Tryd.func48.trans (congrArg some (by kernel_rfl))
  f243 := Tryd.func63.trans (congrArg some (by kernel_rfl))
  f246 := Tryd.func75.trans (congrArg some (by kernel_rfl))
  f283 := Tryd.func83.trans (congrArg some (by kernel_rfl))
  f284 := Tryd.func84.trans (congrArg some (by kernel_rfl))
  f285 := Tryd.func85.trans (congrArg some (by kernel_rfl))
  f286 := Tryd.func86.trans (congrArg some (by kernel_rfl))
  f317 := Tryd.func88.trans (congrArg some (by kernel_rfl))
  f318 := Tryd.func90.trans (congrArg some (by kernel_rfl))
  f319 := Tryd.func91.trans (congrArg some (by kernel_rfl))
  f320 := Tryd.func92.trans (congrArg some (by kernel_rfl))
  f337 := Tryd.func93.trans (congrArg some (by kernel_rfl))
  f338 := Tryd.func94.trans (congrArg some (by kernel_rfl))
  t0 := Tryd.underlying0
  a0 := Tryd.isAgg0
  z0 := Tryd.sizeOf0
  v0 := Tryd.zeroValue0
  t2 := Tryd.underlying2
  a2 := Tryd.isAgg2
  z2 := Tryd.sizeOf2
  v2 := Tryd.zeroValue2
  t3 := Tryd.underlying3
  a3 := Tryd.isAgg3
  z3 := Tryd.sizeOf3
  v3 := Tryd.zeroValue3
  t4 := Tryd.underlying4
  a4 := Tryd.isAgg4
  z4 := Tryd.sizeOf4
  v4 := Tryd.zeroValue4
  t5 := Tryd.underlying5
  a5 := Tryd.isAgg5
  z5 := Tryd.sizeOf5
  v5 := Tryd.zeroValue5
  t9 := Tryd.underlying9
  a9 := Tryd.isAgg9
  z9 := Tryd.sizeOf9
  v9 := Tryd.zeroValue9
  t20 := Tryd.underlying20
  a20 := Tryd.isAgg20
  z20 := Tryd.sizeOf20
  v20 := Tryd.zeroValue20
  t37 := Tryd.underlying83
  a37 := Tryd.isAgg83
  z37 := Tryd.sizeOf83
  v37 := Tryd.zeroValue83
  t46 := Tryd.underlying117
  a46 := Tryd.isAgg117
  z46 := Tryd.sizeOf117
  v46 := Tryd.zeroValue117
  t51 := Tryd.underlying132
  a51 := Tryd.isAgg132
  z51 := Tryd.sizeOf132
  v51 := Tryd.zeroValue132
  t53 := Tryd.underlying124
  a53 := Tryd.isAgg124
  z53 := Tryd.sizeOf124
  v53 := Tryd.zeroValue124
  t171 := Tryd.underlying123
  a171 := Tryd.isAgg123
  z171 := Tryd.sizeOf123
  v171 := Tryd.zeroValue123
  t173 := Tryd.underlying127
  a173 := Tryd.isAgg127
  z173 := Tryd.sizeOf127
  v173 := Tryd.zeroValue127
  t212 := Tryd.underlying131
  a212 := Tryd.isAgg131
  z212 := Tryd.sizeOf131
  v212 := Tryd.zeroValue131
  t213 := Tryd.underlying133
  a213 := Tryd.isAgg133
  z213 := Tryd.sizeOf133
  t232 := Tryd.underlying137
  a232 := Tryd.isAgg137
  z232 := Tryd.sizeOf137
  v232 := Tryd.zeroValue137
  t233 := Tryd.underlying138
  a233 := Tryd.isAgg138
  z233 := Tryd.sizeOf138
  v233 := Tryd.zeroValue138
  g17 := by kernel_rfl
  g18 := by kernel_rfl
  g19 := by kernel_rfl }
open Go.RowKit Go.Sort Go.Lib in
/-- THE ROAD WITHOUT THE TABLE: 0 <= i < 100: NO PREMISE ON THE WORLD, AND THE WORLD IS AS IT WAS: a row that keeps its argument in that range need list no table ('laid = []'). (LAID: no walk: one application.) -/
theorem Tryd.strconv_Itoa_small (i : Nat) (hi : i < 100) (w : World) :
    Calls Tryd.prog 48 #[.int .i64 i] w fun e w' => e = .returned (.string ⟨(Lib.decDigits i).toArray⟩) ∧ w' = w := Any.strconv_Itoa_small Tryd.lays171 i hi w
def Tryd.lays217_ren : Go.Shelf.Ren := ⟨fun | 217 => 68 | 266 => 80 | n => n, fun | 9 => 9 | 5 => 5 | 3 => 3 | n => n, fun | n => n⟩
theorem Tryd.lays217 : Go.Proofs.Lays.n217 Tryd.prog Tryd.lays217_ren := {
  mixed := by kernel_rfl
  f217 := Tryd.func68.trans (congrArg some (by kernel_rfl))
  f266 := Tryd.func80.trans (congrArg some (by kernel_rfl))
  t3 := Tryd.underlying3
  a3 := Tryd.isAgg3
  z3 := Tryd.sizeOf3
  v3 := Tryd.zeroValue3
  t5 := Tryd.underlying5
  a5 := Tryd.isAgg5
  z5 := Tryd.sizeOf5
  v5 := Tryd.zeroValue5
  t9 := Tryd.underlying9
  a9 := Tryd.isAgg9
  z9 := Tryd.sizeOf9
  v9 := Tryd.zeroValue9 }
open Go.RowKit Go.Lib in
/-- internal/stringslite.IndexByte (what strings.IndexByte calls): IT RETURNS 'Lib.indexByte s c'; the world is as it was. (LAID: no walk: one application.) -/
theorem Tryd.stringslite_IndexByte (s : ByteArray) (c : Int) (w : World) :
    Calls Tryd.prog 68 #[.string s, .int .u8 c] w fun e w' => e = .returned (.int .i64 (Lib.indexByte s.data.toList c.toNat.toUInt8)) ∧ w' = w := Any.stringslite_IndexByte Tryd.lays217 s c w
end Go.Proofs
end

section
/-
YtgpgpelaabdkhaaDoor: strconv.Itoa, by the shelf: its contract. No condition.
-/
open Go Go.AM
namespace Go.Proofs.YtgpgpelaabdkhaaDoor
noncomputable section
def itoaG (n : Int) : Option (ByteArray × Unit) := if -9223372036854775808 ≤ n ∧ n ≤ 9223372036854775807 then some (strB (Lib.itoa n), ()) else none
def strconv_Itoa (n : Int) : Option ((ByteArray × Unit) × Unit) := (itoaG n).bind fun y => some (y, ())
def fc48 : FC := ⟨⟨[.one (.int .i64)], []⟩, ⟨[.one .str], []⟩, fun x => strconv_Itoa x.1.1⟩
theorem con48 : Contract Tryd.prog 48 fc48 :=
  Contract.below (P := Tryd.prog) (f := 48) (sa := [.one (.int .i64)]) (sr := [.one .str]) (fn := Tryd.f48) (c := Tryd.f48.body.getD .skip) Tryd.func48 (by kernel_rfl) (by kernel_rfl) (g := fun x => itoaG x.1) (fun w M G x y vals hI hv hg => by
    obtain ⟨n, u⟩ := x
    obtain ⟨vs⟩ := vals
    match vs, hv with
    | [v1], hv =>
      obtain ⟨⟨rfl, _⟩, _⟩ := hv
      have hg' : itoaG n = some y := hg
      unfold itoaG at hg'
      split at hg'
      · rename_i hn
        cases hg'
        refine (Tryd.strconv_Itoa n hn.1 hn.2 w (zone_tab (hI.zone _ _ zone_pow))).mono ?_
        rintro e w' ⟨rfl, k, os, rfl⟩
        refine ⟨_, rfl, ⟨rfl, rfl, rfl, ?_, fun i hi => ?_⟩, rfl, rfl⟩
        · show w.heap.size ≤ (w.heap ++ os).size
          simp
        · show (w.heap ++ os)[i]? = w.heap[i]?
          rw [Array.getElem?_append_left hi]
      · cases hg'
    | [], hv => exact hv.elim
    | _ :: _ :: _, hv => exact hv.2.elim)
end
end Go.Proofs.YtgpgpelaabdkhaaDoor
end

section
/-
YtgpgpelaabdkhaaDoor: signalbench.trig.number, as one plain function, its equations, its contract. No condition.
-/
set_option maxRecDepth 100000
set_option linter.unusedVariables false
set_option maxHeartbeats 4000000
open Go Go.AM
namespace Go.Proofs.YtgpgpelaabdkhaaDoor
noncomputable section
def trig_number_D : FD := ⟨T, lookC [(48, fc48)], [], (Tryd.f33.body.getD .skip), Tryd.f33.results.toList, ⟨[.one (.int .i64)], []⟩, ⟨[.row (.cons (.int .i64) (.cons .str (.cons (.int .i64) (.int .i64))))], []⟩, []⟩
def trig_number (n : Int) : (Option ((TToken × Unit) × Unit)) :=
  (strconv_Itoa n).bind fun y1 =>
    some (((2, y1.1.1, n, 0), ()), ())
def fc33 : FC := ⟨⟨[.one (.int .i64)], []⟩, ⟨[.row (.cons (.int .i64) (.cons .str (.cons (.int .i64) (.int .i64))))], []⟩, fun x => trig_number x.1.1⟩
theorem con33 : Contract Tryd.prog 33 fc33 :=
  trig_number_D.contract tok (cok_of (l := [(48, fc48)]) ⟨con48, trivial⟩) mixed (fn' := Tryd.f33) (by kernel_rfl) (by kernel_rfl) rfl (by kernel_rfl) (fun x => (FD.fn_eq _ _).trans (by kernel_rfl))
end
end Go.Proofs.YtgpgpelaabdkhaaDoor
end

section
/-
YtgpgpelaabdkhaaDoor: signalbench.trig.kinds, as one plain function, its equations, its contract. No condition.
-/
set_option maxRecDepth 100000
set_option linter.unusedVariables false
set_option maxHeartbeats 4000000
open Go Go.AM
namespace Go.Proofs.YtgpgpelaabdkhaaDoor
noncomputable section
def trig_kinds_D : FD := ⟨T, lookC [], [], (Tryd.f45.body.getD .skip), Tryd.f45.results.toList, ⟨[], []⟩, ⟨[.one (.sl .str)], []⟩, []⟩
def trig_kinds : (Option (((List ByteArray) × Unit) × Unit)) :=
  some (([(strB [97, 110, 121]), (strB [108, 101, 118, 101, 108]), (strB [98, 105, 116]), (strB [98, 121, 116, 101]), (strB [109, 97, 114, 107]), (strB [102, 114, 97, 109, 101]), (strB [112, 97, 99, 107, 101, 116]), (strB [99, 111, 109, 109, 97, 110, 100]), (strB [112, 97, 105, 114])], ()), ())
def fc45 : FC := ⟨⟨[], []⟩, ⟨[.one (.sl .str)], []⟩, fun x => trig_kinds⟩
theorem con45 : Contract Tryd.prog 45 fc45 :=
  trig_kinds_D.contract tok (cok_of (l := []) trivial) mixed (fn' := Tryd.f45) (by kernel_rfl) (by kernel_rfl) rfl (by kernel_rfl) (fun x => (FD.fn_eq _ _).trans (by kernel_rfl))
end
end Go.Proofs.YtgpgpelaabdkhaaDoor
end

section
/-
YtgpgpelaabdkhaaDoor: signalbench.trig.fields, as one plain function, its equations, its contract. No condition.
-/
set_option maxRecDepth 100000
set_option linter.unusedVariables false
set_option maxHeartbeats 4000000
open Go Go.AM
namespace Go.Proofs.YtgpgpelaabdkhaaDoor
noncomputable section
def trig_fields_D : FD := ⟨T, lookC [], [], (Tryd.f46.body.getD .skip), Tryd.f46.results.toList, ⟨[], []⟩, ⟨[.one (.sl .str)], []⟩, []⟩
def trig_fields : (Option (((List ByteArray) × Unit) × Unit)) :=
  some (([(strB [118, 97, 108, 117, 101]), (strB [97, 117, 120]), (strB [102, 97, 117, 108, 116]), (strB [108, 101, 110, 103, 116, 104]), (strB [116, 105, 99, 107, 115]), (strB [102, 105, 114, 115, 116])], ()), ())
def fc46 : FC := ⟨⟨[], []⟩, ⟨[.one (.sl .str)], []⟩, fun x => trig_fields⟩
theorem con46 : Contract Tryd.prog 46 fc46 :=
  trig_fields_D.contract tok (cok_of (l := []) trivial) mixed (fn' := Tryd.f46) (by kernel_rfl) (by kernel_rfl) rfl (by kernel_rfl) (fun x => (FD.fn_eq _ _).trans (by kernel_rfl))
end
end Go.Proofs.YtgpgpelaabdkhaaDoor
end

section
/-
YtgpgpelaabdkhaaDoor: signalbench.trig.ops, as one plain function, its equations, its contract. No condition.
-/
set_option maxRecDepth 100000
set_option linter.unusedVariables false
set_option maxHeartbeats 4000000
open Go Go.AM
namespace Go.Proofs.YtgpgpelaabdkhaaDoor
noncomputable section
def trig_ops_D : FD := ⟨T, lookC [], [], (Tryd.f47.body.getD .skip), Tryd.f47.results.toList, ⟨[.one (.int .i64)], []⟩, ⟨[.one (.sl .str)], []⟩, []⟩
def trig_ops (op : Int) : (Option (((List ByteArray) × Unit) × Unit)) :=
  if (op == 1) = true then
    some (([(strB [61])], ()), ())
  else
    if (op == 2) = true then
      some (([(strB [33]), (strB [61])], ()), ())
    else
      if (op == 3) = true then
        some (([(strB [60])], ()), ())
      else
        if (op == 4) = true then
          some (([(strB [62])], ()), ())
        else
          some (([(strB [38])], ()), ())
def fc47 : FC := ⟨⟨[.one (.int .i64)], []⟩, ⟨[.one (.sl .str)], []⟩, fun x => trig_ops x.1.1⟩
theorem con47 : Contract Tryd.prog 47 fc47 :=
  trig_ops_D.contract tok (cok_of (l := []) trivial) mixed (fn' := Tryd.f47) (by kernel_rfl) (by kernel_rfl) rfl (by kernel_rfl) (fun x => (FD.fn_eq _ _).trans (by kernel_rfl))
end
end Go.Proofs.YtgpgpelaabdkhaaDoor
end

section
/-
YtgpgpelaabdkhaaDoor: signalbench.trig.cond, as one plain function, its equations, its contract. No condition.
-/
set_option maxRecDepth 100000
set_option linter.unusedVariables false
set_option maxHeartbeats 4000000
open Go Go.AM
namespace Go.Proofs.YtgpgpelaabdkhaaDoor
noncomputable section
def trig_cond_F8 : FSh := ⟨[(1, .one (.ptr 0 0)), (3, .one (.own 1)), (33, .one (.sl .str)), (34, .one (.int .i64)), (35, .one (.int .i64))], [.boxr 36 (.cons .str (.cons (.int .i64) (.cons (.int .i64) (.cons (.int .i64) (.int .i64))))), .arr 63 (.cons (.int .i64) (.cons .str (.cons (.int .i64) (.int .i64)))) true]⟩
def trig_cond_D : FD := ⟨T, lookC [(30, fc30), (31, fc31), (33, fc33), (45, fc45), (46, fc46), (47, fc47)], [], (Tryd.f32.body.getD .skip), Tryd.f32.results.toList, ⟨[.row (.cons .str (.cons (.int .i64) (.cons (.int .i64) (.cons (.int .i64) (.int .i64)))))], []⟩, ⟨[.one (.sl (.cons (.int .i64) (.cons .str (.cons (.int .i64) (.int .i64)))))], []⟩, [(8, trig_cond_F8)]⟩
def trig_cond_l8 (t33 : (List ByteArray)) (t34 : Int) (t35 : Int) (h0 : TCond) (l1 : (List TToken)) : (Option (((List TToken) × Unit) × Unit)) := trig_cond_D.lab 8 trig_cond_F8 (((), (), t33, t34, t35, ()), (h0, l1, ()))
theorem trig_cond_l8_eq (t33 : (List ByteArray)) (t34 : Int) (t35 : Int) (h0 : TCond) (l1 : (List TToken)) : trig_cond_l8 t33 t34 t35 h0 l1 =
  if (decide (t35 < t34)) = true then
    if 0 ≤ t35 ∧ t35 < (t33.length : Int) then
      (trig_mark (t33.getD t35.toNat (strB []))).bind fun y1 =>
        if (l1.length + 1) * 40 ≤ 140737488355328 ∧ 0 < 40 then
          trig_cond_l8 t33 t34 (IntKind.i64.wrap (t35 + 1)) h0 (l1 ++ [y1.1.1])
        else
          none
    else
      none
  else
    (trig_number h0.2.2.2.2).bind fun y2 =>
      if (l1.length + 1) * 40 ≤ 140737488355328 ∧ 0 < 40 then
        some ((l1 ++ [y2.1.1], ()), ())
      else
        none := (FD.lab_eq _ _ _ _).trans (by kernel_rfl)
def trig_cond (c : TCond) : (Option (((List TToken) × Unit) × Unit)) :=
  (trig_name c.1).bind fun y1 =>
    (trig_mark (strB [46])).bind fun y2 =>
      (trig_kinds).bind fun y3 =>
        if 0 ≤ c.2.1 ∧ c.2.1 < (y3.1.1.length : Int) then
          (trig_name (y3.1.1.getD c.2.1.toNat (strB []))).bind fun y4 =>
            if (c.2.2.2.1 == 0) = true then
              some (([y1.1.1, y2.1.1, y4.1.1], ()), ())
            else
              (trig_fields).bind fun y5 =>
                if 0 ≤ IntKind.i64.wrap (c.2.2.1 - 1) ∧ IntKind.i64.wrap (c.2.2.1 - 1) < (y5.1.1.length : Int) then
                  (trig_name (y5.1.1.getD (IntKind.i64.wrap (c.2.2.1 - 1)).toNat (strB []))).bind fun y6 =>
                    (trig_ops c.2.2.2.1).bind fun y7 =>
                      trig_cond_l8 y7.1.1 (y7.1.1.length : Int) 0 c [y1.1.1, y2.1.1, y4.1.1, y6.1.1]
                else
                  none
        else
          none
def fc32 : FC := ⟨⟨[.row (.cons .str (.cons (.int .i64) (.cons (.int .i64) (.cons (.int .i64) (.int .i64)))))], []⟩, ⟨[.one (.sl (.cons (.int .i64) (.cons .str (.cons (.int .i64) (.int .i64)))))], []⟩, fun x => trig_cond x.1.1⟩
theorem con32 : Contract Tryd.prog 32 fc32 :=
  trig_cond_D.contract tok (cok_of (l := [(30, fc30), (31, fc31), (33, fc33), (45, fc45), (46, fc46), (47, fc47)]) ⟨con30, con31, con33, con45, con46, con47, trivial⟩) mixed (fn' := Tryd.f32) (by kernel_rfl) (by kernel_rfl) rfl (by kernel_rfl) (fun x => (FD.fn_eq _ _).trans (by kernel_rfl))
end
end Go.Proofs.YtgpgpelaabdkhaaDoor
end

section
/-
YtgpgpelaabdkhaaDoor: internal.stringslite.HasPrefix, as one plain function, its equations, its contract. No condition.
-/
set_option maxRecDepth 100000
set_option linter.unusedVariables false
set_option maxHeartbeats 4000000
open Go Go.AM
namespace Go.Proofs.YtgpgpelaabdkhaaDoor
noncomputable section
def stringslite_HasPrefix_D : FD := ⟨T, lookC [], [], (Tryd.f87.body.getD .skip), Tryd.f87.results.toList, ⟨[.one .str, .one .str], []⟩, ⟨[.one .bool], []⟩, []⟩
def stringslite_HasPrefix (s : ByteArray) (prefix_ : ByteArray) : (Option ((Bool × Unit) × Unit)) :=
  if (decide ((s.size : Int) ≥ (prefix_.size : Int))) = true then
    if 0 ≤ (0 : Int) ∧ (0 : Int) ≤ (prefix_.size : Int) ∧ (prefix_.size : Int) ≤ (s.size : Int) then
      some (((s.extract 0 (prefix_.size : Int).toNat).toList == prefix_.toList, ()), ())
    else
      none
  else
    some ((false, ()), ())
def fc87 : FC := ⟨⟨[.one .str, .one .str], []⟩, ⟨[.one .bool], []⟩, fun x => stringslite_HasPrefix x.1.1 x.1.2.1⟩
theorem con87 : Contract Tryd.prog 87 fc87 :=
  stringslite_HasPrefix_D.contract tok (cok_of (l := []) trivial) mixed (fn' := Tryd.f87) (by kernel_rfl) (by kernel_rfl) rfl (by kernel_rfl) (fun x => (FD.fn_eq _ _).trans (by kernel_rfl))
end
end Go.Proofs.YtgpgpelaabdkhaaDoor
end

section
/-
YtgpgpelaabdkhaaDoor: strings.HasPrefix, as one plain function, its equations, its contract. No condition.
-/
set_option maxRecDepth 100000
set_option linter.unusedVariables false
set_option maxHeartbeats 4000000
open Go Go.AM
namespace Go.Proofs.YtgpgpelaabdkhaaDoor
noncomputable section
def strings_HasPrefix_D : FD := ⟨T, lookC [(87, fc87)], [], (Tryd.f76.body.getD .skip), Tryd.f76.results.toList, ⟨[.one .str, .one .str], []⟩, ⟨[.one .bool], []⟩, []⟩
def strings_HasPrefix (s : ByteArray) (prefix_ : ByteArray) : (Option ((Bool × Unit) × Unit)) :=
  (stringslite_HasPrefix s prefix_).bind fun y1 =>
    some ((y1.1.1, ()), ())
def fc76 : FC := ⟨⟨[.one .str, .one .str], []⟩, ⟨[.one .bool], []⟩, fun x => strings_HasPrefix x.1.1 x.1.2.1⟩
theorem con76 : Contract Tryd.prog 76 fc76 :=
  strings_HasPrefix_D.contract tok (cok_of (l := [(87, fc87)]) ⟨con87, trivial⟩) mixed (fn' := Tryd.f76) (by kernel_rfl) (by kernel_rfl) rfl (by kernel_rfl) (fun x => (FD.fn_eq _ _).trans (by kernel_rfl))
end
end Go.Proofs.YtgpgpelaabdkhaaDoor
end

section
/-
YtgpgpelaabdkhaaDoor: signalbench.lex.hex, as one plain function, its equations, its contract. No condition.
-/
set_option maxRecDepth 100000
set_option linter.unusedVariables false
set_option maxHeartbeats 4000000
open Go Go.AM
namespace Go.Proofs.YtgpgpelaabdkhaaDoor
noncomputable section
def lex_hex_D : FD := ⟨T, lookC [], [], (Tryd.f77.body.getD .skip), Tryd.f77.results.toList, ⟨[.one (.int .u8)], []⟩, ⟨[.one (.int .i64)], []⟩, []⟩
def lex_hex (c : Int) : (Option ((Int × Unit) × Unit)) :=
  if (decide ((48 : Int) ≤ c)) = true then
    if (decide (c ≤ 57)) = true then
      some ((IntKind.i64.wrap (IntKind.u8.wrap (c - 48)), ()), ())
    else
      if (decide ((97 : Int) ≤ c)) = true then
        if (decide (c ≤ 102)) = true then
          some ((IntKind.i64.wrap ((IntKind.i64.wrap (IntKind.u8.wrap (c - 97))) + 10), ()), ())
        else
          some (((-1), ()), ())
      else
        some (((-1), ()), ())
  else
    if (decide ((97 : Int) ≤ c)) = true then
      if (decide (c ≤ 102)) = true then
        some ((IntKind.i64.wrap ((IntKind.i64.wrap (IntKind.u8.wrap (c - 97))) + 10), ()), ())
      else
        some (((-1), ()), ())
    else
      some (((-1), ()), ())
def fc77 : FC := ⟨⟨[.one (.int .u8)], []⟩, ⟨[.one (.int .i64)], []⟩, fun x => lex_hex x.1.1⟩
theorem con77 : Contract Tryd.prog 77 fc77 :=
  lex_hex_D.contract tok (cok_of (l := []) trivial) mixed (fn' := Tryd.f77) (by kernel_rfl) (by kernel_rfl) rfl (by kernel_rfl) (fun x => (FD.fn_eq _ _).trans (by kernel_rfl))
end
end Go.Proofs.YtgpgpelaabdkhaaDoor
end

section
/-
YtgpgpelaabdkhaaDoor: signalbench.lex.Number, as one plain function, its equations, its contract. No condition.
-/
set_option maxRecDepth 100000
set_option linter.unusedVariables false
set_option maxHeartbeats 4000000
open Go Go.AM
namespace Go.Proofs.YtgpgpelaabdkhaaDoor
noncomputable section
def lex_Number_F2 : FSh := ⟨[(0, .one .str), (4, .one .bool)], []⟩
def lex_Number_F5 : FSh := ⟨[(0, .one .str), (4, .one .bool), (5, .one (.int .i64))], []⟩
def lex_Number_F13 : FSh := ⟨[(0, .one .str), (4, .one .bool), (5, .one (.int .i64)), (6, .one (.int .i64)), (34, .one (.int .i64)), (35, .one (.int .i64))], []⟩
def lex_Number_D : FD := ⟨T, lookC [(76, fc76), (77, fc77)], [5, 2], (Tryd.f64.body.getD .skip), Tryd.f64.results.toList, ⟨[.one .str], []⟩, ⟨[.one (.int .i64), .one (.int .i64)], []⟩, [(2, lex_Number_F2), (5, lex_Number_F5), (13, lex_Number_F13)]⟩
def lex_Number_l2 (s : ByteArray) (minus : Bool) : (Option ((Int × Int × Unit) × Unit)) := lex_Number_D.lab 2 lex_Number_F2 ((s, minus, ()), ())
def lex_Number_l5 (s : ByteArray) (minus : Bool) (base : Int) : (Option ((Int × Int × Unit) × Unit)) := lex_Number_D.lab 5 lex_Number_F5 ((s, minus, base, ()), ())
def lex_Number_l13 (s : ByteArray) (minus : Bool) (base : Int) (n : Int) (t34 : Int) (t35 : Int) : (Option ((Int × Int × Unit) × Unit)) := lex_Number_D.lab 13 lex_Number_F13 ((s, minus, base, n, t34, t35, ()), ())
theorem lex_Number_l2_eq (s : ByteArray) (minus : Bool) : lex_Number_l2 s minus =
  (strings_HasPrefix s (strB [48, 120])).bind fun y1 =>
    if y1.1.1 = true then
      if 0 ≤ (2 : Int) ∧ 2 ≤ (s.size : Int) then
        lex_Number_l5 (s.extract 2 s.size) minus 16
      else
        none
    else
      lex_Number_l5 s minus 10 := (FD.lab_eq _ _ _ _).trans (by kernel_rfl)
theorem lex_Number_l5_eq (s : ByteArray) (minus : Bool) (base : Int) : lex_Number_l5 s minus base =
  if (s.toList == (strB []).toList) = true then
    some ((0, 4, ()), ())
  else
    if 0 ≤ (0 : Int) ∧ 0 < (s.size : Int) then
      if ((bt s 0) == 48) = true then
        if minus = true then
          some ((0, 4, ()), ())
        else
          if (decide ((s.size : Int) > 1)) = true then
            some ((0, 4, ()), ())
          else
            lex_Number_l13 s minus base 0 (s.size : Int) 0
      else
        lex_Number_l13 s minus base 0 (s.size : Int) 0
    else
      none := (FD.lab_eq _ _ _ _).trans (by kernel_rfl)
theorem lex_Number_l13_eq (s : ByteArray) (minus : Bool) (base : Int) (n : Int) (t34 : Int) (t35 : Int) : lex_Number_l13 s minus base n t34 t35 =
  if (decide (t35 < t34)) = true then
    if 0 ≤ t35 ∧ t35 < (s.size : Int) then
      (lex_hex (bt s t35)).bind fun y1 =>
        if (decide (y1.1.1 < 0)) = true then
          some ((0, 4, ()), ())
        else
          if (decide (y1.1.1 ≥ base)) = true then
            some ((0, 4, ()), ())
          else
            lex_Number_l13 s minus base (if (9007199254740993 : Int) < IntKind.i64.wrap ((IntKind.i64.wrap (base * n)) + y1.1.1) then 9007199254740993 else IntKind.i64.wrap ((IntKind.i64.wrap (base * n)) + y1.1.1)) t34 (IntKind.i64.wrap (t35 + 1))
    else
      none
  else
    if (decide (n > 9007199254740992)) = true then
      some ((0, 2, ()), ())
    else
      if minus = true then
        some ((IntKind.i64.wrap (0 - n), 0, ()), ())
      else
        some ((n, 0, ()), ()) := (FD.lab_eq _ _ _ _).trans (by kernel_rfl)
def lex_Number (s : ByteArray) : (Option ((Int × Int × Unit) × Unit)) :=
  (strings_HasPrefix s (strB [45])).bind fun y1 =>
    if y1.1.1 = true then
      if 0 ≤ (1 : Int) ∧ 1 ≤ (s.size : Int) then
        lex_Number_l2 (s.extract 1 s.size) y1.1.1
      else
        none
    else
      lex_Number_l2 s y1.1.1
def fc64 : FC := ⟨⟨[.one .str], []⟩, ⟨[.one (.int .i64), .one (.int .i64)], []⟩, fun x => lex_Number x.1.1⟩
theorem con64 : Contract Tryd.prog 64 fc64 :=
  lex_Number_D.contract tok (cok_of (l := [(76, fc76), (77, fc77)]) ⟨con76, con77, trivial⟩) mixed (fn' := Tryd.f64) (by kernel_rfl) (by kernel_rfl) rfl (by kernel_rfl) (fun x => (FD.fn_eq _ _).trans (by kernel_rfl))
end
end Go.Proofs.YtgpgpelaabdkhaaDoor
end

section
/-
YtgpgpelaabdkhaaDoor: strings.Builder's copyCheck and String, by walks; their contracts. No condition.
-/
open Go Go.AM Go.RowKit
set_option maxRecDepth 1000000
namespace Go.Proofs.YtgpgpelaabdkhaaDoor
section
variable [Inhabited ZMem]

theorem cc_used (b : Nat) (w : World) (h0 : w.cell? ⟨b, 0, none⟩ = some (.pointer (some ⟨b, 0, none⟩))) :
    Calls Tryd.prog 67 #[.pointer (some ⟨b, 0, none⟩)] w fun e w' => e = .returned (.tuple #[]) ∧ w' = w := by
  obtain ⟨j, hj, _⟩ := Option.map_eq_some_iff.1 (show (Tryd.prog.info? 85).map (·.size) = some 2 by kernel_rfl)
  go_enter Tryd.func67, Tryd.ntmps67
  go_wp2
  rw [Lib.run_neq_ptr_same w _ Tryd.underlying82 hj]
  go_wp2
  go_end0
  exact ⟨rfl, rfl⟩

theorem cc_fresh (b : Nat) (w : World) (h0 : w.cell? ⟨b, 0, none⟩ = some (.pointer none)) (hsh : w.shape? b = some (85, 2)) (hfz : w.frozen? ⟨b, 0, none⟩ = false) :
    Calls Tryd.prog 67 #[.pointer (some ⟨b, 0, none⟩)] w fun e w' => e = .returned (.tuple #[]) ∧ w' = w.setCell ⟨b, 0, none⟩ (.pointer (some ⟨b, 0, none⟩)) := by
  obtain ⟨j, hj, hjs⟩ := Option.map_eq_some_iff.1 (show (Tryd.prog.info? 85).map (·.size) = some 2 by kernel_rfl)
  go_enter Tryd.func67, Tryd.ntmps67
  go_wp2
  rw [Lib.run_to_unsafe w ⟨b, 0, none⟩ Tryd.underlying82 Tryd.underlying118 hj (by rw [hjs]; decide) hsh (Nat.zero_lt_succ 1)]
  simp only [Result.andThen]
  rw [Oper.upon_value]
  go_wp2
  rw [run_callFunc_extern Tryd.func79 (by kernel_rfl) (by kernel_rfl) (by kernel_rfl) (e := Extern.AbiNoEscape.same) (by kernel_rfl)]
  rw [Lib.run_noEscape]
  simp only [Result.andThen]
  rw [Oper.upon_value]
  go_wp2
  rw [Lib.run_from_unsafe w ⟨b, 0, none⟩ Tryd.underlying118 Tryd.underlying82 hj hsh (show liesAt Tryd.prog Tryd.prog.depth 85 (2 / Tryd.prog.cellsOf 85) 0 85 1 = true by kernel_rfl)]
  simp only [Result.andThen]
  rw [Oper.upon_value]
  go_wp2
  go_end0
  exact ⟨rfl, rfl⟩

theorem st_row (b g p cap : Nat) (w : World) (cs cur : Array Value) (l : List UInt8) (h0 : l ≠ []) (hbk : w.heap[b]? = some (.cells cs 85 (0, 0))) (hc1 : cs[1]? = some (.slice (some ⟨g, p, none⟩) l.length cap))
    (hg : w.heap[g]? = some (.cells cur 5 (0, 0))) (hn : l.length ≤ cap) (hcap : p + cap ≤ cur.size) (hm : cap ≤ maxLen)
    (hcell : ∀ j x, l[j]? = some x → w.cell? ((⟨g, p, none⟩ : Addr).add j) = some (.int .u8 x.toNat)) :
    Calls Tryd.prog 53 #[.pointer (some ⟨b, 0, none⟩)] w fun e w' => e = .returned (.string ⟨l.toArray⟩) ∧ w' = w.drew.freeze ⟨g, p, none⟩ l.length := by
  have hl0 : l.length ≠ 0 := by simpa using h0
  have c1 : w.drew.cell? ⟨b, 1, none⟩ = some (.slice (some ⟨g, p, none⟩) l.length cap) := by
    have : w.drew.heap[b]? = some (.cells cs 85 (0, 0)) := hbk
    rw [Lib.cell_of_heap this]; exact hc1
  have hSD : (Builtin.unsafeSliceData_ #[83] 110 #[.slice (some ⟨g, p, none⟩) l.length cap]).run Tryd.prog w.drew = .ok (.pointer (some ⟨g, p, none⟩)) w.drew :=
    Lib.run_unsafeSliceData_row _ _ _ _ _ _ (by omega)
  have hUS : (Builtin.unsafeString_ #[110, 3] 9 #[.pointer (some ⟨g, p, none⟩), .int .i64 l.length]).run Tryd.prog w.drew = .ok (.string ⟨l.toArray⟩) (w.drew.freeze ⟨g, p, none⟩ l.length) :=
    run_unsafeString_at w.drew 110 3 9 5 Tryd.underlying110 (by kernel_rfl) g p cur.size (by have hg' : w.drew.heap[g]? = some (.cells cur 5 (0, 0)) := hg; simp [World.shape?, hg']) l h0 (by omega) (by unfold maxLen at hm; omega) hcell
  clear hl0 hn hcap hm hcell
  go_enter Tryd.func53, Tryd.ntmps53
  go_wp2
  go_region
  all_goals (go_wp2; go_ret; exact ⟨rfl, rfl⟩)

theorem st_nil (b : Nat) (w : World) (cs : Array Value) (hbk : w.heap[b]? = some (.cells cs 85 (0, 0))) (hc1 : cs[1]? = some (.slice none 0 0)) :
    Calls Tryd.prog 53 #[.pointer (some ⟨b, 0, none⟩)] w fun e w' => e = .returned (.string .empty) ∧ w' = w.drew := by
  have hUS := Lib.run_unsafeString_none (P := Tryd.prog) w.drew 110 3 9 none
  have c1 : w.drew.cell? ⟨b, 1, none⟩ = some (.slice none 0 0) := by
    have : w.drew.heap[b]? = some (.cells cs 85 (0, 0)) := hbk
    rw [Lib.cell_of_heap this]; exact hc1
  have hSD : (Builtin.unsafeSliceData_ #[83] 110 #[.slice none 0 0]).run Tryd.prog w.drew = .ok (.pointer none) w.drew := rfl
  go_enter Tryd.func53, Tryd.ntmps53
  go_wp2
  go_region
  all_goals (go_wp2; go_ret; exact ⟨rfl, rfl⟩)

theorem st_room (b g p cap : Nat) (hcap : cap ≠ 0) (w : World) (cs : Array Value) (hbk : w.heap[b]? = some (.cells cs 85 (0, 0))) (hc1 : cs[1]? = some (.slice (some ⟨g, p, none⟩) 0 cap)) :
    Calls Tryd.prog 53 #[.pointer (some ⟨b, 0, none⟩)] w fun e w' => e = .returned (.string .empty) ∧ w' = w.drew := by
  have hUS := Lib.run_unsafeString_none (P := Tryd.prog) w.drew 110 3 9 (some ⟨g, p, none⟩)
  have c1 : w.drew.cell? ⟨b, 1, none⟩ = some (.slice (some ⟨g, p, none⟩) 0 cap) := by
    have : w.drew.heap[b]? = some (.cells cs 85 (0, 0)) := hbk
    rw [Lib.cell_of_heap this]; exact hc1
  have hSD : (Builtin.unsafeSliceData_ #[83] 110 #[.slice (some ⟨g, p, none⟩) 0 cap]).run Tryd.prog w.drew = .ok (.pointer (some ⟨g, p, none⟩)) w.drew :=
    Lib.run_unsafeSliceData_row _ _ _ _ _ _ hcap
  clear hcap
  go_enter Tryd.func53, Tryd.ntmps53
  go_wp2
  go_region
  all_goals (go_wp2; go_ret; exact ⟨rfl, rfl⟩)

theorem st_noroom (b g p : Nat) (w : World) (cs cur : Array Value) (hbk : w.heap[b]? = some (.cells cs 85 (0, 0))) (hc1 : cs[1]? = some (.slice (some ⟨g, p, none⟩) 0 0))
    (hg : w.heap[g]? = some (.cells cur 5 (0, 0))) :
    Calls Tryd.prog 53 #[.pointer (some ⟨b, 0, none⟩)] w fun e w' => e = .returned (.string .empty) ∧ w' = w.drew.alloc (.view ⟨g, p, none⟩ 5) := by
  have hlt : b < w.heap.size := by
    rcases Nat.lt_or_ge b w.heap.size with h' | h'
    · exact h'
    · simp [Array.getElem?_eq_none h'] at hbk
  have hUS := Lib.run_unsafeString_none (P := Tryd.prog) (w.drew.alloc (.view ⟨g, p, none⟩ 5)) 110 3 9 (some ⟨w.drew.heap.size, 0, none⟩)
  have hUS2 : (Builtin.unsafeString_ #[110, 3] 9 #[.pointer (some ⟨w.heap.size, 0, none⟩), .int .i64 0]).run Tryd.prog (w.alloc (.view ⟨g, p, none⟩ 5)).drew = .ok (.string .empty) (w.alloc (.view ⟨g, p, none⟩ 5)).drew := Lib.run_unsafeString_none _ 110 3 9 _
  have c1 : w.drew.cell? ⟨b, 1, none⟩ = some (.slice (some ⟨g, p, none⟩) 0 0) := by
    have : w.drew.heap[b]? = some (.cells cs 85 (0, 0)) := hbk
    rw [Lib.cell_of_heap this]; exact hc1
  have hSD : (Builtin.unsafeSliceData_ #[83] 110 #[.slice (some ⟨g, p, none⟩) 0 0]).run Tryd.prog w.drew = .ok (.pointer (some ⟨w.drew.heap.size, 0, none⟩)) (w.drew.alloc (.view ⟨g, p, none⟩ 5)) :=
    Lib.run_unsafeSliceData_zero w.drew _ _ 5 Tryd.underlying110 ⟨g, p, none⟩ 0 (5, cur.size) (by have hg' : w.drew.heap[g]? = some (.cells cur 5 (0, 0)) := hg; simp [World.shape?, hg'])
  have c2 : (w.drew.alloc (.view ⟨g, p, none⟩ 5)).cell? ⟨b, 1, none⟩ = some (.slice (some ⟨g, p, none⟩) 0 0) := by
    have : (w.drew.alloc (.view ⟨g, p, none⟩ 5)).heap[b]? = _ := (Lib.alloc_old w.drew _ b hlt).trans hbk
    rw [Lib.cell_of_heap this]; exact hc1
  have c3 : (w.alloc (.view ⟨g, p, none⟩ 5)).drew.cell? ⟨b, 1, none⟩ = some (.slice (some ⟨g, p, none⟩) 0 0) := c2
  have c0 : w.cell? ⟨b, 1, none⟩ = some (.slice (some ⟨g, p, none⟩) 0 0) := c1
  go_enter Tryd.func53, Tryd.ntmps53
  go_wp2
  go_region
  all_goals (go_wp2; go_ret; exact ⟨rfl, rfl⟩)

def strings_Builder_copyCheck (l : List Int) : Option (Unit × ((Unit × Unit × Unit) × List Int × Unit)) := some ((), (((), (), ()), l, ()))
def fc67 : FC := ⟨⟨[.one (.ptr 0 0)], bShape 85 5⟩, ⟨[], bShape 85 5⟩, fun x => strings_Builder_copyCheck x.2.2.1⟩
theorem con67 : Contract Tryd.prog 67 fc67 :=
  Contract.copyCheck (fn := Tryd.f67) (c := Tryd.f67.body.getD .skip) Tryd.func67 (by kernel_rfl) (by kernel_rfl) (fun b w h => cc_used b w h) (fun b w h h' h'' => cc_fresh b w h h' h'')

def strings_Builder_String (l : List Int) : Option ((ByteArray × Unit) × (Unit × Unit × Unit)) := if byteL l = true then some ((strOfBytes l, ()), ((), (), ())) else none
def fc53 : FC := ⟨⟨[.one (.ptr 0 0)], bShape 85 5⟩, ⟨[.one .str], [.dead, .dead]⟩, fun x => strings_Builder_String x.2.2.1⟩
theorem con53 : Contract Tryd.prog 53 fc53 :=
  Contract.bString (fn := Tryd.f53) (c := Tryd.f53.body.getD .skip) Tryd.func53 (by kernel_rfl) (by kernel_rfl) (fun b w cs h h' => st_nil b w cs h h') (fun b g p cap hc w cs h h' => st_room b g p cap hc w cs h h')
    (fun b g p w cs cur h h' h'' => st_noroom b g p w cs cur h h' h'') (fun b g p cap w cs cur l h1 h2 h3 h4 h5 h6 h7 h8 => st_row b g p cap w cs cur l h1 h2 h3 h4 h5 h6 h7 h8)

end
end Go.Proofs.YtgpgpelaabdkhaaDoor
end

section
/-
YtgpgpelaabdkhaaDoor: (*strings.Builder).WriteByte, as one plain function, its equations, its contract. No condition.
-/
set_option maxRecDepth 100000
set_option linter.unusedVariables false
set_option maxHeartbeats 4000000
open Go Go.AM
namespace Go.Proofs.YtgpgpelaabdkhaaDoor
noncomputable section
def strings_Builder_WriteByte_D : FD := ⟨T, lookC [(67, fc67)], [], (Tryd.f50.body.getD .skip), Tryd.f50.results.toList, ⟨[.one (.ptr 0 0), .one (.int .u8)], [.box 85 [(.oself 0), (.own 1)], .arr 5 (.int .u8) true]⟩, ⟨[.one .junk], [.box 85 [(.oself 0), (.own 2)], .dead, .arr 5 (.int .u8) true]⟩, []⟩
def strings_Builder_WriteByte (c : Int) (l1 : (List Int)) : (Option ((Unit × Unit) × ((Unit × Unit × Unit) × Unit × (List Int) × Unit))) :=
  (strings_Builder_copyCheck l1).bind fun y1 =>
    if (y1.2.2.1.length + 1) * 1 ≤ 140737488355328 ∧ 0 < 1 then
      some (((), ()), (((), (), ()), (), y1.2.2.1 ++ [c], ()))
    else
      none
def fc50 : FC := ⟨⟨[.one (.ptr 0 0), .one (.int .u8)], [.box 85 [(.oself 0), (.own 1)], .arr 5 (.int .u8) true]⟩, ⟨[.one .junk], [.box 85 [(.oself 0), (.own 2)], .dead, .arr 5 (.int .u8) true]⟩, fun x => strings_Builder_WriteByte x.1.2.1 x.2.2.1⟩
theorem con50 : Contract Tryd.prog 50 fc50 :=
  strings_Builder_WriteByte_D.contract tok (cok_of (l := [(67, fc67)]) ⟨con67, trivial⟩) mixed (fn' := Tryd.f50) (by kernel_rfl) (by kernel_rfl) rfl (by kernel_rfl) (fun x => (FD.fn_eq _ _).trans (by kernel_rfl))
end
end Go.Proofs.YtgpgpelaabdkhaaDoor
end

section
/-
YtgpgpelaabdkhaaDoor: (*strings.Builder).WriteString, as one plain function, its equations, its contract. No condition.
-/
set_option maxRecDepth 100000
set_option linter.unusedVariables false
set_option maxHeartbeats 4000000
open Go Go.AM
namespace Go.Proofs.YtgpgpelaabdkhaaDoor
noncomputable section
def strings_Builder_WriteString_D : FD := ⟨T, lookC [(67, fc67)], [], (Tryd.f51.body.getD .skip), Tryd.f51.results.toList, ⟨[.one (.ptr 0 0), .one .str], [.box 85 [(.oself 0), (.own 1)], .arr 5 (.int .u8) true]⟩, ⟨[.one (.int .i64), .one .junk], [.box 85 [(.oself 0), (.own 2)], .dead, .arr 5 (.int .u8) true]⟩, []⟩
def strings_Builder_WriteString (s : ByteArray) (l1 : (List Int)) : (Option ((Int × Unit × Unit) × ((Unit × Unit × Unit) × Unit × (List Int) × Unit))) :=
  (strings_Builder_copyCheck l1).bind fun y1 =>
    if (y1.2.2.1.length + (bytesOfStr s).length) * 1 ≤ 140737488355328 ∧ 0 < 1 then
      some (((s.size : Int), (), ()), (((), (), ()), (), y1.2.2.1 ++ (bytesOfStr s), ()))
    else
      none
def fc51 : FC := ⟨⟨[.one (.ptr 0 0), .one .str], [.box 85 [(.oself 0), (.own 1)], .arr 5 (.int .u8) true]⟩, ⟨[.one (.int .i64), .one .junk], [.box 85 [(.oself 0), (.own 2)], .dead, .arr 5 (.int .u8) true]⟩, fun x => strings_Builder_WriteString x.1.2.1 x.2.2.1⟩
theorem con51 : Contract Tryd.prog 51 fc51 :=
  strings_Builder_WriteString_D.contract tok (cok_of (l := [(67, fc67)]) ⟨con67, trivial⟩) mixed (fn' := Tryd.f51) (by kernel_rfl) (by kernel_rfl) rfl (by kernel_rfl) (fun x => (FD.fn_eq _ _).trans (by kernel_rfl))
end
end Go.Proofs.YtgpgpelaabdkhaaDoor
end

section
/-
YtgpgpelaabdkhaaDoor: signalbench.lex.plain, as one plain function, its equations, its contract. No condition.
-/
set_option maxRecDepth 100000
set_option linter.unusedVariables false
set_option maxHeartbeats 4000000
open Go Go.AM
namespace Go.Proofs.YtgpgpelaabdkhaaDoor
noncomputable section
def lex_plain_D : FD := ⟨T, lookC [], [], (Tryd.f78.body.getD .skip), Tryd.f78.results.toList, ⟨[.one (.int .i32)], []⟩, ⟨[.one .bool], []⟩, []⟩
def lex_plain (c : Int) : (Option ((Bool × Unit) × Unit)) :=
  if (decide ((32 : Int) ≤ c)) = true then
    if (decide (c ≤ 126)) = true then
      if (c != 34) = true then
        some ((c != 92, ()), ())
      else
        some ((false, ()), ())
    else
      some ((false, ()), ())
  else
    some ((false, ()), ())
def fc78 : FC := ⟨⟨[.one (.int .i32)], []⟩, ⟨[.one .bool], []⟩, fun x => lex_plain x.1.1⟩
theorem con78 : Contract Tryd.prog 78 fc78 :=
  lex_plain_D.contract tok (cok_of (l := []) trivial) mixed (fn' := Tryd.f78) (by kernel_rfl) (by kernel_rfl) rfl (by kernel_rfl) (fun x => (FD.fn_eq _ _).trans (by kernel_rfl))
end
end Go.Proofs.YtgpgpelaabdkhaaDoor
end

section
/-
YtgpgpelaabdkhaaDoor: signalbench.lex.Quote, as one plain function, its equations, its contract. No condition.
-/
set_option maxRecDepth 100000
set_option linter.unusedVariables false
set_option maxHeartbeats 4000000
open Go Go.AM
namespace Go.Proofs.YtgpgpelaabdkhaaDoor
noncomputable section
def lex_Quote_F5 : FSh := ⟨[(0, .one .str), (3, .one (.ptr 0 0)), (8, .one (.int .i64)), (9, .one (.int .i64))], [.box 85 [(.oself 0), (.own 1)], .arr 5 (.int .u8) true]⟩
def lex_Quote_D : FD := ⟨T, lookC [(50, fc50), (51, fc51), (53, fc53), (78, fc78)], [], (Tryd.f65.body.getD .skip), Tryd.f65.results.toList, ⟨[.one .str], []⟩, ⟨[.one .str], []⟩, [(5, lex_Quote_F5)]⟩
def lex_Quote_l5 (s : ByteArray) (t8 : Int) (t9 : Int) (l1 : (List Int)) : (Option ((ByteArray × Unit) × Unit)) := lex_Quote_D.lab 5 lex_Quote_F5 ((s, (), t8, t9, ()), (((), (), ()), l1, ()))
theorem lex_Quote_l5_eq (s : ByteArray) (t8 : Int) (t9 : Int) (l1 : (List Int)) : lex_Quote_l5 s t8 t9 l1 =
  if (decide (t9 < t8)) = true then
    if 0 ≤ t9 ∧ t9 < (s.size : Int) then
      (lex_plain (IntKind.i32.wrap (bt s t9))).bind fun y1 =>
        if y1.1.1 = true then
          (strings_Builder_WriteByte (bt s t9) l1).bind fun y2 =>
            lex_Quote_l5 s t8 (IntKind.i64.wrap (t9 + 1)) y2.2.2.2.1
        else
          if ((bt s t9) == 34) = true then
            (strings_Builder_WriteByte 92 l1).bind fun y3 =>
              (strings_Builder_WriteByte (bt s t9) y3.2.2.2.1).bind fun y4 =>
                lex_Quote_l5 s t8 (IntKind.i64.wrap (t9 + 1)) y4.2.2.2.1
          else
            if ((bt s t9) == 92) = true then
              (strings_Builder_WriteByte 92 l1).bind fun y5 =>
                (strings_Builder_WriteByte (bt s t9) y5.2.2.2.1).bind fun y6 =>
                  lex_Quote_l5 s t8 (IntKind.i64.wrap (t9 + 1)) y6.2.2.2.1
            else
              if ((bt s t9) == 10) = true then
                (strings_Builder_WriteString (strB [92, 110]) l1).bind fun y7 =>
                  lex_Quote_l5 s t8 (IntKind.i64.wrap (t9 + 1)) y7.2.2.2.1
              else
                (strings_Builder_WriteString (strB [92, 120]) l1).bind fun y8 =>
                  if 0 ≤ (bt s t9).fdiv 16 ∧ (bt s t9).fdiv 16 < ((strB [48, 49, 50, 51, 52, 53, 54, 55, 56, 57, 97, 98, 99, 100, 101, 102]).size : Int) then
                    (strings_Builder_WriteByte (bt (strB [48, 49, 50, 51, 52, 53, 54, 55, 56, 57, 97, 98, 99, 100, 101, 102]) ((bt s t9).fdiv 16)) y8.2.2.2.1).bind fun y9 =>
                      if 0 ≤ IntKind.u8.wrap (BitVec.ofInt 8 (bt s t9) &&& BitVec.ofInt 8 15).toNat ∧ IntKind.u8.wrap (BitVec.ofInt 8 (bt s t9) &&& BitVec.ofInt 8 15).toNat < ((strB [48, 49, 50, 51, 52, 53, 54, 55, 56, 57, 97, 98, 99, 100, 101, 102]).size : Int) then
                        (strings_Builder_WriteByte (bt (strB [48, 49, 50, 51, 52, 53, 54, 55, 56, 57, 97, 98, 99, 100, 101, 102]) (IntKind.u8.wrap (BitVec.ofInt 8 (bt s t9) &&& BitVec.ofInt 8 15).toNat)) y9.2.2.2.1).bind fun y10 =>
                          lex_Quote_l5 s t8 (IntKind.i64.wrap (t9 + 1)) y10.2.2.2.1
                      else
                        none
                  else
                    none
    else
      none
  else
    (strings_Builder_WriteByte 34 l1).bind fun y11 =>
      (strings_Builder_String y11.2.2.2.1).bind fun y12 =>
        some ((y12.1.1, ()), ()) := (FD.lab_eq _ _ _ _).trans (by kernel_rfl)
def lex_Quote (s : ByteArray) : (Option ((ByteArray × Unit) × Unit)) :=
  (strings_Builder_WriteByte 34 []).bind fun y1 =>
    lex_Quote_l5 s (s.size : Int) 0 y1.2.2.2.1
def fc65 : FC := ⟨⟨[.one .str], []⟩, ⟨[.one .str], []⟩, fun x => lex_Quote x.1.1⟩
theorem con65 : Contract Tryd.prog 65 fc65 :=
  lex_Quote_D.contract tok (cok_of (l := [(50, fc50), (51, fc51), (53, fc53), (78, fc78)]) ⟨con50, con51, con53, con78, trivial⟩) mixed (fn' := Tryd.f65) (by kernel_rfl) (by kernel_rfl) rfl (by kernel_rfl) (fun x => (FD.fn_eq _ _).trans (by kernel_rfl))
end
end Go.Proofs.YtgpgpelaabdkhaaDoor
end

section
/-
YtgpgpelaabdkhaaDoor: signalbench.lex.mark, as one plain function, its equations, its contract. No condition.
-/
set_option maxRecDepth 100000
set_option linter.unusedVariables false
set_option maxHeartbeats 4000000
open Go Go.AM
namespace Go.Proofs.YtgpgpelaabdkhaaDoor
noncomputable section
def lex_mark_D : FD := ⟨T, lookC [], [], (Tryd.f66.body.getD .skip), Tryd.f66.results.toList, ⟨[.one (.int .i32)], []⟩, ⟨[.one .bool], []⟩, []⟩
def lex_mark (c : Int) : (Option ((Bool × Unit) × Unit)) :=
  if (c == 40) = true then
    some ((true, ()), ())
  else
    if (c == 41) = true then
      some ((true, ()), ())
    else
      if (c == 91) = true then
        some ((true, ()), ())
      else
        if (c == 93) = true then
          some ((true, ()), ())
        else
          if (c == 123) = true then
            some ((true, ()), ())
          else
            if (c == 125) = true then
              some ((true, ()), ())
            else
              if (c == 60) = true then
                some ((true, ()), ())
              else
                if (c == 62) = true then
                  some ((true, ()), ())
                else
                  if (c == 61) = true then
                    some ((true, ()), ())
                  else
                    if (c == 44) = true then
                      some ((true, ()), ())
                    else
                      if (c == 59) = true then
                        some ((true, ()), ())
                      else
                        if (c == 58) = true then
                          some ((true, ()), ())
                        else
                          if (c == 46) = true then
                            some ((true, ()), ())
                          else
                            if (c == 47) = true then
                              some ((true, ()), ())
                            else
                              if (c == 42) = true then
                                some ((true, ()), ())
                              else
                                if (c == 43) = true then
                                  some ((true, ()), ())
                                else
                                  if (c == 33) = true then
                                    some ((true, ()), ())
                                  else
                                    if (c == 38) = true then
                                      some ((true, ()), ())
                                    else
                                      if (c == 124) = true then
                                        some ((true, ()), ())
                                      else
                                        some ((false, ()), ())
def fc66 : FC := ⟨⟨[.one (.int .i32)], []⟩, ⟨[.one .bool], []⟩, fun x => lex_mark x.1.1⟩
theorem con66 : Contract Tryd.prog 66 fc66 :=
  lex_mark_D.contract tok (cok_of (l := []) trivial) mixed (fn' := Tryd.f66) (by kernel_rfl) (by kernel_rfl) rfl (by kernel_rfl) (fun x => (FD.fn_eq _ _).trans (by kernel_rfl))
end
end Go.Proofs.YtgpgpelaabdkhaaDoor
end

section
/-
YtgpgpelaabdkhaaDoor: signalbench.lex.form, as one plain function, its equations, its contract. No condition.
-/
set_option maxRecDepth 100000
set_option linter.unusedVariables false
set_option maxHeartbeats 4000000
open Go Go.AM
namespace Go.Proofs.YtgpgpelaabdkhaaDoor
noncomputable section
def lex_form_D : FD := ⟨T, lookC [(40, fc40), (48, fc48), (64, fc64), (65, fc65), (66, fc66)], [], (Tryd.f49.body.getD .skip), Tryd.f49.results.toList, ⟨[.row (.cons (.int .i64) (.cons .str (.cons (.int .i64) (.int .i64))))], []⟩, ⟨[.one .str, .one .bool], []⟩, []⟩
def lex_form (t : TToken) : (Option ((ByteArray × Bool × Unit) × Unit)) :=
  if (t.1 == 1) = true then
    (lex_Name t.2.1).bind fun y1 =>
      if y1.1.1 = true then
        some ((t.2.1, t.2.2.1 == 0, ()), ())
      else
        some ((t.2.1, false, ()), ())
  else
    if (t.1 == 2) = true then
      (lex_Number t.2.1).bind fun y2 =>
        (strconv_Itoa t.2.2.1).bind fun y3 =>
          if (y2.1.2.1 == 0) = true then
            some ((y3.1.1, y2.1.1 == t.2.2.1, ()), ())
          else
            some ((y3.1.1, false, ()), ())
    else
      if (t.1 == 3) = true then
        (lex_Quote t.2.1).bind fun y4 =>
          some ((y4.1.1, t.2.2.1 == 0, ()), ())
      else
        if (t.1 == 4) = true then
          if ((t.2.1.size : Int) == 1) = true then
            if 0 ≤ (0 : Int) ∧ 0 < (t.2.1.size : Int) then
              (lex_mark (IntKind.i32.wrap (bt t.2.1 0))).bind fun y5 =>
                if y5.1.1 = true then
                  some ((t.2.1, t.2.2.1 == 0, ()), ())
                else
                  some ((t.2.1, false, ()), ())
            else
              none
          else
            some ((t.2.1, false, ()), ())
        else
          some (((strB []), false, ()), ())
def fc49 : FC := ⟨⟨[.row (.cons (.int .i64) (.cons .str (.cons (.int .i64) (.int .i64))))], []⟩, ⟨[.one .str, .one .bool], []⟩, fun x => lex_form x.1.1⟩
theorem con49 : Contract Tryd.prog 49 fc49 :=
  lex_form_D.contract tok (cok_of (l := [(40, fc40), (48, fc48), (64, fc64), (65, fc65), (66, fc66)]) ⟨con40, con48, con64, con65, con66, trivial⟩) mixed (fn' := Tryd.f49) (by kernel_rfl) (by kernel_rfl) rfl (by kernel_rfl) (fun x => (FD.fn_eq _ _).trans (by kernel_rfl))
end
end Go.Proofs.YtgpgpelaabdkhaaDoor
end

section
/-
YtgpgpelaabdkhaaDoor: (*strings.Builder).Len, as one plain function, its equations, its contract. No condition.
-/
set_option maxRecDepth 100000
set_option linter.unusedVariables false
set_option maxHeartbeats 4000000
open Go Go.AM
namespace Go.Proofs.YtgpgpelaabdkhaaDoor
noncomputable section
def strings_Builder_Len_D : FD := ⟨T, lookC [], [], (Tryd.f52.body.getD .skip), Tryd.f52.results.toList, ⟨[.one (.ptr 0 0)], [.box 85 [(.oself 0), (.own 1)], .arr 5 (.int .u8) true]⟩, ⟨[.one (.int .i64)], [.box 85 [(.oself 0), (.own 2)], .dead, .arr 5 (.int .u8) true]⟩, []⟩
def strings_Builder_Len (l1 : (List Int)) : (Option ((Int × Unit) × ((Unit × Unit × Unit) × Unit × (List Int) × Unit))) :=
  some (((l1.length : Int), ()), (((), (), ()), (), l1, ()))
def fc52 : FC := ⟨⟨[.one (.ptr 0 0)], [.box 85 [(.oself 0), (.own 1)], .arr 5 (.int .u8) true]⟩, ⟨[.one (.int .i64)], [.box 85 [(.oself 0), (.own 2)], .dead, .arr 5 (.int .u8) true]⟩, fun x => strings_Builder_Len x.2.2.1⟩
theorem con52 : Contract Tryd.prog 52 fc52 :=
  strings_Builder_Len_D.contract tok (cok_of (l := []) trivial) mixed (fn' := Tryd.f52) (by kernel_rfl) (by kernel_rfl) rfl (by kernel_rfl) (fun x => (FD.fn_eq _ _).trans (by kernel_rfl))
end
end Go.Proofs.YtgpgpelaabdkhaaDoor
end

section
/-
YtgpgpelaabdkhaaDoor: signalbench.lex.Text, as one plain function, its equations, its contract. No condition.
-/
set_option maxRecDepth 100000
set_option linter.unusedVariables false
set_option maxHeartbeats 4000000
open Go Go.AM
namespace Go.Proofs.YtgpgpelaabdkhaaDoor
noncomputable section
def lex_Text_F4 : FSh := ⟨[(0, .one (.sl (.cons (.int .i64) (.cons .str (.cons (.int .i64) (.int .i64)))))), (4, .one (.ptr 0 0)), (9, .one (.int .i64)), (10, .one (.int .i64))], [.box 85 [(.oself 0), (.own 1)], .arr 5 (.int .u8) true]⟩
def lex_Text_D : FD := ⟨T, lookC [(49, fc49), (50, fc50), (51, fc51), (52, fc52), (53, fc53)], [], (Tryd.f34.body.getD .skip), Tryd.f34.results.toList, ⟨[.one (.sl (.cons (.int .i64) (.cons .str (.cons (.int .i64) (.int .i64)))))], []⟩, ⟨[.one .str, .one (.int .i64)], []⟩, [(4, lex_Text_F4)]⟩
def lex_Text_l4 (l : (List TToken)) (t9 : Int) (t10 : Int) (l1 : (List Int)) : (Option ((ByteArray × Int × Unit) × Unit)) := lex_Text_D.lab 4 lex_Text_F4 ((l, (), t9, t10, ()), (((), (), ()), l1, ()))
theorem lex_Text_l4_eq (l : (List TToken)) (t9 : Int) (t10 : Int) (l1 : (List Int)) : lex_Text_l4 l t9 t10 l1 =
  if (decide (t10 < t9)) = true then
    if 0 ≤ t10 ∧ t10 < (l.length : Int) then
      (lex_form (l.getD t10.toNat dToken)).bind fun y1 =>
        if (!y1.1.2.1) = true then
          some (((strB []), 1, ()), ())
        else
          if (decide (t10 > 0)) = true then
            (strings_Builder_WriteByte 32 l1).bind fun y2 =>
              (strings_Builder_WriteString y1.1.1 y2.2.2.2.1).bind fun y3 =>
                lex_Text_l4 l t9 (IntKind.i64.wrap (t10 + 1)) y3.2.2.2.1
          else
            (strings_Builder_WriteString y1.1.1 l1).bind fun y4 =>
              lex_Text_l4 l t9 (IntKind.i64.wrap (t10 + 1)) y4.2.2.2.1
    else
      none
  else
    (strings_Builder_Len l1).bind fun y5 =>
      if (decide (y5.1.1 > 1048576)) = true then
        some (((strB []), 6, ()), ())
      else
        (strings_Builder_String y5.2.2.2.1).bind fun y6 =>
          some ((y6.1.1, 0, ()), ()) := (FD.lab_eq _ _ _ _).trans (by kernel_rfl)
def lex_Text (l : (List TToken)) : (Option ((ByteArray × Int × Unit) × Unit)) :=
  lex_Text_l4 l (l.length : Int) 0 []
def fc34 : FC := ⟨⟨[.one (.sl (.cons (.int .i64) (.cons .str (.cons (.int .i64) (.int .i64)))))], []⟩, ⟨[.one .str, .one (.int .i64)], []⟩, fun x => lex_Text x.1.1⟩
theorem con34 : Contract Tryd.prog 34 fc34 :=
  lex_Text_D.contract tok (cok_of (l := [(49, fc49), (50, fc50), (51, fc51), (52, fc52), (53, fc53)]) ⟨con49, con50, con51, con52, con53, trivial⟩) mixed (fn' := Tryd.f34) (by kernel_rfl) (by kernel_rfl) rfl (by kernel_rfl) (fun x => (FD.fn_eq _ _).trans (by kernel_rfl))
end
end Go.Proofs.YtgpgpelaabdkhaaDoor
end

section
/-
YtgpgpelaabdkhaaDoor: signalbench.trig.Print, as one plain function, its equations, its contract. No condition.
-/
set_option maxRecDepth 100000
set_option linter.unusedVariables false
set_option maxHeartbeats 4000000
open Go Go.AM
namespace Go.Proofs.YtgpgpelaabdkhaaDoor
noncomputable section
def trig_Print_F8 : FSh := ⟨[(5, .one (.own 0)), (20, .one (.sl (.cons (.cons .str (.cons (.int .i64) (.cons (.int .i64) (.cons (.int .i64) (.int .i64))))) (.cons (.int .i64) (.cons (.int .i64) (.cons .bool (.cons .str (.cons (.int .i64) (.cons (.int .i64) (.cons (.int .i64) (.int .i64))))))))))), (21, .one (.int .i64)), (22, .one (.int .i64))], [.arr 63 (.cons (.int .i64) (.cons .str (.cons (.int .i64) (.int .i64)))) true]⟩
def trig_Print_F13 : FSh := ⟨[(5, .one (.own 0)), (7, .one (.ptr 1 0)), (20, .one (.sl (.cons (.cons .str (.cons (.int .i64) (.cons (.int .i64) (.cons (.int .i64) (.int .i64))))) (.cons (.int .i64) (.cons (.int .i64) (.cons .bool (.cons .str (.cons (.int .i64) (.cons (.int .i64) (.cons (.int .i64) (.int .i64))))))))))), (21, .one (.int .i64)), (22, .one (.int .i64))], [.arr 63 (.cons (.int .i64) (.cons .str (.cons (.int .i64) (.int .i64)))) true, .boxr 57 (.cons (.cons .str (.cons (.int .i64) (.cons (.int .i64) (.cons (.int .i64) (.int .i64))))) (.cons (.int .i64) (.cons (.int .i64) (.cons .bool (.cons .str (.cons (.int .i64) (.cons (.int .i64) (.cons (.int .i64) (.int .i64)))))))))]⟩
def trig_Print_F16 : FSh := ⟨[(5, .one (.own 0)), (7, .one (.ptr 1 0)), (20, .one (.sl (.cons (.cons .str (.cons (.int .i64) (.cons (.int .i64) (.cons (.int .i64) (.int .i64))))) (.cons (.int .i64) (.cons (.int .i64) (.cons .bool (.cons .str (.cons (.int .i64) (.cons (.int .i64) (.cons (.int .i64) (.int .i64))))))))))), (21, .one (.int .i64)), (22, .one (.int .i64))], [.arr 63 (.cons (.int .i64) (.cons .str (.cons (.int .i64) (.int .i64)))) true, .boxr 57 (.cons (.cons .str (.cons (.int .i64) (.cons (.int .i64) (.cons (.int .i64) (.int .i64))))) (.cons (.int .i64) (.cons (.int .i64) (.cons .bool (.cons .str (.cons (.int .i64) (.cons (.int .i64) (.cons (.int .i64) (.int .i64)))))))))]⟩
def trig_Print_F18 : FSh := ⟨[(5, .one (.own 0)), (7, .one (.ptr 1 0)), (20, .one (.sl (.cons (.cons .str (.cons (.int .i64) (.cons (.int .i64) (.cons (.int .i64) (.int .i64))))) (.cons (.int .i64) (.cons (.int .i64) (.cons .bool (.cons .str (.cons (.int .i64) (.cons (.int .i64) (.cons (.int .i64) (.int .i64))))))))))), (21, .one (.int .i64)), (22, .one (.int .i64))], [.arr 63 (.cons (.int .i64) (.cons .str (.cons (.int .i64) (.int .i64)))) true, .boxr 57 (.cons (.cons .str (.cons (.int .i64) (.cons (.int .i64) (.cons (.int .i64) (.int .i64))))) (.cons (.int .i64) (.cons (.int .i64) (.cons .bool (.cons .str (.cons (.int .i64) (.cons (.int .i64) (.cons (.int .i64) (.int .i64)))))))))]⟩
def trig_Print_D : FD := ⟨T, lookC [(21, fc21), (30, fc30), (31, fc31), (32, fc32), (33, fc33), (34, fc34)], [18, 16, 13], (Tryd.f16.body.getD .skip), Tryd.f16.results.toList, ⟨[.row (.cons .str (.sl (.cons (.cons .str (.cons (.int .i64) (.cons (.int .i64) (.cons (.int .i64) (.int .i64))))) (.cons (.int .i64) (.cons (.int .i64) (.cons .bool (.cons .str (.cons (.int .i64) (.cons (.int .i64) (.cons (.int .i64) (.int .i64)))))))))))], []⟩, ⟨[.one .str, .one (.int .i64)], []⟩, [(8, trig_Print_F8), (13, trig_Print_F13), (16, trig_Print_F16), (18, trig_Print_F18)]⟩
def trig_Print_l8 (t20 : (List TTrigStep)) (t21 : Int) (t22 : Int) (l0 : (List TToken)) : (Option ((ByteArray × Int × Unit) × Unit)) := trig_Print_D.lab 8 trig_Print_F8 (((), t20, t21, t22, ()), (l0, ()))
def trig_Print_l13 (t20 : (List TTrigStep)) (t21 : Int) (t22 : Int) (l0 : (List TToken)) (h1 : TTrigStep) : (Option ((ByteArray × Int × Unit) × Unit)) := trig_Print_D.lab 13 trig_Print_F13 (((), (), t20, t21, t22, ()), (l0, h1, ()))
def trig_Print_l16 (t20 : (List TTrigStep)) (t21 : Int) (t22 : Int) (l0 : (List TToken)) (h1 : TTrigStep) : (Option ((ByteArray × Int × Unit) × Unit)) := trig_Print_D.lab 16 trig_Print_F16 (((), (), t20, t21, t22, ()), (l0, h1, ()))
def trig_Print_l18 (t20 : (List TTrigStep)) (t21 : Int) (t22 : Int) (l0 : (List TToken)) (h1 : TTrigStep) : (Option ((ByteArray × Int × Unit) × Unit)) := trig_Print_D.lab 18 trig_Print_F18 (((), (), t20, t21, t22, ()), (l0, h1, ()))
theorem trig_Print_l8_eq (t20 : (List TTrigStep)) (t21 : Int) (t22 : Int) (l0 : (List TToken)) : trig_Print_l8 t20 t21 t22 l0 =
  if (decide (t22 < t21)) = true then
    if 0 ≤ t22 ∧ t22 < (t20.length : Int) then
      if (decide (t22 > 0)) = true then
        (trig_mark (strB [59])).bind fun y1 =>
          if (l0.length + 1) * 40 ≤ 140737488355328 ∧ 0 < 40 then
            trig_Print_l13 t20 t21 t22 (l0 ++ [y1.1.1]) (t20.getD t22.toNat dTrigStep)
          else
            none
      else
        trig_Print_l13 t20 t21 t22 l0 (t20.getD t22.toNat dTrigStep)
    else
      none
  else
    (lex_Text l0).bind fun y2 =>
      some ((y2.1.1, y2.1.2.1, ()), ()) := (FD.lab_eq _ _ _ _).trans (by kernel_rfl)
theorem trig_Print_l13_eq (t20 : (List TTrigStep)) (t21 : Int) (t22 : Int) (l0 : (List TToken)) (h1 : TTrigStep) : trig_Print_l13 t20 t21 t22 l0 h1 =
  (trig_cond h1.1).bind fun y1 =>
    if (l0.length + y1.1.1.length) * 40 ≤ 140737488355328 ∧ 0 < 40 then
      if (decide (h1.2.1 > 1)) = true then
        (trig_name (strB [120])).bind fun y2 =>
          (trig_number h1.2.1).bind fun y3 =>
            if ((l0 ++ y1.1.1).length + 2) * 40 ≤ 140737488355328 ∧ 0 < 40 then
              trig_Print_l16 t20 t21 t22 ((l0 ++ y1.1.1) ++ [y2.1.1, y3.1.1]) h1
            else
              none
      else
        trig_Print_l16 t20 t21 t22 (l0 ++ y1.1.1) h1
    else
      none := (FD.lab_eq _ _ _ _).trans (by kernel_rfl)
theorem trig_Print_l16_eq (t20 : (List TTrigStep)) (t21 : Int) (t22 : Int) (l0 : (List TToken)) (h1 : TTrigStep) : trig_Print_l16 t20 t21 t22 l0 h1 =
  if (decide (h1.2.2.1 > 0)) = true then
    (trig_name (strB [119, 105, 116, 104, 105, 110])).bind fun y1 =>
      (trig_number h1.2.2.1).bind fun y2 =>
        if (l0.length + 2) * 40 ≤ 140737488355328 ∧ 0 < 40 then
          trig_Print_l18 t20 t21 t22 (l0 ++ [y1.1.1, y2.1.1]) h1
        else
          none
  else
    trig_Print_l18 t20 t21 t22 l0 h1 := (FD.lab_eq _ _ _ _).trans (by kernel_rfl)
theorem trig_Print_l18_eq (t20 : (List TTrigStep)) (t21 : Int) (t22 : Int) (l0 : (List TToken)) (h1 : TTrigStep) : trig_Print_l18 t20 t21 t22 l0 h1 =
  if h1.2.2.2.1 = true then
    (trig_name (strB [117, 110, 108, 101, 115, 115])).bind fun y1 =>
      if (l0.length + 1) * 40 ≤ 140737488355328 ∧ 0 < 40 then
        (trig_cond h1.2.2.2.2).bind fun y2 =>
          if ((l0 ++ [y1.1.1]).length + y2.1.1.length) * 40 ≤ 140737488355328 ∧ 0 < 40 then
            trig_Print_l8 t20 t21 (IntKind.i64.wrap (t22 + 1)) ((l0 ++ [y1.1.1]) ++ y2.1.1)
          else
            none
      else
        none
  else
    trig_Print_l8 t20 t21 (IntKind.i64.wrap (t22 + 1)) l0 := (FD.lab_eq _ _ _ _).trans (by kernel_rfl)
def trig_Print (t : TTrigger) : (Option ((ByteArray × Int × Unit) × Unit)) :=
  (trig_wrong t).bind fun y1 =>
    if (y1.1.1 != 0) = true then
      some (((strB []), y1.1.1, ()), ())
    else
      (trig_name (strB [116, 114, 105, 103, 103, 101, 114])).bind fun y2 =>
        (trig_name t.1).bind fun y3 =>
          (trig_mark (strB [58])).bind fun y4 =>
            trig_Print_l8 t.2 (t.2.length : Int) 0 [y2.1.1, y3.1.1, y4.1.1]
def fc16 : FC := ⟨⟨[.row (.cons .str (.sl (.cons (.cons .str (.cons (.int .i64) (.cons (.int .i64) (.cons (.int .i64) (.int .i64))))) (.cons (.int .i64) (.cons (.int .i64) (.cons .bool (.cons .str (.cons (.int .i64) (.cons (.int .i64) (.cons (.int .i64) (.int .i64)))))))))))], []⟩, ⟨[.one .str, .one (.int .i64)], []⟩, fun x => trig_Print x.1.1⟩
theorem con16 : Contract Tryd.prog 16 fc16 :=
  trig_Print_D.contract tok (cok_of (l := [(21, fc21), (30, fc30), (31, fc31), (32, fc32), (33, fc33), (34, fc34)]) ⟨con21, con30, con31, con32, con33, con34, trivial⟩) mixed (fn' := Tryd.f16) (by kernel_rfl) (by kernel_rfl) rfl (by kernel_rfl) (fun x => (FD.fn_eq _ _).trans (by kernel_rfl))
end
end Go.Proofs.YtgpgpelaabdkhaaDoor
end

section
/-
YtgpgpelaabdkhaaDoor: signalbench.lex.words, as one plain function, its equations, its contract. No condition.
-/
set_option maxRecDepth 100000
set_option linter.unusedVariables false
set_option maxHeartbeats 4000000
open Go Go.AM
namespace Go.Proofs.YtgpgpelaabdkhaaDoor
noncomputable section
def lex_words_F3 : FSh := ⟨[(0, .one .str), (3, .one (.int .i64))], []⟩
def lex_words_D : FD := ⟨T, lookC [(62, fc62)], [], (Tryd.f69.body.getD .skip), Tryd.f69.results.toList, ⟨[.one .str], []⟩, ⟨[.one (.int .i64)], []⟩, [(3, lex_words_F3)]⟩
def lex_words_l3 (s : ByteArray) (n : Int) : (Option ((Int × Unit) × Unit)) := lex_words_D.lab 3 lex_words_F3 ((s, n, ()), ())
theorem lex_words_l3_eq (s : ByteArray) (n : Int) : lex_words_l3 s n =
  if (decide (n < (s.size : Int))) = true then
    if 0 ≤ n ∧ n < (s.size : Int) then
      (lex_word (IntKind.i32.wrap (bt s n))).bind fun y1 =>
        if y1.1.1 = true then
          lex_words_l3 s (IntKind.i64.wrap (n + 1))
        else
          some ((n, ()), ())
    else
      none
  else
    some ((n, ()), ()) := (FD.lab_eq _ _ _ _).trans (by kernel_rfl)
def lex_words (s : ByteArray) : (Option ((Int × Unit) × Unit)) :=
  lex_words_l3 s 0
def fc69 : FC := ⟨⟨[.one .str], []⟩, ⟨[.one (.int .i64)], []⟩, fun x => lex_words x.1.1⟩
theorem con69 : Contract Tryd.prog 69 fc69 :=
  lex_words_D.contract tok (cok_of (l := [(62, fc62)]) ⟨con62, trivial⟩) mixed (fn' := Tryd.f69) (by kernel_rfl) (by kernel_rfl) rfl (by kernel_rfl) (fun x => (FD.fn_eq _ _).trans (by kernel_rfl))
end
end Go.Proofs.YtgpgpelaabdkhaaDoor
end

section
/-
YtgpgpelaabdkhaaDoor: signalbench.lex.quoted, as one plain function, its equations, its contract. No condition.
-/
set_option maxRecDepth 100000
set_option linter.unusedVariables false
set_option maxHeartbeats 4000000
open Go Go.AM
namespace Go.Proofs.YtgpgpelaabdkhaaDoor
noncomputable section
def lex_quoted_F3 : FSh := ⟨[(0, .one .str), (3, .one (.int .i64))], []⟩
def lex_quoted_D : FD := ⟨T, lookC [], [], (Tryd.f71.body.getD .skip), Tryd.f71.results.toList, ⟨[.one .str], []⟩, ⟨[.one (.int .i64)], []⟩, [(3, lex_quoted_F3)]⟩
def lex_quoted_l3 (s : ByteArray) (i : Int) : (Option ((Int × Unit) × Unit)) := lex_quoted_D.lab 3 lex_quoted_F3 ((s, i, ()), ())
theorem lex_quoted_l3_eq (s : ByteArray) (i : Int) : lex_quoted_l3 s i =
  if (decide (i < (s.size : Int))) = true then
    if 0 ≤ i ∧ i < (s.size : Int) then
      if ((bt s i) == 34) = true then
        some ((IntKind.i64.wrap (i + 1), ()), ())
      else
        if ((bt s i) == 92) = true then
          lex_quoted_l3 s (IntKind.i64.wrap ((IntKind.i64.wrap (i + 1)) + 1))
        else
          lex_quoted_l3 s (IntKind.i64.wrap (i + 1))
    else
      none
  else
    some ((0, ()), ()) := (FD.lab_eq _ _ _ _).trans (by kernel_rfl)
def lex_quoted (s : ByteArray) : (Option ((Int × Unit) × Unit)) :=
  lex_quoted_l3 s 1
def fc71 : FC := ⟨⟨[.one .str], []⟩, ⟨[.one (.int .i64)], []⟩, fun x => lex_quoted x.1.1⟩
theorem con71 : Contract Tryd.prog 71 fc71 :=
  lex_quoted_D.contract tok (cok_of (l := []) trivial) mixed (fn' := Tryd.f71) (by kernel_rfl) (by kernel_rfl) rfl (by kernel_rfl) (fun x => (FD.fn_eq _ _).trans (by kernel_rfl))
end
end Go.Proofs.YtgpgpelaabdkhaaDoor
end

section
/-
YtgpgpelaabdkhaaDoor: signalbench.lex.escape, as one plain function, its equations, its contract. No condition.
-/
set_option maxRecDepth 100000
set_option linter.unusedVariables false
set_option maxHeartbeats 4000000
open Go Go.AM
namespace Go.Proofs.YtgpgpelaabdkhaaDoor
noncomputable section
def lex_escape_F6 : FSh := ⟨[(0, .one .str), (8, .one (.int .u8)), (9, .one .bool)], []⟩
def lex_escape_D : FD := ⟨T, lookC [(77, fc77)], [6], (Tryd.f81.body.getD .skip), Tryd.f81.results.toList, ⟨[.one .str], []⟩, ⟨[.one (.int .u8), .one (.int .i64)], []⟩, [(6, lex_escape_F6)]⟩
def lex_escape_l6 (s : ByteArray) (t8 : Int) (t9 : Bool) : (Option ((Int × Int × Unit) × Unit)) := lex_escape_D.lab 6 lex_escape_F6 ((s, t8, t9, ()), ())
theorem lex_escape_l6_eq (s : ByteArray) (t8 : Int) (t9 : Bool) : lex_escape_l6 s t8 t9 =
  if t9 = true then
    if 0 ≤ (1 : Int) ∧ 1 < (s.size : Int) then
      some ((bt s 1, 2, ()), ())
    else
      none
  else
    if (t8 == 110) = true then
      some ((10, 2, ()), ())
    else
      if (t8 == 120) = true then
        if (decide ((s.size : Int) < 4)) = true then
          some ((0, 0, ()), ())
        else
          if 0 ≤ (2 : Int) ∧ 2 < (s.size : Int) then
            (lex_hex (bt s 2)).bind fun y1 =>
              if (decide (y1.1.1 < 0)) = true then
                some ((0, 0, ()), ())
              else
                if 0 ≤ (3 : Int) ∧ 3 < (s.size : Int) then
                  (lex_hex (bt s 3)).bind fun y2 =>
                    if (decide (y2.1.1 < 0)) = true then
                      some ((0, 0, ()), ())
                    else
                      if 0 ≤ (2 : Int) ∧ 2 < (s.size : Int) then
                        (lex_hex (bt s 2)).bind fun y3 =>
                          if 0 ≤ (3 : Int) ∧ 3 < (s.size : Int) then
                            (lex_hex (bt s 3)).bind fun y4 =>
                              some ((IntKind.u8.wrap (IntKind.i64.wrap ((IntKind.i64.wrap (16 * y3.1.1)) + y4.1.1)), 4, ()), ())
                          else
                            none
                      else
                        none
                else
                  none
          else
            none
      else
        some ((0, 0, ()), ()) := (FD.lab_eq _ _ _ _).trans (by kernel_rfl)
def lex_escape (s : ByteArray) : (Option ((Int × Int × Unit) × Unit)) :=
  if (decide ((s.size : Int) < 2)) = true then
    some ((0, 0, ()), ())
  else
    if 0 ≤ (1 : Int) ∧ 1 < (s.size : Int) then
      if ((bt s 1) == 34) = true then
        lex_escape_l6 s (bt s 1) true
      else
        lex_escape_l6 s (bt s 1) ((bt s 1) == 92)
    else
      none
def fc81 : FC := ⟨⟨[.one .str], []⟩, ⟨[.one (.int .u8), .one (.int .i64)], []⟩, fun x => lex_escape x.1.1⟩
theorem con81 : Contract Tryd.prog 81 fc81 :=
  lex_escape_D.contract tok (cok_of (l := [(77, fc77)]) ⟨con77, trivial⟩) mixed (fn' := Tryd.f81) (by kernel_rfl) (by kernel_rfl) rfl (by kernel_rfl) (fun x => (FD.fn_eq _ _).trans (by kernel_rfl))
end
end Go.Proofs.YtgpgpelaabdkhaaDoor
end

section
/-
YtgpgpelaabdkhaaDoor: signalbench.lex.Unquote, as one plain function, its equations, its contract. No condition.
-/
set_option maxRecDepth 100000
set_option linter.unusedVariables false
set_option maxHeartbeats 4000000
open Go Go.AM
namespace Go.Proofs.YtgpgpelaabdkhaaDoor
noncomputable section
def lex_Unquote_F7 : FSh := ⟨[(0, .one .str), (4, .one (.own 0))], [.arr 5 (.int .u8) true]⟩
def lex_Unquote_F14 : FSh := ⟨[(0, .one .str), (4, .one (.own 0)), (5, .one (.int .u8)), (6, .one (.int .i64))], [.arr 5 (.int .u8) true]⟩
def lex_Unquote_D : FD := ⟨T, lookC [(78, fc78), (81, fc81)], [14], (Tryd.f72.body.getD .skip), Tryd.f72.results.toList, ⟨[.one .str], []⟩, ⟨[.one .str, .one (.int .i64)], []⟩, [(7, lex_Unquote_F7), (14, lex_Unquote_F14)]⟩
def lex_Unquote_l7 (s : ByteArray) (l0 : (List Int)) : (Option ((ByteArray × Int × Unit) × Unit)) := lex_Unquote_D.lab 7 lex_Unquote_F7 ((s, (), ()), (l0, ()))
def lex_Unquote_l14 (s : ByteArray) (c : Int) (n : Int) (l0 : (List Int)) : (Option ((ByteArray × Int × Unit) × Unit)) := lex_Unquote_D.lab 14 lex_Unquote_F14 ((s, (), c, n, ()), (l0, ()))
theorem lex_Unquote_l7_eq (s : ByteArray) (l0 : (List Int)) : lex_Unquote_l7 s l0 =
  if (!(s.toList == (strB []).toList)) = true then
    if 0 ≤ (0 : Int) ∧ 0 < (s.size : Int) then
      (lex_plain (IntKind.i32.wrap (bt s 0))).bind fun y1 =>
        if y1.1.1 = true then
          if 0 ≤ (0 : Int) ∧ 0 < (s.size : Int) then
            if (l0.length + 1) * 1 ≤ 140737488355328 ∧ 0 < 1 then
              if 0 ≤ (1 : Int) ∧ 1 ≤ (s.size : Int) then
                lex_Unquote_l7 (s.extract 1 s.size) (l0 ++ [bt s 0])
              else
                none
            else
              none
          else
            none
        else
          if 0 ≤ (0 : Int) ∧ 0 < (s.size : Int) then
            if ((bt s 0) == 92) = true then
              (lex_escape s).bind fun y2 =>
                lex_Unquote_l14 s y2.1.1 y2.1.2.1 l0
            else
              lex_Unquote_l14 s 0 0 l0
          else
            none
    else
      none
  else
    some ((strOfBytes l0, 0, ()), ()) := (FD.lab_eq _ _ _ _).trans (by kernel_rfl)
theorem lex_Unquote_l14_eq (s : ByteArray) (c : Int) (n : Int) (l0 : (List Int)) : lex_Unquote_l14 s c n l0 =
  if (n == 0) = true then
    some (((strB []), 4, ()), ())
  else
    if (l0.length + 1) * 1 ≤ 140737488355328 ∧ 0 < 1 then
      if 0 ≤ n ∧ n ≤ (s.size : Int) then
        lex_Unquote_l7 (s.extract n.toNat s.size) (l0 ++ [c])
      else
        none
    else
      none := (FD.lab_eq _ _ _ _).trans (by kernel_rfl)
def lex_Unquote (s : ByteArray) : (Option ((ByteArray × Int × Unit) × Unit)) :=
  if (decide ((s.size : Int) < 2)) = true then
    some (((strB []), 4, ()), ())
  else
    if 0 ≤ (0 : Int) ∧ 0 < (s.size : Int) then
      if ((bt s 0) != 34) = true then
        some (((strB []), 4, ()), ())
      else
        if 0 ≤ IntKind.i64.wrap ((s.size : Int) - 1) ∧ IntKind.i64.wrap ((s.size : Int) - 1) < (s.size : Int) then
          if ((bt s (IntKind.i64.wrap ((s.size : Int) - 1))) != 34) = true then
            some (((strB []), 4, ()), ())
          else
            if 0 ≤ (1 : Int) ∧ (1 : Int) ≤ IntKind.i64.wrap ((s.size : Int) - 1) ∧ IntKind.i64.wrap ((s.size : Int) - 1) ≤ (s.size : Int) then
              lex_Unquote_l7 (s.extract 1 (IntKind.i64.wrap ((s.size : Int) - 1)).toNat) []
            else
              none
        else
          none
    else
      none
def fc72 : FC := ⟨⟨[.one .str], []⟩, ⟨[.one .str, .one (.int .i64)], []⟩, fun x => lex_Unquote x.1.1⟩
theorem con72 : Contract Tryd.prog 72 fc72 :=
  lex_Unquote_D.contract tok (cok_of (l := [(78, fc78), (81, fc81)]) ⟨con78, con81, trivial⟩) mixed (fn' := Tryd.f72) (by kernel_rfl) (by kernel_rfl) rfl (by kernel_rfl) (fun x => (FD.fn_eq _ _).trans (by kernel_rfl))
end
end Go.Proofs.YtgpgpelaabdkhaaDoor
end

section
/-
YtgpgpelaabdkhaaDoor: signalbench.lex.take, as one plain function, its equations, its contract. No condition.
-/
set_option maxRecDepth 100000
set_option linter.unusedVariables false
set_option maxHeartbeats 4000000
open Go Go.AM
namespace Go.Proofs.YtgpgpelaabdkhaaDoor
noncomputable section
def lex_take_D : FD := ⟨T, lookC [(40, fc40), (61, fc61), (64, fc64), (66, fc66), (69, fc69), (70, fc70), (71, fc71), (72, fc72)], [], (Tryd.f55.body.getD .skip), Tryd.f55.results.toList, ⟨[.one .str], []⟩, ⟨[.row (.cons (.int .i64) (.cons .str (.cons (.int .i64) (.int .i64)))), .one (.int .i64), .one (.int .i64)], []⟩, []⟩
def lex_take (s : ByteArray) : (Option ((TToken × Int × Int × Unit) × Unit)) :=
  if 0 ≤ (0 : Int) ∧ 0 < (s.size : Int) then
    (lex_letter (IntKind.i32.wrap (bt s 0))).bind fun y1 =>
      if y1.1.1 = true then
        (lex_words s).bind fun y2 =>
          if 0 ≤ (0 : Int) ∧ (0 : Int) ≤ y2.1.1 ∧ y2.1.1 ≤ (s.size : Int) then
            (lex_Name (s.extract 0 y2.1.1.toNat)).bind fun y3 =>
              if (!y3.1.1) = true then
                some (((0, (strB []), 0, 0), 0, 4, ()), ())
              else
                if 0 ≤ (0 : Int) ∧ (0 : Int) ≤ y2.1.1 ∧ y2.1.1 ≤ (s.size : Int) then
                  some (((1, s.extract 0 y2.1.1.toNat, 0, 0), y2.1.1, 0, ()), ())
                else
                  none
          else
            none
      else
        (lex_digit (IntKind.i32.wrap (bt s 0))).bind fun y4 =>
          if y4.1.1 = true then
            if 0 ≤ (1 : Int) ∧ 1 ≤ (s.size : Int) then
              (lex_words (s.extract 1 s.size)).bind fun y5 =>
                if 0 ≤ (0 : Int) ∧ (0 : Int) ≤ IntKind.i64.wrap (1 + y5.1.1) ∧ IntKind.i64.wrap (1 + y5.1.1) ≤ (s.size : Int) then
                  (lex_Number (s.extract 0 (IntKind.i64.wrap (1 + y5.1.1)).toNat)).bind fun y6 =>
                    if 0 ≤ (0 : Int) ∧ (0 : Int) ≤ IntKind.i64.wrap (1 + y5.1.1) ∧ IntKind.i64.wrap (1 + y5.1.1) ≤ (s.size : Int) then
                      some (((2, s.extract 0 (IntKind.i64.wrap (1 + y5.1.1)).toNat, y6.1.1, 0), IntKind.i64.wrap (1 + y5.1.1), y6.1.2.1, ()), ())
                    else
                      none
                else
                  none
            else
              none
          else
            if ((IntKind.i32.wrap (bt s 0)) == 45) = true then
              if 0 ≤ (1 : Int) ∧ 1 ≤ (s.size : Int) then
                (lex_words (s.extract 1 s.size)).bind fun y7 =>
                  if 0 ≤ (0 : Int) ∧ (0 : Int) ≤ IntKind.i64.wrap (1 + y7.1.1) ∧ IntKind.i64.wrap (1 + y7.1.1) ≤ (s.size : Int) then
                    (lex_Number (s.extract 0 (IntKind.i64.wrap (1 + y7.1.1)).toNat)).bind fun y8 =>
                      if 0 ≤ (0 : Int) ∧ (0 : Int) ≤ IntKind.i64.wrap (1 + y7.1.1) ∧ IntKind.i64.wrap (1 + y7.1.1) ≤ (s.size : Int) then
                        some (((2, s.extract 0 (IntKind.i64.wrap (1 + y7.1.1)).toNat, y8.1.1, 0), IntKind.i64.wrap (1 + y7.1.1), y8.1.2.1, ()), ())
                      else
                        none
                  else
                    none
              else
                none
            else
              if ((IntKind.i32.wrap (bt s 0)) == 34) = true then
                (lex_quoted s).bind fun y9 =>
                  if 0 ≤ (0 : Int) ∧ (0 : Int) ≤ y9.1.1 ∧ y9.1.1 ≤ (s.size : Int) then
                    (lex_Unquote (s.extract 0 y9.1.1.toNat)).bind fun y10 =>
                      some (((3, y10.1.1, 0, 0), y9.1.1, y10.1.2.1, ()), ())
                  else
                    none
              else
                (lex_mark (IntKind.i32.wrap (bt s 0))).bind fun y11 =>
                  if y11.1.1 = true then
                    if 0 ≤ (0 : Int) ∧ (0 : Int) ≤ 1 ∧ 1 ≤ (s.size : Int) then
                      some (((4, s.extract 0 1, 0, 0), 1, 0, ()), ())
                    else
                      none
                  else
                    some (((0, (strB []), 0, 0), 0, 4, ()), ())
  else
    none
def fc55 : FC := ⟨⟨[.one .str], []⟩, ⟨[.row (.cons (.int .i64) (.cons .str (.cons (.int .i64) (.int .i64)))), .one (.int .i64), .one (.int .i64)], []⟩, fun x => lex_take x.1.1⟩
theorem con55 : Contract Tryd.prog 55 fc55 :=
  lex_take_D.contract tok (cok_of (l := [(40, fc40), (61, fc61), (64, fc64), (66, fc66), (69, fc69), (70, fc70), (71, fc71), (72, fc72)]) ⟨con40, con61, con64, con66, con69, con70, con71, con72, trivial⟩) mixed (fn' := Tryd.f55) (by kernel_rfl) (by kernel_rfl) rfl (by kernel_rfl) (fun x => (FD.fn_eq _ _).trans (by kernel_rfl))
end
end Go.Proofs.YtgpgpelaabdkhaaDoor
end

section
/-
YtgpgpelaabdkhaaDoor: strings.IndexByte, by the shelf. No condition.
-/
open Go Go.AM
variable [Inhabited ZMem]
namespace Go.Proofs.YtgpgpelaabdkhaaDoor
noncomputable section
def strings_IndexByte (s : ByteArray) (c : Int) : Option ((Int × Unit) × Unit) := some ((Lib.indexByte s.data.toList c.toNat.toUInt8, ()), ())
def fc54 : FC := ⟨⟨[.one .str, .one (.int .u8)], []⟩, ⟨[.one (.int .i64)], []⟩, fun x => strings_IndexByte x.1.1 x.1.2.1⟩
theorem con54 : Contract Tryd.prog 54 fc54 :=
  Contract.still (P := Tryd.prog) (f := 54) (sa := [.one .str, .one (.int .u8)]) (sr := [.one (.int .i64)]) (fn := Tryd.f54) (c := Tryd.f54.body.getD .skip) (by kernel_rfl) (by kernel_rfl) (by kernel_rfl) (g := fun x => some (Lib.indexByte x.1.data.toList x.2.1.toNat.toUInt8, ())) (fun w M G x y vals hI hv hg => by
    obtain ⟨s, c, u⟩ := x
    obtain ⟨vs⟩ := vals
    match vs, hv with
    | [v1, v2], hv =>
      obtain ⟨⟨rfl, _⟩, ⟨rfl, _⟩, _⟩ := hv
      cases hg
      refine (Tryd.strings_IndexByte s c w).mono ?_
      rintro e w' ⟨rfl, rfl⟩
      exact ⟨_, rfl, rfl, rfl, rfl⟩)
end
end Go.Proofs.YtgpgpelaabdkhaaDoor
end

section
/-
YtgpgpelaabdkhaaDoor: signalbench.lex.Tokens, as one plain function, its equations, its contract. No condition.
-/
set_option maxRecDepth 100000
set_option linter.unusedVariables false
set_option maxHeartbeats 4000000
open Go Go.AM
namespace Go.Proofs.YtgpgpelaabdkhaaDoor
noncomputable section
def lex_Tokens_F7 : FSh := ⟨[(0, .one .str), (5, .one (.own 0)), (6, .one (.int .i64))], [.arr 63 (.cons (.int .i64) (.cons .str (.cons (.int .i64) (.int .i64)))) true]⟩
def lex_Tokens_F15 : FSh := ⟨[(0, .one .str), (5, .one (.own 0)), (6, .one (.int .i64)), (17, .one (.int .u8)), (24, .one .bool)], [.arr 63 (.cons (.int .i64) (.cons .str (.cons (.int .i64) (.int .i64)))) true]⟩
def lex_Tokens_D : FD := ⟨T, lookC [(54, fc54), (55, fc55)], [15], (Tryd.f35.body.getD .skip), Tryd.f35.results.toList, ⟨[.one .str], []⟩, ⟨[.one (.sl (.cons (.int .i64) (.cons .str (.cons (.int .i64) (.int .i64))))), .one (.int .i64), .one (.int .i64)], []⟩, [(7, lex_Tokens_F7), (15, lex_Tokens_F15)]⟩
def lex_Tokens_l7 (s : ByteArray) (line : Int) (l0 : (List TToken)) : (Option (((List TToken) × Int × Int × Unit) × Unit)) := lex_Tokens_D.lab 7 lex_Tokens_F7 ((s, (), line, ()), (l0, ()))
def lex_Tokens_l15 (s : ByteArray) (line : Int) (t17 : Int) (t24 : Bool) (l0 : (List TToken)) : (Option (((List TToken) × Int × Int × Unit) × Unit)) := lex_Tokens_D.lab 15 lex_Tokens_F15 ((s, (), line, t17, t24, ()), (l0, ()))
theorem lex_Tokens_l7_eq (s : ByteArray) (line : Int) (l0 : (List TToken)) : lex_Tokens_l7 s line l0 =
  if (!(s.toList == (strB []).toList)) = true then
    if 0 ≤ (0 : Int) ∧ 0 < (s.size : Int) then
      if ((bt s 0) == 10) = true then
        if 0 ≤ (1 : Int) ∧ 1 ≤ (s.size : Int) then
          lex_Tokens_l7 (s.extract 1 s.size) (IntKind.i64.wrap (line + 1)) l0
        else
          none
      else
        if ((bt s 0) == 32) = true then
          lex_Tokens_l15 s line (bt s 0) true l0
        else
          lex_Tokens_l15 s line (bt s 0) ((bt s 0) == 9) l0
    else
      none
  else
    some ((l0, 0, 0, ()), ()) := (FD.lab_eq _ _ _ _).trans (by kernel_rfl)
theorem lex_Tokens_l15_eq (s : ByteArray) (line : Int) (t17 : Int) (t24 : Bool) (l0 : (List TToken)) : lex_Tokens_l15 s line t17 t24 l0 =
  if t24 = true then
    if 0 ≤ (1 : Int) ∧ 1 ≤ (s.size : Int) then
      lex_Tokens_l7 (s.extract 1 s.size) line l0
    else
      none
  else
    if (t17 == 35) = true then
      (strings_IndexByte s 10).bind fun y1 =>
        if (decide (y1.1.1 < 0)) = true then
          if 0 ≤ (s.size : Int) ∧ (s.size : Int) ≤ (s.size : Int) then
            lex_Tokens_l7 (s.extract (s.size : Int).toNat s.size) line l0
          else
            none
        else
          if 0 ≤ y1.1.1 ∧ y1.1.1 ≤ (s.size : Int) then
            lex_Tokens_l7 (s.extract y1.1.1.toNat s.size) line l0
          else
            none
    else
      (lex_take s).bind fun y2 =>
        if (y2.1.2.2.1 != 0) = true then
          some (([], line, y2.1.2.2.1, ()), ())
        else
          if (l0.length + 1) * 40 ≤ 140737488355328 ∧ 0 < 40 then
            if 0 ≤ y2.1.2.1 ∧ y2.1.2.1 ≤ (s.size : Int) then
              lex_Tokens_l7 (s.extract y2.1.2.1.toNat s.size) line (l0 ++ [(y2.1.1.1, y2.1.1.2.1, y2.1.1.2.2.1, line)])
            else
              none
          else
            none := (FD.lab_eq _ _ _ _).trans (by kernel_rfl)
def lex_Tokens (s : ByteArray) : (Option (((List TToken) × Int × Int × Unit) × Unit)) :=
  if (decide ((s.size : Int) > 1048576)) = true then
    some (([], 0, 6, ()), ())
  else
    lex_Tokens_l7 s 1 []
def fc35 : FC := ⟨⟨[.one .str], []⟩, ⟨[.one (.sl (.cons (.int .i64) (.cons .str (.cons (.int .i64) (.int .i64))))), .one (.int .i64), .one (.int .i64)], []⟩, fun x => lex_Tokens x.1.1⟩
theorem con35 : Contract Tryd.prog 35 fc35 :=
  lex_Tokens_D.contract tok (cok_of (l := [(54, fc54), (55, fc55)]) ⟨con54, con55, trivial⟩) mixed (fn' := Tryd.f35) (by kernel_rfl) (by kernel_rfl) rfl (by kernel_rfl) (fun x => (FD.fn_eq _ _).trans (by kernel_rfl))
end
end Go.Proofs.YtgpgpelaabdkhaaDoor
end

section
/-
YtgpgpelaabdkhaaDoor: (*signalbench.trig.reader).next, as one plain function, its equations, its contract. No condition.
-/
set_option maxRecDepth 100000
set_option linter.unusedVariables false
set_option maxHeartbeats 4000000
open Go Go.AM
namespace Go.Proofs.YtgpgpelaabdkhaaDoor
noncomputable section
def trig_reader_next_D : FD := ⟨T, lookC [], [], (Tryd.f56.body.getD .skip), Tryd.f56.results.toList, ⟨[.one (.ptr 0 0), .one (.int .i64), .one .str], [.boxr 73 (.cons (.sl (.cons (.int .i64) (.cons .str (.cons (.int .i64) (.int .i64))))) (.cons (.int .i64) .bool))]⟩, ⟨[.one .bool], [.boxr 73 (.cons (.sl (.cons (.int .i64) (.cons .str (.cons (.int .i64) (.int .i64))))) (.cons (.int .i64) .bool))]⟩, []⟩
def trig_reader_next (kind : Int) (text : ByteArray) (h0 : Treader) : (Option ((Bool × Unit) × (Treader × Unit))) :=
  if h0.2.2 = true then
    some ((false, ()), (h0, ()))
  else
    if (decide (h0.2.1 ≥ (h0.1.length : Int))) = true then
      some ((false, ()), (h0, ()))
    else
      if 0 ≤ h0.2.1 ∧ h0.2.1 < (h0.1.length : Int) then
        if ((h0.1.getD h0.2.1.toNat dToken).1 != kind) = true then
          some ((false, ()), (h0, ()))
        else
          if 0 ≤ h0.2.1 ∧ h0.2.1 < (h0.1.length : Int) then
            if (!((h0.1.getD h0.2.1.toNat dToken).2.1.toList == text.toList)) = true then
              some ((false, ()), (h0, ()))
            else
              some ((true, ()), ((h0.1, IntKind.i64.wrap (h0.2.1 + 1), h0.2.2), ()))
          else
            none
      else
        none
def fc56 : FC := ⟨⟨[.one (.ptr 0 0), .one (.int .i64), .one .str], [.boxr 73 (.cons (.sl (.cons (.int .i64) (.cons .str (.cons (.int .i64) (.int .i64))))) (.cons (.int .i64) .bool))]⟩, ⟨[.one .bool], [.boxr 73 (.cons (.sl (.cons (.int .i64) (.cons .str (.cons (.int .i64) (.int .i64))))) (.cons (.int .i64) .bool))]⟩, fun x => trig_reader_next x.1.2.1 x.1.2.2.1 x.2.1⟩
theorem con56 : Contract Tryd.prog 56 fc56 :=
  trig_reader_next_D.contract tok (cok_of (l := []) trivial) mixed (fn' := Tryd.f56) (by kernel_rfl) (by kernel_rfl) rfl (by kernel_rfl) (fun x => (FD.fn_eq _ _).trans (by kernel_rfl))
end
end Go.Proofs.YtgpgpelaabdkhaaDoor
end

section
/-
YtgpgpelaabdkhaaDoor: (*signalbench.trig.reader).want, as one plain function, its equations, its contract. No condition.
-/
set_option maxRecDepth 100000
set_option linter.unusedVariables false
set_option maxHeartbeats 4000000
open Go Go.AM
namespace Go.Proofs.YtgpgpelaabdkhaaDoor
noncomputable section
def trig_reader_want_D : FD := ⟨T, lookC [(56, fc56)], [], (Tryd.f36.body.getD .skip), Tryd.f36.results.toList, ⟨[.one (.ptr 0 0), .one (.int .i64), .one .str], [.boxr 73 (.cons (.sl (.cons (.int .i64) (.cons .str (.cons (.int .i64) (.int .i64))))) (.cons (.int .i64) .bool))]⟩, ⟨[], [.boxr 73 (.cons (.sl (.cons (.int .i64) (.cons .str (.cons (.int .i64) (.int .i64))))) (.cons (.int .i64) .bool))]⟩, []⟩
def trig_reader_want (kind : Int) (text : ByteArray) (h0 : Treader) : (Option (Unit × (Treader × Unit))) :=
  (trig_reader_next kind text h0).bind fun y1 =>
    if (!y1.1.1) = true then
      some ((), ((y1.2.1.1, y1.2.1.2.1, true), ()))
    else
      some ((), (y1.2.1, ()))
def fc36 : FC := ⟨⟨[.one (.ptr 0 0), .one (.int .i64), .one .str], [.boxr 73 (.cons (.sl (.cons (.int .i64) (.cons .str (.cons (.int .i64) (.int .i64))))) (.cons (.int .i64) .bool))]⟩, ⟨[], [.boxr 73 (.cons (.sl (.cons (.int .i64) (.cons .str (.cons (.int .i64) (.int .i64))))) (.cons (.int .i64) .bool))]⟩, fun x => trig_reader_want x.1.2.1 x.1.2.2.1 x.2.1⟩
theorem con36 : Contract Tryd.prog 36 fc36 :=
  trig_reader_want_D.contract tok (cok_of (l := [(56, fc56)]) ⟨con56, trivial⟩) mixed (fn' := Tryd.f36) (by kernel_rfl) (by kernel_rfl) rfl (by kernel_rfl) (fun x => (FD.fn_eq _ _).trans (by kernel_rfl))
end
end Go.Proofs.YtgpgpelaabdkhaaDoor
end

section
/-
YtgpgpelaabdkhaaDoor: (*signalbench.trig.reader).take, as one plain function, its equations, its contract. No condition.
-/
set_option maxRecDepth 100000
set_option linter.unusedVariables false
set_option maxHeartbeats 4000000
open Go Go.AM
namespace Go.Proofs.YtgpgpelaabdkhaaDoor
noncomputable section
def trig_reader_take_D : FD := ⟨T, lookC [], [], (Tryd.f37.body.getD .skip), Tryd.f37.results.toList, ⟨[.one (.ptr 0 0), .one (.int .i64)], [.boxr 73 (.cons (.sl (.cons (.int .i64) (.cons .str (.cons (.int .i64) (.int .i64))))) (.cons (.int .i64) .bool))]⟩, ⟨[.row (.cons (.int .i64) (.cons .str (.cons (.int .i64) (.int .i64))))], [.boxr 73 (.cons (.sl (.cons (.int .i64) (.cons .str (.cons (.int .i64) (.int .i64))))) (.cons (.int .i64) .bool))]⟩, []⟩
def trig_reader_take (kind : Int) (h0 : Treader) : (Option ((TToken × Unit) × (Treader × Unit))) :=
  if h0.2.2 = true then
    some (((0, (strB []), 0, 0), ()), ((h0.1, h0.2.1, true), ()))
  else
    if (decide (h0.2.1 ≥ (h0.1.length : Int))) = true then
      some (((0, (strB []), 0, 0), ()), ((h0.1, h0.2.1, true), ()))
    else
      if 0 ≤ h0.2.1 ∧ h0.2.1 < (h0.1.length : Int) then
        if ((h0.1.getD h0.2.1.toNat dToken).1 != kind) = true then
          some (((0, (strB []), 0, 0), ()), ((h0.1, h0.2.1, true), ()))
        else
          if 0 ≤ IntKind.i64.wrap ((IntKind.i64.wrap (h0.2.1 + 1)) - 1) ∧ IntKind.i64.wrap ((IntKind.i64.wrap (h0.2.1 + 1)) - 1) < (h0.1.length : Int) then
            some (((h0.1.getD (IntKind.i64.wrap ((IntKind.i64.wrap (h0.2.1 + 1)) - 1)).toNat dToken), ()), ((h0.1, IntKind.i64.wrap (h0.2.1 + 1), h0.2.2), ()))
          else
            none
      else
        none
def fc37 : FC := ⟨⟨[.one (.ptr 0 0), .one (.int .i64)], [.boxr 73 (.cons (.sl (.cons (.int .i64) (.cons .str (.cons (.int .i64) (.int .i64))))) (.cons (.int .i64) .bool))]⟩, ⟨[.row (.cons (.int .i64) (.cons .str (.cons (.int .i64) (.int .i64))))], [.boxr 73 (.cons (.sl (.cons (.int .i64) (.cons .str (.cons (.int .i64) (.int .i64))))) (.cons (.int .i64) .bool))]⟩, fun x => trig_reader_take x.1.2.1 x.2.1⟩
theorem con37 : Contract Tryd.prog 37 fc37 :=
  trig_reader_take_D.contract tok (cok_of (l := []) trivial) mixed (fn' := Tryd.f37) (by kernel_rfl) (by kernel_rfl) rfl (by kernel_rfl) (fun x => (FD.fn_eq _ _).trans (by kernel_rfl))
end
end Go.Proofs.YtgpgpelaabdkhaaDoor
end

section
/-
YtgpgpelaabdkhaaDoor: slices.Index[[]string,string], as one plain function, its equations, its contract. No condition.
-/
set_option maxRecDepth 100000
set_option linter.unusedVariables false
set_option maxHeartbeats 4000000
open Go Go.AM
namespace Go.Proofs.YtgpgpelaabdkhaaDoor
noncomputable section
def slices_Index_string_string_F3 : FSh := ⟨[(0, .one (.sl .str)), (1, .one .str), (7, .one (.int .i64)), (8, .one (.int .i64))], []⟩
def slices_Index_string_string_D : FD := ⟨T, lookC [], [], (Tryd.f82.body.getD .skip), Tryd.f82.results.toList, ⟨[.one (.sl .str), .one .str], []⟩, ⟨[.one (.int .i64)], []⟩, [(3, slices_Index_string_string_F3)]⟩
def slices_Index_string_string_l3 (s : (List ByteArray)) (v : ByteArray) (t7 : Int) (t8 : Int) : (Option ((Int × Unit) × Unit)) := slices_Index_string_string_D.lab 3 slices_Index_string_string_F3 ((s, v, t7, t8, ()), ())
theorem slices_Index_string_string_l3_eq (s : (List ByteArray)) (v : ByteArray) (t7 : Int) (t8 : Int) : slices_Index_string_string_l3 s v t7 t8 =
  if (decide (t8 < t7)) = true then
    if 0 ≤ t8 ∧ t8 < (s.length : Int) then
      if (v.toList == (s.getD t8.toNat (strB [])).toList) = true then
        some ((t8, ()), ())
      else
        slices_Index_string_string_l3 s v t7 (IntKind.i64.wrap (t8 + 1))
    else
      none
  else
    some (((-1), ()), ()) := (FD.lab_eq _ _ _ _).trans (by kernel_rfl)
def slices_Index_string_string (s : (List ByteArray)) (v : ByteArray) : (Option ((Int × Unit) × Unit)) :=
  slices_Index_string_string_l3 s v (s.length : Int) 0
def fc82 : FC := ⟨⟨[.one (.sl .str), .one .str], []⟩, ⟨[.one (.int .i64)], []⟩, fun x => slices_Index_string_string x.1.1 x.1.2.1⟩
theorem con82 : Contract Tryd.prog 82 fc82 :=
  slices_Index_string_string_D.contract tok (cok_of (l := []) trivial) mixed (fn' := Tryd.f82) (by kernel_rfl) (by kernel_rfl) rfl (by kernel_rfl) (fun x => (FD.fn_eq _ _).trans (by kernel_rfl))
end
end Go.Proofs.YtgpgpelaabdkhaaDoor
end

section
/-
YtgpgpelaabdkhaaDoor: (*signalbench.trig.reader).word, as one plain function, its equations, its contract. No condition.
-/
set_option maxRecDepth 100000
set_option linter.unusedVariables false
set_option maxHeartbeats 4000000
open Go Go.AM
namespace Go.Proofs.YtgpgpelaabdkhaaDoor
noncomputable section
def trig_reader_word_D : FD := ⟨T, lookC [(82, fc82)], [], (Tryd.f73.body.getD .skip), Tryd.f73.results.toList, ⟨[.one (.ptr 0 0), .one (.sl .str)], [.boxr 73 (.cons (.sl (.cons (.int .i64) (.cons .str (.cons (.int .i64) (.int .i64))))) (.cons (.int .i64) .bool))]⟩, ⟨[.one (.int .i64)], [.boxr 73 (.cons (.sl (.cons (.int .i64) (.cons .str (.cons (.int .i64) (.int .i64))))) (.cons (.int .i64) .bool))]⟩, []⟩
def trig_reader_word (words : (List ByteArray)) (h0 : Treader) : (Option ((Int × Unit) × (Treader × Unit))) :=
  if h0.2.2 = true then
    some (((-1), ()), (h0, ()))
  else
    if (decide (h0.2.1 ≥ (h0.1.length : Int))) = true then
      some (((-1), ()), (h0, ()))
    else
      if 0 ≤ h0.2.1 ∧ h0.2.1 < (h0.1.length : Int) then
        if ((h0.1.getD h0.2.1.toNat dToken).1 != 1) = true then
          some (((-1), ()), (h0, ()))
        else
          if 0 ≤ h0.2.1 ∧ h0.2.1 < (h0.1.length : Int) then
            (slices_Index_string_string words (h0.1.getD h0.2.1.toNat dToken).2.1).bind fun y1 =>
              if (decide (y1.1.1 ≥ 0)) = true then
                some ((y1.1.1, ()), ((h0.1, IntKind.i64.wrap (h0.2.1 + 1), h0.2.2), ()))
              else
                some ((y1.1.1, ()), (h0, ()))
          else
            none
      else
        none
def fc73 : FC := ⟨⟨[.one (.ptr 0 0), .one (.sl .str)], [.boxr 73 (.cons (.sl (.cons (.int .i64) (.cons .str (.cons (.int .i64) (.int .i64))))) (.cons (.int .i64) .bool))]⟩, ⟨[.one (.int .i64)], [.boxr 73 (.cons (.sl (.cons (.int .i64) (.cons .str (.cons (.int .i64) (.int .i64))))) (.cons (.int .i64) .bool))]⟩, fun x => trig_reader_word x.1.2.1 x.2.1⟩
theorem con73 : Contract Tryd.prog 73 fc73 :=
  trig_reader_word_D.contract tok (cok_of (l := [(82, fc82)]) ⟨con82, trivial⟩) mixed (fn' := Tryd.f73) (by kernel_rfl) (by kernel_rfl) rfl (by kernel_rfl) (fun x => (FD.fn_eq _ _).trans (by kernel_rfl))
end
end Go.Proofs.YtgpgpelaabdkhaaDoor
end

section
/-
YtgpgpelaabdkhaaDoor: (*signalbench.trig.reader).cond, as one plain function, its equations, its contract. No condition.
-/
set_option maxRecDepth 100000
set_option linter.unusedVariables false
set_option maxHeartbeats 4000000
open Go Go.AM
namespace Go.Proofs.YtgpgpelaabdkhaaDoor
noncomputable section
def trig_reader_cond_F14 : FSh := ⟨[(0, .one (.ptr 0 0)), (2, .one (.ptr 1 0)), (3, .one (.ptr 2 0))], [.boxr 73 (.cons (.sl (.cons (.int .i64) (.cons .str (.cons (.int .i64) (.int .i64))))) (.cons (.int .i64) .bool)), .boxr 36 (.cons .str (.cons (.int .i64) (.cons (.int .i64) (.cons (.int .i64) (.int .i64))))), .boxr 36 (.cons .str (.cons (.int .i64) (.cons (.int .i64) (.cons (.int .i64) (.int .i64)))))]⟩
def trig_reader_cond_D : FD := ⟨T, lookC [(36, fc36), (37, fc37), (45, fc45), (46, fc46), (56, fc56), (73, fc73)], [14], (Tryd.f57.body.getD .skip), Tryd.f57.results.toList, ⟨[.one (.ptr 0 0)], [.boxr 73 (.cons (.sl (.cons (.int .i64) (.cons .str (.cons (.int .i64) (.int .i64))))) (.cons (.int .i64) .bool))]⟩, ⟨[.row (.cons .str (.cons (.int .i64) (.cons (.int .i64) (.cons (.int .i64) (.int .i64)))))], [.boxr 73 (.cons (.sl (.cons (.int .i64) (.cons .str (.cons (.int .i64) (.int .i64))))) (.cons (.int .i64) .bool))]⟩, [(14, trig_reader_cond_F14)]⟩
def trig_reader_cond_l14 (h0 : Treader) (h1 : TCond) (h2 : TCond) : (Option ((TCond × Unit) × (Treader × Unit))) := trig_reader_cond_D.lab 14 trig_reader_cond_F14 (((), (), (), ()), (h0, h1, h2, ()))
theorem trig_reader_cond_l14_eq (h0 : Treader) (h1 : TCond) (h2 : TCond) : trig_reader_cond_l14 h0 h1 h2 =
  (trig_reader_take 2 h0).bind fun y1 =>
    some (((h2.1, h2.2.1, h2.2.2.1, h2.2.2.2.1, y1.1.1.2.2.1), ()), (y1.2.1, ())) := (FD.lab_eq _ _ _ _).trans (by kernel_rfl)
def trig_reader_cond (h0 : Treader) : (Option ((TCond × Unit) × (Treader × Unit))) :=
  (trig_reader_take 1 h0).bind fun y1 =>
    (trig_reader_want 4 (strB [46]) y1.2.1).bind fun y2 =>
      (trig_kinds).bind fun y3 =>
        (trig_reader_word y3.1.1 y2.2.1).bind fun y4 =>
          if (decide (y4.1.1 < 0)) = true then
            some (((y1.1.1.2.1, 0, 0, 0, 0), ()), ((y4.2.1.1, y4.2.1.2.1, true), ()))
          else
            (trig_fields).bind fun y5 =>
              (trig_reader_word y5.1.1 y4.2.1).bind fun y6 =>
                if (decide (y6.1.1 < 0)) = true then
                  some (((y1.1.1.2.1, y4.1.1, 0, 0, 0), ()), (y6.2.1, ()))
                else
                  (trig_reader_next 4 (strB [61]) y6.2.1).bind fun y7 =>
                    if y7.1.1 = true then
                      trig_reader_cond_l14 y7.2.1 ((strB []), 0, 0, 0, 0) (y1.1.1.2.1, y4.1.1, IntKind.i64.wrap (y6.1.1 + 1), 1, 0)
                    else
                      (trig_reader_next 4 (strB [60]) y7.2.1).bind fun y8 =>
                        if y8.1.1 = true then
                          trig_reader_cond_l14 y8.2.1 ((strB []), 0, 0, 0, 0) (y1.1.1.2.1, y4.1.1, IntKind.i64.wrap (y6.1.1 + 1), 3, 0)
                        else
                          (trig_reader_next 4 (strB [62]) y8.2.1).bind fun y9 =>
                            if y9.1.1 = true then
                              trig_reader_cond_l14 y9.2.1 ((strB []), 0, 0, 0, 0) (y1.1.1.2.1, y4.1.1, IntKind.i64.wrap (y6.1.1 + 1), 4, 0)
                            else
                              (trig_reader_next 4 (strB [38]) y9.2.1).bind fun y10 =>
                                if y10.1.1 = true then
                                  trig_reader_cond_l14 y10.2.1 ((strB []), 0, 0, 0, 0) (y1.1.1.2.1, y4.1.1, IntKind.i64.wrap (y6.1.1 + 1), 5, 0)
                                else
                                  (trig_reader_want 4 (strB [33]) y10.2.1).bind fun y11 =>
                                    (trig_reader_want 4 (strB [61]) y11.2.1).bind fun y12 =>
                                      trig_reader_cond_l14 y12.2.1 ((strB []), 0, 0, 0, 0) (y1.1.1.2.1, y4.1.1, IntKind.i64.wrap (y6.1.1 + 1), 2, 0)
def fc57 : FC := ⟨⟨[.one (.ptr 0 0)], [.boxr 73 (.cons (.sl (.cons (.int .i64) (.cons .str (.cons (.int .i64) (.int .i64))))) (.cons (.int .i64) .bool))]⟩, ⟨[.row (.cons .str (.cons (.int .i64) (.cons (.int .i64) (.cons (.int .i64) (.int .i64)))))], [.boxr 73 (.cons (.sl (.cons (.int .i64) (.cons .str (.cons (.int .i64) (.int .i64))))) (.cons (.int .i64) .bool))]⟩, fun x => trig_reader_cond x.2.1⟩
theorem con57 : Contract Tryd.prog 57 fc57 :=
  trig_reader_cond_D.contract tok (cok_of (l := [(36, fc36), (37, fc37), (45, fc45), (46, fc46), (56, fc56), (73, fc73)]) ⟨con36, con37, con45, con46, con56, con73, trivial⟩) mixed (fn' := Tryd.f57) (by kernel_rfl) (by kernel_rfl) rfl (by kernel_rfl) (fun x => (FD.fn_eq _ _).trans (by kernel_rfl))
end
end Go.Proofs.YtgpgpelaabdkhaaDoor
end

section
/-
YtgpgpelaabdkhaaDoor: (*signalbench.trig.reader).parts, as one plain function, its equations, its contract. No condition.
-/
set_option maxRecDepth 100000
set_option linter.unusedVariables false
set_option maxHeartbeats 4000000
open Go Go.AM
namespace Go.Proofs.YtgpgpelaabdkhaaDoor
noncomputable section
def trig_reader_parts_F2 : FSh := ⟨[(0, .one (.ptr 0 0)), (3, .one (.own 1))], [.boxr 73 (.cons (.sl (.cons (.int .i64) (.cons .str (.cons (.int .i64) (.int .i64))))) (.cons (.int .i64) .bool)), .arr 20 .any true]⟩
def trig_reader_parts_F4 : FSh := ⟨[(0, .one (.ptr 0 0)), (3, .one (.own 1))], [.boxr 73 (.cons (.sl (.cons (.int .i64) (.cons .str (.cons (.int .i64) (.int .i64))))) (.cons (.int .i64) .bool)), .arr 20 .any true]⟩
def trig_reader_parts_D : FD := ⟨T, lookC [(37, fc37), (56, fc56), (57, fc57)], [4, 2], (Tryd.f58.body.getD .skip), Tryd.f58.results.toList, ⟨[.one (.ptr 0 0)], [.boxr 73 (.cons (.sl (.cons (.int .i64) (.cons .str (.cons (.int .i64) (.int .i64))))) (.cons (.int .i64) .bool))]⟩, ⟨[.one (.sl .any)], [.boxr 73 (.cons (.sl (.cons (.int .i64) (.cons .str (.cons (.int .i64) (.int .i64))))) (.cons (.int .i64) .bool))]⟩, [(2, trig_reader_parts_F2), (4, trig_reader_parts_F4)]⟩
def trig_reader_parts_l2 (h0 : Treader) (l1 : (List Value)) : (Option (((List Value) × Unit) × (Treader × Unit))) := trig_reader_parts_D.lab 2 trig_reader_parts_F2 (((), (), ()), (h0, l1, ()))
def trig_reader_parts_l4 (h0 : Treader) (l1 : (List Value)) : (Option (((List Value) × Unit) × (Treader × Unit))) := trig_reader_parts_D.lab 4 trig_reader_parts_F4 (((), (), ()), (h0, l1, ()))
theorem trig_reader_parts_l2_eq (h0 : Treader) (l1 : (List Value)) : trig_reader_parts_l2 h0 l1 =
  (trig_reader_next 1 (strB [119, 105, 116, 104, 105, 110]) h0).bind fun y1 =>
    if y1.1.1 = true then
      (trig_reader_take 2 y1.2.1).bind fun y2 =>
        if (l1.length + 1) * 16 ≤ 140737488355328 ∧ 0 < 16 then
          trig_reader_parts_l4 y2.2.1 (l1 ++ [Value.iface 103 (Value.int .i64 y2.1.1.2.2.1)])
        else
          none
    else
      trig_reader_parts_l4 y1.2.1 l1 := (FD.lab_eq _ _ _ _).trans (by kernel_rfl)
theorem trig_reader_parts_l4_eq (h0 : Treader) (l1 : (List Value)) : trig_reader_parts_l4 h0 l1 =
  (trig_reader_next 1 (strB [117, 110, 108, 101, 115, 115]) h0).bind fun y1 =>
    if y1.1.1 = true then
      (trig_reader_cond y1.2.1).bind fun y2 =>
        if (l1.length + 1) * 16 ≤ 140737488355328 ∧ 0 < 16 then
          some ((l1 ++ [Value.iface 104 (Value.agg ⟨[Value.string y2.1.1.1, Value.int .i64 y2.1.1.2.1, Value.int .i64 y2.1.1.2.2.1, Value.int .i64 y2.1.1.2.2.2.1, Value.int .i64 y2.1.1.2.2.2.2]⟩)], ()), (y2.2.1, ()))
        else
          none
    else
      some ((l1, ()), (y1.2.1, ())) := (FD.lab_eq _ _ _ _).trans (by kernel_rfl)
def trig_reader_parts (h0 : Treader) : (Option (((List Value) × Unit) × (Treader × Unit))) :=
  (trig_reader_next 1 (strB [120]) h0).bind fun y1 =>
    if y1.1.1 = true then
      (trig_reader_take 2 y1.2.1).bind fun y2 =>
        trig_reader_parts_l2 y2.2.1 [Value.iface 102 (Value.int .i64 y2.1.1.2.2.1)]
    else
      trig_reader_parts_l2 y1.2.1 []
def fc58 : FC := ⟨⟨[.one (.ptr 0 0)], [.boxr 73 (.cons (.sl (.cons (.int .i64) (.cons .str (.cons (.int .i64) (.int .i64))))) (.cons (.int .i64) .bool))]⟩, ⟨[.one (.sl .any)], [.boxr 73 (.cons (.sl (.cons (.int .i64) (.cons .str (.cons (.int .i64) (.int .i64))))) (.cons (.int .i64) .bool))]⟩, fun x => trig_reader_parts x.2.1⟩
theorem con58 : Contract Tryd.prog 58 fc58 :=
  trig_reader_parts_D.contract tok (cok_of (l := [(37, fc37), (56, fc56), (57, fc57)]) ⟨con37, con56, con57, trivial⟩) mixed (fn' := Tryd.f58) (by kernel_rfl) (by kernel_rfl) rfl (by kernel_rfl) (fun x => (FD.fn_eq _ _).trans (by kernel_rfl))
end
end Go.Proofs.YtgpgpelaabdkhaaDoor
end

section
/-
YtgpgpelaabdkhaaDoor: (*signalbench.trig.reader).step, as one plain function, its equations, its contract. No condition.
-/
set_option maxRecDepth 100000
set_option linter.unusedVariables false
set_option maxHeartbeats 4000000
open Go Go.AM
namespace Go.Proofs.YtgpgpelaabdkhaaDoor
noncomputable section
def trig_reader_step_F4 : FSh := ⟨[(2, .one (.ptr 1 0)), (3, .one (.ptr 2 0)), (13, .one (.sl .any)), (14, .one (.int .i64)), (15, .one (.int .i64))], [.boxr 73 (.cons (.sl (.cons (.int .i64) (.cons .str (.cons (.int .i64) (.int .i64))))) (.cons (.int .i64) .bool)), .boxr 57 (.cons (.cons .str (.cons (.int .i64) (.cons (.int .i64) (.cons (.int .i64) (.int .i64))))) (.cons (.int .i64) (.cons (.int .i64) (.cons .bool (.cons .str (.cons (.int .i64) (.cons (.int .i64) (.cons (.int .i64) (.int .i64))))))))), .boxr 57 (.cons (.cons .str (.cons (.int .i64) (.cons (.int .i64) (.cons (.int .i64) (.int .i64))))) (.cons (.int .i64) (.cons (.int .i64) (.cons .bool (.cons .str (.cons (.int .i64) (.cons (.int .i64) (.cons (.int .i64) (.int .i64)))))))))]⟩
def trig_reader_step_D : FD := ⟨T, lookC [(57, fc57), (58, fc58)], [], (Tryd.f38.body.getD .skip), Tryd.f38.results.toList, ⟨[.one (.ptr 0 0)], [.boxr 73 (.cons (.sl (.cons (.int .i64) (.cons .str (.cons (.int .i64) (.int .i64))))) (.cons (.int .i64) .bool))]⟩, ⟨[.row (.cons (.cons .str (.cons (.int .i64) (.cons (.int .i64) (.cons (.int .i64) (.int .i64))))) (.cons (.int .i64) (.cons (.int .i64) (.cons .bool (.cons .str (.cons (.int .i64) (.cons (.int .i64) (.cons (.int .i64) (.int .i64)))))))))], [.boxr 73 (.cons (.sl (.cons (.int .i64) (.cons .str (.cons (.int .i64) (.int .i64))))) (.cons (.int .i64) .bool))]⟩, [(4, trig_reader_step_F4)]⟩
def trig_reader_step_l4 (t13 : (List Value)) (t14 : Int) (t15 : Int) (h0 : Treader) (h1 : TTrigStep) (h2 : TTrigStep) : (Option ((TTrigStep × Unit) × (Treader × Unit))) := trig_reader_step_D.lab 4 trig_reader_step_F4 (((), (), t13, t14, t15, ()), (h0, h1, h2, ()))
theorem trig_reader_step_l4_eq (t13 : (List Value)) (t14 : Int) (t15 : Int) (h0 : Treader) (h1 : TTrigStep) (h2 : TTrigStep) : trig_reader_step_l4 t13 t14 t15 h0 h1 h2 =
  if (decide (t15 < t14)) = true then
    if 0 ≤ t15 ∧ t15 < (t13.length : Int) then
      (asT 102 false (.int .i64) (t13.getD t15.toNat Value.nilIface)).bind fun o_ => orK o_ (fun y1 =>
        trig_reader_step_l4 t13 t14 (IntKind.i64.wrap (t15 + 1)) h0 h1 (h2.1, y1, h2.2.2))
      (
        (asT 103 false (.int .i64) (t13.getD t15.toNat Value.nilIface)).bind fun o_ => orK o_ (fun y2 =>
          trig_reader_step_l4 t13 t14 (IntKind.i64.wrap (t15 + 1)) h0 h1 (h2.1, h2.2.1, y2, h2.2.2.2))
        (
          (asT 104 true uCond (t13.getD t15.toNat Value.nilIface)).bind fun o_ => orK o_ (fun y3 =>
            trig_reader_step_l4 t13 t14 (IntKind.i64.wrap (t15 + 1)) h0 h1 (h2.1, h2.2.1, h2.2.2.1, true, y3))
          (
            trig_reader_step_l4 t13 t14 (IntKind.i64.wrap (t15 + 1)) h0 h1 h2)))
    else
      none
  else
    some ((h2, ()), (h0, ())) := (FD.lab_eq _ _ _ _).trans (by kernel_rfl)
def trig_reader_step (h0 : Treader) : (Option ((TTrigStep × Unit) × (Treader × Unit))) :=
  (trig_reader_cond h0).bind fun y1 =>
    (trig_reader_parts y1.2.1).bind fun y2 =>
      trig_reader_step_l4 y2.1.1 (y2.1.1.length : Int) 0 y2.2.1 (((strB []), 0, 0, 0, 0), 0, 0, false, (strB []), 0, 0, 0, 0) (y1.1.1, 1, 0, false, (strB []), 0, 0, 0, 0)
def fc38 : FC := ⟨⟨[.one (.ptr 0 0)], [.boxr 73 (.cons (.sl (.cons (.int .i64) (.cons .str (.cons (.int .i64) (.int .i64))))) (.cons (.int .i64) .bool))]⟩, ⟨[.row (.cons (.cons .str (.cons (.int .i64) (.cons (.int .i64) (.cons (.int .i64) (.int .i64))))) (.cons (.int .i64) (.cons (.int .i64) (.cons .bool (.cons .str (.cons (.int .i64) (.cons (.int .i64) (.cons (.int .i64) (.int .i64)))))))))], [.boxr 73 (.cons (.sl (.cons (.int .i64) (.cons .str (.cons (.int .i64) (.int .i64))))) (.cons (.int .i64) .bool))]⟩, fun x => trig_reader_step x.2.1⟩
theorem con38 : Contract Tryd.prog 38 fc38 :=
  trig_reader_step_D.contract tok (cok_of (l := [(57, fc57), (58, fc58)]) ⟨con57, con58, trivial⟩) mixed (fn' := Tryd.f38) (by kernel_rfl) (by kernel_rfl) rfl (by kernel_rfl) (fun x => (FD.fn_eq _ _).trans (by kernel_rfl))
end
end Go.Proofs.YtgpgpelaabdkhaaDoor
end

section
/-
YtgpgpelaabdkhaaDoor: signalbench.trig.Parse, as one plain function, its equations, its contract. No condition.
-/
set_option maxRecDepth 100000
set_option linter.unusedVariables false
set_option maxHeartbeats 4000000
open Go Go.AM
namespace Go.Proofs.YtgpgpelaabdkhaaDoor
noncomputable section
def trig_Parse_F11 : FSh := ⟨[(2, .one (.ptr 0 0)), (5, .one (.sl (.cons (.int .i64) (.cons .str (.cons (.int .i64) (.int .i64)))))), (8, .one (.ptr 1 0)), (9, .one (.ptr 2 0))], [.box 24 [.str, (.own 3)], .boxr 73 (.cons (.sl (.cons (.int .i64) (.cons .str (.cons (.int .i64) (.int .i64))))) (.cons (.int .i64) .bool)), .box 24 [.str, (.own 4)], .arr 57 (.cons (.cons .str (.cons (.int .i64) (.cons (.int .i64) (.cons (.int .i64) (.int .i64))))) (.cons (.int .i64) (.cons (.int .i64) (.cons .bool (.cons .str (.cons (.int .i64) (.cons (.int .i64) (.cons (.int .i64) (.int .i64))))))))) true, .arr 57 (.cons (.cons .str (.cons (.int .i64) (.cons (.int .i64) (.cons (.int .i64) (.int .i64))))) (.cons (.int .i64) (.cons (.int .i64) (.cons .bool (.cons .str (.cons (.int .i64) (.cons (.int .i64) (.cons (.int .i64) (.int .i64))))))))) true]⟩
def trig_Parse_D : FD := ⟨T, lookC [(21, fc21), (35, fc35), (36, fc36), (37, fc37), (38, fc38)], [], (Tryd.f17.body.getD .skip), Tryd.f17.results.toList, ⟨[.one .str], []⟩, ⟨[.row (.cons .str (.sl (.cons (.cons .str (.cons (.int .i64) (.cons (.int .i64) (.cons (.int .i64) (.int .i64))))) (.cons (.int .i64) (.cons (.int .i64) (.cons .bool (.cons .str (.cons (.int .i64) (.cons (.int .i64) (.cons (.int .i64) (.int .i64))))))))))), .one (.int .i64), .one (.int .i64)], []⟩, [(11, trig_Parse_F11)]⟩
def trig_Parse_l11 (l : (List TToken)) (h0_0 : ByteArray) (h1 : Treader) (h2_0 : ByteArray) (l3 : (List TTrigStep)) (l4 : (List TTrigStep)) : (Option ((TTrigger × Int × Int × Unit) × Unit)) := trig_Parse_D.lab 11 trig_Parse_F11 (((), l, (), (), ()), ((h0_0, (), ()), h1, (h2_0, (), ()), l3, l4, ()))
theorem trig_Parse_l11_eq (l : (List TToken)) (h0_0 : ByteArray) (h1 : Treader) (h2_0 : ByteArray) (l3 : (List TTrigStep)) (l4 : (List TTrigStep)) : trig_Parse_l11 l h0_0 h1 h2_0 l3 l4 =
  if (!h1.2.2) = true then
    if (decide (h1.2.1 < (l.length : Int))) = true then
      (trig_reader_want 4 (strB [59]) h1).bind fun y1 =>
        (trig_reader_step y1.2.1).bind fun y2 =>
          if (l4.length + 1) * 120 ≤ 140737488355328 ∧ 0 < 120 then
            trig_Parse_l11 l h0_0 y2.2.1 h2_0 l3 (l4 ++ [y2.1.1])
          else
            none
    else
      if h1.2.2 = true then
        if ((l.length : Int) == 0) = true then
          some ((((strB []), []), 1, 4, ()), ())
        else
          if (decide (h1.2.1 ≥ (l.length : Int))) = true then
            if 0 ≤ IntKind.i64.wrap ((l.length : Int) - 1) ∧ IntKind.i64.wrap ((l.length : Int) - 1) < (l.length : Int) then
              some ((((strB []), []), (l.getD (IntKind.i64.wrap ((l.length : Int) - 1)).toNat dToken).2.2.2, 4, ()), ())
            else
              none
          else
            if 0 ≤ h1.2.1 ∧ h1.2.1 < (l.length : Int) then
              some ((((strB []), []), (l.getD h1.2.1.toNat dToken).2.2.2, 4, ()), ())
            else
              none
      else
        (trig_wrong (h2_0, l4)).bind fun y3 =>
          if (y3.1.1 != 0) = true then
            some ((((strB []), []), 0, y3.1.1, ()), ())
          else
            some (((h2_0, l4), 0, 0, ()), ())
  else
    if h1.2.2 = true then
      if ((l.length : Int) == 0) = true then
        some ((((strB []), []), 1, 4, ()), ())
      else
        if (decide (h1.2.1 ≥ (l.length : Int))) = true then
          if 0 ≤ IntKind.i64.wrap ((l.length : Int) - 1) ∧ IntKind.i64.wrap ((l.length : Int) - 1) < (l.length : Int) then
            some ((((strB []), []), (l.getD (IntKind.i64.wrap ((l.length : Int) - 1)).toNat dToken).2.2.2, 4, ()), ())
          else
            none
        else
          if 0 ≤ h1.2.1 ∧ h1.2.1 < (l.length : Int) then
            some ((((strB []), []), (l.getD h1.2.1.toNat dToken).2.2.2, 4, ()), ())
          else
            none
    else
      (trig_wrong (h2_0, l4)).bind fun y4 =>
        if (y4.1.1 != 0) = true then
          some ((((strB []), []), 0, y4.1.1, ()), ())
        else
          some (((h2_0, l4), 0, 0, ()), ()) := (FD.lab_eq _ _ _ _).trans (by kernel_rfl)
def trig_Parse (s : ByteArray) : (Option ((TTrigger × Int × Int × Unit) × Unit)) :=
  (lex_Tokens s).bind fun y1 =>
    if (y1.1.2.2.1 != 0) = true then
      some ((((strB []), []), y1.1.2.1, y1.1.2.2.1, ()), ())
    else
      (trig_reader_want 1 (strB [116, 114, 105, 103, 103, 101, 114]) (y1.1.1, 0, false)).bind fun y2 =>
        (trig_reader_take 1 y2.2.1).bind fun y3 =>
          (trig_reader_want 4 (strB [58]) y3.2.1).bind fun y4 =>
            (trig_reader_step y4.2.1).bind fun y5 =>
              trig_Parse_l11 y1.1.1 (strB []) y5.2.1 y3.1.1.2.1 [] [y5.1.1]
def fc17 : FC := ⟨⟨[.one .str], []⟩, ⟨[.row (.cons .str (.sl (.cons (.cons .str (.cons (.int .i64) (.cons (.int .i64) (.cons (.int .i64) (.int .i64))))) (.cons (.int .i64) (.cons (.int .i64) (.cons .bool (.cons .str (.cons (.int .i64) (.cons (.int .i64) (.cons (.int .i64) (.int .i64))))))))))), .one (.int .i64), .one (.int .i64)], []⟩, fun x => trig_Parse x.1.1⟩
theorem con17 : Contract Tryd.prog 17 fc17 :=
  trig_Parse_D.contract tok (cok_of (l := [(21, fc21), (35, fc35), (36, fc36), (37, fc37), (38, fc38)]) ⟨con21, con35, con36, con37, con38, trivial⟩) mixed (fn' := Tryd.f17) (by kernel_rfl) (by kernel_rfl) rfl (by kernel_rfl) (fun x => (FD.fn_eq _ _).trans (by kernel_rfl))
end
end Go.Proofs.YtgpgpelaabdkhaaDoor
end

section
/-
YtgpgpelaabdkhaaDoor: signalbench.signalbenchref43.Same, as one plain function, its equations, its contract. No condition.
-/
set_option maxRecDepth 100000
set_option linter.unusedVariables false
set_option maxHeartbeats 4000000
open Go Go.AM
namespace Go.Proofs.YtgpgpelaabdkhaaDoor
noncomputable section
def ref43_Same_F6 : FSh := ⟨[(2, .one (.ptr 0 0)), (3, .one (.ptr 1 0)), (5, .one (.int .i64))], [.boxr 24 (.cons .str (.sl (.cons (.cons .str (.cons (.int .i64) (.cons (.int .i64) (.cons (.int .i64) (.int .i64))))) (.cons (.int .i64) (.cons (.int .i64) (.cons .bool (.cons .str (.cons (.int .i64) (.cons (.int .i64) (.cons (.int .i64) (.int .i64))))))))))), .boxr 24 (.cons .str (.sl (.cons (.cons .str (.cons (.int .i64) (.cons (.int .i64) (.cons (.int .i64) (.int .i64))))) (.cons (.int .i64) (.cons (.int .i64) (.cons .bool (.cons .str (.cons (.int .i64) (.cons (.int .i64) (.cons (.int .i64) (.int .i64)))))))))))]⟩
def ref43_Same_D : FD := ⟨T, lookC [], [], (Tryd.f18.body.getD .skip), Tryd.f18.results.toList, ⟨[.row (.cons .str (.sl (.cons (.cons .str (.cons (.int .i64) (.cons (.int .i64) (.cons (.int .i64) (.int .i64))))) (.cons (.int .i64) (.cons (.int .i64) (.cons .bool (.cons .str (.cons (.int .i64) (.cons (.int .i64) (.cons (.int .i64) (.int .i64))))))))))), .row (.cons .str (.sl (.cons (.cons .str (.cons (.int .i64) (.cons (.int .i64) (.cons (.int .i64) (.int .i64))))) (.cons (.int .i64) (.cons (.int .i64) (.cons .bool (.cons .str (.cons (.int .i64) (.cons (.int .i64) (.cons (.int .i64) (.int .i64)))))))))))], []⟩, ⟨[.one .bool], []⟩, [(6, ref43_Same_F6)]⟩
def ref43_Same_l6 (i : Int) (h0 : TTrigger) (h1 : TTrigger) : (Option ((Bool × Unit) × Unit)) := ref43_Same_D.lab 6 ref43_Same_F6 (((), (), i, ()), (h0, h1, ()))
theorem ref43_Same_l6_eq (i : Int) (h0 : TTrigger) (h1 : TTrigger) : ref43_Same_l6 i h0 h1 =
  if (decide (i < (h0.2.length : Int))) = true then
    if 0 ≤ i ∧ i < (h0.2.length : Int) then
      if 0 ≤ i ∧ i < (h1.2.length : Int) then
        if (!(eqU uTrigStep (h0.2.getD i.toNat dTrigStep) (h1.2.getD i.toNat dTrigStep))) = true then
          some ((false, ()), ())
        else
          ref43_Same_l6 (IntKind.i64.wrap (i + 1)) h0 h1
      else
        none
    else
      none
  else
    some ((true, ()), ()) := (FD.lab_eq _ _ _ _).trans (by kernel_rfl)
def ref43_Same (a : TTrigger) (b : TTrigger) : (Option ((Bool × Unit) × Unit)) :=
  if (!(a.1.toList == b.1.toList)) = true then
    some ((false, ()), ())
  else
    if ((a.2.length : Int) != (b.2.length : Int)) = true then
      some ((false, ()), ())
    else
      ref43_Same_l6 0 a b
def fc18 : FC := ⟨⟨[.row (.cons .str (.sl (.cons (.cons .str (.cons (.int .i64) (.cons (.int .i64) (.cons (.int .i64) (.int .i64))))) (.cons (.int .i64) (.cons (.int .i64) (.cons .bool (.cons .str (.cons (.int .i64) (.cons (.int .i64) (.cons (.int .i64) (.int .i64))))))))))), .row (.cons .str (.sl (.cons (.cons .str (.cons (.int .i64) (.cons (.int .i64) (.cons (.int .i64) (.int .i64))))) (.cons (.int .i64) (.cons (.int .i64) (.cons .bool (.cons .str (.cons (.int .i64) (.cons (.int .i64) (.cons (.int .i64) (.int .i64)))))))))))], []⟩, ⟨[.one .bool], []⟩, fun x => ref43_Same x.1.1 x.1.2.1⟩
theorem con18 : Contract Tryd.prog 18 fc18 :=
  ref43_Same_D.contract tok (cok_of (l := []) trivial) mixed (fn' := Tryd.f18) (by kernel_rfl) (by kernel_rfl) rfl (by kernel_rfl) (fun x => (FD.fn_eq _ _).trans (by kernel_rfl))
end
end Go.Proofs.YtgpgpelaabdkhaaDoor
end

section
/-
YtgpgpelaabdkhaaDoor: signalbench.signalbenchlaw43.awake, as one plain function, its equations, its contract. No condition.
-/
set_option maxRecDepth 100000
set_option linter.unusedVariables false
set_option maxHeartbeats 4000000
open Go Go.AM
namespace Go.Proofs.YtgpgpelaabdkhaaDoor
noncomputable section
def law43_awake_D : FD := ⟨T, lookC [(11, fc11), (14, fc14), (16, fc16), (17, fc17), (18, fc18)], [], (Tryd.f10.body.getD .skip), Tryd.f10.results.toList, ⟨[], []⟩, ⟨[.one .bool], []⟩, []⟩
def law43_awake : (Option ((Bool × Unit) × Unit)) :=
  (trig_Print ((strB [116]), [(((strB [117]), 3, 1, 1, 85), 2, 100, false, (strB []), 0, 0, 0, 0)])).bind fun y1 =>
    (trig_Parse y1.1.1).bind fun y2 =>
      (trig_Parse (strB [116, 114, 105, 103, 103, 101, 114, 32, 116, 58, 32, 117, 46, 98, 121, 116, 101, 32, 118, 97, 108, 117, 101])).bind fun y3 =>
        if (y1.1.2.1 != 0) = true then
          some ((false, ()), ())
        else
          if (y2.1.2.2.1 != 0) = true then
            some ((false, ()), ())
          else
            if (y3.1.2.2.1 != 4) = true then
              some ((false, ()), ())
            else
              if (y2.1.2.1 != 0) = true then
                some ((false, ()), ())
              else
                if (y3.1.2.1 != 1) = true then
                  some ((false, ()), ())
                else
                  (trig_Check ((strB [116]), [(((strB [117]), 3, 1, 1, 85), 2, 100, false, (strB []), 0, 0, 0, 0)]) ([], [((strB [117]), (strB [117, 97, 114, 116]), [], [])])).bind fun y4 =>
                    if (y4.1.1 != 0) = true then
                      some ((false, ()), ())
                    else
                      (trig_Check ((strB [116]), [(((strB [117]), 3, 1, 1, 85), 2, 100, false, (strB []), 0, 0, 0, 0)]) ([], [])).bind fun y5 =>
                        if (y5.1.1 != 8) = true then
                          some ((false, ()), ())
                        else
                          if (y1.1.1.toList == (strB [116, 114, 105, 103, 103, 101, 114, 32, 116, 32, 58, 32, 117, 32, 46, 32, 98, 121, 116, 101, 32, 118, 97, 108, 117, 101, 32, 61, 32, 56, 53, 32, 120, 32, 50, 32, 119, 105, 116, 104, 105, 110, 32, 49, 48, 48]).toList) = true then
                            (ref43_Same y2.1.1 ((strB [116]), [(((strB [117]), 3, 1, 1, 85), 2, 100, false, (strB []), 0, 0, 0, 0)])).bind fun y6 =>
                              if y6.1.1 = true then
                                (trig_Holds ((strB [117]), 3, 1, 1, 85) ([], [((strB [117]), (strB [117, 97, 114, 116]), [], [])]) (0, 9, 3, 0, 9, 85, 0, (strB []), 0)).bind fun y7 =>
                                  if y7.1.1 = true then
                                    (trig_Holds ((strB [117]), 3, 1, 1, 85) ([], [((strB [117]), (strB [117, 97, 114, 116]), [], [])]) (1, 9, 3, 0, 9, 85, 0, (strB []), 0)).bind fun y8 =>
                                      some ((!y8.1.1, ()), ())
                                  else
                                    some ((false, ()), ())
                              else
                                some ((false, ()), ())
                          else
                            some ((false, ()), ())
def fc10 : FC := ⟨⟨[], []⟩, ⟨[.one .bool], []⟩, fun x => law43_awake⟩
theorem con10 : Contract Tryd.prog 10 fc10 :=
  law43_awake_D.contract tok (cok_of (l := [(11, fc11), (14, fc14), (16, fc16), (17, fc17), (18, fc18)]) ⟨con11, con14, con16, con17, con18, trivial⟩) mixed (fn' := Tryd.f10) (by kernel_rfl) (by kernel_rfl) rfl (by kernel_rfl) (fun x => (FD.fn_eq _ _).trans (by kernel_rfl))
end
end Go.Proofs.YtgpgpelaabdkhaaDoor
end

section
/-
YtgpgpelaabdkhaaDoor: signalbench.signalbenchref05.letter, as one plain function, its equations, its contract. No condition.
-/
set_option maxRecDepth 100000
set_option linter.unusedVariables false
set_option maxHeartbeats 4000000
open Go Go.AM
namespace Go.Proofs.YtgpgpelaabdkhaaDoor
noncomputable section
def ref05_letter_D : FD := ⟨T, lookC [], [], (Tryd.f59.body.getD .skip), Tryd.f59.results.toList, ⟨[.one (.int .u8)], []⟩, ⟨[.one .bool], []⟩, []⟩
def ref05_letter (c : Int) : (Option ((Bool × Unit) × Unit)) :=
  if (decide (c ≥ 97)) = true then
    some ((decide (c ≤ 122), ()), ())
  else
    some ((false, ()), ())
def fc59 : FC := ⟨⟨[.one (.int .u8)], []⟩, ⟨[.one .bool], []⟩, fun x => ref05_letter x.1.1⟩
theorem con59 : Contract Tryd.prog 59 fc59 :=
  ref05_letter_D.contract tok (cok_of (l := []) trivial) mixed (fn' := Tryd.f59) (by kernel_rfl) (by kernel_rfl) rfl (by kernel_rfl) (fun x => (FD.fn_eq _ _).trans (by kernel_rfl))
end
end Go.Proofs.YtgpgpelaabdkhaaDoor
end

section
/-
YtgpgpelaabdkhaaDoor: signalbench.signalbenchref05.digit, as one plain function, its equations, its contract. No condition.
-/
set_option maxRecDepth 100000
set_option linter.unusedVariables false
set_option maxHeartbeats 4000000
open Go Go.AM
namespace Go.Proofs.YtgpgpelaabdkhaaDoor
noncomputable section
def ref05_digit_D : FD := ⟨T, lookC [], [], (Tryd.f74.body.getD .skip), Tryd.f74.results.toList, ⟨[.one (.int .u8)], []⟩, ⟨[.one .bool], []⟩, []⟩
def ref05_digit (c : Int) : (Option ((Bool × Unit) × Unit)) :=
  if (decide (c ≥ 48)) = true then
    some ((decide (c ≤ 57), ()), ())
  else
    some ((false, ()), ())
def fc74 : FC := ⟨⟨[.one (.int .u8)], []⟩, ⟨[.one .bool], []⟩, fun x => ref05_digit x.1.1⟩
theorem con74 : Contract Tryd.prog 74 fc74 :=
  ref05_digit_D.contract tok (cok_of (l := []) trivial) mixed (fn' := Tryd.f74) (by kernel_rfl) (by kernel_rfl) rfl (by kernel_rfl) (fun x => (FD.fn_eq _ _).trans (by kernel_rfl))
end
end Go.Proofs.YtgpgpelaabdkhaaDoor
end

section
/-
YtgpgpelaabdkhaaDoor: signalbench.signalbenchref05.inner, as one plain function, its equations, its contract. No condition.
-/
set_option maxRecDepth 100000
set_option linter.unusedVariables false
set_option maxHeartbeats 4000000
open Go Go.AM
namespace Go.Proofs.YtgpgpelaabdkhaaDoor
noncomputable section
def ref05_inner_D : FD := ⟨T, lookC [(59, fc59), (74, fc74)], [], (Tryd.f60.body.getD .skip), Tryd.f60.results.toList, ⟨[.one (.int .u8)], []⟩, ⟨[.one .bool], []⟩, []⟩
def ref05_inner (c : Int) : (Option ((Bool × Unit) × Unit)) :=
  (ref05_letter c).bind fun y1 =>
    if y1.1.1 = true then
      some ((true, ()), ())
    else
      (ref05_digit c).bind fun y2 =>
        if y2.1.1 = true then
          some ((true, ()), ())
        else
          some ((c == 95, ()), ())
def fc60 : FC := ⟨⟨[.one (.int .u8)], []⟩, ⟨[.one .bool], []⟩, fun x => ref05_inner x.1.1⟩
theorem con60 : Contract Tryd.prog 60 fc60 :=
  ref05_inner_D.contract tok (cok_of (l := [(59, fc59), (74, fc74)]) ⟨con59, con74, trivial⟩) mixed (fn' := Tryd.f60) (by kernel_rfl) (by kernel_rfl) rfl (by kernel_rfl) (fun x => (FD.fn_eq _ _).trans (by kernel_rfl))
end
end Go.Proofs.YtgpgpelaabdkhaaDoor
end

section
/-
YtgpgpelaabdkhaaDoor: signalbench.signalbenchref05.Name, as one plain function, its equations, its contract. No condition.
-/
set_option maxRecDepth 100000
set_option linter.unusedVariables false
set_option maxHeartbeats 4000000
open Go Go.AM
namespace Go.Proofs.YtgpgpelaabdkhaaDoor
noncomputable section
def ref05_Name_F6 : FSh := ⟨[(0, .one .str), (3, .one (.int .i64))], []⟩
def ref05_Name_D : FD := ⟨T, lookC [(59, fc59), (60, fc60)], [], (Tryd.f39.body.getD .skip), Tryd.f39.results.toList, ⟨[.one .str], []⟩, ⟨[.one .bool], []⟩, [(6, ref05_Name_F6)]⟩
def ref05_Name_l6 (s : ByteArray) (i : Int) : (Option ((Bool × Unit) × Unit)) := ref05_Name_D.lab 6 ref05_Name_F6 ((s, i, ()), ())
theorem ref05_Name_l6_eq (s : ByteArray) (i : Int) : ref05_Name_l6 s i =
  if (decide (i < (s.size : Int))) = true then
    if 0 ≤ i ∧ i < (s.size : Int) then
      (ref05_inner (bt s i)).bind fun y1 =>
        if (!y1.1.1) = true then
          some ((false, ()), ())
        else
          ref05_Name_l6 s (IntKind.i64.wrap (i + 1))
    else
      none
  else
    some ((true, ()), ()) := (FD.lab_eq _ _ _ _).trans (by kernel_rfl)
def ref05_Name (s : ByteArray) : (Option ((Bool × Unit) × Unit)) :=
  if (decide ((s.size : Int) < 1)) = true then
    some ((false, ()), ())
  else
    if (decide ((s.size : Int) > 16)) = true then
      some ((false, ()), ())
    else
      if 0 ≤ (0 : Int) ∧ 0 < (s.size : Int) then
        (ref05_letter (bt s 0)).bind fun y1 =>
          if (!y1.1.1) = true then
            some ((false, ()), ())
          else
            ref05_Name_l6 s 0
      else
        none
def fc39 : FC := ⟨⟨[.one .str], []⟩, ⟨[.one .bool], []⟩, fun x => ref05_Name x.1.1⟩
theorem con39 : Contract Tryd.prog 39 fc39 :=
  ref05_Name_D.contract tok (cok_of (l := [(59, fc59), (60, fc60)]) ⟨con59, con60, trivial⟩) mixed (fn' := Tryd.f39) (by kernel_rfl) (by kernel_rfl) rfl (by kernel_rfl) (fun x => (FD.fn_eq _ _).trans (by kernel_rfl))
end
end Go.Proofs.YtgpgpelaabdkhaaDoor
end

section
/-
YtgpgpelaabdkhaaDoor: signalbench.signalbenchref43.WrongCond, as one plain function, its equations, its contract. No condition.
-/
set_option maxRecDepth 100000
set_option linter.unusedVariables false
set_option maxHeartbeats 4000000
open Go Go.AM
namespace Go.Proofs.YtgpgpelaabdkhaaDoor
noncomputable section
def ref43_WrongCond_F4 : FSh := ⟨[(1, .one (.ptr 0 0))], [.boxr 36 (.cons .str (.cons (.int .i64) (.cons (.int .i64) (.cons (.int .i64) (.int .i64)))))]⟩
def ref43_WrongCond_F6 : FSh := ⟨[(2, .one (.int .i64))], []⟩
def ref43_WrongCond_F8 : FSh := ⟨[(1, .one (.ptr 0 0)), (52, .one .bool)], [.boxr 36 (.cons .str (.cons (.int .i64) (.cons (.int .i64) (.cons (.int .i64) (.int .i64)))))]⟩
def ref43_WrongCond_F10 : FSh := ⟨[], []⟩
def ref43_WrongCond_D : FD := ⟨T, lookC [(39, fc39)], [4, 6, 8, 10], (Tryd.f20.body.getD .skip), Tryd.f20.results.toList, ⟨[.row (.cons .str (.cons (.int .i64) (.cons (.int .i64) (.cons (.int .i64) (.int .i64)))))], []⟩, ⟨[.one (.int .i64)], []⟩, [(4, ref43_WrongCond_F4), (6, ref43_WrongCond_F6), (8, ref43_WrongCond_F8), (10, ref43_WrongCond_F10)]⟩
def ref43_WrongCond_l4 (h0 : TCond) : (Option ((Int × Unit) × Unit)) := ref43_WrongCond_D.lab 4 ref43_WrongCond_F4 (((), ()), (h0, ()))
def ref43_WrongCond_l6 (t2 : Int) : (Option ((Int × Unit) × Unit)) := ref43_WrongCond_D.lab 6 ref43_WrongCond_F6 ((t2, ()), ())
def ref43_WrongCond_l8 (t52 : Bool) (h0 : TCond) : (Option ((Int × Unit) × Unit)) := ref43_WrongCond_D.lab 8 ref43_WrongCond_F8 (((), t52, ()), (h0, ()))
def ref43_WrongCond_l10 : (Option ((Int × Unit) × Unit)) := ref43_WrongCond_D.lab 10 ref43_WrongCond_F10 ((), ())
theorem ref43_WrongCond_l4_eq (h0 : TCond) : ref43_WrongCond_l4 h0 =
  if (h0.2.2.2.1 == 0) = true then
    if (h0.2.2.1 != 0) = true then
      ref43_WrongCond_l8 true h0
    else
      if (h0.2.2.2.2 != 0) = true then
        ref43_WrongCond_l8 true h0
      else
        if (h0.2.2.2.1 != 0) = true then
          if (decide (h0.2.2.1 < 1)) = true then
            ref43_WrongCond_l8 true h0
          else
            ref43_WrongCond_l8 (decide (h0.2.2.1 > 6)) h0
        else
          ref43_WrongCond_l8 false h0
  else
    if (h0.2.2.2.1 != 0) = true then
      if (decide (h0.2.2.1 < 1)) = true then
        ref43_WrongCond_l8 true h0
      else
        ref43_WrongCond_l8 (decide (h0.2.2.1 > 6)) h0
    else
      ref43_WrongCond_l8 false h0 := (FD.lab_eq _ _ _ _).trans (by kernel_rfl)
theorem ref43_WrongCond_l6_eq (t2 : Int) : ref43_WrongCond_l6 t2 =
  some ((t2, ()), ()) := (FD.lab_eq _ _ _ _).trans (by kernel_rfl)
theorem ref43_WrongCond_l8_eq (t52 : Bool) (h0 : TCond) : ref43_WrongCond_l8 t52 h0 =
  if t52 = true then
    some ((1, ()), ())
  else
    if (decide (h0.2.2.2.2 < (-9007199254740992))) = true then
      some ((2, ()), ())
    else
      if (decide (h0.2.2.2.2 > 9007199254740992)) = true then
        some ((2, ()), ())
      else
        ref43_WrongCond_l10 := by obtain ⟨n, k, f, o, v⟩ := h0; cases v <;> exact (FD.lab_eq _ _ _ _).trans (by kernel_rfl)
theorem ref43_WrongCond_l10_eq : ref43_WrongCond_l10 =
  some ((0, ()), ()) := (FD.lab_eq _ _ _ _).trans (by kernel_rfl)
def ref43_WrongCond (c : TCond) : (Option ((Int × Unit) × Unit)) :=
  (ref05_Name c.1).bind fun y1 =>
    if (!y1.1.1) = true then
      some ((4, ()), ())
    else
      if (decide (c.2.1 < 0)) = true then
        ref43_WrongCond_l6 1
      else
        if (decide (c.2.1 > 8)) = true then
          ref43_WrongCond_l6 1
        else
          if (decide (c.2.2.2.1 < 0)) = true then
            ref43_WrongCond_l6 1
          else
            if (decide (c.2.2.2.1 > 5)) = true then
              ref43_WrongCond_l6 1
            else
              ref43_WrongCond_l4 c
def fc20 : FC := ⟨⟨[.row (.cons .str (.cons (.int .i64) (.cons (.int .i64) (.cons (.int .i64) (.int .i64)))))], []⟩, ⟨[.one (.int .i64)], []⟩, fun x => ref43_WrongCond x.1.1⟩
theorem con20 : Contract Tryd.prog 20 fc20 :=
  ref43_WrongCond_D.contract tok (cok_of (l := [(39, fc39)]) ⟨con39, trivial⟩) mixed (fn' := Tryd.f20) (by kernel_rfl) (by kernel_rfl) rfl (by kernel_rfl) (fun x => (FD.fn_eq _ _).trans (by kernel_rfl))
end
end Go.Proofs.YtgpgpelaabdkhaaDoor
end

section
/-
YtgpgpelaabdkhaaDoor: signalbench.signalbenchref43.wrongStep, as one plain function, its equations, its contract. No condition.
-/
set_option maxRecDepth 100000
set_option linter.unusedVariables false
set_option maxHeartbeats 4000000
open Go Go.AM
namespace Go.Proofs.YtgpgpelaabdkhaaDoor
noncomputable section
def ref43_wrongStep_D : FD := ⟨T, lookC [(20, fc20)], [], (Tryd.f44.body.getD .skip), Tryd.f44.results.toList, ⟨[.row (.cons (.cons .str (.cons (.int .i64) (.cons (.int .i64) (.cons (.int .i64) (.int .i64))))) (.cons (.int .i64) (.cons (.int .i64) (.cons .bool (.cons .str (.cons (.int .i64) (.cons (.int .i64) (.cons (.int .i64) (.int .i64)))))))))], []⟩, ⟨[.one (.int .i64)], []⟩, []⟩
def ref43_wrongStep (s : TTrigStep) : (Option ((Int × Unit) × Unit)) :=
  if (decide (s.2.1 < 1)) = true then
    some ((1, ()), ())
  else
    if (decide (s.2.2.1 < 0)) = true then
      some ((1, ()), ())
    else
      if (decide (s.2.2.1 > 1099511627776)) = true then
        some ((1, ()), ())
      else
        (ref43_WrongCond s.1).bind fun y1 =>
          if (y1.1.1 != 0) = true then
            some ((y1.1.1, ()), ())
          else
            if s.2.2.2.1 = true then
              (ref43_WrongCond s.2.2.2.2).bind fun y2 =>
                some ((y2.1.1, ()), ())
            else
              if (!(eqU uCond s.2.2.2.2 ((strB []), 0, 0, 0, 0))) = true then
                some ((1, ()), ())
              else
                some ((0, ()), ())
def fc44 : FC := ⟨⟨[.row (.cons (.cons .str (.cons (.int .i64) (.cons (.int .i64) (.cons (.int .i64) (.int .i64))))) (.cons (.int .i64) (.cons (.int .i64) (.cons .bool (.cons .str (.cons (.int .i64) (.cons (.int .i64) (.cons (.int .i64) (.int .i64)))))))))], []⟩, ⟨[.one (.int .i64)], []⟩, fun x => ref43_wrongStep x.1.1⟩
theorem con44 : Contract Tryd.prog 44 fc44 :=
  ref43_wrongStep_D.contract tok (cok_of (l := [(20, fc20)]) ⟨con20, trivial⟩) mixed (fn' := Tryd.f44) (by kernel_rfl) (by kernel_rfl) rfl (by kernel_rfl) (fun x => (FD.fn_eq _ _).trans (by kernel_rfl))
end
end Go.Proofs.YtgpgpelaabdkhaaDoor
end

section
/-
YtgpgpelaabdkhaaDoor: signalbench.signalbenchref43.wrong, as one plain function, its equations, its contract. No condition.
-/
set_option maxRecDepth 100000
set_option linter.unusedVariables false
set_option maxHeartbeats 4000000
open Go Go.AM
namespace Go.Proofs.YtgpgpelaabdkhaaDoor
noncomputable section
def ref43_wrong_F12 : FSh := ⟨[(1, .one (.ptr 0 0)), (3, .one (.int .i64))], [.boxr 24 (.cons .str (.sl (.cons (.cons .str (.cons (.int .i64) (.cons (.int .i64) (.cons (.int .i64) (.int .i64))))) (.cons (.int .i64) (.cons (.int .i64) (.cons .bool (.cons .str (.cons (.int .i64) (.cons (.int .i64) (.cons (.int .i64) (.int .i64)))))))))))]⟩
def ref43_wrong_F22 : FSh := ⟨[(1, .one (.ptr 0 0)), (5, .one (.int .i64)), (6, .one (.int .i64))], [.boxr 24 (.cons .str (.sl (.cons (.cons .str (.cons (.int .i64) (.cons (.int .i64) (.cons (.int .i64) (.int .i64))))) (.cons (.int .i64) (.cons (.int .i64) (.cons .bool (.cons .str (.cons (.int .i64) (.cons (.int .i64) (.cons (.int .i64) (.int .i64)))))))))))]⟩
def ref43_wrong_D : FD := ⟨T, lookC [(39, fc39), (44, fc44)], [], (Tryd.f23.body.getD .skip), Tryd.f23.results.toList, ⟨[.row (.cons .str (.sl (.cons (.cons .str (.cons (.int .i64) (.cons (.int .i64) (.cons (.int .i64) (.int .i64))))) (.cons (.int .i64) (.cons (.int .i64) (.cons .bool (.cons .str (.cons (.int .i64) (.cons (.int .i64) (.cons (.int .i64) (.int .i64)))))))))))], []⟩, ⟨[.one (.int .i64)], []⟩, [(12, ref43_wrong_F12), (22, ref43_wrong_F22)]⟩
def ref43_wrong_l12 (i : Int) (h0 : TTrigger) : (Option ((Int × Unit) × Unit)) := ref43_wrong_D.lab 12 ref43_wrong_F12 (((), i, ()), (h0, ()))
def ref43_wrong_l22 (n : Int) (i : Int) (h0 : TTrigger) : (Option ((Int × Unit) × Unit)) := ref43_wrong_D.lab 22 ref43_wrong_F22 (((), n, i, ()), (h0, ()))
theorem ref43_wrong_l12_eq (i : Int) (h0 : TTrigger) : ref43_wrong_l12 i h0 =
  if (decide (i < (h0.2.length : Int))) = true then
    if 0 ≤ i ∧ i < (h0.2.length : Int) then
      (ref43_wrongStep (h0.2.getD i.toNat dTrigStep)).bind fun y1 =>
        if (y1.1.1 != 0) = true then
          some ((y1.1.1, ()), ())
        else
          ref43_wrong_l12 (IntKind.i64.wrap (i + 1)) h0
    else
      none
  else
    ref43_wrong_l22 0 0 h0 := (FD.lab_eq _ _ _ _).trans (by kernel_rfl)
theorem ref43_wrong_l22_eq (n : Int) (i : Int) (h0 : TTrigger) : ref43_wrong_l22 n i h0 =
  if (decide (i < (h0.2.length : Int))) = true then
    if 0 ≤ i ∧ i < (h0.2.length : Int) then
      if (decide ((h0.2.getD i.toNat dTrigStep).2.1 > 32)) = true then
        some ((6, ()), ())
      else
        if 0 ≤ i ∧ i < (h0.2.length : Int) then
          ref43_wrong_l22 (IntKind.i64.wrap (n + (h0.2.getD i.toNat dTrigStep).2.1)) (IntKind.i64.wrap (i + 1)) h0
        else
          none
    else
      none
  else
    if (decide (n > 32)) = true then
      some ((6, ()), ())
    else
      some ((0, ()), ()) := (FD.lab_eq _ _ _ _).trans (by kernel_rfl)
def ref43_wrong (t : TTrigger) : (Option ((Int × Unit) × Unit)) :=
  (ref05_Name t.1).bind fun y1 =>
    if (!y1.1.1) = true then
      some ((4, ()), ())
    else
      if ((t.2.length : Int) == 0) = true then
        some ((1, ()), ())
      else
        if (decide ((t.2.length : Int) > 32)) = true then
          some ((6, ()), ())
        else
          ref43_wrong_l12 0 t
def fc23 : FC := ⟨⟨[.row (.cons .str (.sl (.cons (.cons .str (.cons (.int .i64) (.cons (.int .i64) (.cons (.int .i64) (.int .i64))))) (.cons (.int .i64) (.cons (.int .i64) (.cons .bool (.cons .str (.cons (.int .i64) (.cons (.int .i64) (.cons (.int .i64) (.int .i64)))))))))))], []⟩, ⟨[.one (.int .i64)], []⟩, fun x => ref43_wrong x.1.1⟩
theorem con23 : Contract Tryd.prog 23 fc23 :=
  ref43_wrong_D.contract tok (cok_of (l := [(39, fc39), (44, fc44)]) ⟨con39, con44, trivial⟩) mixed (fn' := Tryd.f23) (by kernel_rfl) (by kernel_rfl) rfl (by kernel_rfl) (fun x => (FD.fn_eq _ _).trans (by kernel_rfl))
end
end Go.Proofs.YtgpgpelaabdkhaaDoor
end

section
/-
YtgpgpelaabdkhaaDoor: signalbench.signalbenchref43.find, as one plain function, its equations, its contract. No condition.
-/
set_option maxRecDepth 100000
set_option linter.unusedVariables false
set_option maxHeartbeats 4000000
open Go Go.AM
namespace Go.Proofs.YtgpgpelaabdkhaaDoor
noncomputable section
def ref43_find_F3 : FSh := ⟨[(1, .one .str), (2, .one (.ptr 0 0)), (5, .one (.int .i64))], [.boxr 28 (.cons (.sl (.cons .str (.cons (.int .i64) (.cons (.int .i64) (.sl (.cons .str (.cons (.sl (.cons (.int .i64) (.cons (.int .i64) (.cons .str (.cons .bool (.sl (.cons (.int .i64) (.int .i64)))))))) (.cons .bool (.cons (.int .i64) (.cons (.int .i64) (.cons .str (.cons .bool (.sl (.cons (.int .i64) (.int .i64))))))))))))))) (.sl (.cons .str (.cons .str (.cons (.sl .str) (.sl (.cons .str (.int .i64))))))))]⟩
def ref43_find_D : FD := ⟨T, lookC [], [], (Tryd.f24.body.getD .skip), Tryd.f24.results.toList, ⟨[.row (.cons (.sl (.cons .str (.cons (.int .i64) (.cons (.int .i64) (.sl (.cons .str (.cons (.sl (.cons (.int .i64) (.cons (.int .i64) (.cons .str (.cons .bool (.sl (.cons (.int .i64) (.int .i64)))))))) (.cons .bool (.cons (.int .i64) (.cons (.int .i64) (.cons .str (.cons .bool (.sl (.cons (.int .i64) (.int .i64))))))))))))))) (.sl (.cons .str (.cons .str (.cons (.sl .str) (.sl (.cons .str (.int .i64)))))))), .one .str], []⟩, ⟨[.one (.int .i64)], []⟩, [(3, ref43_find_F3)]⟩
def ref43_find_l3 (name : ByteArray) (i : Int) (h0 : TStack) : (Option ((Int × Unit) × Unit)) := ref43_find_D.lab 3 ref43_find_F3 ((name, (), i, ()), (h0, ()))
theorem ref43_find_l3_eq (name : ByteArray) (i : Int) (h0 : TStack) : ref43_find_l3 name i h0 =
  if (decide (i < (h0.2.length : Int))) = true then
    if 0 ≤ i ∧ i < (h0.2.length : Int) then
      if ((h0.2.getD i.toNat dNode).1.toList == name.toList) = true then
        some ((i, ()), ())
      else
        ref43_find_l3 name (IntKind.i64.wrap (i + 1)) h0
    else
      none
  else
    some (((-1), ()), ()) := (FD.lab_eq _ _ _ _).trans (by kernel_rfl)
def ref43_find (st : TStack) (name : ByteArray) : (Option ((Int × Unit) × Unit)) :=
  ref43_find_l3 name 0 st
def fc24 : FC := ⟨⟨[.row (.cons (.sl (.cons .str (.cons (.int .i64) (.cons (.int .i64) (.sl (.cons .str (.cons (.sl (.cons (.int .i64) (.cons (.int .i64) (.cons .str (.cons .bool (.sl (.cons (.int .i64) (.int .i64)))))))) (.cons .bool (.cons (.int .i64) (.cons (.int .i64) (.cons .str (.cons .bool (.sl (.cons (.int .i64) (.int .i64))))))))))))))) (.sl (.cons .str (.cons .str (.cons (.sl .str) (.sl (.cons .str (.int .i64)))))))), .one .str], []⟩, ⟨[.one (.int .i64)], []⟩, fun x => ref43_find x.1.1 x.1.2.1⟩
theorem con24 : Contract Tryd.prog 24 fc24 :=
  ref43_find_D.contract tok (cok_of (l := []) trivial) mixed (fn' := Tryd.f24) (by kernel_rfl) (by kernel_rfl) rfl (by kernel_rfl) (fun x => (FD.fn_eq _ _).trans (by kernel_rfl))
end
end Go.Proofs.YtgpgpelaabdkhaaDoor
end

section
/-
YtgpgpelaabdkhaaDoor: signalbench.signalbenchref43.Check, as one plain function, its equations, its contract. No condition.
-/
set_option maxRecDepth 100000
set_option linter.unusedVariables false
set_option maxHeartbeats 4000000
open Go Go.AM
namespace Go.Proofs.YtgpgpelaabdkhaaDoor
noncomputable section
def ref43_Check_F7 : FSh := ⟨[(2, .one (.ptr 0 0)), (3, .one (.ptr 1 0)), (6, .one (.int .i64))], [.boxr 24 (.cons .str (.sl (.cons (.cons .str (.cons (.int .i64) (.cons (.int .i64) (.cons (.int .i64) (.int .i64))))) (.cons (.int .i64) (.cons (.int .i64) (.cons .bool (.cons .str (.cons (.int .i64) (.cons (.int .i64) (.cons (.int .i64) (.int .i64))))))))))), .boxr 28 (.cons (.sl (.cons .str (.cons (.int .i64) (.cons (.int .i64) (.sl (.cons .str (.cons (.sl (.cons (.int .i64) (.cons (.int .i64) (.cons .str (.cons .bool (.sl (.cons (.int .i64) (.int .i64)))))))) (.cons .bool (.cons (.int .i64) (.cons (.int .i64) (.cons .str (.cons .bool (.sl (.cons (.int .i64) (.int .i64))))))))))))))) (.sl (.cons .str (.cons .str (.cons (.sl .str) (.sl (.cons .str (.int .i64))))))))]⟩
def ref43_Check_D : FD := ⟨T, lookC [(23, fc23), (24, fc24)], [], (Tryd.f12.body.getD .skip), Tryd.f12.results.toList, ⟨[.row (.cons .str (.sl (.cons (.cons .str (.cons (.int .i64) (.cons (.int .i64) (.cons (.int .i64) (.int .i64))))) (.cons (.int .i64) (.cons (.int .i64) (.cons .bool (.cons .str (.cons (.int .i64) (.cons (.int .i64) (.cons (.int .i64) (.int .i64))))))))))), .row (.cons (.sl (.cons .str (.cons (.int .i64) (.cons (.int .i64) (.sl (.cons .str (.cons (.sl (.cons (.int .i64) (.cons (.int .i64) (.cons .str (.cons .bool (.sl (.cons (.int .i64) (.int .i64)))))))) (.cons .bool (.cons (.int .i64) (.cons (.int .i64) (.cons .str (.cons .bool (.sl (.cons (.int .i64) (.int .i64))))))))))))))) (.sl (.cons .str (.cons .str (.cons (.sl .str) (.sl (.cons .str (.int .i64))))))))], []⟩, ⟨[.one (.int .i64)], []⟩, [(7, ref43_Check_F7)]⟩
def ref43_Check_l7 (i : Int) (h0 : TTrigger) (h1 : TStack) : (Option ((Int × Unit) × Unit)) := ref43_Check_D.lab 7 ref43_Check_F7 (((), (), i, ()), (h0, h1, ()))
theorem ref43_Check_l7_eq (i : Int) (h0 : TTrigger) (h1 : TStack) : ref43_Check_l7 i h0 h1 =
  if (decide (i < (h0.2.length : Int))) = true then
    if 0 ≤ i ∧ i < (h0.2.length : Int) then
      (ref43_find h1 (h0.2.getD i.toNat dTrigStep).1.1).bind fun y1 =>
        if (decide (y1.1.1 < 0)) = true then
          some ((8, ()), ())
        else
          if (h0.2.getD i.toNat dTrigStep).2.2.2.1 = true then
            (ref43_find h1 (h0.2.getD i.toNat dTrigStep).2.2.2.2.1).bind fun y2 =>
              if (decide (y2.1.1 < 0)) = true then
                some ((8, ()), ())
              else
                ref43_Check_l7 (IntKind.i64.wrap (i + 1)) h0 h1
          else
            ref43_Check_l7 (IntKind.i64.wrap (i + 1)) h0 h1
    else
      none
  else
    some ((0, ()), ()) := (FD.lab_eq _ _ _ _).trans (by kernel_rfl)
def ref43_Check (t : TTrigger) (st : TStack) : (Option ((Int × Unit) × Unit)) :=
  (ref43_wrong t).bind fun y1 =>
    if (y1.1.1 != 0) = true then
      some ((y1.1.1, ()), ())
    else
      ref43_Check_l7 0 t st
def fc12 : FC := ⟨⟨[.row (.cons .str (.sl (.cons (.cons .str (.cons (.int .i64) (.cons (.int .i64) (.cons (.int .i64) (.int .i64))))) (.cons (.int .i64) (.cons (.int .i64) (.cons .bool (.cons .str (.cons (.int .i64) (.cons (.int .i64) (.cons (.int .i64) (.int .i64))))))))))), .row (.cons (.sl (.cons .str (.cons (.int .i64) (.cons (.int .i64) (.sl (.cons .str (.cons (.sl (.cons (.int .i64) (.cons (.int .i64) (.cons .str (.cons .bool (.sl (.cons (.int .i64) (.int .i64)))))))) (.cons .bool (.cons (.int .i64) (.cons (.int .i64) (.cons .str (.cons .bool (.sl (.cons (.int .i64) (.int .i64))))))))))))))) (.sl (.cons .str (.cons .str (.cons (.sl .str) (.sl (.cons .str (.int .i64))))))))], []⟩, ⟨[.one (.int .i64)], []⟩, fun x => ref43_Check x.1.1 x.1.2.1⟩
theorem con12 : Contract Tryd.prog 12 fc12 :=
  ref43_Check_D.contract tok (cok_of (l := [(23, fc23), (24, fc24)]) ⟨con23, con24, trivial⟩) mixed (fn' := Tryd.f12) (by kernel_rfl) (by kernel_rfl) rfl (by kernel_rfl) (fun x => (FD.fn_eq _ _).trans (by kernel_rfl))
end
end Go.Proofs.YtgpgpelaabdkhaaDoor
end

section
/-
YtgpgpelaabdkhaaDoor: signalbench.signalbenchlaw43.brief, as one plain function, its equations, its contract. No condition.
-/
set_option maxRecDepth 100000
set_option linter.unusedVariables false
set_option maxHeartbeats 4000000
open Go Go.AM
namespace Go.Proofs.YtgpgpelaabdkhaaDoor
noncomputable section
def law43_brief_D : FD := ⟨T, lookC [], [], (Tryd.f13.body.getD .skip), Tryd.f13.results.toList, ⟨[.one .str], []⟩, ⟨[.one .bool], []⟩, []⟩
def law43_brief (s : ByteArray) : (Option ((Bool × Unit) × Unit)) :=
  some ((decide ((s.size : Int) ≤ 20), ()), ())
def fc13 : FC := ⟨⟨[.one .str], []⟩, ⟨[.one .bool], []⟩, fun x => law43_brief x.1.1⟩
theorem con13 : Contract Tryd.prog 13 fc13 :=
  law43_brief_D.contract tok (cok_of (l := []) trivial) mixed (fn' := Tryd.f13) (by kernel_rfl) (by kernel_rfl) rfl (by kernel_rfl) (fun x => (FD.fn_eq _ _).trans (by kernel_rfl))
end
end Go.Proofs.YtgpgpelaabdkhaaDoor
end

section
/-
YtgpgpelaabdkhaaDoor: signalbench.signalbenchref07.Valid, as one plain function, its equations, its contract. No condition.
-/
set_option maxRecDepth 100000
set_option linter.unusedVariables false
set_option maxHeartbeats 4000000
open Go Go.AM
namespace Go.Proofs.YtgpgpelaabdkhaaDoor
noncomputable section
def ref07_Valid_D : FD := ⟨T, lookC [], [], (Tryd.f19.body.getD .skip), Tryd.f19.results.toList, ⟨[.row (.cons (.int .i64) (.cons (.int .i64) (.cons (.int .i64) (.cons (.int .i64) (.cons (.int .i64) (.cons .str (.int .i64)))))))], []⟩, ⟨[.one .bool], []⟩, []⟩
def ref07_Valid (e0 : TEvent) : (Option ((Bool × Unit) × Unit)) :=
  if (decide (e0.1 < 1)) = true then
    some ((false, ()), ())
  else
    if (decide (e0.1 > 8)) = true then
      some ((false, ()), ())
    else
      if (decide (e0.2.1 < 0)) = true then
        some ((false, ()), ())
      else
        if (decide (e0.2.1 > e0.2.2.1)) = true then
          some ((false, ()), ())
        else
          if (decide (e0.2.2.1 > 1099511627776)) = true then
            some ((false, ()), ())
          else
            if (decide ((e0.2.2.2.2.2.1.size : Int) > 4096)) = true then
              some ((false, ()), ())
            else
              if (decide (e0.2.2.2.2.2.2 < 0)) = true then
                some ((false, ()), ())
              else
                if (decide (e0.2.2.2.2.2.2 > 12)) = true then
                  some ((false, ()), ())
                else
                  if (decide (e0.2.2.2.1 ≥ (-9007199254740992))) = true then
                    if (decide (e0.2.2.2.1 ≤ 9007199254740992)) = true then
                      if (decide (e0.2.2.2.2.1 ≥ (-9007199254740992))) = true then
                        some ((decide (e0.2.2.2.2.1 ≤ 9007199254740992), ()), ())
                      else
                        some ((false, ()), ())
                    else
                      some ((false, ()), ())
                  else
                    some ((false, ()), ())
def fc19 : FC := ⟨⟨[.row (.cons (.int .i64) (.cons (.int .i64) (.cons (.int .i64) (.cons (.int .i64) (.cons (.int .i64) (.cons .str (.int .i64)))))))], []⟩, ⟨[.one .bool], []⟩, fun x => ref07_Valid x.1.1⟩
theorem con19 : Contract Tryd.prog 19 fc19 :=
  ref07_Valid_D.contract tok (cok_of (l := []) trivial) mixed (fn' := Tryd.f19) (by kernel_rfl) (by kernel_rfl) rfl (by kernel_rfl) (fun x => (FD.fn_eq _ _).trans (by kernel_rfl))
end
end Go.Proofs.YtgpgpelaabdkhaaDoor
end

section
/-
YtgpgpelaabdkhaaDoor: signalbench.signalbenchref43.Compares, as one plain function, its equations, its contract. No condition.
-/
set_option maxRecDepth 100000
set_option linter.unusedVariables false
set_option maxHeartbeats 4000000
open Go Go.AM
namespace Go.Proofs.YtgpgpelaabdkhaaDoor
noncomputable section
def ref43_Compares_D : FD := ⟨T, lookC [], [], (Tryd.f28.body.getD .skip), Tryd.f28.results.toList, ⟨[.one (.int .i64), .one (.int .i64), .one (.int .i64)], []⟩, ⟨[.one .bool], []⟩, []⟩
def ref43_Compares (f : Int) (op : Int) (n : Int) : (Option ((Bool × Unit) × Unit)) :=
  if (op == 1) = true then
    some ((f == n, ()), ())
  else
    if (op == 2) = true then
      some ((f != n, ()), ())
    else
      if (op == 3) = true then
        some ((decide (f < n), ()), ())
      else
        if (op == 4) = true then
          some ((decide (f > n), ()), ())
        else
          if (op == 5) = true then
            some (((IntKind.i64.wrap (BitVec.ofInt 64 f &&& BitVec.ofInt 64 n).toNat) == n, ()), ())
          else
            some ((true, ()), ())
def fc28 : FC := ⟨⟨[.one (.int .i64), .one (.int .i64), .one (.int .i64)], []⟩, ⟨[.one .bool], []⟩, fun x => ref43_Compares x.1.1 x.1.2.1 x.1.2.2.1⟩
theorem con28 : Contract Tryd.prog 28 fc28 :=
  ref43_Compares_D.contract tok (cok_of (l := []) trivial) mixed (fn' := Tryd.f28) (by kernel_rfl) (by kernel_rfl) rfl (by kernel_rfl) (fun x => (FD.fn_eq _ _).trans (by kernel_rfl))
end
end Go.Proofs.YtgpgpelaabdkhaaDoor
end

section
/-
YtgpgpelaabdkhaaDoor: signalbench.signalbenchref43.Field, as one plain function, its equations, its contract. No condition.
-/
set_option maxRecDepth 100000
set_option linter.unusedVariables false
set_option maxHeartbeats 4000000
open Go Go.AM
namespace Go.Proofs.YtgpgpelaabdkhaaDoor
noncomputable section
def ref43_Field_D : FD := ⟨T, lookC [], [], (Tryd.f29.body.getD .skip), Tryd.f29.results.toList, ⟨[.row (.cons (.int .i64) (.cons (.int .i64) (.cons (.int .i64) (.cons (.int .i64) (.cons (.int .i64) (.cons .str (.int .i64))))))), .one (.int .i64)], []⟩, ⟨[.one (.int .i64)], []⟩, []⟩
def ref43_Field (e0 : TEvent) (field : Int) : (Option ((Int × Unit) × Unit)) :=
  if (field == 1) = true then
    some ((e0.2.2.2.1, ()), ())
  else
    if (field == 2) = true then
      some ((e0.2.2.2.2.1, ()), ())
    else
      if (field == 3) = true then
        some ((e0.2.2.2.2.2.2, ()), ())
      else
        if (field == 4) = true then
          some (((e0.2.2.2.2.2.1.size : Int), ()), ())
        else
          if (field == 5) = true then
            some ((IntKind.i64.wrap (e0.2.2.1 - e0.2.1), ()), ())
          else
            if (e0.2.2.2.2.2.1.toList == (strB []).toList) = true then
              some (((-1), ()), ())
            else
              if 0 ≤ (0 : Int) ∧ 0 < (e0.2.2.2.2.2.1.size : Int) then
                some ((IntKind.i64.wrap (bt e0.2.2.2.2.2.1 0), ()), ())
              else
                none
def fc29 : FC := ⟨⟨[.row (.cons (.int .i64) (.cons (.int .i64) (.cons (.int .i64) (.cons (.int .i64) (.cons (.int .i64) (.cons .str (.int .i64))))))), .one (.int .i64)], []⟩, ⟨[.one (.int .i64)], []⟩, fun x => ref43_Field x.1.1 x.1.2.1⟩
theorem con29 : Contract Tryd.prog 29 fc29 :=
  ref43_Field_D.contract tok (cok_of (l := []) trivial) mixed (fn' := Tryd.f29) (by kernel_rfl) (by kernel_rfl) rfl (by kernel_rfl) (fun x => (FD.fn_eq _ _).trans (by kernel_rfl))
end
end Go.Proofs.YtgpgpelaabdkhaaDoor
end

section
/-
YtgpgpelaabdkhaaDoor: signalbench.signalbenchref43.Holds, as one plain function, its equations, its contract. No condition.
-/
set_option maxRecDepth 100000
set_option linter.unusedVariables false
set_option maxHeartbeats 4000000
open Go Go.AM
namespace Go.Proofs.YtgpgpelaabdkhaaDoor
noncomputable section
def ref43_Holds_D : FD := ⟨T, lookC [(19, fc19), (20, fc20), (24, fc24), (28, fc28), (29, fc29)], [], (Tryd.f15.body.getD .skip), Tryd.f15.results.toList, ⟨[.row (.cons .str (.cons (.int .i64) (.cons (.int .i64) (.cons (.int .i64) (.int .i64))))), .row (.cons (.sl (.cons .str (.cons (.int .i64) (.cons (.int .i64) (.sl (.cons .str (.cons (.sl (.cons (.int .i64) (.cons (.int .i64) (.cons .str (.cons .bool (.sl (.cons (.int .i64) (.int .i64)))))))) (.cons .bool (.cons (.int .i64) (.cons (.int .i64) (.cons .str (.cons .bool (.sl (.cons (.int .i64) (.int .i64))))))))))))))) (.sl (.cons .str (.cons .str (.cons (.sl .str) (.sl (.cons .str (.int .i64)))))))), .row (.cons (.int .i64) (.cons (.int .i64) (.cons (.int .i64) (.cons (.int .i64) (.cons (.int .i64) (.cons (.int .i64) (.cons (.int .i64) (.cons .str (.int .i64)))))))))], []⟩, ⟨[.one .bool], []⟩, []⟩
def ref43_Holds (c : TCond) (st : TStack) (o : TOut) : (Option ((Bool × Unit) × Unit)) :=
  (ref43_WrongCond c).bind fun y1 =>
    if (y1.1.1 != 0) = true then
      some ((false, ()), ())
    else
      (ref07_Valid o.2.2).bind fun y2 =>
        if (!y2.1.1) = true then
          some ((false, ()), ())
        else
          (ref43_find st c.1).bind fun y3 =>
            if (decide (y3.1.1 < 0)) = true then
              some ((false, ()), ())
            else
              if (y3.1.1 != o.1) = true then
                some ((false, ()), ())
              else
                if (c.2.1 != 0) = true then
                  if (c.2.1 != o.2.2.1) = true then
                    some ((false, ()), ())
                  else
                    if (c.2.2.2.1 == 0) = true then
                      some ((true, ()), ())
                    else
                      (ref43_Field o.2.2 c.2.2.1).bind fun y4 =>
                        (ref43_Compares y4.1.1 c.2.2.2.1 c.2.2.2.2).bind fun y5 =>
                          some ((y5.1.1, ()), ())
                else
                  if (c.2.2.2.1 == 0) = true then
                    some ((true, ()), ())
                  else
                    (ref43_Field o.2.2 c.2.2.1).bind fun y6 =>
                      (ref43_Compares y6.1.1 c.2.2.2.1 c.2.2.2.2).bind fun y7 =>
                        some ((y7.1.1, ()), ())
def fc15 : FC := ⟨⟨[.row (.cons .str (.cons (.int .i64) (.cons (.int .i64) (.cons (.int .i64) (.int .i64))))), .row (.cons (.sl (.cons .str (.cons (.int .i64) (.cons (.int .i64) (.sl (.cons .str (.cons (.sl (.cons (.int .i64) (.cons (.int .i64) (.cons .str (.cons .bool (.sl (.cons (.int .i64) (.int .i64)))))))) (.cons .bool (.cons (.int .i64) (.cons (.int .i64) (.cons .str (.cons .bool (.sl (.cons (.int .i64) (.int .i64))))))))))))))) (.sl (.cons .str (.cons .str (.cons (.sl .str) (.sl (.cons .str (.int .i64)))))))), .row (.cons (.int .i64) (.cons (.int .i64) (.cons (.int .i64) (.cons (.int .i64) (.cons (.int .i64) (.cons (.int .i64) (.cons (.int .i64) (.cons .str (.int .i64)))))))))], []⟩, ⟨[.one .bool], []⟩, fun x => ref43_Holds x.1.1 x.1.2.1 x.1.2.2.1⟩
theorem con15 : Contract Tryd.prog 15 fc15 :=
  ref43_Holds_D.contract tok (cok_of (l := [(19, fc19), (20, fc20), (24, fc24), (28, fc28), (29, fc29)]) ⟨con19, con20, con24, con28, con29, trivial⟩) mixed (fn' := Tryd.f15) (by kernel_rfl) (by kernel_rfl) rfl (by kernel_rfl) (fun x => (FD.fn_eq _ _).trans (by kernel_rfl))
end
end Go.Proofs.YtgpgpelaabdkhaaDoor
end

section
/-
YtgpgpelaabdkhaaDoor: signalbench.signalbenchlaw43.small, as one plain function, its equations, its contract. No condition.
-/
set_option maxRecDepth 100000
set_option linter.unusedVariables false
set_option maxHeartbeats 4000000
open Go Go.AM
namespace Go.Proofs.YtgpgpelaabdkhaaDoor
noncomputable section
def law43_small_F6 : FSh := ⟨[(1, .one (.ptr 0 0)), (3, .one (.int .i64))], [.boxr 24 (.cons .str (.sl (.cons (.cons .str (.cons (.int .i64) (.cons (.int .i64) (.cons (.int .i64) (.int .i64))))) (.cons (.int .i64) (.cons (.int .i64) (.cons .bool (.cons .str (.cons (.int .i64) (.cons (.int .i64) (.cons (.int .i64) (.int .i64)))))))))))]⟩
def law43_small_D : FD := ⟨T, lookC [(13, fc13)], [], (Tryd.f8.body.getD .skip), Tryd.f8.results.toList, ⟨[.row (.cons .str (.sl (.cons (.cons .str (.cons (.int .i64) (.cons (.int .i64) (.cons (.int .i64) (.int .i64))))) (.cons (.int .i64) (.cons (.int .i64) (.cons .bool (.cons .str (.cons (.int .i64) (.cons (.int .i64) (.cons (.int .i64) (.int .i64)))))))))))], []⟩, ⟨[.one .bool], []⟩, [(6, law43_small_F6)]⟩
def law43_small_l6 (i : Int) (h0 : TTrigger) : (Option ((Bool × Unit) × Unit)) := law43_small_D.lab 6 law43_small_F6 (((), i, ()), (h0, ()))
theorem law43_small_l6_eq (i : Int) (h0 : TTrigger) : law43_small_l6 i h0 =
  if (decide (i < (h0.2.length : Int))) = true then
    if 0 ≤ i ∧ i < (h0.2.length : Int) then
      (law43_brief (h0.2.getD i.toNat dTrigStep).1.1).bind fun y1 =>
        if (!y1.1.1) = true then
          some ((false, ()), ())
        else
          if 0 ≤ i ∧ i < (h0.2.length : Int) then
            (law43_brief (h0.2.getD i.toNat dTrigStep).2.2.2.2.1).bind fun y2 =>
              if (!y2.1.1) = true then
                some ((false, ()), ())
              else
                law43_small_l6 (IntKind.i64.wrap (i + 1)) h0
          else
            none
    else
      none
  else
    some ((true, ()), ()) := (FD.lab_eq _ _ _ _).trans (by kernel_rfl)
def law43_small (t : TTrigger) : (Option ((Bool × Unit) × Unit)) :=
  (law43_brief t.1).bind fun y1 =>
    if (!y1.1.1) = true then
      some ((false, ()), ())
    else
      if (decide ((t.2.length : Int) > 34)) = true then
        some ((false, ()), ())
      else
        law43_small_l6 0 t
def fc8 : FC := ⟨⟨[.row (.cons .str (.sl (.cons (.cons .str (.cons (.int .i64) (.cons (.int .i64) (.cons (.int .i64) (.int .i64))))) (.cons (.int .i64) (.cons (.int .i64) (.cons .bool (.cons .str (.cons (.int .i64) (.cons (.int .i64) (.cons (.int .i64) (.int .i64)))))))))))], []⟩, ⟨[.one .bool], []⟩, fun x => law43_small x.1.1⟩
theorem con8 : Contract Tryd.prog 8 fc8 :=
  law43_small_D.contract tok (cok_of (l := [(13, fc13)]) ⟨con13, trivial⟩) mixed (fn' := Tryd.f8) (by kernel_rfl) (by kernel_rfl) rfl (by kernel_rfl) (fun x => (FD.fn_eq _ _).trans (by kernel_rfl))
end
end Go.Proofs.YtgpgpelaabdkhaaDoor
end

section
/-
YtgpgpelaabdkhaaDoor: signalbench.signalbenchlaw43.few, as one plain function, its equations, its contract. No condition.
-/
set_option maxRecDepth 100000
set_option linter.unusedVariables false
set_option maxHeartbeats 4000000
open Go Go.AM
namespace Go.Proofs.YtgpgpelaabdkhaaDoor
noncomputable section
def law43_few_F6 : FSh := ⟨[(1, .one (.ptr 0 0)), (3, .one (.int .i64))], [.boxr 28 (.cons (.sl (.cons .str (.cons (.int .i64) (.cons (.int .i64) (.sl (.cons .str (.cons (.sl (.cons (.int .i64) (.cons (.int .i64) (.cons .str (.cons .bool (.sl (.cons (.int .i64) (.int .i64)))))))) (.cons .bool (.cons (.int .i64) (.cons (.int .i64) (.cons .str (.cons .bool (.sl (.cons (.int .i64) (.int .i64))))))))))))))) (.sl (.cons .str (.cons .str (.cons (.sl .str) (.sl (.cons .str (.int .i64))))))))]⟩
def law43_few_D : FD := ⟨T, lookC [(13, fc13)], [], (Tryd.f9.body.getD .skip), Tryd.f9.results.toList, ⟨[.row (.cons (.sl (.cons .str (.cons (.int .i64) (.cons (.int .i64) (.sl (.cons .str (.cons (.sl (.cons (.int .i64) (.cons (.int .i64) (.cons .str (.cons .bool (.sl (.cons (.int .i64) (.int .i64)))))))) (.cons .bool (.cons (.int .i64) (.cons (.int .i64) (.cons .str (.cons .bool (.sl (.cons (.int .i64) (.int .i64))))))))))))))) (.sl (.cons .str (.cons .str (.cons (.sl .str) (.sl (.cons .str (.int .i64))))))))], []⟩, ⟨[.one .bool], []⟩, [(6, law43_few_F6)]⟩
def law43_few_l6 (i : Int) (h0 : TStack) : (Option ((Bool × Unit) × Unit)) := law43_few_D.lab 6 law43_few_F6 (((), i, ()), (h0, ()))
theorem law43_few_l6_eq (i : Int) (h0 : TStack) : law43_few_l6 i h0 =
  if (decide (i < (h0.2.length : Int))) = true then
    if 0 ≤ i ∧ i < (h0.2.length : Int) then
      (law43_brief (h0.2.getD i.toNat dNode).1).bind fun y1 =>
        if (!y1.1.1) = true then
          some ((false, ()), ())
        else
          if 0 ≤ i ∧ i < (h0.2.length : Int) then
            (law43_brief (h0.2.getD i.toNat dNode).2.1).bind fun y2 =>
              if (!y2.1.1) = true then
                some ((false, ()), ())
              else
                if 0 ≤ i ∧ i < (h0.2.length : Int) then
                  if (decide (((h0.2.getD i.toNat dNode).2.2.1.length : Int) > 4)) = true then
                    some ((false, ()), ())
                  else
                    if 0 ≤ i ∧ i < (h0.2.length : Int) then
                      if (decide (((h0.2.getD i.toNat dNode).2.2.2.length : Int) > 4)) = true then
                        some ((false, ()), ())
                      else
                        law43_few_l6 (IntKind.i64.wrap (i + 1)) h0
                    else
                      none
                else
                  none
          else
            none
    else
      none
  else
    some ((true, ()), ()) := (FD.lab_eq _ _ _ _).trans (by kernel_rfl)
def law43_few (st : TStack) : (Option ((Bool × Unit) × Unit)) :=
  if (decide ((st.2.length : Int) > 8)) = true then
    some ((false, ()), ())
  else
    if (decide ((st.1.length : Int) > 0)) = true then
      some ((false, ()), ())
    else
      law43_few_l6 0 st
def fc9 : FC := ⟨⟨[.row (.cons (.sl (.cons .str (.cons (.int .i64) (.cons (.int .i64) (.sl (.cons .str (.cons (.sl (.cons (.int .i64) (.cons (.int .i64) (.cons .str (.cons .bool (.sl (.cons (.int .i64) (.int .i64)))))))) (.cons .bool (.cons (.int .i64) (.cons (.int .i64) (.cons .str (.cons .bool (.sl (.cons (.int .i64) (.int .i64))))))))))))))) (.sl (.cons .str (.cons .str (.cons (.sl .str) (.sl (.cons .str (.int .i64))))))))], []⟩, ⟨[.one .bool], []⟩, fun x => law43_few x.1.1⟩
theorem con9 : Contract Tryd.prog 9 fc9 :=
  law43_few_D.contract tok (cok_of (l := [(13, fc13)]) ⟨con13, trivial⟩) mixed (fn' := Tryd.f9) (by kernel_rfl) (by kernel_rfl) rfl (by kernel_rfl) (fun x => (FD.fn_eq _ _).trans (by kernel_rfl))
end
end Go.Proofs.YtgpgpelaabdkhaaDoor
end

section
/-
YtgpgpelaabdkhaaDoor: signalbench.signalbenchlaw43.TrigChecks, as one plain function, its equations, its contract. No condition.
-/
set_option maxRecDepth 100000
set_option linter.unusedVariables false
set_option maxHeartbeats 4000000
open Go Go.AM
namespace Go.Proofs.YtgpgpelaabdkhaaDoor
noncomputable section
def law43_TrigChecks_D : FD := ⟨T, lookC [(8, fc8), (9, fc9), (10, fc10), (11, fc11), (12, fc12)], [], (Tryd.f3.body.getD .skip), Tryd.f3.results.toList, ⟨[.row (.cons .str (.sl (.cons (.cons .str (.cons (.int .i64) (.cons (.int .i64) (.cons (.int .i64) (.int .i64))))) (.cons (.int .i64) (.cons (.int .i64) (.cons .bool (.cons .str (.cons (.int .i64) (.cons (.int .i64) (.cons (.int .i64) (.int .i64))))))))))), .row (.cons (.sl (.cons .str (.cons (.int .i64) (.cons (.int .i64) (.sl (.cons .str (.cons (.sl (.cons (.int .i64) (.cons (.int .i64) (.cons .str (.cons .bool (.sl (.cons (.int .i64) (.int .i64)))))))) (.cons .bool (.cons (.int .i64) (.cons (.int .i64) (.cons .str (.cons .bool (.sl (.cons (.int .i64) (.int .i64))))))))))))))) (.sl (.cons .str (.cons .str (.cons (.sl .str) (.sl (.cons .str (.int .i64))))))))], []⟩, ⟨[.one .bool], []⟩, []⟩
def law43_TrigChecks (t : TTrigger) (st : TStack) : (Option ((Bool × Unit) × Unit)) :=
  (law43_small t).bind fun y1 =>
    if (!y1.1.1) = true then
      (law43_awake).bind fun y2 =>
        some ((y2.1.1, ()), ())
    else
      (law43_few st).bind fun y3 =>
        if (!y3.1.1) = true then
          (law43_awake).bind fun y4 =>
            some ((y4.1.1, ()), ())
        else
          (trig_Check t st).bind fun y5 =>
            (ref43_Check t st).bind fun y6 =>
              if (y5.1.1 == y6.1.1) = true then
                (law43_awake).bind fun y7 =>
                  some ((y7.1.1, ()), ())
              else
                some ((false, ()), ())
def fc3 : FC := ⟨⟨[.row (.cons .str (.sl (.cons (.cons .str (.cons (.int .i64) (.cons (.int .i64) (.cons (.int .i64) (.int .i64))))) (.cons (.int .i64) (.cons (.int .i64) (.cons .bool (.cons .str (.cons (.int .i64) (.cons (.int .i64) (.cons (.int .i64) (.int .i64))))))))))), .row (.cons (.sl (.cons .str (.cons (.int .i64) (.cons (.int .i64) (.sl (.cons .str (.cons (.sl (.cons (.int .i64) (.cons (.int .i64) (.cons .str (.cons .bool (.sl (.cons (.int .i64) (.int .i64)))))))) (.cons .bool (.cons (.int .i64) (.cons (.int .i64) (.cons .str (.cons .bool (.sl (.cons (.int .i64) (.int .i64))))))))))))))) (.sl (.cons .str (.cons .str (.cons (.sl .str) (.sl (.cons .str (.int .i64))))))))], []⟩, ⟨[.one .bool], []⟩, fun x => law43_TrigChecks x.1.1 x.1.2.1⟩
theorem con3 : Contract Tryd.prog 3 fc3 :=
  law43_TrigChecks_D.contract tok (cok_of (l := [(8, fc8), (9, fc9), (10, fc10), (11, fc11), (12, fc12)]) ⟨con8, con9, con10, con11, con12, trivial⟩) mixed (fn' := Tryd.f3) (by kernel_rfl) (by kernel_rfl) rfl (by kernel_rfl) (fun x => (FD.fn_eq _ _).trans (by kernel_rfl))
end
end Go.Proofs.YtgpgpelaabdkhaaDoor
end

section
/-
YtgpgpelaabdkhaaDoor: signalbench.signalbenchlaw43.TrigHolds, as one plain function, its equations, its contract. No condition.
-/
set_option maxRecDepth 100000
set_option linter.unusedVariables false
set_option maxHeartbeats 4000000
open Go Go.AM
namespace Go.Proofs.YtgpgpelaabdkhaaDoor
noncomputable section
def law43_TrigHolds_D : FD := ⟨T, lookC [(9, fc9), (10, fc10), (13, fc13), (14, fc14), (15, fc15)], [], (Tryd.f4.body.getD .skip), Tryd.f4.results.toList, ⟨[.row (.cons .str (.cons (.int .i64) (.cons (.int .i64) (.cons (.int .i64) (.int .i64))))), .row (.cons (.sl (.cons .str (.cons (.int .i64) (.cons (.int .i64) (.sl (.cons .str (.cons (.sl (.cons (.int .i64) (.cons (.int .i64) (.cons .str (.cons .bool (.sl (.cons (.int .i64) (.int .i64)))))))) (.cons .bool (.cons (.int .i64) (.cons (.int .i64) (.cons .str (.cons .bool (.sl (.cons (.int .i64) (.int .i64))))))))))))))) (.sl (.cons .str (.cons .str (.cons (.sl .str) (.sl (.cons .str (.int .i64)))))))), .row (.cons (.int .i64) (.cons (.int .i64) (.cons (.int .i64) (.cons (.int .i64) (.cons (.int .i64) (.cons (.int .i64) (.cons (.int .i64) (.cons .str (.int .i64)))))))))], []⟩, ⟨[.one .bool], []⟩, []⟩
def law43_TrigHolds (c : TCond) (st : TStack) (o : TOut) : (Option ((Bool × Unit) × Unit)) :=
  (law43_brief c.1).bind fun y1 =>
    if (!y1.1.1) = true then
      (law43_awake).bind fun y2 =>
        some ((y2.1.1, ()), ())
    else
      (law43_few st).bind fun y3 =>
        if (!y3.1.1) = true then
          (law43_awake).bind fun y4 =>
            some ((y4.1.1, ()), ())
        else
          (law43_brief o.2.2.2.2.2.2.2.1).bind fun y5 =>
            if (!y5.1.1) = true then
              (law43_awake).bind fun y6 =>
                some ((y6.1.1, ()), ())
            else
              (trig_Holds c st o).bind fun y7 =>
                (ref43_Holds c st o).bind fun y8 =>
                  if (y7.1.1 == y8.1.1) = true then
                    (law43_awake).bind fun y9 =>
                      some ((y9.1.1, ()), ())
                  else
                    some ((false, ()), ())
def fc4 : FC := ⟨⟨[.row (.cons .str (.cons (.int .i64) (.cons (.int .i64) (.cons (.int .i64) (.int .i64))))), .row (.cons (.sl (.cons .str (.cons (.int .i64) (.cons (.int .i64) (.sl (.cons .str (.cons (.sl (.cons (.int .i64) (.cons (.int .i64) (.cons .str (.cons .bool (.sl (.cons (.int .i64) (.int .i64)))))))) (.cons .bool (.cons (.int .i64) (.cons (.int .i64) (.cons .str (.cons .bool (.sl (.cons (.int .i64) (.int .i64))))))))))))))) (.sl (.cons .str (.cons .str (.cons (.sl .str) (.sl (.cons .str (.int .i64)))))))), .row (.cons (.int .i64) (.cons (.int .i64) (.cons (.int .i64) (.cons (.int .i64) (.cons (.int .i64) (.cons (.int .i64) (.cons (.int .i64) (.cons .str (.int .i64)))))))))], []⟩, ⟨[.one .bool], []⟩, fun x => law43_TrigHolds x.1.1 x.1.2.1 x.1.2.2.1⟩
theorem con4 : Contract Tryd.prog 4 fc4 :=
  law43_TrigHolds_D.contract tok (cok_of (l := [(9, fc9), (10, fc10), (13, fc13), (14, fc14), (15, fc15)]) ⟨con9, con10, con13, con14, con15, trivial⟩) mixed (fn' := Tryd.f4) (by kernel_rfl) (by kernel_rfl) rfl (by kernel_rfl) (fun x => (FD.fn_eq _ _).trans (by kernel_rfl))
end
end Go.Proofs.YtgpgpelaabdkhaaDoor
end

section
/-
YtgpgpelaabdkhaaDoor: signalbench.signalbenchlaw43.TrigRoundTrips, as one plain function, its equations, its contract. No condition.
-/
set_option maxRecDepth 100000
set_option linter.unusedVariables false
set_option maxHeartbeats 4000000
open Go Go.AM
namespace Go.Proofs.YtgpgpelaabdkhaaDoor
noncomputable section
def law43_TrigRoundTrips_D : FD := ⟨T, lookC [(8, fc8), (10, fc10), (16, fc16), (17, fc17), (18, fc18)], [], (Tryd.f5.body.getD .skip), Tryd.f5.results.toList, ⟨[.row (.cons .str (.sl (.cons (.cons .str (.cons (.int .i64) (.cons (.int .i64) (.cons (.int .i64) (.int .i64))))) (.cons (.int .i64) (.cons (.int .i64) (.cons .bool (.cons .str (.cons (.int .i64) (.cons (.int .i64) (.cons (.int .i64) (.int .i64)))))))))))], []⟩, ⟨[.one .bool], []⟩, []⟩
def law43_TrigRoundTrips (t : TTrigger) : (Option ((Bool × Unit) × Unit)) :=
  (law43_small t).bind fun y1 =>
    if (!y1.1.1) = true then
      (law43_awake).bind fun y2 =>
        some ((y2.1.1, ()), ())
    else
      (trig_Print t).bind fun y3 =>
        if (y3.1.2.1 != 0) = true then
          if (y3.1.1.toList == (strB []).toList) = true then
            (law43_awake).bind fun y4 =>
              some ((y4.1.1, ()), ())
          else
            some ((false, ()), ())
        else
          (trig_Parse y3.1.1).bind fun y5 =>
            if (y5.1.2.2.1 == 0) = true then
              if (y5.1.2.1 == 0) = true then
                (ref43_Same y5.1.1 t).bind fun y6 =>
                  if y6.1.1 = true then
                    (law43_awake).bind fun y7 =>
                      some ((y7.1.1, ()), ())
                  else
                    some ((false, ()), ())
              else
                some ((false, ()), ())
            else
              some ((false, ()), ())
def fc5 : FC := ⟨⟨[.row (.cons .str (.sl (.cons (.cons .str (.cons (.int .i64) (.cons (.int .i64) (.cons (.int .i64) (.int .i64))))) (.cons (.int .i64) (.cons (.int .i64) (.cons .bool (.cons .str (.cons (.int .i64) (.cons (.int .i64) (.cons (.int .i64) (.int .i64)))))))))))], []⟩, ⟨[.one .bool], []⟩, fun x => law43_TrigRoundTrips x.1.1⟩
theorem con5 : Contract Tryd.prog 5 fc5 :=
  law43_TrigRoundTrips_D.contract tok (cok_of (l := [(8, fc8), (10, fc10), (16, fc16), (17, fc17), (18, fc18)]) ⟨con8, con10, con16, con17, con18, trivial⟩) mixed (fn' := Tryd.f5) (by kernel_rfl) (by kernel_rfl) rfl (by kernel_rfl) (fun x => (FD.fn_eq _ _).trans (by kernel_rfl))
end
end Go.Proofs.YtgpgpelaabdkhaaDoor
end
