/-
The plain functions of the program that the law LimitViolations reaches, that the program computes them, and what they come to. No condition.
-/
import Derived.Test.YtejehchbflmofaaDoorRows
import Derived.Test.YtejehchbflmofaaDoorChecked
import Derived.Lib.ItoaNum
import Derived.Lib.LaidTab
import Derived.Shelf.Strings.Builder1
import Derived.Shelf.Small.Strs
import Derived.Shelf.Strings.BuilderF
import Derived.Shelf.Strings.BuilderK
import Derived.Shelf.Strconv.Itoa0
import Derived.Shelf.Strconv.Itoa1
import Derived.Shelf.LaysM
import Derived.Shelf.Strconv.Itoa2
import Derived.Shelf.Strconv.Itoa3
import Derived.Shelf.Strings.Search1
import Derived.Shelf.Strings.BuilderCap
import Derived.Test.YtejehchbflmofaaDoorProg
import Derived.Lib.Builder
import Derived.Lib.UnsafeStr
import Derived.Lib.Walk
import Derived.WalkKit
import Derived.Laws.Externs
import Derived.Test.YtejehchbflmofaaDoorAm1
import Derived.Test.YtejehchbflmofaaDoorAm2
import Derived.Test.YtejehchbflmofaaDoorAm3
set_option linter.unusedVariables false
set_option linter.unusedSimpArgs false
set_option linter.unusedSectionVars false

section
/-
YtejehchbflmofaaDoor: the given measure of what is read is the machine's. No condition.
-/
namespace Go.Proofs.YtejehchbflmofaaDoor
open Go

mutual
theorem bulk_eq {H : Type} : ∀ d : DataW H, Rows.uptoBulk d = AM.bulkW d
  | .lit (.string _) => by simp [Rows.uptoBulk, AM.bulkW]
  | .lit (.bool _) => by simp [Rows.uptoBulk, AM.bulkW]
  | .lit (.int _ _) => by simp [Rows.uptoBulk, AM.bulkW]
  | .lit (.float _ _) => by simp [Rows.uptoBulk, AM.bulkW]
  | .lit .nil => by simp [Rows.uptoBulk, AM.bulkW]
  | .nil => by simp [Rows.uptoBulk, AM.bulkW]
  | .ptr d => by simp [Rows.uptoBulk, AM.bulkW, bulk_eq d]
  | .slice a b => by simp [Rows.uptoBulk, AM.bulkW, bulkAll_eq a, bulkAll_eq b]
  | .agg a => by simp [Rows.uptoBulk, AM.bulkW, bulkAll_eq a]
  | .iface _ d => by simp [Rows.uptoBulk, AM.bulkW, bulk_eq d]
  | .map es => by simp [Rows.uptoBulk, AM.bulkW, bulkEntries_eq es]
  | .held _ => by simp [Rows.uptoBulk, AM.bulkW]
theorem bulkAll_eq {H : Type} : ∀ l : List (DataW H), Rows.uptoBulkAll l = AM.bulkAll l
  | [] => by simp [Rows.uptoBulkAll, AM.bulkAll]
  | d :: r => by simp [Rows.uptoBulkAll, AM.bulkAll, bulk_eq d, bulkAll_eq r]
theorem bulkEntries_eq {H : Type} : ∀ l : List (Lit × DataW H), Rows.uptoBulkEntries l = AM.bulkEntries l
  | [] => by simp [Rows.uptoBulkEntries, AM.bulkEntries]
  | x :: r => by simp [Rows.uptoBulkEntries, AM.bulkEntries, bulkEntry_eq x, bulkEntries_eq r]
theorem bulkEntry_eq {H : Type} : ∀ x : Lit × DataW H, Rows.uptoBulkEntry x = AM.bulkEntry x
  | (.string _, d) => by simp [Rows.uptoBulkEntry, AM.bulkEntry, bulk_eq d]
  | (.bool _, d) => by simp [Rows.uptoBulkEntry, AM.bulkEntry, bulk_eq d]
  | (.int _ _, d) => by simp [Rows.uptoBulkEntry, AM.bulkEntry, bulk_eq d]
  | (.float _ _, d) => by simp [Rows.uptoBulkEntry, AM.bulkEntry, bulk_eq d]
  | (.nil, d) => by simp [Rows.uptoBulkEntry, AM.bulkEntry, bulk_eq d]
end

theorem bulk_bound {H : Type} {l : List (DataW H)} (hk : Rows.uptoSmall H l = true) : AM.bulkAll l ≤ 1048576 := by
  rw [← bulkAll_eq]
  exact of_decide_eq_true hk

theorem own : ownKnob Tryd.prog.godebug = none := by kernel_rfl
theorem laidOut : laidOutB Tryd.prog = true := by kernel_rfl

end Go.Proofs.YtejehchbflmofaaDoor
end

section
/-
YtejehchbflmofaaDoor: the library's table that the row lists, as every state holds it. No condition.
-/
open Go Go.AM
namespace Go.Proofs.YtejehchbflmofaaDoor
noncomputable section
def powCells : Array Value := (Lib.pow10Tab.map fun z => Value.int .u64 z).toArray
instance zoneI : Inhabited ZMem := ⟨fun b => if b = 1 then some powCells else none⟩

theorem zone_pow : Zone 1 = some powCells := rfl

theorem zone_tab {w : World} (h : HoldsB w 1 powCells) : Lib.TabIs Tryd.prog w "internal/strconv.uint64pow10" .u64 Lib.pow10Tab := by
  obtain ⟨t, fr, h⟩ := h
  unfold Lib.TabIs World.var?
  rw [show Tryd.prog.globalNamed "internal/strconv.uint64pow10" = some 1 by kernel_rfl]
  simp only [Option.bind_some]
  rw [h]
  rfl

theorem zone_met {w : World} (h : Lib.TabIs Tryd.prog w "internal/strconv.uint64pow10" .u64 Lib.pow10Tab) : ∀ (b : Nat) (o : Array Value), Zone b = some o → HoldsB w b o := by
  intro b o hz
  have hz' : (if b = 1 then some powCells else none) = some o := hz
  split at hz'
  · rename_i e
    subst e
    cases hz'
    unfold Lib.TabIs World.var? at h
    rw [show Tryd.prog.globalNamed "internal/strconv.uint64pow10" = some 1 by kernel_rfl] at h
    simp only [Option.bind_some] at h
    split at h
    · rename_i cs t fr hq
      cases h
      exact ⟨t, fr, hq⟩
    · cases h
  · cases hz'
end
end Go.Proofs.YtejehchbflmofaaDoor
end

section
/-
YtejehchbflmofaaDoor: the types that the functions use. No condition.
-/
set_option maxRecDepth 100000
open Go Go.AM
namespace Go.Proofs.YtejehchbflmofaaDoor
noncomputable section
abbrev TGap : Type := Int × Int
abbrev uGap : U := (.cons (.int .i64) (.int .i64))
def dGap : TGap := (0, 0)
abbrev TCapture : Type := (List ByteArray) × (List TGap)
abbrev uCapture : U := (.cons (.sl .str) (.sl (.cons (.int .i64) (.int .i64))))
def dCapture : TCapture := ([], [])
abbrev TLimit : Type := Int × ByteArray × ByteArray × Bool × TGap
abbrev uLimit : U := (.cons (.int .i64) (.cons .str (.cons .str (.cons .bool (.cons (.int .i64) (.int .i64))))))
def dLimit : TLimit := (0, ((strB []), ((strB []), (false, dGap))))
abbrev TViolation : Type := Int × TGap
abbrev uViolation : U := (.cons (.int .i64) (.cons (.int .i64) (.int .i64)))
def dViolation : TViolation := (0, dGap)
abbrev TToken : Type := Int × ByteArray × TGap
abbrev uToken : U := (.cons (.int .i64) (.cons .str (.cons (.int .i64) (.int .i64))))
def dToken : TToken := (0, ((strB []), dGap))
abbrev Treader : Type := (List TToken) × TGap
abbrev ureader : U := (.cons (.sl (.cons (.int .i64) (.cons .str (.cons (.int .i64) (.int .i64))))) (.cons (.int .i64) (.int .i64)))
def dreader : Treader := ([], dGap)
abbrev Twaves : Type := (List TGap) × (List TGap) × Bool
abbrev uwaves : U := (.cons (.sl (.cons (.int .i64) (.int .i64))) (.cons (.sl (.cons (.int .i64) (.int .i64))) .bool))
def dwaves : Twaves := ([], ([], false))
abbrev Tchange : Type := Int × Bool
abbrev uchange : U := (.cons (.int .i64) .bool)
def dchange : Tchange := (0, false)
def TL : List (Nat × TD) := [
  (3, ⟨.int .i64, 1, 8, [.val (.int .i64 0)], some (.int .i64), false, []⟩),
  (4, ⟨.bool, 1, 1, [.val (.bool false)], some .bool, false, []⟩),
  (5, ⟨.int .u8, 1, 1, [.val (.int .u8 0)], some (.int .u8), false, []⟩),
  (9, ⟨.string, 1, 16, [.val (.string ⟨#[]⟩)], some .str, false, []⟩),
  (21, ⟨.int .i32, 1, 4, [.val (.int .i32 0)], some (.int .i32), false, []⟩),
  (22, ⟨.slice 9, 1, 24, [.val (.slice none 0 0)], some (.sl .str), false, []⟩),
  (23, ⟨.slice 57, 1, 24, [.val (.slice none 0 0)], some (.sl (.cons (.int .i64) (.int .i64))), false, []⟩),
  (25, ⟨(Tryd.t24.desc), 2, 48, [.val (.slice none 0 0), .val (.slice none 0 0)], some (.cons (.sl .str) (.sl (.cons (.int .i64) (.int .i64)))), false, [(0, 1), (1, 1)]⟩),
  (26, ⟨.slice 41, 1, 24, [.val (.slice none 0 0)], some (.sl (.cons (.int .i64) (.cons .str (.cons .str (.cons .bool (.cons (.int .i64) (.int .i64))))))), false, []⟩),
  (30, ⟨.int .i64, 1, 8, [.val (.int .i64 0)], some (.int .i64), false, []⟩),
  (41, ⟨(Tryd.t40.desc), 6, 64, [.val (.int .i64 0), .val (.string ⟨#[]⟩), .val (.string ⟨#[]⟩), .val (.bool false), .val (.int .i64 0), .val (.int .i64 0)], some (.cons (.int .i64) (.cons .str (.cons .str (.cons .bool (.cons (.int .i64) (.int .i64)))))), true, [(0, 1), (1, 1), (2, 1), (3, 1), (4, 1), (5, 1)]⟩),
  (43, ⟨.slice 50, 1, 24, [.val (.slice none 0 0)], some (.sl (.cons (.int .i64) (.int .i64))), false, []⟩),
  (46, ⟨.slice 54, 1, 24, [.val (.slice none 0 0)], some (.sl (.cons (.int .i64) (.cons (.int .i64) (.int .i64)))), false, []⟩),
  (50, ⟨(Tryd.t49.desc), 2, 16, [.val (.int .i64 0), .val (.int .i64 0)], some (.cons (.int .i64) (.int .i64)), true, [(0, 1), (1, 1)]⟩),
  (54, ⟨(Tryd.t53.desc), 3, 24, [.val (.int .i64 0), .val (.int .i64 0), .val (.int .i64 0)], some (.cons (.int .i64) (.cons (.int .i64) (.int .i64))), true, [(0, 1), (1, 2)]⟩),
  (57, ⟨(Tryd.t56.desc), 2, 16, [.val (.int .i64 0), .val (.int .i64 0)], some (.cons (.int .i64) (.int .i64)), false, [(0, 1), (1, 1)]⟩),
  (63, ⟨.slice 65, 1, 24, [.val (.slice none 0 0)], some (.sl (.cons (.int .i64) (.cons .str (.cons (.int .i64) (.int .i64))))), false, []⟩),
  (65, ⟨(Tryd.t64.desc), 4, 40, [.val (.int .i64 0), .val (.string ⟨#[]⟩), .val (.int .i64 0), .val (.int .i64 0)], some (.cons (.int .i64) (.cons .str (.cons (.int .i64) (.int .i64)))), false, [(0, 1), (1, 1), (2, 1), (3, 1)]⟩),
  (72, ⟨.pointer 74, 1, 8, [.val (.pointer none)], none, false, []⟩),
  (74, ⟨(Tryd.t73.desc), 3, 40, [.val (.slice none 0 0), .val (.int .i64 0), .val (.int .i64 0)], some (.cons (.sl (.cons (.int .i64) (.cons .str (.cons (.int .i64) (.int .i64))))) (.cons (.int .i64) (.int .i64))), false, [(0, 1), (1, 1), (2, 1)]⟩),
  (81, ⟨.array 7 9, 7, 112, [.val (.string ⟨#[]⟩), .val (.string ⟨#[]⟩), .val (.string ⟨#[]⟩), .val (.string ⟨#[]⟩), .val (.string ⟨#[]⟩), .val (.string ⟨#[]⟩), .val (.string ⟨#[]⟩)], some (.cons .str (.cons .str (.cons .str (.cons .str (.cons .str (.cons .str .str)))))), false, []⟩),
  (82, ⟨.pointer 85, 1, 8, [.val (.pointer none)], none, false, []⟩),
  (83, ⟨.slice 5, 1, 24, [.val (.slice none 0 0)], some (.sl (.int .u8)), false, []⟩),
  (85, ⟨(Tryd.t84.desc), 2, 32, [.val (.pointer none), .val (.slice none 0 0)], none, false, [(0, 1), (1, 1)]⟩),
  (89, ⟨(Tryd.t88.desc), 1, 16, [.val (.nilIface)], some .any, false, []⟩),
  (100, ⟨(Tryd.t99.desc), 3, 56, [.val (.slice none 0 0), .val (.slice none 0 0), .val (.bool false)], some (.cons (.sl (.cons (.int .i64) (.int .i64))) (.cons (.sl (.cons (.int .i64) (.int .i64))) .bool)), false, [(0, 1), (1, 1), (2, 1)]⟩),
  (103, ⟨(Tryd.t103.desc), 1, 8, [.val (.nilFunc)], none, false, []⟩),
  (107, ⟨.pointer 5, 1, 8, [.val (.pointer none)], none, false, []⟩),
  (130, ⟨.slice 3, 1, 24, [.val (.slice none 0 0)], some (.sl (.int .i64)), false, []⟩),
  (143, ⟨.slice 146, 1, 24, [.val (.slice none 0 0)], some (.sl (.cons (.int .i64) .bool)), false, []⟩),
  (146, ⟨(Tryd.t145.desc), 2, 16, [.val (.int .i64 0), .val (.bool false)], some (.cons (.int .i64) .bool), false, [(0, 1), (1, 1)]⟩),
  (148, ⟨(Tryd.t148.desc), 1, 8, [.val (.nilFunc)], none, false, []⟩)]
def T : TT := lookT TL
theorem tokAll : AllT Tryd.prog TL := ⟨
  TOk.of Tryd.t3 (.int .i64 0) (by kernel_rfl) (by kernel_rfl) (by kernel_rfl) (by kernel_rfl) (by kernel_rfl) (by kernel_rfl) (fun fs h => nomatch h) (fun h => nomatch h),
  TOk.of Tryd.t4 (.bool false) (by kernel_rfl) (by kernel_rfl) (by kernel_rfl) (by kernel_rfl) (by kernel_rfl) (by kernel_rfl) (fun fs h => nomatch h) (fun h => nomatch h),
  TOk.of Tryd.t5 (.int .u8 0) (by kernel_rfl) (by kernel_rfl) (by kernel_rfl) (by kernel_rfl) (by kernel_rfl) (by kernel_rfl) (fun fs h => nomatch h) (fun h => nomatch h),
  TOk.of Tryd.t9 (.string ⟨#[]⟩) (by kernel_rfl) (by kernel_rfl) (by kernel_rfl) (by kernel_rfl) (by kernel_rfl) (by kernel_rfl) (fun fs h => nomatch h) (fun h => nomatch h),
  TOk.of Tryd.t21 (.int .i32 0) (by kernel_rfl) (by kernel_rfl) (by kernel_rfl) (by kernel_rfl) (by kernel_rfl) (by kernel_rfl) (fun fs h => nomatch h) (fun h => nomatch h),
  TOk.of Tryd.t22 (.slice none 0 0) (by kernel_rfl) (by kernel_rfl) (by kernel_rfl) (by kernel_rfl) (by kernel_rfl) (by kernel_rfl) (fun fs h => nomatch h) (fun h => nomatch h),
  TOk.of Tryd.t23 (.slice none 0 0) (by kernel_rfl) (by kernel_rfl) (by kernel_rfl) (by kernel_rfl) (by kernel_rfl) (by kernel_rfl) (fun fs h => nomatch h) (fun h => nomatch h),
  TOk.of Tryd.t25 (.agg #[.slice none 0 0, .slice none 0 0]) (by kernel_rfl) (by kernel_rfl) (by kernel_rfl) (by kernel_rfl) (by kernel_rfl) (by kernel_rfl) (fun fs h => by cases h; kernel_rfl) (fun h => nomatch h),
  TOk.of Tryd.t26 (.slice none 0 0) (by kernel_rfl) (by kernel_rfl) (by kernel_rfl) (by kernel_rfl) (by kernel_rfl) (by kernel_rfl) (fun fs h => nomatch h) (fun h => nomatch h),
  TOk.of Tryd.t30 (.int .i64 0) (by kernel_rfl) (by kernel_rfl) (by kernel_rfl) (by kernel_rfl) (by kernel_rfl) (by kernel_rfl) (fun fs h => nomatch h) (fun h => nomatch h),
  TOk.of Tryd.t41 (.agg #[.int .i64 0, .string ⟨#[]⟩, .string ⟨#[]⟩, .bool false, .int .i64 0, .int .i64 0]) (by kernel_rfl) (by kernel_rfl) (by kernel_rfl) (by kernel_rfl) (by kernel_rfl) (by kernel_rfl) (fun fs h => by cases h; kernel_rfl) (eq_ok (fs := (Tryd.prog.fieldsOf 41)) rfl (by kernel_rfl) (by kernel_rfl) (by kernel_rfl) (by kernel_rfl)),
  TOk.of Tryd.t43 (.slice none 0 0) (by kernel_rfl) (by kernel_rfl) (by kernel_rfl) (by kernel_rfl) (by kernel_rfl) (by kernel_rfl) (fun fs h => nomatch h) (fun h => nomatch h),
  TOk.of Tryd.t46 (.slice none 0 0) (by kernel_rfl) (by kernel_rfl) (by kernel_rfl) (by kernel_rfl) (by kernel_rfl) (by kernel_rfl) (fun fs h => nomatch h) (fun h => nomatch h),
  TOk.of Tryd.t50 (.agg #[.int .i64 0, .int .i64 0]) (by kernel_rfl) (by kernel_rfl) (by kernel_rfl) (by kernel_rfl) (by kernel_rfl) (by kernel_rfl) (fun fs h => by cases h; kernel_rfl) (eq_ok (fs := (Tryd.prog.fieldsOf 50)) rfl (by kernel_rfl) (by kernel_rfl) (by kernel_rfl) (by kernel_rfl)),
  TOk.of Tryd.t54 (.agg #[.int .i64 0, .int .i64 0, .int .i64 0]) (by kernel_rfl) (by kernel_rfl) (by kernel_rfl) (by kernel_rfl) (by kernel_rfl) (by kernel_rfl) (fun fs h => by cases h; kernel_rfl) (eq_ok (fs := (Tryd.prog.fieldsOf 54)) rfl (by kernel_rfl) (by kernel_rfl) (by kernel_rfl) (by kernel_rfl)),
  TOk.of Tryd.t57 (.agg #[.int .i64 0, .int .i64 0]) (by kernel_rfl) (by kernel_rfl) (by kernel_rfl) (by kernel_rfl) (by kernel_rfl) (by kernel_rfl) (fun fs h => by cases h; kernel_rfl) (fun h => nomatch h),
  TOk.of Tryd.t63 (.slice none 0 0) (by kernel_rfl) (by kernel_rfl) (by kernel_rfl) (by kernel_rfl) (by kernel_rfl) (by kernel_rfl) (fun fs h => nomatch h) (fun h => nomatch h),
  TOk.of Tryd.t65 (.agg #[.int .i64 0, .string ⟨#[]⟩, .int .i64 0, .int .i64 0]) (by kernel_rfl) (by kernel_rfl) (by kernel_rfl) (by kernel_rfl) (by kernel_rfl) (by kernel_rfl) (fun fs h => by cases h; kernel_rfl) (fun h => nomatch h),
  TOk.of Tryd.t72 (.pointer none) (by kernel_rfl) (by kernel_rfl) (by kernel_rfl) (by kernel_rfl) (by kernel_rfl) (by kernel_rfl) (fun fs h => nomatch h) (fun h => nomatch h),
  TOk.of Tryd.t74 (.agg #[.slice none 0 0, .int .i64 0, .int .i64 0]) (by kernel_rfl) (by kernel_rfl) (by kernel_rfl) (by kernel_rfl) (by kernel_rfl) (by kernel_rfl) (fun fs h => by cases h; kernel_rfl) (fun h => nomatch h),
  TOk.of Tryd.t81 (.agg #[.string ⟨#[]⟩, .string ⟨#[]⟩, .string ⟨#[]⟩, .string ⟨#[]⟩, .string ⟨#[]⟩, .string ⟨#[]⟩, .string ⟨#[]⟩]) (by kernel_rfl) (by kernel_rfl) (by kernel_rfl) (by kernel_rfl) (by kernel_rfl) (by kernel_rfl) (fun fs h => nomatch h) (fun h => nomatch h),
  TOk.of Tryd.t82 (.pointer none) (by kernel_rfl) (by kernel_rfl) (by kernel_rfl) (by kernel_rfl) (by kernel_rfl) (by kernel_rfl) (fun fs h => nomatch h) (fun h => nomatch h),
  TOk.of Tryd.t83 (.slice none 0 0) (by kernel_rfl) (by kernel_rfl) (by kernel_rfl) (by kernel_rfl) (by kernel_rfl) (by kernel_rfl) (fun fs h => nomatch h) (fun h => nomatch h),
  TOk.of Tryd.t85 (.agg #[.pointer none, .slice none 0 0]) (by kernel_rfl) (by kernel_rfl) (by kernel_rfl) (by kernel_rfl) (by kernel_rfl) (by kernel_rfl) (fun fs h => by cases h; kernel_rfl) (fun h => nomatch h),
  TOk.of Tryd.t89 (.nilIface) (by kernel_rfl) (by kernel_rfl) (by kernel_rfl) (by kernel_rfl) (by kernel_rfl) (by kernel_rfl) (fun fs h => nomatch h) (fun h => nomatch h),
  TOk.of Tryd.t100 (.agg #[.slice none 0 0, .slice none 0 0, .bool false]) (by kernel_rfl) (by kernel_rfl) (by kernel_rfl) (by kernel_rfl) (by kernel_rfl) (by kernel_rfl) (fun fs h => by cases h; kernel_rfl) (fun h => nomatch h),
  TOk.of Tryd.t103 (.nilFunc) (by kernel_rfl) (by kernel_rfl) (by kernel_rfl) (by kernel_rfl) (by kernel_rfl) (by kernel_rfl) (fun fs h => nomatch h) (fun h => nomatch h),
  TOk.of Tryd.t107 (.pointer none) (by kernel_rfl) (by kernel_rfl) (by kernel_rfl) (by kernel_rfl) (by kernel_rfl) (by kernel_rfl) (fun fs h => nomatch h) (fun h => nomatch h),
  TOk.of Tryd.t130 (.slice none 0 0) (by kernel_rfl) (by kernel_rfl) (by kernel_rfl) (by kernel_rfl) (by kernel_rfl) (by kernel_rfl) (fun fs h => nomatch h) (fun h => nomatch h),
  TOk.of Tryd.t143 (.slice none 0 0) (by kernel_rfl) (by kernel_rfl) (by kernel_rfl) (by kernel_rfl) (by kernel_rfl) (by kernel_rfl) (fun fs h => nomatch h) (fun h => nomatch h),
  TOk.of Tryd.t146 (.agg #[.int .i64 0, .bool false]) (by kernel_rfl) (by kernel_rfl) (by kernel_rfl) (by kernel_rfl) (by kernel_rfl) (by kernel_rfl) (fun fs h => by cases h; kernel_rfl) (fun h => nomatch h),
  TOk.of Tryd.t148 (.nilFunc) (by kernel_rfl) (by kernel_rfl) (by kernel_rfl) (by kernel_rfl) (by kernel_rfl) (by kernel_rfl) (fun fs h => nomatch h) (fun h => nomatch h),
  trivial⟩
theorem tok : TOK Tryd.prog T := tok_of tokAll
theorem mixed : Tryd.prog.follows .mixedOrders = true := by kernel_rfl
end
end Go.Proofs.YtejehchbflmofaaDoor
end

section
/-
YtejehchbflmofaaDoor: signalbench.signalbenchref09.name, as one plain function, its equations, its contract. No condition.
-/
set_option maxRecDepth 100000
set_option linter.unusedVariables false
set_option maxHeartbeats 4000000
open Go Go.AM
namespace Go.Proofs.YtejehchbflmofaaDoor
noncomputable section
def ref09_name_F6 : FSh := ⟨[(0, .one .str), (3, .one (.int .i64))], []⟩
def ref09_name_D : FD := ⟨T, lookC [], [], (Tryd.f53.body.getD .skip), Tryd.f53.results.toList, ⟨[.one .str], []⟩, ⟨[.one .bool], []⟩, [(6, ref09_name_F6)]⟩
def ref09_name_l6 (s : ByteArray) (i : Int) : (Option ((Bool × Unit) × Unit)) := ref09_name_D.lab 6 ref09_name_F6 ((s, i, ()), ())
theorem ref09_name_l6_eq (s : ByteArray) (i : Int) : ref09_name_l6 s i =
  if (decide (i < (s.size : Int))) = true then
    if 0 ≤ i ∧ i < (s.size : Int) then
      if (decide ((bt s i) ≥ 97)) = true then
        if 0 ≤ i ∧ i < (s.size : Int) then
          if 0 ≤ i ∧ i < (s.size : Int) then
            if (decide ((bt s i) ≥ 48)) = true then
              if 0 ≤ i ∧ i < (s.size : Int) then
                if (!(decide ((bt s i) ≤ 122))) = true then
                  if (!(decide ((bt s i) ≤ 57))) = true then
                    if 0 ≤ i ∧ i < (s.size : Int) then
                      if ((bt s i) != 95) = true then
                        some ((false, ()), ())
                      else
                        ref09_name_l6 s (IntKind.i64.wrap (i + 1))
                    else
                      none
                  else
                    ref09_name_l6 s (IntKind.i64.wrap (i + 1))
                else
                  ref09_name_l6 s (IntKind.i64.wrap (i + 1))
              else
                none
            else
              if (!(decide ((bt s i) ≤ 122))) = true then
                if 0 ≤ i ∧ i < (s.size : Int) then
                  if ((bt s i) != 95) = true then
                    some ((false, ()), ())
                  else
                    ref09_name_l6 s (IntKind.i64.wrap (i + 1))
                else
                  none
              else
                ref09_name_l6 s (IntKind.i64.wrap (i + 1))
          else
            none
        else
          none
      else
        if 0 ≤ i ∧ i < (s.size : Int) then
          if (decide ((bt s i) ≥ 48)) = true then
            if 0 ≤ i ∧ i < (s.size : Int) then
              if (!(decide ((bt s i) ≤ 57))) = true then
                if 0 ≤ i ∧ i < (s.size : Int) then
                  if ((bt s i) != 95) = true then
                    some ((false, ()), ())
                  else
                    ref09_name_l6 s (IntKind.i64.wrap (i + 1))
                else
                  none
              else
                ref09_name_l6 s (IntKind.i64.wrap (i + 1))
            else
              none
          else
            if 0 ≤ i ∧ i < (s.size : Int) then
              if ((bt s i) != 95) = true then
                some ((false, ()), ())
              else
                ref09_name_l6 s (IntKind.i64.wrap (i + 1))
            else
              none
        else
          none
    else
      none
  else
    some ((true, ()), ()) := (FD.lab_eq _ _ _ _).trans (by kernel_rfl)
def ref09_name (s : ByteArray) : (Option ((Bool × Unit) × Unit)) :=
  if (s.toList == (strB []).toList) = true then
    some ((false, ()), ())
  else
    if (decide ((s.size : Int) > 16)) = true then
      some ((false, ()), ())
    else
      if 0 ≤ (0 : Int) ∧ 0 < (s.size : Int) then
        if (decide ((bt s 0) < 97)) = true then
          some ((false, ()), ())
        else
          if 0 ≤ (0 : Int) ∧ 0 < (s.size : Int) then
            if (decide ((bt s 0) > 122)) = true then
              some ((false, ()), ())
            else
              ref09_name_l6 s 0
          else
            none
      else
        none
def fc53 : FC := ⟨⟨[.one .str], []⟩, ⟨[.one .bool], []⟩, fun x => ref09_name x.1.1⟩
theorem con53 : Contract Tryd.prog 53 fc53 :=
  ref09_name_D.contract tok (cok_of (l := []) trivial) mixed (fn' := Tryd.f53) (by kernel_rfl) (by kernel_rfl) rfl (by kernel_rfl) (fun x => (FD.fn_eq _ _).trans (by kernel_rfl))
end
end Go.Proofs.YtejehchbflmofaaDoor
end

section
/-
YtejehchbflmofaaDoor: signalbench.signalbenchref09.names, as one plain function, its equations, its contract. No condition.
-/
set_option maxRecDepth 100000
set_option linter.unusedVariables false
set_option maxHeartbeats 4000000
open Go Go.AM
namespace Go.Proofs.YtejehchbflmofaaDoor
noncomputable section
def ref09_names_F9 : FSh := ⟨[(0, .one (.sl .str)), (3, .one (.int .i64))], []⟩
def ref09_names_F17 : FSh := ⟨[(0, .one (.sl .str)), (4, .one (.int .i64))], []⟩
def ref09_names_F22 : FSh := ⟨[(0, .one (.sl .str)), (4, .one (.int .i64)), (5, .one (.int .i64))], []⟩
def ref09_names_D : FD := ⟨T, lookC [(53, fc53)], [], (Tryd.f37.body.getD .skip), Tryd.f37.results.toList, ⟨[.one (.sl .str)], []⟩, ⟨[.one (.int .i64)], []⟩, [(9, ref09_names_F9), (17, ref09_names_F17), (22, ref09_names_F22)]⟩
def ref09_names_l9 (l : (List ByteArray)) (i : Int) : (Option ((Int × Unit) × Unit)) := ref09_names_D.lab 9 ref09_names_F9 ((l, i, ()), ())
def ref09_names_l17 (l : (List ByteArray)) (i : Int) : (Option ((Int × Unit) × Unit)) := ref09_names_D.lab 17 ref09_names_F17 ((l, i, ()), ())
def ref09_names_l22 (l : (List ByteArray)) (i : Int) (k0 : Int) : (Option ((Int × Unit) × Unit)) := ref09_names_D.lab 22 ref09_names_F22 ((l, i, k0, ()), ())
theorem ref09_names_l9_eq (l : (List ByteArray)) (i : Int) : ref09_names_l9 l i =
  if (decide (i < (l.length : Int))) = true then
    if 0 ≤ i ∧ i < (l.length : Int) then
      (ref09_name (l.getD i.toNat (strB []))).bind fun y1 =>
        if (!y1.1.1) = true then
          some ((4, ()), ())
        else
          ref09_names_l9 l (IntKind.i64.wrap (i + 1))
    else
      none
  else
    ref09_names_l17 l 0 := (FD.lab_eq _ _ _ _).trans (by kernel_rfl)
theorem ref09_names_l17_eq (l : (List ByteArray)) (i : Int) : ref09_names_l17 l i =
  if (decide (i < (l.length : Int))) = true then
    ref09_names_l22 l i 0
  else
    some ((0, ()), ()) := (FD.lab_eq _ _ _ _).trans (by kernel_rfl)
theorem ref09_names_l22_eq (l : (List ByteArray)) (i : Int) (k0 : Int) : ref09_names_l22 l i k0 =
  if (decide (k0 < i)) = true then
    if 0 ≤ i ∧ i < (l.length : Int) then
      if 0 ≤ k0 ∧ k0 < (l.length : Int) then
        if ((l.getD i.toNat (strB [])).toList == (l.getD k0.toNat (strB [])).toList) = true then
          some ((9, ()), ())
        else
          ref09_names_l22 l i (IntKind.i64.wrap (k0 + 1))
      else
        none
    else
      none
  else
    ref09_names_l17 l (IntKind.i64.wrap (i + 1)) := (FD.lab_eq _ _ _ _).trans (by kernel_rfl)
def ref09_names (l : (List ByteArray)) : (Option ((Int × Unit) × Unit)) :=
  if (decide ((l.length : Int) > 16)) = true then
    some ((6, ()), ())
  else
    if ((l.length : Int) == 0) = true then
      some ((1, ()), ())
    else
      ref09_names_l9 l 0
def fc37 : FC := ⟨⟨[.one (.sl .str)], []⟩, ⟨[.one (.int .i64)], []⟩, fun x => ref09_names x.1.1⟩
theorem con37 : Contract Tryd.prog 37 fc37 :=
  ref09_names_D.contract tok (cok_of (l := [(53, fc53)]) ⟨con53, trivial⟩) mixed (fn' := Tryd.f37) (by kernel_rfl) (by kernel_rfl) rfl (by kernel_rfl) (fun x => (FD.fn_eq _ _).trans (by kernel_rfl))
end
end Go.Proofs.YtejehchbflmofaaDoor
end

section
/-
YtejehchbflmofaaDoor: signalbench.signalbenchref09.runs, as one plain function, its equations, its contract. No condition.
-/
set_option maxRecDepth 100000
set_option linter.unusedVariables false
set_option maxHeartbeats 4000000
open Go Go.AM
namespace Go.Proofs.YtejehchbflmofaaDoor
noncomputable section
def ref09_runs_F4 : FSh := ⟨[(0, .one (.sl (.cons (.int .i64) (.int .i64)))), (1, .one (.int .i64)), (5, .one (.int .i64)), (6, .one (.int .i64))], []⟩
def ref09_runs_D : FD := ⟨T, lookC [], [], (Tryd.f38.body.getD .skip), Tryd.f38.results.toList, ⟨[.one (.sl (.cons (.int .i64) (.int .i64))), .one (.int .i64)], []⟩, ⟨[.one .bool], []⟩, [(4, ref09_runs_F4)]⟩
def ref09_runs_l4 (l : (List TGap)) (mask : Int) (left : Int) (i : Int) : (Option ((Bool × Unit) × Unit)) := ref09_runs_D.lab 4 ref09_runs_F4 ((l, mask, left, i, ()), ())
theorem ref09_runs_l4_eq (l : (List TGap)) (mask : Int) (left : Int) (i : Int) : ref09_runs_l4 l mask left i =
  if (decide (i < (l.length : Int))) = true then
    if 0 ≤ i ∧ i < (l.length : Int) then
      if (decide ((l.getD i.toNat dGap).1 < 0)) = true then
        some ((false, ()), ())
      else
        if 0 ≤ i ∧ i < (l.length : Int) then
          if (decide ((l.getD i.toNat dGap).1 > mask)) = true then
            some ((false, ()), ())
          else
            if 0 ≤ i ∧ i < (l.length : Int) then
              if (decide ((l.getD i.toNat dGap).2 < 1)) = true then
                some ((false, ()), ())
              else
                if 0 ≤ i ∧ i < (l.length : Int) then
                  if (decide ((l.getD i.toNat dGap).2 > left)) = true then
                    some ((false, ()), ())
                  else
                    if 0 ≤ i ∧ i < (l.length : Int) then
                      ref09_runs_l4 l mask (IntKind.i64.wrap (left - (l.getD i.toNat dGap).2)) (IntKind.i64.wrap (i + 1))
                    else
                      none
                else
                  none
            else
              none
        else
          none
    else
      none
  else
    some ((true, ()), ()) := (FD.lab_eq _ _ _ _).trans (by kernel_rfl)
def ref09_runs (l : (List TGap)) (mask : Int) : (Option ((Bool × Unit) × Unit)) :=
  ref09_runs_l4 l mask 1099511627776 0
def fc38 : FC := ⟨⟨[.one (.sl (.cons (.int .i64) (.int .i64))), .one (.int .i64)], []⟩, ⟨[.one .bool], []⟩, fun x => ref09_runs x.1.1 x.1.2.1⟩
theorem con38 : Contract Tryd.prog 38 fc38 :=
  ref09_runs_D.contract tok (cok_of (l := []) trivial) mixed (fn' := Tryd.f38) (by kernel_rfl) (by kernel_rfl) rfl (by kernel_rfl) (fun x => (FD.fn_eq _ _).trans (by kernel_rfl))
end
end Go.Proofs.YtejehchbflmofaaDoor
end

section
/-
YtejehchbflmofaaDoor: signalbench.signalbenchref09.Check, as one plain function, its equations, its contract. No condition.
-/
set_option maxRecDepth 100000
set_option linter.unusedVariables false
set_option maxHeartbeats 4000000
open Go Go.AM
namespace Go.Proofs.YtejehchbflmofaaDoor
noncomputable section
def ref09_Check_D : FD := ⟨T, lookC [(37, fc37), (38, fc38)], [], (Tryd.f22.body.getD .skip), Tryd.f22.results.toList, ⟨[.row (.cons (.sl .str) (.sl (.cons (.int .i64) (.int .i64))))], []⟩, ⟨[.one (.int .i64)], []⟩, []⟩
def ref09_Check (c : TCapture) : (Option ((Int × Unit) × Unit)) :=
  if (decide ((c.2.length : Int) > 262144)) = true then
    some ((6, ()), ())
  else
    (ref09_names c.1).bind fun y1 =>
      if (y1.1.1 != 0) = true then
        some ((y1.1.1, ()), ())
      else
        if 0 ≤ (c.1.length : Int) then
          (ref09_runs c.2 (IntKind.i64.wrap ((IntKind.i64.wrap (1 * 2 ^ (min (c.1.length : Int).toNat 64))) - 1))).bind fun y2 =>
            if (!y2.1.1) = true then
              some ((2, ()), ())
            else
              some ((0, ()), ())
        else
          none
def fc22 : FC := ⟨⟨[.row (.cons (.sl .str) (.sl (.cons (.int .i64) (.int .i64))))], []⟩, ⟨[.one (.int .i64)], []⟩, fun x => ref09_Check x.1.1⟩
theorem con22 : Contract Tryd.prog 22 fc22 :=
  ref09_Check_D.contract tok (cok_of (l := [(37, fc37), (38, fc38)]) ⟨con37, con38, trivial⟩) mixed (fn' := Tryd.f22) (by kernel_rfl) (by kernel_rfl) rfl (by kernel_rfl) (fun x => (FD.fn_eq _ _).trans (by kernel_rfl))
end
end Go.Proofs.YtejehchbflmofaaDoor
end

section
/-
YtejehchbflmofaaDoor: signalbench.signalbenchref49.clocked, as one plain function, its equations, its contract. No condition.
-/
set_option maxRecDepth 100000
set_option linter.unusedVariables false
set_option maxHeartbeats 4000000
open Go Go.AM
namespace Go.Proofs.YtejehchbflmofaaDoor
noncomputable section
def ref49_clocked_D : FD := ⟨T, lookC [], [], (Tryd.f25.body.getD .skip), Tryd.f25.results.toList, ⟨[.row (.cons (.int .i64) (.cons .str (.cons .str (.cons .bool (.cons (.int .i64) (.int .i64))))))], []⟩, ⟨[.one .bool], []⟩, []⟩
def ref49_clocked (x0 : TLimit) : (Option ((Bool × Unit) × Unit)) :=
  if (decide (x0.1 ≥ 4)) = true then
    some ((decide (x0.1 ≤ 6), ()), ())
  else
    some ((false, ()), ())
def fc25 : FC := ⟨⟨[.row (.cons (.int .i64) (.cons .str (.cons .str (.cons .bool (.cons (.int .i64) (.int .i64))))))], []⟩, ⟨[.one .bool], []⟩, fun x => ref49_clocked x.1.1⟩
theorem con25 : Contract Tryd.prog 25 fc25 :=
  ref49_clocked_D.contract tok (cok_of (l := []) trivial) mixed (fn' := Tryd.f25) (by kernel_rfl) (by kernel_rfl) rfl (by kernel_rfl) (fun x => (FD.fn_eq _ _).trans (by kernel_rfl))
end
end Go.Proofs.YtejehchbflmofaaDoor
end

section
/-
YtejehchbflmofaaDoor: signalbench.signalbenchref49.bad, as one plain function, its equations, its contract. No condition.
-/
set_option maxRecDepth 100000
set_option linter.unusedVariables false
set_option maxHeartbeats 4000000
open Go Go.AM
namespace Go.Proofs.YtejehchbflmofaaDoor
noncomputable section
def ref49_bad_D : FD := ⟨T, lookC [(25, fc25)], [], (Tryd.f23.body.getD .skip), Tryd.f23.results.toList, ⟨[.row (.cons (.int .i64) (.cons .str (.cons .str (.cons .bool (.cons (.int .i64) (.int .i64))))))], []⟩, ⟨[.one .bool], []⟩, []⟩
def ref49_bad (x0 : TLimit) : (Option ((Bool × Unit) × Unit)) :=
  if (decide (x0.1 < 1)) = true then
    some ((true, ()), ())
  else
    if (decide (x0.1 > 6)) = true then
      some ((true, ()), ())
    else
      if (decide (x0.2.2.2.2.1 < 0)) = true then
        some ((true, ()), ())
      else
        if (decide (x0.2.2.2.2.1 > x0.2.2.2.2.2)) = true then
          some ((true, ()), ())
        else
          if (decide (x0.2.2.2.2.2 > 1099511627776)) = true then
            some ((true, ()), ())
          else
            (ref49_clocked x0).bind fun y1 =>
              if (!y1.1.1) = true then
                if (!(x0.2.2.1.toList == (strB []).toList)) = true then
                  some ((true, ()), ())
                else
                  some ((x0.2.2.2.1, ()), ())
              else
                some ((false, ()), ())
def fc23 : FC := ⟨⟨[.row (.cons (.int .i64) (.cons .str (.cons .str (.cons .bool (.cons (.int .i64) (.int .i64))))))], []⟩, ⟨[.one .bool], []⟩, fun x => ref49_bad x.1.1⟩
theorem con23 : Contract Tryd.prog 23 fc23 :=
  ref49_bad_D.contract tok (cok_of (l := [(25, fc25)]) ⟨con25, trivial⟩) mixed (fn' := Tryd.f23) (by kernel_rfl) (by kernel_rfl) rfl (by kernel_rfl) (fun x => (FD.fn_eq _ _).trans (by kernel_rfl))
end
end Go.Proofs.YtejehchbflmofaaDoor
end

section
/-
YtejehchbflmofaaDoor: signalbench.signalbenchref49.has, as one plain function, its equations, its contract. No condition.
-/
set_option maxRecDepth 100000
set_option linter.unusedVariables false
set_option maxHeartbeats 4000000
open Go Go.AM
namespace Go.Proofs.YtejehchbflmofaaDoor
noncomputable section
def ref49_has_F3 : FSh := ⟨[(0, .one (.sl .str)), (1, .one .str), (5, .one (.int .i64))], []⟩
def ref49_has_D : FD := ⟨T, lookC [], [], (Tryd.f24.body.getD .skip), Tryd.f24.results.toList, ⟨[.one (.sl .str), .one .str], []⟩, ⟨[.one .bool], []⟩, [(3, ref49_has_F3)]⟩
def ref49_has_l3 (l : (List ByteArray)) (s : ByteArray) (i : Int) : (Option ((Bool × Unit) × Unit)) := ref49_has_D.lab 3 ref49_has_F3 ((l, s, i, ()), ())
theorem ref49_has_l3_eq (l : (List ByteArray)) (s : ByteArray) (i : Int) : ref49_has_l3 l s i =
  if (decide (i < (l.length : Int))) = true then
    if 0 ≤ i ∧ i < (l.length : Int) then
      if ((l.getD i.toNat (strB [])).toList == s.toList) = true then
        some ((true, ()), ())
      else
        ref49_has_l3 l s (IntKind.i64.wrap (i + 1))
    else
      none
  else
    some ((false, ()), ()) := (FD.lab_eq _ _ _ _).trans (by kernel_rfl)
def ref49_has (l : (List ByteArray)) (s : ByteArray) : (Option ((Bool × Unit) × Unit)) :=
  ref49_has_l3 l s 0
def fc24 : FC := ⟨⟨[.one (.sl .str), .one .str], []⟩, ⟨[.one .bool], []⟩, fun x => ref49_has x.1.1 x.1.2.1⟩
theorem con24 : Contract Tryd.prog 24 fc24 :=
  ref49_has_D.contract tok (cok_of (l := []) trivial) mixed (fn' := Tryd.f24) (by kernel_rfl) (by kernel_rfl) rfl (by kernel_rfl) (fun x => (FD.fn_eq _ _).trans (by kernel_rfl))
end
end Go.Proofs.YtejehchbflmofaaDoor
end

section
/-
YtejehchbflmofaaDoor: signalbench.signalbenchref49.Check, as one plain function, its equations, its contract. No condition.
-/
set_option maxRecDepth 100000
set_option linter.unusedVariables false
set_option maxHeartbeats 4000000
open Go Go.AM
namespace Go.Proofs.YtejehchbflmofaaDoor
noncomputable section
def ref49_Check_F10 : FSh := ⟨[(1, .one (.sl (.cons (.int .i64) (.cons .str (.cons .str (.cons .bool (.cons (.int .i64) (.int .i64)))))))), (2, .one (.ptr 0 0)), (7, .one (.int .i64))], [.boxr 25 (.cons (.sl .str) (.sl (.cons (.int .i64) (.int .i64))))]⟩
def ref49_Check_D : FD := ⟨T, lookC [(22, fc22), (23, fc23), (24, fc24), (25, fc25)], [], (Tryd.f10.body.getD .skip), Tryd.f10.results.toList, ⟨[.row (.cons (.sl .str) (.sl (.cons (.int .i64) (.int .i64)))), .one (.sl (.cons (.int .i64) (.cons .str (.cons .str (.cons .bool (.cons (.int .i64) (.int .i64)))))))], []⟩, ⟨[.one (.int .i64), .one (.int .i64)], []⟩, [(10, ref49_Check_F10)]⟩
def ref49_Check_l10 (l : (List TLimit)) (i : Int) (h0 : TCapture) : (Option ((Int × Int × Unit) × Unit)) := ref49_Check_D.lab 10 ref49_Check_F10 ((l, (), i, ()), (h0, ()))
theorem ref49_Check_l10_eq (l : (List TLimit)) (i : Int) (h0 : TCapture) : ref49_Check_l10 l i h0 =
  if (decide (i < (l.length : Int))) = true then
    if 0 ≤ i ∧ i < (l.length : Int) then
      (ref49_bad (l.getD i.toNat dLimit)).bind fun y1 =>
        if y1.1.1 = true then
          some ((i, 1, ()), ())
        else
          if 0 ≤ i ∧ i < (l.length : Int) then
            (ref49_has h0.1 (l.getD i.toNat dLimit).2.1).bind fun y2 =>
              if (!y2.1.1) = true then
                some ((i, 8, ()), ())
              else
                if 0 ≤ i ∧ i < (l.length : Int) then
                  (ref49_clocked (l.getD i.toNat dLimit)).bind fun y3 =>
                    if y3.1.1 = true then
                      if 0 ≤ i ∧ i < (l.length : Int) then
                        (ref49_has h0.1 (l.getD i.toNat dLimit).2.2.1).bind fun y4 =>
                          if (!y4.1.1) = true then
                            some ((i, 8, ()), ())
                          else
                            ref49_Check_l10 l (IntKind.i64.wrap (i + 1)) h0
                      else
                        none
                    else
                      ref49_Check_l10 l (IntKind.i64.wrap (i + 1)) h0
                else
                  none
          else
            none
    else
      none
  else
    some (((-1), 0, ()), ()) := (FD.lab_eq _ _ _ _).trans (by kernel_rfl)
def ref49_Check (c : TCapture) (l : (List TLimit)) : (Option ((Int × Int × Unit) × Unit)) :=
  (ref09_Check c).bind fun y1 =>
    if (y1.1.1 != 0) = true then
      some (((-1), y1.1.1, ()), ())
    else
      if (decide ((l.length : Int) > 64)) = true then
        some (((-1), 6, ()), ())
      else
        ref49_Check_l10 l 0 c
def fc10 : FC := ⟨⟨[.row (.cons (.sl .str) (.sl (.cons (.int .i64) (.int .i64)))), .one (.sl (.cons (.int .i64) (.cons .str (.cons .str (.cons .bool (.cons (.int .i64) (.int .i64)))))))], []⟩, ⟨[.one (.int .i64), .one (.int .i64)], []⟩, fun x => ref49_Check x.1.1 x.1.2.1⟩
theorem con10 : Contract Tryd.prog 10 fc10 :=
  ref49_Check_D.contract tok (cok_of (l := [(22, fc22), (23, fc23), (24, fc24), (25, fc25)]) ⟨con22, con23, con24, con25, trivial⟩) mixed (fn' := Tryd.f10) (by kernel_rfl) (by kernel_rfl) rfl (by kernel_rfl) (fun x => (FD.fn_eq _ _).trans (by kernel_rfl))
end
end Go.Proofs.YtejehchbflmofaaDoor
end

section
/-
YtejehchbflmofaaDoor: signalbench.wave.Valid, as one plain function, its equations, its contract. No condition.
-/
set_option maxRecDepth 100000
set_option linter.unusedVariables false
set_option maxHeartbeats 4000000
open Go Go.AM
namespace Go.Proofs.YtejehchbflmofaaDoor
noncomputable section
def wave_Valid_F7 : FSh := ⟨[(3, .one (.int .i64)), (9, .one (.sl (.cons (.int .i64) (.int .i64)))), (10, .one (.int .i64)), (11, .one (.int .i64))], []⟩
def wave_Valid_D : FD := ⟨T, lookC [], [], (Tryd.f100.body.getD .skip), Tryd.f100.results.toList, ⟨[.one (.sl (.cons (.int .i64) (.int .i64)))], []⟩, ⟨[.one .bool], []⟩, [(7, wave_Valid_F7)]⟩
def wave_Valid_l7 (left : Int) (t9 : (List TGap)) (t10 : Int) (t11 : Int) : (Option ((Bool × Unit) × Unit)) := wave_Valid_D.lab 7 wave_Valid_F7 ((left, t9, t10, t11, ()), ())
theorem wave_Valid_l7_eq (left : Int) (t9 : (List TGap)) (t10 : Int) (t11 : Int) : wave_Valid_l7 left t9 t10 t11 =
  if (decide (t11 < t10)) = true then
    if 0 ≤ t11 ∧ t11 < (t9.length : Int) then
      if ((IntKind.i64.wrap (BitVec.ofInt 64 (t9.getD t11.toNat dGap).1 &&& ~~~ BitVec.ofInt 64 1).toNat) != 0) = true then
        some ((false, ()), ())
      else
        if (decide ((t9.getD t11.toNat dGap).2 < 1)) = true then
          some ((false, ()), ())
        else
          if (decide ((t9.getD t11.toNat dGap).2 > left)) = true then
            some ((false, ()), ())
          else
            wave_Valid_l7 (IntKind.i64.wrap (left - (t9.getD t11.toNat dGap).2)) t9 t10 (IntKind.i64.wrap (t11 + 1))
    else
      none
  else
    some ((true, ()), ()) := (FD.lab_eq _ _ _ _).trans (by kernel_rfl)
def wave_Valid (l : (List TGap)) : (Option ((Bool × Unit) × Unit)) :=
  if (decide ((l.length : Int) > 262144)) = true then
    some ((false, ()), ())
  else
    wave_Valid_l7 1099511627776 l (l.length : Int) 0
def fc100 : FC := ⟨⟨[.one (.sl (.cons (.int .i64) (.int .i64)))], []⟩, ⟨[.one .bool], []⟩, fun x => wave_Valid x.1.1⟩
theorem con100 : Contract Tryd.prog 100 fc100 :=
  wave_Valid_D.contract tok (cok_of (l := []) trivial) mixed (fn' := Tryd.f100) (by kernel_rfl) (by kernel_rfl) rfl (by kernel_rfl) (fun x => (FD.fn_eq _ _).trans (by kernel_rfl))
end
end Go.Proofs.YtejehchbflmofaaDoor
end

section
/-
YtejehchbflmofaaDoor: signalbench.wave.joined, as one plain function, its equations, its contract. No condition.
-/
set_option maxRecDepth 100000
set_option linter.unusedVariables false
set_option maxHeartbeats 4000000
open Go Go.AM
namespace Go.Proofs.YtejehchbflmofaaDoor
noncomputable section
def wave_joined_F4 : FSh := ⟨[(3, .one (.own 0)), (7, .one (.sl (.cons (.int .i64) (.int .i64)))), (8, .one (.int .i64)), (9, .one (.int .i64))], [.arr 57 (.cons (.int .i64) (.int .i64)) true]⟩
def wave_joined_D : FD := ⟨T, lookC [], [], (Tryd.f101.body.getD .skip), Tryd.f101.results.toList, ⟨[.one (.sl (.cons (.int .i64) (.int .i64)))], []⟩, ⟨[.one (.sl (.cons (.int .i64) (.int .i64)))], []⟩, [(4, wave_joined_F4)]⟩
def wave_joined_l4 (t7 : (List TGap)) (t8 : Int) (t9 : Int) (l0 : (List TGap)) : (Option (((List TGap) × Unit) × Unit)) := wave_joined_D.lab 4 wave_joined_F4 (((), t7, t8, t9, ()), (l0, ()))
theorem wave_joined_l4_eq (t7 : (List TGap)) (t8 : Int) (t9 : Int) (l0 : (List TGap)) : wave_joined_l4 t7 t8 t9 l0 =
  if (decide (t9 < t8)) = true then
    if 0 ≤ t9 ∧ t9 < (t7.length : Int) then
      if (decide ((l0.length : Int) > 0)) = true then
        if 0 ≤ IntKind.i64.wrap ((l0.length : Int) - 1) ∧ IntKind.i64.wrap ((l0.length : Int) - 1) < (l0.length : Int) then
          if ((l0.getD (IntKind.i64.wrap ((l0.length : Int) - 1)).toNat dGap).1 == (t7.getD t9.toNat dGap).1) = true then
            if 0 ≤ IntKind.i64.wrap ((l0.length : Int) - 1) ∧ IntKind.i64.wrap ((l0.length : Int) - 1) < (l0.length : Int) then
              if 0 ≤ IntKind.i64.wrap ((l0.length : Int) - 1) ∧ IntKind.i64.wrap ((l0.length : Int) - 1) < (l0.length : Int) then
                wave_joined_l4 t7 t8 (IntKind.i64.wrap (t9 + 1)) (l0.set (IntKind.i64.wrap ((l0.length : Int) - 1)).toNat ((l0.getD (IntKind.i64.wrap ((l0.length : Int) - 1)).toNat dGap).1, IntKind.i64.wrap ((l0.getD (IntKind.i64.wrap ((l0.length : Int) - 1)).toNat dGap).2 + (t7.getD t9.toNat dGap).2)))
              else
                none
            else
              none
          else
            if (l0.length + 1) * 16 ≤ 140737488355328 ∧ 0 < 16 then
              wave_joined_l4 t7 t8 (IntKind.i64.wrap (t9 + 1)) (l0 ++ [(t7.getD t9.toNat dGap)])
            else
              none
        else
          none
      else
        if (l0.length + 1) * 16 ≤ 140737488355328 ∧ 0 < 16 then
          wave_joined_l4 t7 t8 (IntKind.i64.wrap (t9 + 1)) (l0 ++ [(t7.getD t9.toNat dGap)])
        else
          none
    else
      none
  else
    some ((l0, ()), ()) := (FD.lab_eq _ _ _ _).trans (by kernel_rfl)
def wave_joined (l : (List TGap)) : (Option (((List TGap) × Unit) × Unit)) :=
  wave_joined_l4 l (l.length : Int) 0 []
def fc101 : FC := ⟨⟨[.one (.sl (.cons (.int .i64) (.int .i64)))], []⟩, ⟨[.one (.sl (.cons (.int .i64) (.int .i64)))], []⟩, fun x => wave_joined x.1.1⟩
theorem con101 : Contract Tryd.prog 101 fc101 :=
  wave_joined_D.contract tok (cok_of (l := []) trivial) mixed (fn' := Tryd.f101) (by kernel_rfl) (by kernel_rfl) rfl (by kernel_rfl) (fun x => (FD.fn_eq _ _).trans (by kernel_rfl))
end
end Go.Proofs.YtejehchbflmofaaDoor
end

section
/-
YtejehchbflmofaaDoor: signalbench.measure.follower$1, as one plain function, its equations, its contract. No condition.
-/
set_option maxRecDepth 100000
set_option linter.unusedVariables false
set_option maxHeartbeats 4000000
open Go Go.AM
namespace Go.Proofs.YtejehchbflmofaaDoor
noncomputable section
def measure_follower_1_F2 : FSh := ⟨[(0, .one (.int .i64)), (1, .one (.ptr 0 0)), (2, .one (.ptr 1 0))], [.box 3 [(.int .i64)], .box 130 [(.sl (.int .i64))]]⟩
def measure_follower_1_D : FD := ⟨T, lookC [], [], (Tryd.f105.body.getD .skip), Tryd.f105.results.toList, ⟨[.one (.int .i64), .one (.ptr 0 0), .one (.ptr 1 0)], [.box 3 [(.int .i64)], .box 130 [(.sl (.int .i64))]]⟩, ⟨[.one (.int .i64), .one .bool], [.box 3 [(.int .i64)], .box 130 [(.sl (.int .i64))]]⟩, [(2, measure_follower_1_F2)]⟩
def measure_follower_1_l2 (t : Int) (h0_0 : Int) (h1_0 : (List Int)) : (Option ((Int × Bool × Unit) × ((Int × Unit) × ((List Int) × Unit) × Unit))) := measure_follower_1_D.lab 2 measure_follower_1_F2 ((t, (), (), ()), ((h0_0, ()), (h1_0, ()), ()))
theorem measure_follower_1_l2_eq (t : Int) (h0_0 : Int) (h1_0 : (List Int)) : measure_follower_1_l2 t h0_0 h1_0 =
  if (decide (h0_0 < (h1_0.length : Int))) = true then
    if 0 ≤ h0_0 ∧ h0_0 < (h1_0.length : Int) then
      if (decide ((h1_0.getD h0_0.toNat 0) ≤ t)) = true then
        measure_follower_1_l2 t (IntKind.i64.wrap (h0_0 + 1)) h1_0
      else
        if (h0_0 == (h1_0.length : Int)) = true then
          some ((0, false, ()), ((h0_0, ()), (h1_0, ()), ()))
        else
          if 0 ≤ h0_0 ∧ h0_0 < (h1_0.length : Int) then
            some ((h1_0.getD h0_0.toNat 0, true, ()), ((h0_0, ()), (h1_0, ()), ()))
          else
            none
    else
      none
  else
    if (h0_0 == (h1_0.length : Int)) = true then
      some ((0, false, ()), ((h0_0, ()), (h1_0, ()), ()))
    else
      if 0 ≤ h0_0 ∧ h0_0 < (h1_0.length : Int) then
        some ((h1_0.getD h0_0.toNat 0, true, ()), ((h0_0, ()), (h1_0, ()), ()))
      else
        none := (FD.lab_eq _ _ _ _).trans (by kernel_rfl)
def measure_follower_1 (t : Int) (h0_0 : Int) (h1_0 : (List Int)) : (Option ((Int × Bool × Unit) × ((Int × Unit) × ((List Int) × Unit) × Unit))) :=
  measure_follower_1_l2 t h0_0 h1_0
def fc105 : FC := ⟨⟨[.one (.int .i64), .one (.ptr 0 0), .one (.ptr 1 0)], [.box 3 [(.int .i64)], .box 130 [(.sl (.int .i64))]]⟩, ⟨[.one (.int .i64), .one .bool], [.box 3 [(.int .i64)], .box 130 [(.sl (.int .i64))]]⟩, fun x => measure_follower_1 x.1.1 x.2.1.1 x.2.2.1.1⟩
theorem con105 : Contract Tryd.prog 105 fc105 :=
  measure_follower_1_D.contract tok (cok_of (l := []) trivial) mixed (fn' := Tryd.f105) (by kernel_rfl) (by kernel_rfl) rfl (by kernel_rfl) (fun x => (FD.fn_eq _ _).trans (by kernel_rfl))
end
end Go.Proofs.YtejehchbflmofaaDoor
end

section
/-
YtejehchbflmofaaDoor: signalbench.measure.follower, as one plain function, its equations, its contract. No condition.
-/
set_option maxRecDepth 100000
set_option linter.unusedVariables false
set_option maxHeartbeats 4000000
open Go Go.AM
namespace Go.Proofs.YtejehchbflmofaaDoor
noncomputable section
def measure_follower_D : FD := ⟨T, lookC [(105, fc105)], [], (Tryd.f102.body.getD .skip), Tryd.f102.results.toList, ⟨[.one (.sl (.int .i64))], []⟩, ⟨[.one (.fn 105 [0, 1])], [.box 3 [(.int .i64)], .box 130 [(.sl (.int .i64))]]⟩, []⟩
def measure_follower (l : (List Int)) : (Option ((Unit × Unit) × ((Int × Unit) × ((List Int) × Unit) × Unit))) :=
  some (((), ()), ((0, ()), (l, ()), ()))
def fc102 : FC := ⟨⟨[.one (.sl (.int .i64))], []⟩, ⟨[.one (.fn 105 [0, 1])], [.box 3 [(.int .i64)], .box 130 [(.sl (.int .i64))]]⟩, fun x => measure_follower x.1.1⟩
theorem con102 : Contract Tryd.prog 102 fc102 :=
  measure_follower_D.contract tok (cok_of (l := [(105, fc105)]) ⟨con105, trivial⟩) mixed (fn' := Tryd.f102) (by kernel_rfl) (by kernel_rfl) rfl (by kernel_rfl) (fun x => (FD.fn_eq _ _).trans (by kernel_rfl))
end
end Go.Proofs.YtejehchbflmofaaDoor
end

section
/-
YtejehchbflmofaaDoor: signalbench.limit.clocked, as one plain function, its equations, its contract. No condition.
-/
set_option maxRecDepth 100000
set_option linter.unusedVariables false
set_option maxHeartbeats 4000000
open Go Go.AM
namespace Go.Proofs.YtejehchbflmofaaDoor
noncomputable section
def limit_clocked_D : FD := ⟨T, lookC [], [], (Tryd.f21.body.getD .skip), Tryd.f21.results.toList, ⟨[.row (.cons (.int .i64) (.cons .str (.cons .str (.cons .bool (.cons (.int .i64) (.int .i64))))))], []⟩, ⟨[.one .bool], []⟩, []⟩
def limit_clocked (x0 : TLimit) : (Option ((Bool × Unit) × Unit)) :=
  if (x0.1 == 4) = true then
    some ((true, ()), ())
  else
    if (x0.1 == 5) = true then
      some ((true, ()), ())
    else
      some ((x0.1 == 6, ()), ())
def fc21 : FC := ⟨⟨[.row (.cons (.int .i64) (.cons .str (.cons .str (.cons .bool (.cons (.int .i64) (.int .i64))))))], []⟩, ⟨[.one .bool], []⟩, fun x => limit_clocked x.1.1⟩
theorem con21 : Contract Tryd.prog 21 fc21 :=
  limit_clocked_D.contract tok (cok_of (l := []) trivial) mixed (fn' := Tryd.f21) (by kernel_rfl) (by kernel_rfl) rfl (by kernel_rfl) (fun x => (FD.fn_eq _ _).trans (by kernel_rfl))
end
end Go.Proofs.YtejehchbflmofaaDoor
end

section
/-
YtejehchbflmofaaDoor: signalbench.limit.form, as one plain function, its equations, its contract. No condition.
-/
set_option maxRecDepth 100000
set_option linter.unusedVariables false
set_option maxHeartbeats 4000000
open Go Go.AM
namespace Go.Proofs.YtejehchbflmofaaDoor
noncomputable section
def limit_form_D : FD := ⟨T, lookC [(21, fc21)], [], (Tryd.f19.body.getD .skip), Tryd.f19.results.toList, ⟨[.row (.cons (.int .i64) (.cons .str (.cons .str (.cons .bool (.cons (.int .i64) (.int .i64))))))], []⟩, ⟨[.one (.int .i64)], []⟩, []⟩
def limit_form (x0 : TLimit) : (Option ((Int × Unit) × Unit)) :=
  if (decide (x0.1 < 1)) = true then
    some ((1, ()), ())
  else
    if (decide (x0.1 > 6)) = true then
      some ((1, ()), ())
    else
      if (decide (x0.2.2.2.2.1 < 0)) = true then
        some ((1, ()), ())
      else
        if (decide (x0.2.2.2.2.1 > x0.2.2.2.2.2)) = true then
          some ((1, ()), ())
        else
          if (decide (x0.2.2.2.2.2 > 1099511627776)) = true then
            some ((1, ()), ())
          else
            (limit_clocked x0).bind fun y1 =>
              if (!y1.1.1) = true then
                if (!(x0.2.2.1.toList == (strB []).toList)) = true then
                  some ((1, ()), ())
                else
                  if x0.2.2.2.1 = true then
                    some ((1, ()), ())
                  else
                    some ((0, ()), ())
              else
                some ((0, ()), ())
def fc19 : FC := ⟨⟨[.row (.cons (.int .i64) (.cons .str (.cons .str (.cons .bool (.cons (.int .i64) (.int .i64))))))], []⟩, ⟨[.one (.int .i64)], []⟩, fun x => limit_form x.1.1⟩
theorem con19 : Contract Tryd.prog 19 fc19 :=
  limit_form_D.contract tok (cok_of (l := [(21, fc21)]) ⟨con21, trivial⟩) mixed (fn' := Tryd.f19) (by kernel_rfl) (by kernel_rfl) rfl (by kernel_rfl) (fun x => (FD.fn_eq _ _).trans (by kernel_rfl))
end
end Go.Proofs.YtejehchbflmofaaDoor
end

section
/-
YtejehchbflmofaaDoor: signalbench.lex.letter, as one plain function, its equations, its contract. No condition.
-/
set_option maxRecDepth 100000
set_option linter.unusedVariables false
set_option maxHeartbeats 4000000
open Go Go.AM
namespace Go.Proofs.YtejehchbflmofaaDoor
noncomputable section
def lex_letter_D : FD := ⟨T, lookC [], [], (Tryd.f39.body.getD .skip), Tryd.f39.results.toList, ⟨[.one (.int .i32)], []⟩, ⟨[.one .bool], []⟩, []⟩
def lex_letter (c : Int) : (Option ((Bool × Unit) × Unit)) :=
  if (decide ((97 : Int) ≤ c)) = true then
    some ((decide (c ≤ 122), ()), ())
  else
    some ((false, ()), ())
def fc39 : FC := ⟨⟨[.one (.int .i32)], []⟩, ⟨[.one .bool], []⟩, fun x => lex_letter x.1.1⟩
theorem con39 : Contract Tryd.prog 39 fc39 :=
  lex_letter_D.contract tok (cok_of (l := []) trivial) mixed (fn' := Tryd.f39) (by kernel_rfl) (by kernel_rfl) rfl (by kernel_rfl) (fun x => (FD.fn_eq _ _).trans (by kernel_rfl))
end
end Go.Proofs.YtejehchbflmofaaDoor
end

section
/-
YtejehchbflmofaaDoor: signalbench.lex.digit, as one plain function, its equations, its contract. No condition.
-/
set_option maxRecDepth 100000
set_option linter.unusedVariables false
set_option maxHeartbeats 4000000
open Go Go.AM
namespace Go.Proofs.YtejehchbflmofaaDoor
noncomputable section
def lex_digit_D : FD := ⟨T, lookC [], [], (Tryd.f54.body.getD .skip), Tryd.f54.results.toList, ⟨[.one (.int .i32)], []⟩, ⟨[.one .bool], []⟩, []⟩
def lex_digit (c : Int) : (Option ((Bool × Unit) × Unit)) :=
  if (decide ((48 : Int) ≤ c)) = true then
    some ((decide (c ≤ 57), ()), ())
  else
    some ((false, ()), ())
def fc54 : FC := ⟨⟨[.one (.int .i32)], []⟩, ⟨[.one .bool], []⟩, fun x => lex_digit x.1.1⟩
theorem con54 : Contract Tryd.prog 54 fc54 :=
  lex_digit_D.contract tok (cok_of (l := []) trivial) mixed (fn' := Tryd.f54) (by kernel_rfl) (by kernel_rfl) rfl (by kernel_rfl) (fun x => (FD.fn_eq _ _).trans (by kernel_rfl))
end
end Go.Proofs.YtejehchbflmofaaDoor
end

section
/-
YtejehchbflmofaaDoor: signalbench.lex.word, as one plain function, its equations, its contract. No condition.
-/
set_option maxRecDepth 100000
set_option linter.unusedVariables false
set_option maxHeartbeats 4000000
open Go Go.AM
namespace Go.Proofs.YtejehchbflmofaaDoor
noncomputable section
def lex_word_D : FD := ⟨T, lookC [(39, fc39), (54, fc54)], [], (Tryd.f40.body.getD .skip), Tryd.f40.results.toList, ⟨[.one (.int .i32)], []⟩, ⟨[.one .bool], []⟩, []⟩
def lex_word (c : Int) : (Option ((Bool × Unit) × Unit)) :=
  (lex_letter c).bind fun y1 =>
    if y1.1.1 = true then
      some ((true, ()), ())
    else
      (lex_digit c).bind fun y2 =>
        if y2.1.1 = true then
          some ((true, ()), ())
        else
          some ((c == 95, ()), ())
def fc40 : FC := ⟨⟨[.one (.int .i32)], []⟩, ⟨[.one .bool], []⟩, fun x => lex_word x.1.1⟩
theorem con40 : Contract Tryd.prog 40 fc40 :=
  lex_word_D.contract tok (cok_of (l := [(39, fc39), (54, fc54)]) ⟨con39, con54, trivial⟩) mixed (fn' := Tryd.f40) (by kernel_rfl) (by kernel_rfl) rfl (by kernel_rfl) (fun x => (FD.fn_eq _ _).trans (by kernel_rfl))
end
end Go.Proofs.YtejehchbflmofaaDoor
end

section
/-
YtejehchbflmofaaDoor: signalbench.lex.Name, as one plain function, its equations, its contract. No condition.
-/
set_option maxRecDepth 100000
set_option linter.unusedVariables false
set_option maxHeartbeats 4000000
open Go Go.AM
namespace Go.Proofs.YtejehchbflmofaaDoor
noncomputable section
def lex_Name_F6 : FSh := ⟨[(0, .one .str), (19, .one (.int .i64)), (20, .one (.int .i64))], []⟩
def lex_Name_D : FD := ⟨T, lookC [(39, fc39), (40, fc40)], [], (Tryd.f26.body.getD .skip), Tryd.f26.results.toList, ⟨[.one .str], []⟩, ⟨[.one .bool], []⟩, [(6, lex_Name_F6)]⟩
def lex_Name_l6 (s : ByteArray) (t19 : Int) (t20 : Int) : (Option ((Bool × Unit) × Unit)) := lex_Name_D.lab 6 lex_Name_F6 ((s, t19, t20, ()), ())
theorem lex_Name_l6_eq (s : ByteArray) (t19 : Int) (t20 : Int) : lex_Name_l6 s t19 t20 =
  if (decide (t20 < t19)) = true then
    if 0 ≤ t20 ∧ t20 < (s.size : Int) then
      (lex_word (IntKind.i32.wrap (bt s t20))).bind fun y1 =>
        if (!y1.1.1) = true then
          some ((false, ()), ())
        else
          lex_Name_l6 s t19 (IntKind.i64.wrap (t20 + 1))
    else
      none
  else
    some ((true, ()), ()) := (FD.lab_eq _ _ _ _).trans (by kernel_rfl)
def lex_Name (s : ByteArray) : (Option ((Bool × Unit) × Unit)) :=
  if (s.toList == (strB []).toList) = true then
    some ((false, ()), ())
  else
    if (decide ((s.size : Int) > 16)) = true then
      some ((false, ()), ())
    else
      if 0 ≤ (0 : Int) ∧ 0 < (s.size : Int) then
        (lex_letter (IntKind.i32.wrap (bt s 0))).bind fun y1 =>
          if (!y1.1.1) = true then
            some ((false, ()), ())
          else
            lex_Name_l6 s (s.size : Int) 0
      else
        none
def fc26 : FC := ⟨⟨[.one .str], []⟩, ⟨[.one .bool], []⟩, fun x => lex_Name x.1.1⟩
theorem con26 : Contract Tryd.prog 26 fc26 :=
  lex_Name_D.contract tok (cok_of (l := [(39, fc39), (40, fc40)]) ⟨con39, con40, trivial⟩) mixed (fn' := Tryd.f26) (by kernel_rfl) (by kernel_rfl) rfl (by kernel_rfl) (fun x => (FD.fn_eq _ _).trans (by kernel_rfl))
end
end Go.Proofs.YtejehchbflmofaaDoor
end

section
/-
YtejehchbflmofaaDoor: signalbench.limit.name, as one plain function, its equations, its contract. No condition.
-/
set_option maxRecDepth 100000
set_option linter.unusedVariables false
set_option maxHeartbeats 4000000
open Go Go.AM
namespace Go.Proofs.YtejehchbflmofaaDoor
noncomputable section
def limit_name_D : FD := ⟨T, lookC [], [], (Tryd.f27.body.getD .skip), Tryd.f27.results.toList, ⟨[.one .str], []⟩, ⟨[.row (.cons (.int .i64) (.cons .str (.cons (.int .i64) (.int .i64))))], []⟩, []⟩
def limit_name (s : ByteArray) : (Option ((TToken × Unit) × Unit)) :=
  some (((1, s, 0, 0), ()), ())
def fc27 : FC := ⟨⟨[.one .str], []⟩, ⟨[.row (.cons (.int .i64) (.cons .str (.cons (.int .i64) (.int .i64))))], []⟩, fun x => limit_name x.1.1⟩
theorem con27 : Contract Tryd.prog 27 fc27 :=
  limit_name_D.contract tok (cok_of (l := []) trivial) mixed (fn' := Tryd.f27) (by kernel_rfl) (by kernel_rfl) rfl (by kernel_rfl) (fun x => (FD.fn_eq _ _).trans (by kernel_rfl))
end
end Go.Proofs.YtejehchbflmofaaDoor
end

section
/-
YtejehchbflmofaaDoor: signalbench.limit.word, as one plain function, its equations, its contract. No condition.
-/
set_option maxRecDepth 100000
set_option linter.unusedVariables false
set_option maxHeartbeats 4000000
open Go Go.AM
namespace Go.Proofs.YtejehchbflmofaaDoor
noncomputable section
def limit_word_D : FD := ⟨T, lookC [], [], (Tryd.f28.body.getD .skip), Tryd.f28.results.toList, ⟨[.one (.int .i64)], []⟩, ⟨[.one .str], []⟩, []⟩
def limit_word (measure : Int) : (Option ((ByteArray × Unit) × Unit)) :=
  if 0 ≤ measure ∧ measure < (7 : Int) then
    some (([(strB []), (strB [112, 101, 114, 105, 111, 100]), (strB [104, 105, 103, 104]), (strB [108, 111, 119]), (strB [115, 101, 116, 117, 112]), (strB [104, 111, 108, 100]), (strB [100, 101, 108, 97, 121])].getD measure.toNat (strB []), ()), ())
  else
    none
def fc28 : FC := ⟨⟨[.one (.int .i64)], []⟩, ⟨[.one .str], []⟩, fun x => limit_word x.1.1⟩
theorem con28 : Contract Tryd.prog 28 fc28 :=
  limit_word_D.contract tok (cok_of (l := []) trivial) mixed (fn' := Tryd.f28) (by kernel_rfl) (by kernel_rfl) rfl (by kernel_rfl) (fun x => (FD.fn_eq _ _).trans (by kernel_rfl))
end
end Go.Proofs.YtejehchbflmofaaDoor
end

section
/-
  DERIVED: THE SHELF's CONTRACTS AT THIS DUMP, IN PLAIN WORDS (tools/lay-plain.mjs out of 'TrydShelf.lean', which tools/lay-shelf.mjs wrote): THE SAME DECLARATIONS UNDER THE SAME NAMES: 'import', 'namespace', 'open', 'def', 'theorem' AND NOTHING ELSE: no command of the shelf's: FOR A HAND-IN. Each laying: the table of numbers ('.._ren') and one theorem, a field a fact of the dump's own or the kernel's comparison; each contract: ONE APPLICATION.
-/
namespace Go.Proofs
open Go.Shelf
def Tryd.lays170_ren : Go.Shelf.Ren := ⟨fun | 170 => 45 | n => n, fun | 70 => 82 | 3 => 3 | 0 => 0 | 72 => 85 | 37 => 83 | 5 => 5 | n => n, fun | n => n⟩
theorem Tryd.lays170 : Go.Proofs.Lays.n170 Tryd.prog Tryd.lays170_ren := {
  mixed := by kernel_rfl
  f170 := Tryd.func45.trans (congrArg some (by kernel_rfl))
  t0 := Tryd.underlying0
  a0 := Tryd.isAgg0
  z0 := Tryd.sizeOf0
  v0 := Tryd.zeroValue0
  t3 := Tryd.underlying3
  a3 := Tryd.isAgg3
  z3 := Tryd.sizeOf3
  v3 := Tryd.zeroValue3
  t37 := Tryd.underlying83
  a37 := Tryd.isAgg83
  z37 := Tryd.sizeOf83
  v37 := Tryd.zeroValue83
  t70 := Tryd.underlying82
  a70 := Tryd.isAgg82
  z70 := Tryd.sizeOf82
  v70 := Tryd.zeroValue82
  t72 := Tryd.underlying85
  a72 := Tryd.isAgg85
  z72 := Tryd.sizeOf85
  v72 := Tryd.zeroValue85 }
open Go.RowKit in
/-- (*strings.Builder).Len: "Len returns the number of accumulated bytes; b.Len() == len(b.String()).": the world is as it was. (LAID: no walk: one application.) -/
theorem Tryd.Builder_Len (B b : Nat) (bs : List Value) (w : World) (h : Lib.IsBuilder 85 5 B b bs w) :
    Calls Tryd.prog 45 #[.pointer (some ⟨b, 0, none⟩)] w fun e w' => e = .returned (.int .i64 bs.length) ∧ w' = w := Any.Builder_Len Tryd.lays170 B b bs w h
def Tryd.lays169_ren : Go.Shelf.Ren := ⟨fun | 169 => 46 | n => n, fun | 70 => 82 | 9 => 9 | 0 => 0 | 72 => 85 | 37 => 83 | 127 => 107 | 3 => 3 | 5 => 5 | n => n, fun | n => n⟩
theorem Tryd.lays169 : Go.Proofs.Lays.n169 Tryd.prog Tryd.lays169_ren := {
  mixed := by kernel_rfl
  f169 := Tryd.func46.trans (congrArg some (by kernel_rfl))
  t0 := Tryd.underlying0
  a0 := Tryd.isAgg0
  z0 := Tryd.sizeOf0
  v0 := Tryd.zeroValue0
  t3 := Tryd.underlying3
  a3 := Tryd.isAgg3
  z3 := Tryd.sizeOf3
  v3 := Tryd.zeroValue3
  t9 := Tryd.underlying9
  a9 := Tryd.isAgg9
  z9 := Tryd.sizeOf9
  v9 := Tryd.zeroValue9
  t37 := Tryd.underlying83
  a37 := Tryd.isAgg83
  z37 := Tryd.sizeOf83
  v37 := Tryd.zeroValue83
  t70 := Tryd.underlying82
  a70 := Tryd.isAgg82
  z70 := Tryd.sizeOf82
  v70 := Tryd.zeroValue82
  t72 := Tryd.underlying85
  a72 := Tryd.isAgg85
  z72 := Tryd.sizeOf85
  v72 := Tryd.zeroValue85
  t127 := Tryd.underlying107
  a127 := Tryd.isAgg107
  z127 := Tryd.sizeOf107
  v127 := Tryd.zeroValue107 }
theorem Tryd.Builder_Extra_169 : Builder.Extra Tryd.prog Tryd.lays169_ren := {
  sizeBuilder := by kernel_rfl
  liesBuilder := by kernel_rfl
  t5 := Tryd.underlying5
  a5 := Tryd.isAgg5
  z5 := Tryd.sizeOf5
  v5 := Tryd.zeroValue5
  infoByte := by kernel_rfl
  cellsByte := by kernel_rfl
  sizeByte := by kernel_rfl
  neB5 := by decide }
open Go.RowKit in
/-- (*strings.Builder).String: "String returns the accumulated string.": OF A BUILDER THAT HOLDS AT LEAST ONE BYTE. ✋ THE MODEL FREEZES THOSE BYTES IN THE BUFFER (unsafe.String): a later write INTO them ends the model's run without an answer; a later append BEHIND them goes on. The statement's order of evaluation is drawn: one draw. (LAID: no walk: one application.) -/
theorem Tryd.Builder_String (B b : Nat) (l : List UInt8) (w : World) (h : Lib.IsBuilder 85 5 B b (Lib.byteCells l) w) (h0 : l ≠ []) :
    Calls Tryd.prog 46 #[.pointer (some ⟨b, 0, none⟩)] w fun e w' => e = .returned (.string ⟨l.toArray⟩) ∧ Below B w w' := Any.Builder_String Tryd.lays169 Tryd.Builder_Extra_169 B b l w h h0
open Go.RowKit in
/-- (*strings.Builder).String OF A BUILDER THAT HOLDS NO BYTE: the empty string. (Its buffer is nil, or a row of which it has taken nothing yet; where that row has NO capacity the model lays one new block for unsafe.SliceData's 'some address'.) One draw. (LAID: no walk: one application.) -/
theorem Tryd.Builder_String_empty (B b : Nat) (w : World) (h : Lib.IsBuilder 85 5 B b [] w) (hBw : B ≤ w.heap.size) :
    Calls Tryd.prog 46 #[.pointer (some ⟨b, 0, none⟩)] w fun e w' => e = .returned (.string ⟨#[]⟩) ∧ Below B w w' := Any.Builder_String_empty Tryd.lays169 Tryd.Builder_Extra_169 B b w h hBw
open Go.RowKit in
/-- (*strings.Builder).String: "String returns the accumulated string.": WHATEVER THE BUILDER HOLDS. (LAID: no walk: one application.) -/
theorem Tryd.Builder_String_any (B b : Nat) (l : List UInt8) (w : World) (h : Lib.IsBuilder 85 5 B b (Lib.byteCells l) w) (hBw : B ≤ w.heap.size) :
    Calls Tryd.prog 46 #[.pointer (some ⟨b, 0, none⟩)] w fun e w' => e = .returned (.string ⟨l.toArray⟩) ∧ Below B w w' := Any.Builder_String_any Tryd.lays169 Tryd.Builder_Extra_169 B b l w h hBw
def Tryd.lays137_ren : Go.Shelf.Ren := ⟨fun | 137 => 47 | 217 => 60 | 266 => 77 | n => n, fun | 9 => 9 | 5 => 5 | 3 => 3 | n => n, fun | n => n⟩
theorem Tryd.lays137 : Go.Proofs.Lays.n137 Tryd.prog Tryd.lays137_ren := {
  mixed := by kernel_rfl
  f137 := Tryd.func47.trans (congrArg some (by kernel_rfl))
  f217 := Tryd.func60.trans (congrArg some (by kernel_rfl))
  f266 := Tryd.func77.trans (congrArg some (by kernel_rfl))
  t3 := Tryd.underlying3
  a3 := Tryd.isAgg3
  z3 := Tryd.sizeOf3
  v3 := Tryd.zeroValue3
  t5 := Tryd.underlying5
  a5 := Tryd.isAgg5
  z5 := Tryd.sizeOf5
  v5 := Tryd.zeroValue5
  t9 := Tryd.underlying9
  a9 := Tryd.isAgg9
  z9 := Tryd.sizeOf9
  v9 := Tryd.zeroValue9 }
open Go.RowKit in
/-- strings.IndexByte: "IndexByte returns the index of the first instance of c in s, or -1 if c is not present in s.": IT RETURNS 'Lib.indexByte s c'; the world is as it was. (LAID: no walk: one application.) -/
theorem Tryd.strings_IndexByte (s : ByteArray) (c : Int) (w : World) :
    Calls Tryd.prog 47 #[.string s, .int .u8 c] w fun e w' => e = .returned (.int .i64 (Lib.indexByte s.data.toList c.toNat.toUInt8)) ∧ w' = w := Any.strings_IndexByte Tryd.lays137 s c w
open Go.RowKit in
/-- (*strings.Builder).Len: "Len returns the number of accumulated bytes; b.Len() == len(b.String()).": the world is as it was. (THE FORM '_f': 'Lib.IsBuilderF'.) (LAID: no walk: one application.) -/
theorem Tryd.Builder_Len_f (B b : Nat) (bs : List Value) (w : World) (h : Lib.IsBuilderF 85 5 B b bs w) :
    Calls Tryd.prog 45 #[.pointer (some ⟨b, 0, none⟩)] w fun e w' => e = .returned (.int .i64 bs.length) ∧ w' = w := Any.Builder_Len_f Tryd.lays170 B b bs w h
open Go.RowKit in
/-- (*strings.Builder).String: "String returns the accumulated string.": OF A BUILDER THAT HOLDS AT LEAST ONE BYTE. ✋ THE MODEL FREEZES THOSE BYTES IN THE BUFFER (unsafe.String): a later write INTO them ends the model's run without an answer; a later append BEHIND them goes on. The statement's order of evaluation is drawn: one draw. THE FORM '_f': IT SAYS BESIDES THAT THE BUILDER IS A BUILDER STILL ('Lib.IsBuilderF', the same bytes): SO IT CAN BE WRITTEN ON: 'b.WriteString(b.String()[:k])'. (LAID: no walk: one application.) -/
theorem Tryd.Builder_String_f (B b : Nat) (l : List UInt8) (w : World) (h : Lib.IsBuilderF 85 5 B b (Lib.byteCells l) w) (h0 : l ≠ []) :
    Calls Tryd.prog 46 #[.pointer (some ⟨b, 0, none⟩)] w fun e w' => e = .returned (.string ⟨l.toArray⟩) ∧ (Lib.IsBuilderF 85 5 B b (Lib.byteCells l) w' ∧ Below B w w') := Any.Builder_String_f Tryd.lays169 Tryd.Builder_Extra_169 B b l w h h0
open Go.RowKit in
/-- (*strings.Builder).String OF A BUILDER THAT HOLDS NO BYTE: the empty string; THE FORM '_f': a builder still. (LAID: no walk: one application.) -/
theorem Tryd.Builder_String_empty_f (B b : Nat) (w : World) (h : Lib.IsBuilderF 85 5 B b [] w) (hBw : B ≤ w.heap.size) :
    Calls Tryd.prog 46 #[.pointer (some ⟨b, 0, none⟩)] w fun e w' => e = .returned (.string ⟨#[]⟩) ∧ (Lib.IsBuilderF 85 5 B b [] w' ∧ Below B w w') := Any.Builder_String_empty_f Tryd.lays169 Tryd.Builder_Extra_169 B b w h hBw
open Go.RowKit in
/-- (*strings.Builder).String: "String returns the accumulated string.": WHATEVER THE BUILDER HOLDS; THE FORM '_f': OF A BUILDER THAT MAY HAVE BEEN READ BEFORE; AND IT IS A BUILDER STILL, holding the same bytes: it can be written on. (LAID: no walk: one application.) -/
theorem Tryd.Builder_String_any_f (B b : Nat) (l : List UInt8) (w : World) (h : Lib.IsBuilderF 85 5 B b (Lib.byteCells l) w) (hBw : B ≤ w.heap.size) :
    Calls Tryd.prog 46 #[.pointer (some ⟨b, 0, none⟩)] w fun e w' => e = .returned (.string ⟨l.toArray⟩) ∧ (Lib.IsBuilderF 85 5 B b (Lib.byteCells l) w' ∧ Below B w w') := Any.Builder_String_any_f Tryd.lays169 Tryd.Builder_Extra_169 B b l w h hBw
open Go.RowKit in
/-- (*strings.Builder).String: "String returns the accumulated string.": OF A BUILDER THAT HOLDS AT LEAST ONE BYTE. ✋ THE MODEL FREEZES THOSE BYTES IN THE BUFFER (unsafe.String): a later write INTO them ends the model's run without an answer; a later append BEHIND them goes on. The statement's order of evaluation is drawn: one draw. THE FORM '_k': OVER 'Lib.IsBuilderF' (a builder that 'String()' may have read), AND WITH THE FRAME THAT REACHES ABOVE THE BUILDER: 'Lib.OthersKept': every block that is not b and is no row of uint8's stands as it stood: the iterator of a range among them. (LAID: no walk: one application.) -/
theorem Tryd.Builder_String_k (B b : Nat) (l : List UInt8) (w : World) (h : Lib.IsBuilderF 85 5 B b (Lib.byteCells l) w) (h0 : l ≠ []) :
    Calls Tryd.prog 46 #[.pointer (some ⟨b, 0, none⟩)] w fun e w' => e = .returned (.string ⟨l.toArray⟩) ∧ (Lib.IsBuilderF 85 5 B b (Lib.byteCells l) w' ∧ Below B w w' ∧ Lib.OthersKept 5 (some b) w w') := Any.Builder_String_k Tryd.lays169 Tryd.Builder_Extra_169 B b l w h h0
open Go.RowKit in
/-- (*strings.Builder).String OF A BUILDER THAT HOLDS NO BYTE: the empty string; THE FORM '_k': OVER 'Lib.IsBuilderF' (a builder that 'String()' may have read), AND WITH THE FRAME THAT REACHES ABOVE THE BUILDER: 'Lib.OthersKept': every block that is not b and is no row of uint8's stands as it stood: the iterator of a range among them. (LAID: no walk: one application.) -/
theorem Tryd.Builder_String_empty_k (B b : Nat) (w : World) (h : Lib.IsBuilderF 85 5 B b [] w) (hBw : B ≤ w.heap.size) :
    Calls Tryd.prog 46 #[.pointer (some ⟨b, 0, none⟩)] w fun e w' => e = .returned (.string ⟨#[]⟩) ∧ (Lib.IsBuilderF 85 5 B b [] w' ∧ Below B w w' ∧ Lib.OthersKept 5 (some b) w w') := Any.Builder_String_empty_k Tryd.lays169 Tryd.Builder_Extra_169 B b w h hBw
open Go.RowKit in
/-- (*strings.Builder).String: "String returns the accumulated string.": WHATEVER THE BUILDER HOLDS; THE FORM '_k': OVER 'Lib.IsBuilderF' (a builder that 'String()' may have read), AND WITH THE FRAME THAT REACHES ABOVE THE BUILDER: 'Lib.OthersKept': every block that is not b and is no row of uint8's stands as it stood: the iterator of a range among them. (LAID: no walk: one application.) -/
theorem Tryd.Builder_String_any_k (B b : Nat) (l : List UInt8) (w : World) (h : Lib.IsBuilderF 85 5 B b (Lib.byteCells l) w) (hBw : B ≤ w.heap.size) :
    Calls Tryd.prog 46 #[.pointer (some ⟨b, 0, none⟩)] w fun e w' => e = .returned (.string ⟨l.toArray⟩) ∧ (Lib.IsBuilderF 85 5 B b (Lib.byteCells l) w' ∧ Below B w w' ∧ Lib.OthersKept 5 (some b) w w') := Any.Builder_String_any_k Tryd.lays169 Tryd.Builder_Extra_169 B b l w h hBw
def Tryd.lays129_ren : Go.Shelf.Ren := ⟨fun | 129 => 95 | n => n, fun | 53 => 125 | 3 => 3 | 4 => 4 | 46 => 116 | 5 => 5 | 9 => 9 | n => n, fun | n => n⟩
theorem Tryd.lays129 : Go.Proofs.Lays.n129 Tryd.prog Tryd.lays129_ren := {
  mixed := by kernel_rfl
  f129 := Tryd.func95.trans (congrArg some (by kernel_rfl))
  t3 := Tryd.underlying3
  a3 := Tryd.isAgg3
  z3 := Tryd.sizeOf3
  v3 := Tryd.zeroValue3
  t4 := Tryd.underlying4
  a4 := Tryd.isAgg4
  z4 := Tryd.sizeOf4
  v4 := Tryd.zeroValue4
  t5 := Tryd.underlying5
  a5 := Tryd.isAgg5
  z5 := Tryd.sizeOf5
  v5 := Tryd.zeroValue5
  t9 := Tryd.underlying9
  a9 := Tryd.isAgg9
  z9 := Tryd.sizeOf9
  v9 := Tryd.zeroValue9
  t46 := Tryd.underlying116
  a46 := Tryd.isAgg116
  z46 := Tryd.sizeOf116
  v46 := Tryd.zeroValue116
  t53 := Tryd.underlying125
  a53 := Tryd.isAgg125
  z53 := Tryd.sizeOf125
  v53 := Tryd.zeroValue125 }
/-- bits.Len64: "Len64 returns the minimum number of bits required to represent x; the result is 0 for x == 0.": IT RETURNS 'Lib.bitLen x'; the world is as it was. ('h0', 'h1': x is a uint64.) (LAID: no walk: one application.) -/
theorem Tryd.bits_Len64 (x : Int) (w : World) (h0 : 0 ≤ x) (h1 : x ≤ 18446744073709551615) :
    Calls Tryd.prog 95 #[.int .u64 x] w fun e w' => e = .returned (.int .i64 (Lib.bitLen x.toNat)) ∧ w' = w := Any.bits_Len64 Tryd.lays129 x w h0 h1
def Tryd.lays317_ren : Go.Shelf.Ren := ⟨fun | 317 => 94 | n => n, fun | 3 => 3 | 46 => 116 | n => n, fun | n => n⟩
theorem Tryd.lays317 : Go.Proofs.Lays.n317 Tryd.prog Tryd.lays317_ren := {
  mixed := by kernel_rfl
  f317 := Tryd.func94.trans (congrArg some (by kernel_rfl))
  t3 := Tryd.underlying3
  a3 := Tryd.isAgg3
  z3 := Tryd.sizeOf3
  v3 := Tryd.zeroValue3
  t46 := Tryd.underlying116
  a46 := Tryd.isAgg116
  z46 := Tryd.sizeOf116
  v46 := Tryd.zeroValue116 }
open Go.Lib in
/-- internal/strconv.log10Pow2: "log10Pow2(x) returns ⌊log₁₀ 2**x⌋ = ⌊x * log₁₀ 2⌋.": '(x * 78913) >> 18', at an x up to 64 (a length in bits). The world is as it was. (LAID: no walk: one application.) -/
theorem Tryd.internal_strconv_log10Pow2 (x : Nat) (h : x ≤ 64) (w : World) :
    Calls Tryd.prog 94 #[.int .i64 x] w fun e w' => e = .returned (.int .i64 (Lib.l10 x)) ∧ w' = w := Any.internal_strconv_log10Pow2 Tryd.lays317 x h w
def Tryd.lays318_ren : Go.Shelf.Ren := ⟨fun | 318 => 96 | n => n, fun | 3 => 3 | 4 => 4 | n => n, fun | n => n⟩
theorem Tryd.lays318 : Go.Proofs.Lays.n318 Tryd.prog Tryd.lays318_ren := {
  mixed := by kernel_rfl
  f318 := Tryd.func96.trans (congrArg some (by kernel_rfl))
  t3 := Tryd.underlying3
  a3 := Tryd.isAgg3
  z3 := Tryd.sizeOf3
  v3 := Tryd.zeroValue3
  t4 := Tryd.underlying4
  a4 := Tryd.isAgg4
  z4 := Tryd.sizeOf4
  v4 := Tryd.zeroValue4 }
open Go.Lib in
/-- internal/strconv.bool2: "bool2 converts b to an integer: 1 for true, 0 for false." The world is as it was. (LAID: no walk: one application.) -/
theorem Tryd.internal_strconv_bool2_int (b : Bool) (w : World) :
    Calls Tryd.prog 96 #[.bool b] w fun e w' => e = .returned (.int .i64 (if b then 1 else 0)) ∧ w' = w := Any.internal_strconv_bool2_int Tryd.lays318 b w
def Tryd.lays283_ren : Go.Shelf.Ren := ⟨fun | 283 => 84 | n => n, fun | 3 => 3 | 9 => 9 | 4 => 4 | n => n, fun | n => n⟩
theorem Tryd.lays283 : Go.Proofs.Lays.n283 Tryd.prog Tryd.lays283_ren := {
  mixed := by kernel_rfl
  f283 := Tryd.func84.trans (congrArg some (by kernel_rfl))
  t3 := Tryd.underlying3
  a3 := Tryd.isAgg3
  z3 := Tryd.sizeOf3
  v3 := Tryd.zeroValue3
  t4 := Tryd.underlying4
  a4 := Tryd.isAgg4
  z4 := Tryd.sizeOf4
  v4 := Tryd.zeroValue4
  t9 := Tryd.underlying9
  a9 := Tryd.isAgg9
  z9 := Tryd.sizeOf9
  v9 := Tryd.zeroValue9 }
open Go.Lib in
/-- internal/strconv.small: "small returns the string for an i with 0 <= i < nSmalls.": i's decimal numeral. The world is as it was. (LAID: no walk: one application.) -/
theorem Tryd.internal_strconv_small (i : Nat) (h : i < 100) (w : World) :
    Calls Tryd.prog 84 #[.int .i64 i] w fun e w' => e = .returned (.string ⟨(Lib.decDigits i).toArray⟩) ∧ w' = w := Any.internal_strconv_small Tryd.lays283 i h w
def Tryd.laysM284_ren : Go.Shelf.Ren := ⟨fun | 284 => 85 | 129 => 95 | 317 => 94 | 318 => 96 | n => n, fun | 53 => 125 | 3 => 3 | 212 => 138 | 0 => 0 | 4 => 4 | 46 => 116 | 5 => 5 | 9 => 9 | n => n, fun | 17 => 1 | n => n⟩
theorem Tryd.laysM284 : Go.Proofs.LaysM.n284 Tryd.prog Tryd.laysM284_ren := {
  mixed := by kernel_rfl
  f129 := Tryd.func95.trans (congrArg some (by kernel_rfl))
  f284 := Tryd.func85.trans (congrArg some (by kernel_rfl))
  f317 := Tryd.func94.trans (congrArg some (by kernel_rfl))
  f318 := Tryd.func96.trans (congrArg some (by kernel_rfl))
  t0 := Tryd.underlying0
  a0 := Tryd.isAgg0
  z0 := Tryd.sizeOf0
  v0 := Tryd.zeroValue0
  t3 := Tryd.underlying3
  a3 := Tryd.isAgg3
  z3 := Tryd.sizeOf3
  v3 := Tryd.zeroValue3
  t4 := Tryd.underlying4
  a4 := Tryd.isAgg4
  z4 := Tryd.sizeOf4
  v4 := Tryd.zeroValue4
  t5 := Tryd.underlying5
  a5 := Tryd.isAgg5
  z5 := Tryd.sizeOf5
  v5 := Tryd.zeroValue5
  t9 := Tryd.underlying9
  a9 := Tryd.isAgg9
  z9 := Tryd.sizeOf9
  v9 := Tryd.zeroValue9
  t46 := Tryd.underlying116
  a46 := Tryd.isAgg116
  z46 := Tryd.sizeOf116
  v46 := Tryd.zeroValue116
  t53 := Tryd.underlying125
  a53 := Tryd.isAgg125
  z53 := Tryd.sizeOf125
  v53 := Tryd.zeroValue125
  t212 := Tryd.underlying138
  a212 := Tryd.isAgg138
  z212 := Tryd.sizeOf138
  v212 := Tryd.zeroValue138
  g17 := by kernel_rfl
  i0 := by kernel_rfl
  i3 := by kernel_rfl
  i4 := by kernel_rfl
  i5 := by kernel_rfl
  i9 := by kernel_rfl
  i46 := by kernel_rfl
  i53 := by kernel_rfl
  i212 := by kernel_rfl
  m17 := by kernel_rfl }
open Go.Lib in
/-- internal/strconv.numDigits, at a d that is not 0: THE NUMBER OF d's DECIMAL DIGITS. The world is as it was. (LAID: no walk: one application.) -/
theorem Tryd.internal_strconv_numDigits (u : Nat) (h1 : 1 ≤ u) (h2 : u < 18446744073709551616) (w : World) (htab : Lib.TabIs Tryd.prog w "internal/strconv.uint64pow10" .u64 Lib.pow10Tab) :
    Calls Tryd.prog 85 #[.int .u64 u] w fun e w' => e = .returned (.int .i64 (Lib.nDigits u)) ∧ w' = w := Any.internal_strconv_numDigits Tryd.laysM284 u h1 h2 w htab
def Tryd.lays285_ren : Go.Shelf.Ren := ⟨fun | 285 => 86 | n => n, fun | 37 => 83 | 53 => 125 | 3 => 3 | 4 => 4 | 51 => 139 | 9 => 9 | 5 => 5 | 0 => 0 | n => n, fun | n => n⟩
theorem Tryd.lays285 : Go.Proofs.Lays.n285 Tryd.prog Tryd.lays285_ren := {
  mixed := by kernel_rfl
  f285 := Tryd.func86.trans (congrArg some (by kernel_rfl))
  t0 := Tryd.underlying0
  a0 := Tryd.isAgg0
  z0 := Tryd.sizeOf0
  v0 := Tryd.zeroValue0
  t3 := Tryd.underlying3
  a3 := Tryd.isAgg3
  z3 := Tryd.sizeOf3
  v3 := Tryd.zeroValue3
  t4 := Tryd.underlying4
  a4 := Tryd.isAgg4
  z4 := Tryd.sizeOf4
  v4 := Tryd.zeroValue4
  t5 := Tryd.underlying5
  a5 := Tryd.isAgg5
  z5 := Tryd.sizeOf5
  v5 := Tryd.zeroValue5
  t9 := Tryd.underlying9
  a9 := Tryd.isAgg9
  z9 := Tryd.sizeOf9
  v9 := Tryd.zeroValue9
  t37 := Tryd.underlying83
  a37 := Tryd.isAgg83
  z37 := Tryd.sizeOf83
  v37 := Tryd.zeroValue83
  t51 := Tryd.underlying139
  a51 := Tryd.isAgg139
  z51 := Tryd.sizeOf139
  v51 := Tryd.zeroValue139
  t53 := Tryd.underlying125
  a53 := Tryd.isAgg125
  z53 := Tryd.sizeOf125
  v53 := Tryd.zeroValue125 }
open Go.RowKit Go.Sort Go.Lib in
/-- internal/strconv.formatBase10: "formatBase10 formats the decimal representation of u into a. The caller is responsible for ensuring that a is big enough to hold u. If a is too big, leading zeros will be filled in as needed.": THE ROW HOLDS u's DIGITS ('FmtInv .. 0 ..': every place t holds 'dg u (len - 1 - t)'); all else is as it was but for the count of draws. (LAID: no walk: one application.) -/
theorem Tryd.internal_strconv_formatBase10 (blk off cap : Nat) (u : Nat) (d : Array UInt8) (w : World) (hH : Holds (fun (b : UInt8) => Value.int .u8 (b.toNat : Int)) w blk off d) (hu : u < 10 ^ d.size) (hu64 : u < 18446744073709551616) (hsz : d.size < 4611686018427387904) :
    Calls Tryd.prog 86 #[.slice (some ⟨blk, off, none⟩) d.size cap, .int .u64 u] w fun e w' =>
      e = .returned (.tuple #[]) ∧ ∃ (n v' : Nat) (dk : Array UInt8), w' = (putRow (fun (b : UInt8) => Value.int .u8 (b.toNat : Int)) w blk off dk).drewN n ∧ FmtInv d.size u 0 v' dk := Any.internal_strconv_formatBase10 Tryd.lays285 blk off cap u d w hH hu hu64 hsz
def Tryd.laysM246_ren : Go.Shelf.Ren := ⟨fun | 246 => 72 | 283 => 84 | 284 => 85 | 285 => 86 | 286 => 87 | 129 => 95 | 317 => 94 | 318 => 96 | 319 => 97 | 320 => 98 | 337 => 103 | 338 => 104 | n => n, fun | 2 => 2 | 3 => 3 | 9 => 9 | 4 => 4 | 171 => 124 | 0 => 0 | 53 => 125 | 37 => 83 | 5 => 5 | 173 => 128 | 212 => 138 | 51 => 139 | 20 => 20 | 213 => 140 | 46 => 116 | 232 => 152 | 233 => 153 | n => n, fun | 17 => 1 | 18 => 2 | 19 => 3 | n => n⟩
theorem Tryd.laysM246 : Go.Proofs.LaysM.n246 Tryd.prog Tryd.laysM246_ren := {
  mixed := by kernel_rfl
  f129 := Tryd.func95.trans (congrArg some (by kernel_rfl))
  f246 := Tryd.func72.trans (congrArg some (by kernel_rfl))
  f283 := Tryd.func84.trans (congrArg some (by kernel_rfl))
  f284 := Tryd.func85.trans (congrArg some (by kernel_rfl))
  f285 := Tryd.func86.trans (congrArg some (by kernel_rfl))
  f286 := Tryd.func87.trans (congrArg some (by kernel_rfl))
  f317 := Tryd.func94.trans (congrArg some (by kernel_rfl))
  f318 := Tryd.func96.trans (congrArg some (by kernel_rfl))
  f319 := Tryd.func97.trans (congrArg some (by kernel_rfl))
  f320 := Tryd.func98.trans (congrArg some (by kernel_rfl))
  f337 := Tryd.func103.trans (congrArg some (by kernel_rfl))
  f338 := Tryd.func104.trans (congrArg some (by kernel_rfl))
  t0 := Tryd.underlying0
  a0 := Tryd.isAgg0
  z0 := Tryd.sizeOf0
  v0 := Tryd.zeroValue0
  t2 := Tryd.underlying2
  a2 := Tryd.isAgg2
  z2 := Tryd.sizeOf2
  v2 := Tryd.zeroValue2
  t3 := Tryd.underlying3
  a3 := Tryd.isAgg3
  z3 := Tryd.sizeOf3
  v3 := Tryd.zeroValue3
  t4 := Tryd.underlying4
  a4 := Tryd.isAgg4
  z4 := Tryd.sizeOf4
  v4 := Tryd.zeroValue4
  t5 := Tryd.underlying5
  a5 := Tryd.isAgg5
  z5 := Tryd.sizeOf5
  v5 := Tryd.zeroValue5
  t9 := Tryd.underlying9
  a9 := Tryd.isAgg9
  z9 := Tryd.sizeOf9
  v9 := Tryd.zeroValue9
  t20 := Tryd.underlying20
  a20 := Tryd.isAgg20
  z20 := Tryd.sizeOf20
  v20 := Tryd.zeroValue20
  t37 := Tryd.underlying83
  a37 := Tryd.isAgg83
  z37 := Tryd.sizeOf83
  v37 := Tryd.zeroValue83
  t46 := Tryd.underlying116
  a46 := Tryd.isAgg116
  z46 := Tryd.sizeOf116
  v46 := Tryd.zeroValue116
  t51 := Tryd.underlying139
  a51 := Tryd.isAgg139
  z51 := Tryd.sizeOf139
  v51 := Tryd.zeroValue139
  t53 := Tryd.underlying125
  a53 := Tryd.isAgg125
  z53 := Tryd.sizeOf125
  v53 := Tryd.zeroValue125
  t171 := Tryd.underlying124
  a171 := Tryd.isAgg124
  z171 := Tryd.sizeOf124
  v171 := Tryd.zeroValue124
  t173 := Tryd.underlying128
  a173 := Tryd.isAgg128
  z173 := Tryd.sizeOf128
  v173 := Tryd.zeroValue128
  t212 := Tryd.underlying138
  a212 := Tryd.isAgg138
  z212 := Tryd.sizeOf138
  v212 := Tryd.zeroValue138
  t213 := Tryd.underlying140
  a213 := Tryd.isAgg140
  z213 := Tryd.sizeOf140
  t232 := Tryd.underlying152
  a232 := Tryd.isAgg152
  z232 := Tryd.sizeOf152
  v232 := Tryd.zeroValue152
  t233 := Tryd.underlying153
  a233 := Tryd.isAgg153
  z233 := Tryd.sizeOf153
  v233 := Tryd.zeroValue153
  g17 := by kernel_rfl
  g18 := by kernel_rfl
  g19 := by kernel_rfl
  i0 := by kernel_rfl
  i2 := by kernel_rfl
  i3 := by kernel_rfl
  i4 := by kernel_rfl
  i5 := by kernel_rfl
  i9 := by kernel_rfl
  i20 := by kernel_rfl
  i37 := by kernel_rfl
  i46 := by kernel_rfl
  i51 := by kernel_rfl
  i53 := by kernel_rfl
  i171 := by kernel_rfl
  i173 := by kernel_rfl
  i212 := by kernel_rfl
  i232 := by kernel_rfl
  i233 := by kernel_rfl
  m17 := by kernel_rfl
  m18 := by kernel_rfl
  m19 := by kernel_rfl }
open Go.RowKit Go.Sort Go.Lib in
/-- internal/strconv.FormatInt: "FormatInt returns the string representation of i in the given base": AT BASE 10: i's decimal numeral, for every int64. The world behind the call: the world before it, new blocks behind the heap, draws. (LAID: no walk: one application.) -/
theorem Tryd.internal_strconv_FormatInt_10 (n : Int) (h0 : -9223372036854775808 ≤ n) (h1 : n ≤ 9223372036854775807) (w : World) (htab : Lib.TabIs Tryd.prog w "internal/strconv.uint64pow10" .u64 Lib.pow10Tab) :
    Calls Tryd.prog 72 #[.int .i64 n, .int .i64 10] w fun e w' => e = .returned (.string ⟨(Lib.itoa n).toArray⟩) ∧ ∃ k os, w' = grow (w.drewN k) os := Any.internal_strconv_FormatInt_10 Tryd.laysM246 n h0 h1 w htab
def Tryd.lays246_ren : Go.Shelf.Ren := ⟨fun | 246 => 72 | 283 => 84 | 284 => 85 | 285 => 86 | 286 => 87 | 129 => 95 | 317 => 94 | 318 => 96 | 319 => 97 | 320 => 98 | 337 => 103 | 338 => 104 | n => n, fun | 2 => 2 | 3 => 3 | 9 => 9 | 4 => 4 | 171 => 124 | 0 => 0 | 53 => 125 | 37 => 83 | 5 => 5 | 173 => 128 | 212 => 138 | 51 => 139 | 20 => 20 | 213 => 140 | 46 => 116 | 232 => 152 | 233 => 153 | n => n, fun | 17 => 1 | 18 => 2 | 19 => 3 | n => n⟩
theorem Tryd.lays246 : Go.Proofs.Lays.n246 Tryd.prog Tryd.lays246_ren := {
  mixed := by kernel_rfl
  f129 := Tryd.func95.trans (congrArg some (by kernel_rfl))
  f246 := Tryd.func72.trans (congrArg some (by kernel_rfl))
  f283 := Tryd.func84.trans (congrArg some (by kernel_rfl))
  f284 := Tryd.func85.trans (congrArg some (by kernel_rfl))
  f285 := Tryd.func86.trans (congrArg some (by kernel_rfl))
  f286 := Tryd.func87.trans (congrArg some (by kernel_rfl))
  f317 := Tryd.func94.trans (congrArg some (by kernel_rfl))
  f318 := Tryd.func96.trans (congrArg some (by kernel_rfl))
  f319 := Tryd.func97.trans (congrArg some (by kernel_rfl))
  f320 := Tryd.func98.trans (congrArg some (by kernel_rfl))
  f337 := Tryd.func103.trans (congrArg some (by kernel_rfl))
  f338 := Tryd.func104.trans (congrArg some (by kernel_rfl))
  t0 := Tryd.underlying0
  a0 := Tryd.isAgg0
  z0 := Tryd.sizeOf0
  v0 := Tryd.zeroValue0
  t2 := Tryd.underlying2
  a2 := Tryd.isAgg2
  z2 := Tryd.sizeOf2
  v2 := Tryd.zeroValue2
  t3 := Tryd.underlying3
  a3 := Tryd.isAgg3
  z3 := Tryd.sizeOf3
  v3 := Tryd.zeroValue3
  t4 := Tryd.underlying4
  a4 := Tryd.isAgg4
  z4 := Tryd.sizeOf4
  v4 := Tryd.zeroValue4
  t5 := Tryd.underlying5
  a5 := Tryd.isAgg5
  z5 := Tryd.sizeOf5
  v5 := Tryd.zeroValue5
  t9 := Tryd.underlying9
  a9 := Tryd.isAgg9
  z9 := Tryd.sizeOf9
  v9 := Tryd.zeroValue9
  t20 := Tryd.underlying20
  a20 := Tryd.isAgg20
  z20 := Tryd.sizeOf20
  v20 := Tryd.zeroValue20
  t37 := Tryd.underlying83
  a37 := Tryd.isAgg83
  z37 := Tryd.sizeOf83
  v37 := Tryd.zeroValue83
  t46 := Tryd.underlying116
  a46 := Tryd.isAgg116
  z46 := Tryd.sizeOf116
  v46 := Tryd.zeroValue116
  t51 := Tryd.underlying139
  a51 := Tryd.isAgg139
  z51 := Tryd.sizeOf139
  v51 := Tryd.zeroValue139
  t53 := Tryd.underlying125
  a53 := Tryd.isAgg125
  z53 := Tryd.sizeOf125
  v53 := Tryd.zeroValue125
  t171 := Tryd.underlying124
  a171 := Tryd.isAgg124
  z171 := Tryd.sizeOf124
  v171 := Tryd.zeroValue124
  t173 := Tryd.underlying128
  a173 := Tryd.isAgg128
  z173 := Tryd.sizeOf128
  v173 := Tryd.zeroValue128
  t212 := Tryd.underlying138
  a212 := Tryd.isAgg138
  z212 := Tryd.sizeOf138
  v212 := Tryd.zeroValue138
  t213 := Tryd.underlying140
  a213 := Tryd.isAgg140
  z213 := Tryd.sizeOf140
  t232 := Tryd.underlying152
  a232 := Tryd.isAgg152
  z232 := Tryd.sizeOf152
  v232 := Tryd.zeroValue152
  t233 := Tryd.underlying153
  a233 := Tryd.isAgg153
  z233 := Tryd.sizeOf153
  v233 := Tryd.zeroValue153
  g17 := by kernel_rfl
  g18 := by kernel_rfl
  g19 := by kernel_rfl }
open Go.RowKit Go.Sort Go.Lib in
/-- THE ROAD WITHOUT THE TABLE: 0 <= i < 100: two constants are read, nothing is laid: no premise on the world, and the world is as it was. (LAID: no walk: one application.) -/
theorem Tryd.internal_strconv_FormatInt_10_small (i : Nat) (hi : i < 100) (w : World) :
    Calls Tryd.prog 72 #[.int .i64 i, .int .i64 10] w fun e w' => e = .returned (.string ⟨(Lib.decDigits i).toArray⟩) ∧ w' = w := Any.internal_strconv_FormatInt_10_small Tryd.lays246 i hi w
def Tryd.laysM243_ren : Go.Shelf.Ren := ⟨fun | 243 => 55 | 246 => 72 | 283 => 84 | 284 => 85 | 285 => 86 | 286 => 87 | 129 => 95 | 317 => 94 | 318 => 96 | 319 => 97 | 320 => 98 | 337 => 103 | 338 => 104 | n => n, fun | 3 => 3 | 9 => 9 | 2 => 2 | 4 => 4 | 171 => 124 | 0 => 0 | 53 => 125 | 37 => 83 | 5 => 5 | 173 => 128 | 212 => 138 | 51 => 139 | 20 => 20 | 213 => 140 | 46 => 116 | 232 => 152 | 233 => 153 | n => n, fun | 17 => 1 | 18 => 2 | 19 => 3 | n => n⟩
theorem Tryd.laysM243 : Go.Proofs.LaysM.n243 Tryd.prog Tryd.laysM243_ren := {
  mixed := by kernel_rfl
  f129 := Tryd.func95.trans (congrArg some (by kernel_rfl))
  f243 := Tryd.func55.trans (congrArg some (by kernel_rfl))
  f246 := Tryd.func72.trans (congrArg some (by kernel_rfl))
  f283 := Tryd.func84.trans (congrArg some (by kernel_rfl))
  f284 := Tryd.func85.trans (congrArg some (by kernel_rfl))
  f285 := Tryd.func86.trans (congrArg some (by kernel_rfl))
  f286 := Tryd.func87.trans (congrArg some (by kernel_rfl))
  f317 := Tryd.func94.trans (congrArg some (by kernel_rfl))
  f318 := Tryd.func96.trans (congrArg some (by kernel_rfl))
  f319 := Tryd.func97.trans (congrArg some (by kernel_rfl))
  f320 := Tryd.func98.trans (congrArg some (by kernel_rfl))
  f337 := Tryd.func103.trans (congrArg some (by kernel_rfl))
  f338 := Tryd.func104.trans (congrArg some (by kernel_rfl))
  t0 := Tryd.underlying0
  a0 := Tryd.isAgg0
  z0 := Tryd.sizeOf0
  v0 := Tryd.zeroValue0
  t2 := Tryd.underlying2
  a2 := Tryd.isAgg2
  z2 := Tryd.sizeOf2
  v2 := Tryd.zeroValue2
  t3 := Tryd.underlying3
  a3 := Tryd.isAgg3
  z3 := Tryd.sizeOf3
  v3 := Tryd.zeroValue3
  t4 := Tryd.underlying4
  a4 := Tryd.isAgg4
  z4 := Tryd.sizeOf4
  v4 := Tryd.zeroValue4
  t5 := Tryd.underlying5
  a5 := Tryd.isAgg5
  z5 := Tryd.sizeOf5
  v5 := Tryd.zeroValue5
  t9 := Tryd.underlying9
  a9 := Tryd.isAgg9
  z9 := Tryd.sizeOf9
  v9 := Tryd.zeroValue9
  t20 := Tryd.underlying20
  a20 := Tryd.isAgg20
  z20 := Tryd.sizeOf20
  v20 := Tryd.zeroValue20
  t37 := Tryd.underlying83
  a37 := Tryd.isAgg83
  z37 := Tryd.sizeOf83
  v37 := Tryd.zeroValue83
  t46 := Tryd.underlying116
  a46 := Tryd.isAgg116
  z46 := Tryd.sizeOf116
  v46 := Tryd.zeroValue116
  t51 := Tryd.underlying139
  a51 := Tryd.isAgg139
  z51 := Tryd.sizeOf139
  v51 := Tryd.zeroValue139
  t53 := Tryd.underlying125
  a53 := Tryd.isAgg125
  z53 := Tryd.sizeOf125
  v53 := Tryd.zeroValue125
  t171 := Tryd.underlying124
  a171 := Tryd.isAgg124
  z171 := Tryd.sizeOf124
  v171 := Tryd.zeroValue124
  t173 := Tryd.underlying128
  a173 := Tryd.isAgg128
  z173 := Tryd.sizeOf128
  v173 := Tryd.zeroValue128
  t212 := Tryd.underlying138
  a212 := Tryd.isAgg138
  z212 := Tryd.sizeOf138
  v212 := Tryd.zeroValue138
  t213 := Tryd.underlying140
  a213 := Tryd.isAgg140
  z213 := Tryd.sizeOf140
  t232 := Tryd.underlying152
  a232 := Tryd.isAgg152
  z232 := Tryd.sizeOf152
  v232 := Tryd.zeroValue152
  t233 := Tryd.underlying153
  a233 := Tryd.isAgg153
  z233 := Tryd.sizeOf153
  v233 := Tryd.zeroValue153
  g17 := by kernel_rfl
  g18 := by kernel_rfl
  g19 := by kernel_rfl
  i0 := by kernel_rfl
  i2 := by kernel_rfl
  i3 := by kernel_rfl
  i4 := by kernel_rfl
  i5 := by kernel_rfl
  i9 := by kernel_rfl
  i20 := by kernel_rfl
  i37 := by kernel_rfl
  i46 := by kernel_rfl
  i51 := by kernel_rfl
  i53 := by kernel_rfl
  i171 := by kernel_rfl
  i173 := by kernel_rfl
  i212 := by kernel_rfl
  i232 := by kernel_rfl
  i233 := by kernel_rfl
  m17 := by kernel_rfl
  m18 := by kernel_rfl
  m19 := by kernel_rfl }
open Go.RowKit Go.Sort Go.Lib in
/-- internal/strconv.Itoa: "Itoa is equivalent to FormatInt(int64(i), 10).": i's decimal numeral, for every int. (LAID: no walk: one application.) -/
theorem Tryd.internal_strconv_Itoa (n : Int) (h0 : -9223372036854775808 ≤ n) (h1 : n ≤ 9223372036854775807) (w : World) (htab : Lib.TabIs Tryd.prog w "internal/strconv.uint64pow10" .u64 Lib.pow10Tab) :
    Calls Tryd.prog 55 #[.int .i64 n] w fun e w' => e = .returned (.string ⟨(Lib.itoa n).toArray⟩) ∧ ∃ k os, w' = grow (w.drewN k) os := Any.internal_strconv_Itoa Tryd.laysM243 n h0 h1 w htab
def Tryd.lays243_ren : Go.Shelf.Ren := ⟨fun | 243 => 55 | 246 => 72 | 283 => 84 | 284 => 85 | 285 => 86 | 286 => 87 | 129 => 95 | 317 => 94 | 318 => 96 | 319 => 97 | 320 => 98 | 337 => 103 | 338 => 104 | n => n, fun | 3 => 3 | 9 => 9 | 2 => 2 | 4 => 4 | 171 => 124 | 0 => 0 | 53 => 125 | 37 => 83 | 5 => 5 | 173 => 128 | 212 => 138 | 51 => 139 | 20 => 20 | 213 => 140 | 46 => 116 | 232 => 152 | 233 => 153 | n => n, fun | 17 => 1 | 18 => 2 | 19 => 3 | n => n⟩
theorem Tryd.lays243 : Go.Proofs.Lays.n243 Tryd.prog Tryd.lays243_ren := {
  mixed := by kernel_rfl
  f129 := Tryd.func95.trans (congrArg some (by kernel_rfl))
  f243 := Tryd.func55.trans (congrArg some (by kernel_rfl))
  f246 := Tryd.func72.trans (congrArg some (by kernel_rfl))
  f283 := Tryd.func84.trans (congrArg some (by kernel_rfl))
  f284 := Tryd.func85.trans (congrArg some (by kernel_rfl))
  f285 := Tryd.func86.trans (congrArg some (by kernel_rfl))
  f286 := Tryd.func87.trans (congrArg some (by kernel_rfl))
  f317 := Tryd.func94.trans (congrArg some (by kernel_rfl))
  f318 := Tryd.func96.trans (congrArg some (by kernel_rfl))
  f319 := Tryd.func97.trans (congrArg some (by kernel_rfl))
  f320 := Tryd.func98.trans (congrArg some (by kernel_rfl))
  f337 := Tryd.func103.trans (congrArg some (by kernel_rfl))
  f338 := Tryd.func104.trans (congrArg some (by kernel_rfl))
  t0 := Tryd.underlying0
  a0 := Tryd.isAgg0
  z0 := Tryd.sizeOf0
  v0 := Tryd.zeroValue0
  t2 := Tryd.underlying2
  a2 := Tryd.isAgg2
  z2 := Tryd.sizeOf2
  v2 := Tryd.zeroValue2
  t3 := Tryd.underlying3
  a3 := Tryd.isAgg3
  z3 := Tryd.sizeOf3
  v3 := Tryd.zeroValue3
  t4 := Tryd.underlying4
  a4 := Tryd.isAgg4
  z4 := Tryd.sizeOf4
  v4 := Tryd.zeroValue4
  t5 := Tryd.underlying5
  a5 := Tryd.isAgg5
  z5 := Tryd.sizeOf5
  v5 := Tryd.zeroValue5
  t9 := Tryd.underlying9
  a9 := Tryd.isAgg9
  z9 := Tryd.sizeOf9
  v9 := Tryd.zeroValue9
  t20 := Tryd.underlying20
  a20 := Tryd.isAgg20
  z20 := Tryd.sizeOf20
  v20 := Tryd.zeroValue20
  t37 := Tryd.underlying83
  a37 := Tryd.isAgg83
  z37 := Tryd.sizeOf83
  v37 := Tryd.zeroValue83
  t46 := Tryd.underlying116
  a46 := Tryd.isAgg116
  z46 := Tryd.sizeOf116
  v46 := Tryd.zeroValue116
  t51 := Tryd.underlying139
  a51 := Tryd.isAgg139
  z51 := Tryd.sizeOf139
  v51 := Tryd.zeroValue139
  t53 := Tryd.underlying125
  a53 := Tryd.isAgg125
  z53 := Tryd.sizeOf125
  v53 := Tryd.zeroValue125
  t171 := Tryd.underlying124
  a171 := Tryd.isAgg124
  z171 := Tryd.sizeOf124
  v171 := Tryd.zeroValue124
  t173 := Tryd.underlying128
  a173 := Tryd.isAgg128
  z173 := Tryd.sizeOf128
  v173 := Tryd.zeroValue128
  t212 := Tryd.underlying138
  a212 := Tryd.isAgg138
  z212 := Tryd.sizeOf138
  v212 := Tryd.zeroValue138
  t213 := Tryd.underlying140
  a213 := Tryd.isAgg140
  z213 := Tryd.sizeOf140
  t232 := Tryd.underlying152
  a232 := Tryd.isAgg152
  z232 := Tryd.sizeOf152
  v232 := Tryd.zeroValue152
  t233 := Tryd.underlying153
  a233 := Tryd.isAgg153
  z233 := Tryd.sizeOf153
  v233 := Tryd.zeroValue153
  g17 := by kernel_rfl
  g18 := by kernel_rfl
  g19 := by kernel_rfl }
open Go.RowKit Go.Sort Go.Lib in
/-- THE ROAD WITHOUT THE TABLE: 0 <= i < 100. (LAID: no walk: one application.) -/
theorem Tryd.internal_strconv_Itoa_small (i : Nat) (hi : i < 100) (w : World) :
    Calls Tryd.prog 55 #[.int .i64 i] w fun e w' => e = .returned (.string ⟨(Lib.decDigits i).toArray⟩) ∧ w' = w := Any.internal_strconv_Itoa_small Tryd.lays243 i hi w
def Tryd.laysM171_ren : Go.Shelf.Ren := ⟨fun | 171 => 41 | 243 => 55 | 246 => 72 | 283 => 84 | 284 => 85 | 285 => 86 | 286 => 87 | 129 => 95 | 317 => 94 | 318 => 96 | 319 => 97 | 320 => 98 | 337 => 103 | 338 => 104 | n => n, fun | 3 => 3 | 9 => 9 | 2 => 2 | 4 => 4 | 171 => 124 | 0 => 0 | 53 => 125 | 37 => 83 | 5 => 5 | 173 => 128 | 212 => 138 | 51 => 139 | 20 => 20 | 213 => 140 | 46 => 116 | 232 => 152 | 233 => 153 | n => n, fun | 17 => 1 | 18 => 2 | 19 => 3 | n => n⟩
theorem Tryd.laysM171 : Go.Proofs.LaysM.n171 Tryd.prog Tryd.laysM171_ren := {
  mixed := by kernel_rfl
  f129 := Tryd.func95.trans (congrArg some (by kernel_rfl))
  f171 := Tryd.func41.trans (congrArg some (by kernel_rfl))
  f243 := Tryd.func55.trans (congrArg some (by kernel_rfl))
  f246 := Tryd.func72.trans (congrArg some (by kernel_rfl))
  f283 := Tryd.func84.trans (congrArg some (by kernel_rfl))
  f284 := Tryd.func85.trans (congrArg some (by kernel_rfl))
  f285 := Tryd.func86.trans (congrArg some (by kernel_rfl))
  f286 := Tryd.func87.trans (congrArg some (by kernel_rfl))
  f317 := Tryd.func94.trans (congrArg some (by kernel_rfl))
  f318 := Tryd.func96.trans (congrArg some (by kernel_rfl))
  f319 := Tryd.func97.trans (congrArg some (by kernel_rfl))
  f320 := Tryd.func98.trans (congrArg some (by kernel_rfl))
  f337 := Tryd.func103.trans (congrArg some (by kernel_rfl))
  f338 := Tryd.func104.trans (congrArg some (by kernel_rfl))
  t0 := Tryd.underlying0
  a0 := Tryd.isAgg0
  z0 := Tryd.sizeOf0
  v0 := Tryd.zeroValue0
  t2 := Tryd.underlying2
  a2 := Tryd.isAgg2
  z2 := Tryd.sizeOf2
  v2 := Tryd.zeroValue2
  t3 := Tryd.underlying3
  a3 := Tryd.isAgg3
  z3 := Tryd.sizeOf3
  v3 := Tryd.zeroValue3
  t4 := Tryd.underlying4
  a4 := Tryd.isAgg4
  z4 := Tryd.sizeOf4
  v4 := Tryd.zeroValue4
  t5 := Tryd.underlying5
  a5 := Tryd.isAgg5
  z5 := Tryd.sizeOf5
  v5 := Tryd.zeroValue5
  t9 := Tryd.underlying9
  a9 := Tryd.isAgg9
  z9 := Tryd.sizeOf9
  v9 := Tryd.zeroValue9
  t20 := Tryd.underlying20
  a20 := Tryd.isAgg20
  z20 := Tryd.sizeOf20
  v20 := Tryd.zeroValue20
  t37 := Tryd.underlying83
  a37 := Tryd.isAgg83
  z37 := Tryd.sizeOf83
  v37 := Tryd.zeroValue83
  t46 := Tryd.underlying116
  a46 := Tryd.isAgg116
  z46 := Tryd.sizeOf116
  v46 := Tryd.zeroValue116
  t51 := Tryd.underlying139
  a51 := Tryd.isAgg139
  z51 := Tryd.sizeOf139
  v51 := Tryd.zeroValue139
  t53 := Tryd.underlying125
  a53 := Tryd.isAgg125
  z53 := Tryd.sizeOf125
  v53 := Tryd.zeroValue125
  t171 := Tryd.underlying124
  a171 := Tryd.isAgg124
  z171 := Tryd.sizeOf124
  v171 := Tryd.zeroValue124
  t173 := Tryd.underlying128
  a173 := Tryd.isAgg128
  z173 := Tryd.sizeOf128
  v173 := Tryd.zeroValue128
  t212 := Tryd.underlying138
  a212 := Tryd.isAgg138
  z212 := Tryd.sizeOf138
  v212 := Tryd.zeroValue138
  t213 := Tryd.underlying140
  a213 := Tryd.isAgg140
  z213 := Tryd.sizeOf140
  t232 := Tryd.underlying152
  a232 := Tryd.isAgg152
  z232 := Tryd.sizeOf152
  v232 := Tryd.zeroValue152
  t233 := Tryd.underlying153
  a233 := Tryd.isAgg153
  z233 := Tryd.sizeOf153
  v233 := Tryd.zeroValue153
  g17 := by kernel_rfl
  g18 := by kernel_rfl
  g19 := by kernel_rfl
  i0 := by kernel_rfl
  i2 := by kernel_rfl
  i3 := by kernel_rfl
  i4 := by kernel_rfl
  i5 := by kernel_rfl
  i9 := by kernel_rfl
  i20 := by kernel_rfl
  i37 := by kernel_rfl
  i46 := by kernel_rfl
  i51 := by kernel_rfl
  i53 := by kernel_rfl
  i171 := by kernel_rfl
  i173 := by kernel_rfl
  i212 := by kernel_rfl
  i232 := by kernel_rfl
  i233 := by kernel_rfl
  m17 := by kernel_rfl
  m18 := by kernel_rfl
  m19 := by kernel_rfl }
open Go.RowKit Go.Sort Go.Lib in
/-- strconv.Itoa: "Itoa is equivalent to FormatInt(int64(i), 10).": i's DECIMAL NUMERAL ('Lib.itoa': a '-' where i is negative, then the digits), FOR EVERY int. The world behind the call: the world before it, new blocks behind the heap (the library's 'var a [24]byte'), draws. (LAID: no walk: one application.) -/
theorem Tryd.strconv_Itoa (n : Int) (h0 : -9223372036854775808 ≤ n) (h1 : n ≤ 9223372036854775807) (w : World) (htab : Lib.TabIs Tryd.prog w "internal/strconv.uint64pow10" .u64 Lib.pow10Tab) :
    Calls Tryd.prog 41 #[.int .i64 n] w fun e w' => e = .returned (.string ⟨(Lib.itoa n).toArray⟩) ∧ ∃ k os, w' = grow (w.drewN k) os := Any.strconv_Itoa Tryd.laysM171 n h0 h1 w htab
def Tryd.lays171_ren : Go.Shelf.Ren := ⟨fun | 171 => 41 | 243 => 55 | 246 => 72 | 283 => 84 | 284 => 85 | 285 => 86 | 286 => 87 | 129 => 95 | 317 => 94 | 318 => 96 | 319 => 97 | 320 => 98 | 337 => 103 | 338 => 104 | n => n, fun | 3 => 3 | 9 => 9 | 2 => 2 | 4 => 4 | 171 => 124 | 0 => 0 | 53 => 125 | 37 => 83 | 5 => 5 | 173 => 128 | 212 => 138 | 51 => 139 | 20 => 20 | 213 => 140 | 46 => 116 | 232 => 152 | 233 => 153 | n => n, fun | 17 => 1 | 18 => 2 | 19 => 3 | n => n⟩
theorem Tryd.lays171 : Go.Proofs.Lays.n171 Tryd.prog Tryd.lays171_ren := {
  mixed := by kernel_rfl
  f129 := Tryd.func95.trans (congrArg some (by kernel_rfl))
  f171 := Tryd.func41.trans (congrArg some (by kernel_rfl))
  f243 := Tryd.func55.trans (congrArg some (by kernel_rfl))
  f246 := Tryd.func72.trans (congrArg some (by kernel_rfl))
  f283 := Tryd.func84.trans (congrArg some (by kernel_rfl))
  f284 := Tryd.func85.trans (congrArg some (by kernel_rfl))
  f285 := Tryd.func86.trans (congrArg some (by kernel_rfl))
  f286 := Tryd.func87.trans (congrArg some (by kernel_rfl))
  f317 := Tryd.func94.trans (congrArg some (by kernel_rfl))
  f318 := Tryd.func96.trans (congrArg some (by kernel_rfl))
  f319 := Tryd.func97.trans (congrArg some (by kernel_rfl))
  f320 := Tryd.func98.trans (congrArg some (by kernel_rfl))
  f337 := Tryd.func103.trans (congrArg some (by kernel_rfl))
  f338 := Tryd.func104.trans (congrArg some (by kernel_rfl))
  t0 := Tryd.underlying0
  a0 := Tryd.isAgg0
  z0 := Tryd.sizeOf0
  v0 := Tryd.zeroValue0
  t2 := Tryd.underlying2
  a2 := Tryd.isAgg2
  z2 := Tryd.sizeOf2
  v2 := Tryd.zeroValue2
  t3 := Tryd.underlying3
  a3 := Tryd.isAgg3
  z3 := Tryd.sizeOf3
  v3 := Tryd.zeroValue3
  t4 := Tryd.underlying4
  a4 := Tryd.isAgg4
  z4 := Tryd.sizeOf4
  v4 := Tryd.zeroValue4
  t5 := Tryd.underlying5
  a5 := Tryd.isAgg5
  z5 := Tryd.sizeOf5
  v5 := Tryd.zeroValue5
  t9 := Tryd.underlying9
  a9 := Tryd.isAgg9
  z9 := Tryd.sizeOf9
  v9 := Tryd.zeroValue9
  t20 := Tryd.underlying20
  a20 := Tryd.isAgg20
  z20 := Tryd.sizeOf20
  v20 := Tryd.zeroValue20
  t37 := Tryd.underlying83
  a37 := Tryd.isAgg83
  z37 := Tryd.sizeOf83
  v37 := Tryd.zeroValue83
  t46 := Tryd.underlying116
  a46 := Tryd.isAgg116
  z46 := Tryd.sizeOf116
  v46 := Tryd.zeroValue116
  t51 := Tryd.underlying139
  a51 := Tryd.isAgg139
  z51 := Tryd.sizeOf139
  v51 := Tryd.zeroValue139
  t53 := Tryd.underlying125
  a53 := Tryd.isAgg125
  z53 := Tryd.sizeOf125
  v53 := Tryd.zeroValue125
  t171 := Tryd.underlying124
  a171 := Tryd.isAgg124
  z171 := Tryd.sizeOf124
  v171 := Tryd.zeroValue124
  t173 := Tryd.underlying128
  a173 := Tryd.isAgg128
  z173 := Tryd.sizeOf128
  v173 := Tryd.zeroValue128
  t212 := Tryd.underlying138
  a212 := Tryd.isAgg138
  z212 := Tryd.sizeOf138
  v212 := Tryd.zeroValue138
  t213 := Tryd.underlying140
  a213 := Tryd.isAgg140
  z213 := Tryd.sizeOf140
  t232 := Tryd.underlying152
  a232 := Tryd.isAgg152
  z232 := Tryd.sizeOf152
  v232 := Tryd.zeroValue152
  t233 := Tryd.underlying153
  a233 := Tryd.isAgg153
  z233 := Tryd.sizeOf153
  v233 := Tryd.zeroValue153
  g17 := by kernel_rfl
  g18 := by kernel_rfl
  g19 := by kernel_rfl }
open Go.RowKit Go.Sort Go.Lib in
/-- THE ROAD WITHOUT THE TABLE: 0 <= i < 100: NO PREMISE ON THE WORLD, AND THE WORLD IS AS IT WAS: a row that keeps its argument in that range need list no table ('laid = []'). (LAID: no walk: one application.) -/
theorem Tryd.strconv_Itoa_small (i : Nat) (hi : i < 100) (w : World) :
    Calls Tryd.prog 41 #[.int .i64 i] w fun e w' => e = .returned (.string ⟨(Lib.decDigits i).toArray⟩) ∧ w' = w := Any.strconv_Itoa_small Tryd.lays171 i hi w
def Tryd.lays217_ren : Go.Shelf.Ren := ⟨fun | 217 => 60 | 266 => 77 | n => n, fun | 9 => 9 | 5 => 5 | 3 => 3 | n => n, fun | n => n⟩
theorem Tryd.lays217 : Go.Proofs.Lays.n217 Tryd.prog Tryd.lays217_ren := {
  mixed := by kernel_rfl
  f217 := Tryd.func60.trans (congrArg some (by kernel_rfl))
  f266 := Tryd.func77.trans (congrArg some (by kernel_rfl))
  t3 := Tryd.underlying3
  a3 := Tryd.isAgg3
  z3 := Tryd.sizeOf3
  v3 := Tryd.zeroValue3
  t5 := Tryd.underlying5
  a5 := Tryd.isAgg5
  z5 := Tryd.sizeOf5
  v5 := Tryd.zeroValue5
  t9 := Tryd.underlying9
  a9 := Tryd.isAgg9
  z9 := Tryd.sizeOf9
  v9 := Tryd.zeroValue9 }
open Go.RowKit Go.Lib in
/-- internal/stringslite.IndexByte (what strings.IndexByte calls): IT RETURNS 'Lib.indexByte s c'; the world is as it was. (LAID: no walk: one application.) -/
theorem Tryd.stringslite_IndexByte (s : ByteArray) (c : Int) (w : World) :
    Calls Tryd.prog 60 #[.string s, .int .u8 c] w fun e w' => e = .returned (.int .i64 (Lib.indexByte s.data.toList c.toNat.toUInt8)) ∧ w' = w := Any.stringslite_IndexByte Tryd.lays217 s c w
end Go.Proofs
end

section
/-
YtejehchbflmofaaDoor: strconv.Itoa, by the shelf: its contract. No condition.
-/
open Go Go.AM
namespace Go.Proofs.YtejehchbflmofaaDoor
noncomputable section
def itoaG (n : Int) : Option (ByteArray × Unit) := if -9223372036854775808 ≤ n ∧ n ≤ 9223372036854775807 then some (strB (Lib.itoa n), ()) else none
def strconv_Itoa (n : Int) : Option ((ByteArray × Unit) × Unit) := (itoaG n).bind fun y => some (y, ())
def fc41 : FC := ⟨⟨[.one (.int .i64)], []⟩, ⟨[.one .str], []⟩, fun x => strconv_Itoa x.1.1⟩
theorem con41 : Contract Tryd.prog 41 fc41 :=
  Contract.below (P := Tryd.prog) (f := 41) (sa := [.one (.int .i64)]) (sr := [.one .str]) (fn := Tryd.f41) (c := Tryd.f41.body.getD .skip) Tryd.func41 (by kernel_rfl) (by kernel_rfl) (g := fun x => itoaG x.1) (fun w M G x y vals hI hv hg => by
    obtain ⟨n, u⟩ := x
    obtain ⟨vs⟩ := vals
    match vs, hv with
    | [v1], hv =>
      obtain ⟨⟨rfl, _⟩, _⟩ := hv
      have hg' : itoaG n = some y := hg
      unfold itoaG at hg'
      split at hg'
      · rename_i hn
        cases hg'
        refine (Tryd.strconv_Itoa n hn.1 hn.2 w (zone_tab (hI.zone _ _ zone_pow))).mono ?_
        rintro e w' ⟨rfl, k, os, rfl⟩
        refine ⟨_, rfl, ⟨rfl, rfl, rfl, ?_, fun i hi => ?_⟩, rfl, rfl⟩
        · show w.heap.size ≤ (w.heap ++ os).size
          simp
        · show (w.heap ++ os)[i]? = w.heap[i]?
          rw [Array.getElem?_append_left hi]
      · cases hg'
    | [], hv => exact hv.elim
    | _ :: _ :: _, hv => exact hv.2.elim)
end
end Go.Proofs.YtejehchbflmofaaDoor
end

section
/-
YtejehchbflmofaaDoor: signalbench.limit.number, as one plain function, its equations, its contract. No condition.
-/
set_option maxRecDepth 100000
set_option linter.unusedVariables false
set_option maxHeartbeats 4000000
open Go Go.AM
namespace Go.Proofs.YtejehchbflmofaaDoor
noncomputable section
def limit_number_D : FD := ⟨T, lookC [(41, fc41)], [], (Tryd.f29.body.getD .skip), Tryd.f29.results.toList, ⟨[.one (.int .i64)], []⟩, ⟨[.row (.cons (.int .i64) (.cons .str (.cons (.int .i64) (.int .i64))))], []⟩, []⟩
def limit_number (n : Int) : (Option ((TToken × Unit) × Unit)) :=
  (strconv_Itoa n).bind fun y1 =>
    some (((2, y1.1.1, n, 0), ()), ())
def fc29 : FC := ⟨⟨[.one (.int .i64)], []⟩, ⟨[.row (.cons (.int .i64) (.cons .str (.cons (.int .i64) (.int .i64))))], []⟩, fun x => limit_number x.1.1⟩
theorem con29 : Contract Tryd.prog 29 fc29 :=
  limit_number_D.contract tok (cok_of (l := [(41, fc41)]) ⟨con41, trivial⟩) mixed (fn' := Tryd.f29) (by kernel_rfl) (by kernel_rfl) rfl (by kernel_rfl) (fun x => (FD.fn_eq _ _).trans (by kernel_rfl))
end
end Go.Proofs.YtejehchbflmofaaDoor
end

section
/-
YtejehchbflmofaaDoor: signalbench.limit.mark, as one plain function, its equations, its contract. No condition.
-/
set_option maxRecDepth 100000
set_option linter.unusedVariables false
set_option maxHeartbeats 4000000
open Go Go.AM
namespace Go.Proofs.YtejehchbflmofaaDoor
noncomputable section
def limit_mark_D : FD := ⟨T, lookC [], [], (Tryd.f30.body.getD .skip), Tryd.f30.results.toList, ⟨[.one .str], []⟩, ⟨[.row (.cons (.int .i64) (.cons .str (.cons (.int .i64) (.int .i64))))], []⟩, []⟩
def limit_mark (s : ByteArray) : (Option ((TToken × Unit) × Unit)) :=
  some (((4, s, 0, 0), ()), ())
def fc30 : FC := ⟨⟨[.one .str], []⟩, ⟨[.row (.cons (.int .i64) (.cons .str (.cons (.int .i64) (.int .i64))))], []⟩, fun x => limit_mark x.1.1⟩
theorem con30 : Contract Tryd.prog 30 fc30 :=
  limit_mark_D.contract tok (cok_of (l := []) trivial) mixed (fn' := Tryd.f30) (by kernel_rfl) (by kernel_rfl) rfl (by kernel_rfl) (fun x => (FD.fn_eq _ _).trans (by kernel_rfl))
end
end Go.Proofs.YtejehchbflmofaaDoor
end

section
/-
YtejehchbflmofaaDoor: internal.stringslite.HasPrefix, as one plain function, its equations, its contract. No condition.
-/
set_option maxRecDepth 100000
set_option linter.unusedVariables false
set_option maxHeartbeats 4000000
open Go Go.AM
namespace Go.Proofs.YtejehchbflmofaaDoor
noncomputable section
def stringslite_HasPrefix_D : FD := ⟨T, lookC [], [], (Tryd.f88.body.getD .skip), Tryd.f88.results.toList, ⟨[.one .str, .one .str], []⟩, ⟨[.one .bool], []⟩, []⟩
def stringslite_HasPrefix (s : ByteArray) (prefix_ : ByteArray) : (Option ((Bool × Unit) × Unit)) :=
  if (decide ((s.size : Int) ≥ (prefix_.size : Int))) = true then
    if 0 ≤ (0 : Int) ∧ (0 : Int) ≤ (prefix_.size : Int) ∧ (prefix_.size : Int) ≤ (s.size : Int) then
      some (((s.extract 0 (prefix_.size : Int).toNat).toList == prefix_.toList, ()), ())
    else
      none
  else
    some ((false, ()), ())
def fc88 : FC := ⟨⟨[.one .str, .one .str], []⟩, ⟨[.one .bool], []⟩, fun x => stringslite_HasPrefix x.1.1 x.1.2.1⟩
theorem con88 : Contract Tryd.prog 88 fc88 :=
  stringslite_HasPrefix_D.contract tok (cok_of (l := []) trivial) mixed (fn' := Tryd.f88) (by kernel_rfl) (by kernel_rfl) rfl (by kernel_rfl) (fun x => (FD.fn_eq _ _).trans (by kernel_rfl))
end
end Go.Proofs.YtejehchbflmofaaDoor
end

section
/-
YtejehchbflmofaaDoor: strings.HasPrefix, as one plain function, its equations, its contract. No condition.
-/
set_option maxRecDepth 100000
set_option linter.unusedVariables false
set_option maxHeartbeats 4000000
open Go Go.AM
namespace Go.Proofs.YtejehchbflmofaaDoor
noncomputable section
def strings_HasPrefix_D : FD := ⟨T, lookC [(88, fc88)], [], (Tryd.f73.body.getD .skip), Tryd.f73.results.toList, ⟨[.one .str, .one .str], []⟩, ⟨[.one .bool], []⟩, []⟩
def strings_HasPrefix (s : ByteArray) (prefix_ : ByteArray) : (Option ((Bool × Unit) × Unit)) :=
  (stringslite_HasPrefix s prefix_).bind fun y1 =>
    some ((y1.1.1, ()), ())
def fc73 : FC := ⟨⟨[.one .str, .one .str], []⟩, ⟨[.one .bool], []⟩, fun x => strings_HasPrefix x.1.1 x.1.2.1⟩
theorem con73 : Contract Tryd.prog 73 fc73 :=
  strings_HasPrefix_D.contract tok (cok_of (l := [(88, fc88)]) ⟨con88, trivial⟩) mixed (fn' := Tryd.f73) (by kernel_rfl) (by kernel_rfl) rfl (by kernel_rfl) (fun x => (FD.fn_eq _ _).trans (by kernel_rfl))
end
end Go.Proofs.YtejehchbflmofaaDoor
end

section
/-
YtejehchbflmofaaDoor: signalbench.lex.hex, as one plain function, its equations, its contract. No condition.
-/
set_option maxRecDepth 100000
set_option linter.unusedVariables false
set_option maxHeartbeats 4000000
open Go Go.AM
namespace Go.Proofs.YtejehchbflmofaaDoor
noncomputable section
def lex_hex_D : FD := ⟨T, lookC [], [], (Tryd.f74.body.getD .skip), Tryd.f74.results.toList, ⟨[.one (.int .u8)], []⟩, ⟨[.one (.int .i64)], []⟩, []⟩
def lex_hex (c : Int) : (Option ((Int × Unit) × Unit)) :=
  if (decide ((48 : Int) ≤ c)) = true then
    if (decide (c ≤ 57)) = true then
      some ((IntKind.i64.wrap (IntKind.u8.wrap (c - 48)), ()), ())
    else
      if (decide ((97 : Int) ≤ c)) = true then
        if (decide (c ≤ 102)) = true then
          some ((IntKind.i64.wrap ((IntKind.i64.wrap (IntKind.u8.wrap (c - 97))) + 10), ()), ())
        else
          some (((-1), ()), ())
      else
        some (((-1), ()), ())
  else
    if (decide ((97 : Int) ≤ c)) = true then
      if (decide (c ≤ 102)) = true then
        some ((IntKind.i64.wrap ((IntKind.i64.wrap (IntKind.u8.wrap (c - 97))) + 10), ()), ())
      else
        some (((-1), ()), ())
    else
      some (((-1), ()), ())
def fc74 : FC := ⟨⟨[.one (.int .u8)], []⟩, ⟨[.one (.int .i64)], []⟩, fun x => lex_hex x.1.1⟩
theorem con74 : Contract Tryd.prog 74 fc74 :=
  lex_hex_D.contract tok (cok_of (l := []) trivial) mixed (fn' := Tryd.f74) (by kernel_rfl) (by kernel_rfl) rfl (by kernel_rfl) (fun x => (FD.fn_eq _ _).trans (by kernel_rfl))
end
end Go.Proofs.YtejehchbflmofaaDoor
end

section
/-
YtejehchbflmofaaDoor: signalbench.lex.Number, as one plain function, its equations, its contract. No condition.
-/
set_option maxRecDepth 100000
set_option linter.unusedVariables false
set_option maxHeartbeats 4000000
open Go Go.AM
namespace Go.Proofs.YtejehchbflmofaaDoor
noncomputable section
def lex_Number_F2 : FSh := ⟨[(0, .one .str), (4, .one .bool)], []⟩
def lex_Number_F5 : FSh := ⟨[(0, .one .str), (4, .one .bool), (5, .one (.int .i64))], []⟩
def lex_Number_F13 : FSh := ⟨[(0, .one .str), (4, .one .bool), (5, .one (.int .i64)), (6, .one (.int .i64)), (34, .one (.int .i64)), (35, .one (.int .i64))], []⟩
def lex_Number_D : FD := ⟨T, lookC [(73, fc73), (74, fc74)], [5, 2], (Tryd.f56.body.getD .skip), Tryd.f56.results.toList, ⟨[.one .str], []⟩, ⟨[.one (.int .i64), .one (.int .i64)], []⟩, [(2, lex_Number_F2), (5, lex_Number_F5), (13, lex_Number_F13)]⟩
def lex_Number_l2 (s : ByteArray) (minus : Bool) : (Option ((Int × Int × Unit) × Unit)) := lex_Number_D.lab 2 lex_Number_F2 ((s, minus, ()), ())
def lex_Number_l5 (s : ByteArray) (minus : Bool) (base : Int) : (Option ((Int × Int × Unit) × Unit)) := lex_Number_D.lab 5 lex_Number_F5 ((s, minus, base, ()), ())
def lex_Number_l13 (s : ByteArray) (minus : Bool) (base : Int) (n : Int) (t34 : Int) (t35 : Int) : (Option ((Int × Int × Unit) × Unit)) := lex_Number_D.lab 13 lex_Number_F13 ((s, minus, base, n, t34, t35, ()), ())
theorem lex_Number_l2_eq (s : ByteArray) (minus : Bool) : lex_Number_l2 s minus =
  (strings_HasPrefix s (strB [48, 120])).bind fun y1 =>
    if y1.1.1 = true then
      if 0 ≤ (2 : Int) ∧ 2 ≤ (s.size : Int) then
        lex_Number_l5 (s.extract 2 s.size) minus 16
      else
        none
    else
      lex_Number_l5 s minus 10 := (FD.lab_eq _ _ _ _).trans (by kernel_rfl)
theorem lex_Number_l5_eq (s : ByteArray) (minus : Bool) (base : Int) : lex_Number_l5 s minus base =
  if (s.toList == (strB []).toList) = true then
    some ((0, 4, ()), ())
  else
    if 0 ≤ (0 : Int) ∧ 0 < (s.size : Int) then
      if ((bt s 0) == 48) = true then
        if minus = true then
          some ((0, 4, ()), ())
        else
          if (decide ((s.size : Int) > 1)) = true then
            some ((0, 4, ()), ())
          else
            lex_Number_l13 s minus base 0 (s.size : Int) 0
      else
        lex_Number_l13 s minus base 0 (s.size : Int) 0
    else
      none := (FD.lab_eq _ _ _ _).trans (by kernel_rfl)
theorem lex_Number_l13_eq (s : ByteArray) (minus : Bool) (base : Int) (n : Int) (t34 : Int) (t35 : Int) : lex_Number_l13 s minus base n t34 t35 =
  if (decide (t35 < t34)) = true then
    if 0 ≤ t35 ∧ t35 < (s.size : Int) then
      (lex_hex (bt s t35)).bind fun y1 =>
        if (decide (y1.1.1 < 0)) = true then
          some ((0, 4, ()), ())
        else
          if (decide (y1.1.1 ≥ base)) = true then
            some ((0, 4, ()), ())
          else
            lex_Number_l13 s minus base (if (9007199254740993 : Int) < IntKind.i64.wrap ((IntKind.i64.wrap (base * n)) + y1.1.1) then 9007199254740993 else IntKind.i64.wrap ((IntKind.i64.wrap (base * n)) + y1.1.1)) t34 (IntKind.i64.wrap (t35 + 1))
    else
      none
  else
    if (decide (n > 9007199254740992)) = true then
      some ((0, 2, ()), ())
    else
      if minus = true then
        some ((IntKind.i64.wrap (0 - n), 0, ()), ())
      else
        some ((n, 0, ()), ()) := (FD.lab_eq _ _ _ _).trans (by kernel_rfl)
def lex_Number (s : ByteArray) : (Option ((Int × Int × Unit) × Unit)) :=
  (strings_HasPrefix s (strB [45])).bind fun y1 =>
    if y1.1.1 = true then
      if 0 ≤ (1 : Int) ∧ 1 ≤ (s.size : Int) then
        lex_Number_l2 (s.extract 1 s.size) y1.1.1
      else
        none
    else
      lex_Number_l2 s y1.1.1
def fc56 : FC := ⟨⟨[.one .str], []⟩, ⟨[.one (.int .i64), .one (.int .i64)], []⟩, fun x => lex_Number x.1.1⟩
theorem con56 : Contract Tryd.prog 56 fc56 :=
  lex_Number_D.contract tok (cok_of (l := [(73, fc73), (74, fc74)]) ⟨con73, con74, trivial⟩) mixed (fn' := Tryd.f56) (by kernel_rfl) (by kernel_rfl) rfl (by kernel_rfl) (fun x => (FD.fn_eq _ _).trans (by kernel_rfl))
end
end Go.Proofs.YtejehchbflmofaaDoor
end

section
/-
YtejehchbflmofaaDoor: strings.Builder's copyCheck and String, by walks; their contracts. No condition.
-/
open Go Go.AM Go.RowKit
set_option maxRecDepth 1000000
namespace Go.Proofs.YtejehchbflmofaaDoor
section
variable [Inhabited ZMem]

theorem cc_used (b : Nat) (w : World) (h0 : w.cell? ⟨b, 0, none⟩ = some (.pointer (some ⟨b, 0, none⟩))) :
    Calls Tryd.prog 59 #[.pointer (some ⟨b, 0, none⟩)] w fun e w' => e = .returned (.tuple #[]) ∧ w' = w := by
  obtain ⟨j, hj, _⟩ := Option.map_eq_some_iff.1 (show (Tryd.prog.info? 85).map (·.size) = some 2 by kernel_rfl)
  go_enter Tryd.func59, Tryd.ntmps59
  go_wp2
  rw [Lib.run_neq_ptr_same w _ Tryd.underlying82 hj]
  go_wp2
  go_end0
  exact ⟨rfl, rfl⟩

theorem cc_fresh (b : Nat) (w : World) (h0 : w.cell? ⟨b, 0, none⟩ = some (.pointer none)) (hsh : w.shape? b = some (85, 2)) (hfz : w.frozen? ⟨b, 0, none⟩ = false) :
    Calls Tryd.prog 59 #[.pointer (some ⟨b, 0, none⟩)] w fun e w' => e = .returned (.tuple #[]) ∧ w' = w.setCell ⟨b, 0, none⟩ (.pointer (some ⟨b, 0, none⟩)) := by
  obtain ⟨j, hj, hjs⟩ := Option.map_eq_some_iff.1 (show (Tryd.prog.info? 85).map (·.size) = some 2 by kernel_rfl)
  go_enter Tryd.func59, Tryd.ntmps59
  go_wp2
  rw [Lib.run_to_unsafe w ⟨b, 0, none⟩ Tryd.underlying82 Tryd.underlying117 hj (by rw [hjs]; decide) hsh (Nat.zero_lt_succ 1)]
  simp only [Result.andThen]
  rw [Oper.upon_value]
  go_wp2
  rw [run_callFunc_extern Tryd.func76 (by kernel_rfl) (by kernel_rfl) (by kernel_rfl) (e := Extern.AbiNoEscape.same) (by kernel_rfl)]
  rw [Lib.run_noEscape]
  simp only [Result.andThen]
  rw [Oper.upon_value]
  go_wp2
  rw [Lib.run_from_unsafe w ⟨b, 0, none⟩ Tryd.underlying117 Tryd.underlying82 hj hsh (show liesAt Tryd.prog Tryd.prog.depth 85 (2 / Tryd.prog.cellsOf 85) 0 85 1 = true by kernel_rfl)]
  simp only [Result.andThen]
  rw [Oper.upon_value]
  go_wp2
  go_end0
  exact ⟨rfl, rfl⟩

theorem st_row (b g p cap : Nat) (w : World) (cs cur : Array Value) (l : List UInt8) (h0 : l ≠ []) (hbk : w.heap[b]? = some (.cells cs 85 (0, 0))) (hc1 : cs[1]? = some (.slice (some ⟨g, p, none⟩) l.length cap))
    (hg : w.heap[g]? = some (.cells cur 5 (0, 0))) (hn : l.length ≤ cap) (hcap : p + cap ≤ cur.size) (hm : cap ≤ maxLen)
    (hcell : ∀ j x, l[j]? = some x → w.cell? ((⟨g, p, none⟩ : Addr).add j) = some (.int .u8 x.toNat)) :
    Calls Tryd.prog 46 #[.pointer (some ⟨b, 0, none⟩)] w fun e w' => e = .returned (.string ⟨l.toArray⟩) ∧ w' = w.drew.freeze ⟨g, p, none⟩ l.length := by
  have hl0 : l.length ≠ 0 := by simpa using h0
  have c1 : w.drew.cell? ⟨b, 1, none⟩ = some (.slice (some ⟨g, p, none⟩) l.length cap) := by
    have : w.drew.heap[b]? = some (.cells cs 85 (0, 0)) := hbk
    rw [Lib.cell_of_heap this]; exact hc1
  have hSD : (Builtin.unsafeSliceData_ #[83] 107 #[.slice (some ⟨g, p, none⟩) l.length cap]).run Tryd.prog w.drew = .ok (.pointer (some ⟨g, p, none⟩)) w.drew :=
    Lib.run_unsafeSliceData_row _ _ _ _ _ _ (by omega)
  have hUS : (Builtin.unsafeString_ #[107, 3] 9 #[.pointer (some ⟨g, p, none⟩), .int .i64 l.length]).run Tryd.prog w.drew = .ok (.string ⟨l.toArray⟩) (w.drew.freeze ⟨g, p, none⟩ l.length) :=
    run_unsafeString_at w.drew 107 3 9 5 Tryd.underlying107 (by kernel_rfl) g p cur.size (by have hg' : w.drew.heap[g]? = some (.cells cur 5 (0, 0)) := hg; simp [World.shape?, hg']) l h0 (by omega) (by unfold maxLen at hm; omega) hcell
  clear hl0 hn hcap hm hcell
  go_enter Tryd.func46, Tryd.ntmps46
  go_wp2
  go_region
  all_goals (go_wp2; go_ret; exact ⟨rfl, rfl⟩)

theorem st_nil (b : Nat) (w : World) (cs : Array Value) (hbk : w.heap[b]? = some (.cells cs 85 (0, 0))) (hc1 : cs[1]? = some (.slice none 0 0)) :
    Calls Tryd.prog 46 #[.pointer (some ⟨b, 0, none⟩)] w fun e w' => e = .returned (.string .empty) ∧ w' = w.drew := by
  have hUS := Lib.run_unsafeString_none (P := Tryd.prog) w.drew 107 3 9 none
  have c1 : w.drew.cell? ⟨b, 1, none⟩ = some (.slice none 0 0) := by
    have : w.drew.heap[b]? = some (.cells cs 85 (0, 0)) := hbk
    rw [Lib.cell_of_heap this]; exact hc1
  have hSD : (Builtin.unsafeSliceData_ #[83] 107 #[.slice none 0 0]).run Tryd.prog w.drew = .ok (.pointer none) w.drew := rfl
  go_enter Tryd.func46, Tryd.ntmps46
  go_wp2
  go_region
  all_goals (go_wp2; go_ret; exact ⟨rfl, rfl⟩)

theorem st_room (b g p cap : Nat) (hcap : cap ≠ 0) (w : World) (cs : Array Value) (hbk : w.heap[b]? = some (.cells cs 85 (0, 0))) (hc1 : cs[1]? = some (.slice (some ⟨g, p, none⟩) 0 cap)) :
    Calls Tryd.prog 46 #[.pointer (some ⟨b, 0, none⟩)] w fun e w' => e = .returned (.string .empty) ∧ w' = w.drew := by
  have hUS := Lib.run_unsafeString_none (P := Tryd.prog) w.drew 107 3 9 (some ⟨g, p, none⟩)
  have c1 : w.drew.cell? ⟨b, 1, none⟩ = some (.slice (some ⟨g, p, none⟩) 0 cap) := by
    have : w.drew.heap[b]? = some (.cells cs 85 (0, 0)) := hbk
    rw [Lib.cell_of_heap this]; exact hc1
  have hSD : (Builtin.unsafeSliceData_ #[83] 107 #[.slice (some ⟨g, p, none⟩) 0 cap]).run Tryd.prog w.drew = .ok (.pointer (some ⟨g, p, none⟩)) w.drew :=
    Lib.run_unsafeSliceData_row _ _ _ _ _ _ hcap
  clear hcap
  go_enter Tryd.func46, Tryd.ntmps46
  go_wp2
  go_region
  all_goals (go_wp2; go_ret; exact ⟨rfl, rfl⟩)

theorem st_noroom (b g p : Nat) (w : World) (cs cur : Array Value) (hbk : w.heap[b]? = some (.cells cs 85 (0, 0))) (hc1 : cs[1]? = some (.slice (some ⟨g, p, none⟩) 0 0))
    (hg : w.heap[g]? = some (.cells cur 5 (0, 0))) :
    Calls Tryd.prog 46 #[.pointer (some ⟨b, 0, none⟩)] w fun e w' => e = .returned (.string .empty) ∧ w' = w.drew.alloc (.view ⟨g, p, none⟩ 5) := by
  have hlt : b < w.heap.size := by
    rcases Nat.lt_or_ge b w.heap.size with h' | h'
    · exact h'
    · simp [Array.getElem?_eq_none h'] at hbk
  have hUS := Lib.run_unsafeString_none (P := Tryd.prog) (w.drew.alloc (.view ⟨g, p, none⟩ 5)) 107 3 9 (some ⟨w.drew.heap.size, 0, none⟩)
  have hUS2 : (Builtin.unsafeString_ #[107, 3] 9 #[.pointer (some ⟨w.heap.size, 0, none⟩), .int .i64 0]).run Tryd.prog (w.alloc (.view ⟨g, p, none⟩ 5)).drew = .ok (.string .empty) (w.alloc (.view ⟨g, p, none⟩ 5)).drew := Lib.run_unsafeString_none _ 107 3 9 _
  have c1 : w.drew.cell? ⟨b, 1, none⟩ = some (.slice (some ⟨g, p, none⟩) 0 0) := by
    have : w.drew.heap[b]? = some (.cells cs 85 (0, 0)) := hbk
    rw [Lib.cell_of_heap this]; exact hc1
  have hSD : (Builtin.unsafeSliceData_ #[83] 107 #[.slice (some ⟨g, p, none⟩) 0 0]).run Tryd.prog w.drew = .ok (.pointer (some ⟨w.drew.heap.size, 0, none⟩)) (w.drew.alloc (.view ⟨g, p, none⟩ 5)) :=
    Lib.run_unsafeSliceData_zero w.drew _ _ 5 Tryd.underlying107 ⟨g, p, none⟩ 0 (5, cur.size) (by have hg' : w.drew.heap[g]? = some (.cells cur 5 (0, 0)) := hg; simp [World.shape?, hg'])
  have c2 : (w.drew.alloc (.view ⟨g, p, none⟩ 5)).cell? ⟨b, 1, none⟩ = some (.slice (some ⟨g, p, none⟩) 0 0) := by
    have : (w.drew.alloc (.view ⟨g, p, none⟩ 5)).heap[b]? = _ := (Lib.alloc_old w.drew _ b hlt).trans hbk
    rw [Lib.cell_of_heap this]; exact hc1
  have c3 : (w.alloc (.view ⟨g, p, none⟩ 5)).drew.cell? ⟨b, 1, none⟩ = some (.slice (some ⟨g, p, none⟩) 0 0) := c2
  have c0 : w.cell? ⟨b, 1, none⟩ = some (.slice (some ⟨g, p, none⟩) 0 0) := c1
  go_enter Tryd.func46, Tryd.ntmps46
  go_wp2
  go_region
  all_goals (go_wp2; go_ret; exact ⟨rfl, rfl⟩)

def strings_Builder_copyCheck (l : List Int) : Option (Unit × ((Unit × Unit × Unit) × List Int × Unit)) := some ((), (((), (), ()), l, ()))
def fc59 : FC := ⟨⟨[.one (.ptr 0 0)], bShape 85 5⟩, ⟨[], bShape 85 5⟩, fun x => strings_Builder_copyCheck x.2.2.1⟩
theorem con59 : Contract Tryd.prog 59 fc59 :=
  Contract.copyCheck (fn := Tryd.f59) (c := Tryd.f59.body.getD .skip) Tryd.func59 (by kernel_rfl) (by kernel_rfl) (fun b w h => cc_used b w h) (fun b w h h' h'' => cc_fresh b w h h' h'')

def strings_Builder_String (l : List Int) : Option ((ByteArray × Unit) × (Unit × Unit × Unit)) := if byteL l = true then some ((strOfBytes l, ()), ((), (), ())) else none
def fc46 : FC := ⟨⟨[.one (.ptr 0 0)], bShape 85 5⟩, ⟨[.one .str], [.dead, .dead]⟩, fun x => strings_Builder_String x.2.2.1⟩
theorem con46 : Contract Tryd.prog 46 fc46 :=
  Contract.bString (fn := Tryd.f46) (c := Tryd.f46.body.getD .skip) Tryd.func46 (by kernel_rfl) (by kernel_rfl) (fun b w cs h h' => st_nil b w cs h h') (fun b g p cap hc w cs h h' => st_room b g p cap hc w cs h h')
    (fun b g p w cs cur h h' h'' => st_noroom b g p w cs cur h h' h'') (fun b g p cap w cs cur l h1 h2 h3 h4 h5 h6 h7 h8 => st_row b g p cap w cs cur l h1 h2 h3 h4 h5 h6 h7 h8)

end
end Go.Proofs.YtejehchbflmofaaDoor
end

section
/-
YtejehchbflmofaaDoor: (*strings.Builder).WriteByte, as one plain function, its equations, its contract. No condition.
-/
set_option maxRecDepth 100000
set_option linter.unusedVariables false
set_option maxHeartbeats 4000000
open Go Go.AM
namespace Go.Proofs.YtejehchbflmofaaDoor
noncomputable section
def strings_Builder_WriteByte_D : FD := ⟨T, lookC [(59, fc59)], [], (Tryd.f43.body.getD .skip), Tryd.f43.results.toList, ⟨[.one (.ptr 0 0), .one (.int .u8)], [.box 85 [(.oself 0), (.own 1)], .arr 5 (.int .u8) true]⟩, ⟨[.one .junk], [.box 85 [(.oself 0), (.own 2)], .dead, .arr 5 (.int .u8) true]⟩, []⟩
def strings_Builder_WriteByte (c : Int) (l1 : (List Int)) : (Option ((Unit × Unit) × ((Unit × Unit × Unit) × Unit × (List Int) × Unit))) :=
  (strings_Builder_copyCheck l1).bind fun y1 =>
    if (y1.2.2.1.length + 1) * 1 ≤ 140737488355328 ∧ 0 < 1 then
      some (((), ()), (((), (), ()), (), y1.2.2.1 ++ [c], ()))
    else
      none
def fc43 : FC := ⟨⟨[.one (.ptr 0 0), .one (.int .u8)], [.box 85 [(.oself 0), (.own 1)], .arr 5 (.int .u8) true]⟩, ⟨[.one .junk], [.box 85 [(.oself 0), (.own 2)], .dead, .arr 5 (.int .u8) true]⟩, fun x => strings_Builder_WriteByte x.1.2.1 x.2.2.1⟩
theorem con43 : Contract Tryd.prog 43 fc43 :=
  strings_Builder_WriteByte_D.contract tok (cok_of (l := [(59, fc59)]) ⟨con59, trivial⟩) mixed (fn' := Tryd.f43) (by kernel_rfl) (by kernel_rfl) rfl (by kernel_rfl) (fun x => (FD.fn_eq _ _).trans (by kernel_rfl))
end
end Go.Proofs.YtejehchbflmofaaDoor
end

section
/-
YtejehchbflmofaaDoor: (*strings.Builder).WriteString, as one plain function, its equations, its contract. No condition.
-/
set_option maxRecDepth 100000
set_option linter.unusedVariables false
set_option maxHeartbeats 4000000
open Go Go.AM
namespace Go.Proofs.YtejehchbflmofaaDoor
noncomputable section
def strings_Builder_WriteString_D : FD := ⟨T, lookC [(59, fc59)], [], (Tryd.f44.body.getD .skip), Tryd.f44.results.toList, ⟨[.one (.ptr 0 0), .one .str], [.box 85 [(.oself 0), (.own 1)], .arr 5 (.int .u8) true]⟩, ⟨[.one (.int .i64), .one .junk], [.box 85 [(.oself 0), (.own 2)], .dead, .arr 5 (.int .u8) true]⟩, []⟩
def strings_Builder_WriteString (s : ByteArray) (l1 : (List Int)) : (Option ((Int × Unit × Unit) × ((Unit × Unit × Unit) × Unit × (List Int) × Unit))) :=
  (strings_Builder_copyCheck l1).bind fun y1 =>
    if (y1.2.2.1.length + (bytesOfStr s).length) * 1 ≤ 140737488355328 ∧ 0 < 1 then
      some (((s.size : Int), (), ()), (((), (), ()), (), y1.2.2.1 ++ (bytesOfStr s), ()))
    else
      none
def fc44 : FC := ⟨⟨[.one (.ptr 0 0), .one .str], [.box 85 [(.oself 0), (.own 1)], .arr 5 (.int .u8) true]⟩, ⟨[.one (.int .i64), .one .junk], [.box 85 [(.oself 0), (.own 2)], .dead, .arr 5 (.int .u8) true]⟩, fun x => strings_Builder_WriteString x.1.2.1 x.2.2.1⟩
theorem con44 : Contract Tryd.prog 44 fc44 :=
  strings_Builder_WriteString_D.contract tok (cok_of (l := [(59, fc59)]) ⟨con59, trivial⟩) mixed (fn' := Tryd.f44) (by kernel_rfl) (by kernel_rfl) rfl (by kernel_rfl) (fun x => (FD.fn_eq _ _).trans (by kernel_rfl))
end
end Go.Proofs.YtejehchbflmofaaDoor
end

section
/-
YtejehchbflmofaaDoor: signalbench.lex.plain, as one plain function, its equations, its contract. No condition.
-/
set_option maxRecDepth 100000
set_option linter.unusedVariables false
set_option maxHeartbeats 4000000
open Go Go.AM
namespace Go.Proofs.YtejehchbflmofaaDoor
noncomputable section
def lex_plain_D : FD := ⟨T, lookC [], [], (Tryd.f75.body.getD .skip), Tryd.f75.results.toList, ⟨[.one (.int .i32)], []⟩, ⟨[.one .bool], []⟩, []⟩
def lex_plain (c : Int) : (Option ((Bool × Unit) × Unit)) :=
  if (decide ((32 : Int) ≤ c)) = true then
    if (decide (c ≤ 126)) = true then
      if (c != 34) = true then
        some ((c != 92, ()), ())
      else
        some ((false, ()), ())
    else
      some ((false, ()), ())
  else
    some ((false, ()), ())
def fc75 : FC := ⟨⟨[.one (.int .i32)], []⟩, ⟨[.one .bool], []⟩, fun x => lex_plain x.1.1⟩
theorem con75 : Contract Tryd.prog 75 fc75 :=
  lex_plain_D.contract tok (cok_of (l := []) trivial) mixed (fn' := Tryd.f75) (by kernel_rfl) (by kernel_rfl) rfl (by kernel_rfl) (fun x => (FD.fn_eq _ _).trans (by kernel_rfl))
end
end Go.Proofs.YtejehchbflmofaaDoor
end

section
/-
YtejehchbflmofaaDoor: signalbench.lex.Quote, as one plain function, its equations, its contract. No condition.
-/
set_option maxRecDepth 100000
set_option linter.unusedVariables false
set_option maxHeartbeats 4000000
open Go Go.AM
namespace Go.Proofs.YtejehchbflmofaaDoor
noncomputable section
def lex_Quote_F5 : FSh := ⟨[(0, .one .str), (3, .one (.ptr 0 0)), (8, .one (.int .i64)), (9, .one (.int .i64))], [.box 85 [(.oself 0), (.own 1)], .arr 5 (.int .u8) true]⟩
def lex_Quote_D : FD := ⟨T, lookC [(43, fc43), (44, fc44), (46, fc46), (75, fc75)], [], (Tryd.f57.body.getD .skip), Tryd.f57.results.toList, ⟨[.one .str], []⟩, ⟨[.one .str], []⟩, [(5, lex_Quote_F5)]⟩
def lex_Quote_l5 (s : ByteArray) (t8 : Int) (t9 : Int) (l1 : (List Int)) : (Option ((ByteArray × Unit) × Unit)) := lex_Quote_D.lab 5 lex_Quote_F5 ((s, (), t8, t9, ()), (((), (), ()), l1, ()))
theorem lex_Quote_l5_eq (s : ByteArray) (t8 : Int) (t9 : Int) (l1 : (List Int)) : lex_Quote_l5 s t8 t9 l1 =
  if (decide (t9 < t8)) = true then
    if 0 ≤ t9 ∧ t9 < (s.size : Int) then
      (lex_plain (IntKind.i32.wrap (bt s t9))).bind fun y1 =>
        if y1.1.1 = true then
          (strings_Builder_WriteByte (bt s t9) l1).bind fun y2 =>
            lex_Quote_l5 s t8 (IntKind.i64.wrap (t9 + 1)) y2.2.2.2.1
        else
          if ((bt s t9) == 34) = true then
            (strings_Builder_WriteByte 92 l1).bind fun y3 =>
              (strings_Builder_WriteByte (bt s t9) y3.2.2.2.1).bind fun y4 =>
                lex_Quote_l5 s t8 (IntKind.i64.wrap (t9 + 1)) y4.2.2.2.1
          else
            if ((bt s t9) == 92) = true then
              (strings_Builder_WriteByte 92 l1).bind fun y5 =>
                (strings_Builder_WriteByte (bt s t9) y5.2.2.2.1).bind fun y6 =>
                  lex_Quote_l5 s t8 (IntKind.i64.wrap (t9 + 1)) y6.2.2.2.1
            else
              if ((bt s t9) == 10) = true then
                (strings_Builder_WriteString (strB [92, 110]) l1).bind fun y7 =>
                  lex_Quote_l5 s t8 (IntKind.i64.wrap (t9 + 1)) y7.2.2.2.1
              else
                (strings_Builder_WriteString (strB [92, 120]) l1).bind fun y8 =>
                  if 0 ≤ (bt s t9).fdiv 16 ∧ (bt s t9).fdiv 16 < ((strB [48, 49, 50, 51, 52, 53, 54, 55, 56, 57, 97, 98, 99, 100, 101, 102]).size : Int) then
                    (strings_Builder_WriteByte (bt (strB [48, 49, 50, 51, 52, 53, 54, 55, 56, 57, 97, 98, 99, 100, 101, 102]) ((bt s t9).fdiv 16)) y8.2.2.2.1).bind fun y9 =>
                      if 0 ≤ IntKind.u8.wrap (BitVec.ofInt 8 (bt s t9) &&& BitVec.ofInt 8 15).toNat ∧ IntKind.u8.wrap (BitVec.ofInt 8 (bt s t9) &&& BitVec.ofInt 8 15).toNat < ((strB [48, 49, 50, 51, 52, 53, 54, 55, 56, 57, 97, 98, 99, 100, 101, 102]).size : Int) then
                        (strings_Builder_WriteByte (bt (strB [48, 49, 50, 51, 52, 53, 54, 55, 56, 57, 97, 98, 99, 100, 101, 102]) (IntKind.u8.wrap (BitVec.ofInt 8 (bt s t9) &&& BitVec.ofInt 8 15).toNat)) y9.2.2.2.1).bind fun y10 =>
                          lex_Quote_l5 s t8 (IntKind.i64.wrap (t9 + 1)) y10.2.2.2.1
                      else
                        none
                  else
                    none
    else
      none
  else
    (strings_Builder_WriteByte 34 l1).bind fun y11 =>
      (strings_Builder_String y11.2.2.2.1).bind fun y12 =>
        some ((y12.1.1, ()), ()) := (FD.lab_eq _ _ _ _).trans (by kernel_rfl)
def lex_Quote (s : ByteArray) : (Option ((ByteArray × Unit) × Unit)) :=
  (strings_Builder_WriteByte 34 []).bind fun y1 =>
    lex_Quote_l5 s (s.size : Int) 0 y1.2.2.2.1
def fc57 : FC := ⟨⟨[.one .str], []⟩, ⟨[.one .str], []⟩, fun x => lex_Quote x.1.1⟩
theorem con57 : Contract Tryd.prog 57 fc57 :=
  lex_Quote_D.contract tok (cok_of (l := [(43, fc43), (44, fc44), (46, fc46), (75, fc75)]) ⟨con43, con44, con46, con75, trivial⟩) mixed (fn' := Tryd.f57) (by kernel_rfl) (by kernel_rfl) rfl (by kernel_rfl) (fun x => (FD.fn_eq _ _).trans (by kernel_rfl))
end
end Go.Proofs.YtejehchbflmofaaDoor
end

section
/-
YtejehchbflmofaaDoor: signalbench.lex.mark, as one plain function, its equations, its contract. No condition.
-/
set_option maxRecDepth 100000
set_option linter.unusedVariables false
set_option maxHeartbeats 4000000
open Go Go.AM
namespace Go.Proofs.YtejehchbflmofaaDoor
noncomputable section
def lex_mark_D : FD := ⟨T, lookC [], [], (Tryd.f58.body.getD .skip), Tryd.f58.results.toList, ⟨[.one (.int .i32)], []⟩, ⟨[.one .bool], []⟩, []⟩
def lex_mark (c : Int) : (Option ((Bool × Unit) × Unit)) :=
  if (c == 40) = true then
    some ((true, ()), ())
  else
    if (c == 41) = true then
      some ((true, ()), ())
    else
      if (c == 91) = true then
        some ((true, ()), ())
      else
        if (c == 93) = true then
          some ((true, ()), ())
        else
          if (c == 123) = true then
            some ((true, ()), ())
          else
            if (c == 125) = true then
              some ((true, ()), ())
            else
              if (c == 60) = true then
                some ((true, ()), ())
              else
                if (c == 62) = true then
                  some ((true, ()), ())
                else
                  if (c == 61) = true then
                    some ((true, ()), ())
                  else
                    if (c == 44) = true then
                      some ((true, ()), ())
                    else
                      if (c == 59) = true then
                        some ((true, ()), ())
                      else
                        if (c == 58) = true then
                          some ((true, ()), ())
                        else
                          if (c == 46) = true then
                            some ((true, ()), ())
                          else
                            if (c == 47) = true then
                              some ((true, ()), ())
                            else
                              if (c == 42) = true then
                                some ((true, ()), ())
                              else
                                if (c == 43) = true then
                                  some ((true, ()), ())
                                else
                                  if (c == 33) = true then
                                    some ((true, ()), ())
                                  else
                                    if (c == 38) = true then
                                      some ((true, ()), ())
                                    else
                                      if (c == 124) = true then
                                        some ((true, ()), ())
                                      else
                                        some ((false, ()), ())
def fc58 : FC := ⟨⟨[.one (.int .i32)], []⟩, ⟨[.one .bool], []⟩, fun x => lex_mark x.1.1⟩
theorem con58 : Contract Tryd.prog 58 fc58 :=
  lex_mark_D.contract tok (cok_of (l := []) trivial) mixed (fn' := Tryd.f58) (by kernel_rfl) (by kernel_rfl) rfl (by kernel_rfl) (fun x => (FD.fn_eq _ _).trans (by kernel_rfl))
end
end Go.Proofs.YtejehchbflmofaaDoor
end

section
/-
YtejehchbflmofaaDoor: signalbench.lex.form, as one plain function, its equations, its contract. No condition.
-/
set_option maxRecDepth 100000
set_option linter.unusedVariables false
set_option maxHeartbeats 4000000
open Go Go.AM
namespace Go.Proofs.YtejehchbflmofaaDoor
noncomputable section
def lex_form_D : FD := ⟨T, lookC [(26, fc26), (41, fc41), (56, fc56), (57, fc57), (58, fc58)], [], (Tryd.f42.body.getD .skip), Tryd.f42.results.toList, ⟨[.row (.cons (.int .i64) (.cons .str (.cons (.int .i64) (.int .i64))))], []⟩, ⟨[.one .str, .one .bool], []⟩, []⟩
def lex_form (t : TToken) : (Option ((ByteArray × Bool × Unit) × Unit)) :=
  if (t.1 == 1) = true then
    (lex_Name t.2.1).bind fun y1 =>
      if y1.1.1 = true then
        some ((t.2.1, t.2.2.1 == 0, ()), ())
      else
        some ((t.2.1, false, ()), ())
  else
    if (t.1 == 2) = true then
      (lex_Number t.2.1).bind fun y2 =>
        (strconv_Itoa t.2.2.1).bind fun y3 =>
          if (y2.1.2.1 == 0) = true then
            some ((y3.1.1, y2.1.1 == t.2.2.1, ()), ())
          else
            some ((y3.1.1, false, ()), ())
    else
      if (t.1 == 3) = true then
        (lex_Quote t.2.1).bind fun y4 =>
          some ((y4.1.1, t.2.2.1 == 0, ()), ())
      else
        if (t.1 == 4) = true then
          if ((t.2.1.size : Int) == 1) = true then
            if 0 ≤ (0 : Int) ∧ 0 < (t.2.1.size : Int) then
              (lex_mark (IntKind.i32.wrap (bt t.2.1 0))).bind fun y5 =>
                if y5.1.1 = true then
                  some ((t.2.1, t.2.2.1 == 0, ()), ())
                else
                  some ((t.2.1, false, ()), ())
            else
              none
          else
            some ((t.2.1, false, ()), ())
        else
          some (((strB []), false, ()), ())
def fc42 : FC := ⟨⟨[.row (.cons (.int .i64) (.cons .str (.cons (.int .i64) (.int .i64))))], []⟩, ⟨[.one .str, .one .bool], []⟩, fun x => lex_form x.1.1⟩
theorem con42 : Contract Tryd.prog 42 fc42 :=
  lex_form_D.contract tok (cok_of (l := [(26, fc26), (41, fc41), (56, fc56), (57, fc57), (58, fc58)]) ⟨con26, con41, con56, con57, con58, trivial⟩) mixed (fn' := Tryd.f42) (by kernel_rfl) (by kernel_rfl) rfl (by kernel_rfl) (fun x => (FD.fn_eq _ _).trans (by kernel_rfl))
end
end Go.Proofs.YtejehchbflmofaaDoor
end

section
/-
YtejehchbflmofaaDoor: (*strings.Builder).Len, as one plain function, its equations, its contract. No condition.
-/
set_option maxRecDepth 100000
set_option linter.unusedVariables false
set_option maxHeartbeats 4000000
open Go Go.AM
namespace Go.Proofs.YtejehchbflmofaaDoor
noncomputable section
def strings_Builder_Len_D : FD := ⟨T, lookC [], [], (Tryd.f45.body.getD .skip), Tryd.f45.results.toList, ⟨[.one (.ptr 0 0)], [.box 85 [(.oself 0), (.own 1)], .arr 5 (.int .u8) true]⟩, ⟨[.one (.int .i64)], [.box 85 [(.oself 0), (.own 2)], .dead, .arr 5 (.int .u8) true]⟩, []⟩
def strings_Builder_Len (l1 : (List Int)) : (Option ((Int × Unit) × ((Unit × Unit × Unit) × Unit × (List Int) × Unit))) :=
  some (((l1.length : Int), ()), (((), (), ()), (), l1, ()))
def fc45 : FC := ⟨⟨[.one (.ptr 0 0)], [.box 85 [(.oself 0), (.own 1)], .arr 5 (.int .u8) true]⟩, ⟨[.one (.int .i64)], [.box 85 [(.oself 0), (.own 2)], .dead, .arr 5 (.int .u8) true]⟩, fun x => strings_Builder_Len x.2.2.1⟩
theorem con45 : Contract Tryd.prog 45 fc45 :=
  strings_Builder_Len_D.contract tok (cok_of (l := []) trivial) mixed (fn' := Tryd.f45) (by kernel_rfl) (by kernel_rfl) rfl (by kernel_rfl) (fun x => (FD.fn_eq _ _).trans (by kernel_rfl))
end
end Go.Proofs.YtejehchbflmofaaDoor
end

section
/-
YtejehchbflmofaaDoor: signalbench.lex.Text, as one plain function, its equations, its contract. No condition.
-/
set_option maxRecDepth 100000
set_option linter.unusedVariables false
set_option maxHeartbeats 4000000
open Go Go.AM
namespace Go.Proofs.YtejehchbflmofaaDoor
noncomputable section
def lex_Text_F4 : FSh := ⟨[(0, .one (.sl (.cons (.int .i64) (.cons .str (.cons (.int .i64) (.int .i64)))))), (4, .one (.ptr 0 0)), (9, .one (.int .i64)), (10, .one (.int .i64))], [.box 85 [(.oself 0), (.own 1)], .arr 5 (.int .u8) true]⟩
def lex_Text_D : FD := ⟨T, lookC [(42, fc42), (43, fc43), (44, fc44), (45, fc45), (46, fc46)], [], (Tryd.f31.body.getD .skip), Tryd.f31.results.toList, ⟨[.one (.sl (.cons (.int .i64) (.cons .str (.cons (.int .i64) (.int .i64)))))], []⟩, ⟨[.one .str, .one (.int .i64)], []⟩, [(4, lex_Text_F4)]⟩
def lex_Text_l4 (l : (List TToken)) (t9 : Int) (t10 : Int) (l1 : (List Int)) : (Option ((ByteArray × Int × Unit) × Unit)) := lex_Text_D.lab 4 lex_Text_F4 ((l, (), t9, t10, ()), (((), (), ()), l1, ()))
theorem lex_Text_l4_eq (l : (List TToken)) (t9 : Int) (t10 : Int) (l1 : (List Int)) : lex_Text_l4 l t9 t10 l1 =
  if (decide (t10 < t9)) = true then
    if 0 ≤ t10 ∧ t10 < (l.length : Int) then
      (lex_form (l.getD t10.toNat dToken)).bind fun y1 =>
        if (!y1.1.2.1) = true then
          some (((strB []), 1, ()), ())
        else
          if (decide (t10 > 0)) = true then
            (strings_Builder_WriteByte 32 l1).bind fun y2 =>
              (strings_Builder_WriteString y1.1.1 y2.2.2.2.1).bind fun y3 =>
                lex_Text_l4 l t9 (IntKind.i64.wrap (t10 + 1)) y3.2.2.2.1
          else
            (strings_Builder_WriteString y1.1.1 l1).bind fun y4 =>
              lex_Text_l4 l t9 (IntKind.i64.wrap (t10 + 1)) y4.2.2.2.1
    else
      none
  else
    (strings_Builder_Len l1).bind fun y5 =>
      if (decide (y5.1.1 > 1048576)) = true then
        some (((strB []), 6, ()), ())
      else
        (strings_Builder_String y5.2.2.2.1).bind fun y6 =>
          some ((y6.1.1, 0, ()), ()) := (FD.lab_eq _ _ _ _).trans (by kernel_rfl)
def lex_Text (l : (List TToken)) : (Option ((ByteArray × Int × Unit) × Unit)) :=
  lex_Text_l4 l (l.length : Int) 0 []
def fc31 : FC := ⟨⟨[.one (.sl (.cons (.int .i64) (.cons .str (.cons (.int .i64) (.int .i64)))))], []⟩, ⟨[.one .str, .one (.int .i64)], []⟩, fun x => lex_Text x.1.1⟩
theorem con31 : Contract Tryd.prog 31 fc31 :=
  lex_Text_D.contract tok (cok_of (l := [(42, fc42), (43, fc43), (44, fc44), (45, fc45), (46, fc46)]) ⟨con42, con43, con44, con45, con46, trivial⟩) mixed (fn' := Tryd.f31) (by kernel_rfl) (by kernel_rfl) rfl (by kernel_rfl) (fun x => (FD.fn_eq _ _).trans (by kernel_rfl))
end
end Go.Proofs.YtejehchbflmofaaDoor
end

section
/-
YtejehchbflmofaaDoor: signalbench.limit.Print, as one plain function, its equations, its contract. No condition.
-/
set_option maxRecDepth 100000
set_option linter.unusedVariables false
set_option maxHeartbeats 4000000
open Go Go.AM
namespace Go.Proofs.YtejehchbflmofaaDoor
noncomputable section
def limit_Print_F7 : FSh := ⟨[(4, .one (.own 0)), (12, .one (.sl (.cons (.int .i64) (.cons .str (.cons .str (.cons .bool (.cons (.int .i64) (.int .i64)))))))), (13, .one (.int .i64)), (14, .one (.int .i64))], [.arr 65 (.cons (.int .i64) (.cons .str (.cons (.int .i64) (.int .i64)))) true]⟩
def limit_Print_F20 : FSh := ⟨[(4, .one (.own 0)), (6, .one (.ptr 1 0)), (12, .one (.sl (.cons (.int .i64) (.cons .str (.cons .str (.cons .bool (.cons (.int .i64) (.int .i64)))))))), (13, .one (.int .i64)), (14, .one (.int .i64))], [.arr 65 (.cons (.int .i64) (.cons .str (.cons (.int .i64) (.int .i64)))) true, .boxr 41 (.cons (.int .i64) (.cons .str (.cons .str (.cons .bool (.cons (.int .i64) (.int .i64))))))]⟩
def limit_Print_F23 : FSh := ⟨[(4, .one (.own 0)), (6, .one (.ptr 1 0)), (8, .one .str), (12, .one (.sl (.cons (.int .i64) (.cons .str (.cons .str (.cons .bool (.cons (.int .i64) (.int .i64)))))))), (13, .one (.int .i64)), (14, .one (.int .i64))], [.arr 65 (.cons (.int .i64) (.cons .str (.cons (.int .i64) (.int .i64)))) true, .boxr 41 (.cons (.int .i64) (.cons .str (.cons .str (.cons .bool (.cons (.int .i64) (.int .i64))))))]⟩
def limit_Print_D : FD := ⟨T, lookC [(19, fc19), (21, fc21), (26, fc26), (27, fc27), (28, fc28), (29, fc29), (30, fc30), (31, fc31)], [23, 20], (Tryd.f11.body.getD .skip), Tryd.f11.results.toList, ⟨[.one (.sl (.cons (.int .i64) (.cons .str (.cons .str (.cons .bool (.cons (.int .i64) (.int .i64)))))))], []⟩, ⟨[.one .str, .one (.int .i64)], []⟩, [(7, limit_Print_F7), (20, limit_Print_F20), (23, limit_Print_F23)]⟩
def limit_Print_l7 (t12 : (List TLimit)) (t13 : Int) (t14 : Int) (l0 : (List TToken)) : (Option ((ByteArray × Int × Unit) × Unit)) := limit_Print_D.lab 7 limit_Print_F7 (((), t12, t13, t14, ()), (l0, ()))
def limit_Print_l20 (t12 : (List TLimit)) (t13 : Int) (t14 : Int) (l0 : (List TToken)) (h1 : TLimit) : (Option ((ByteArray × Int × Unit) × Unit)) := limit_Print_D.lab 20 limit_Print_F20 (((), (), t12, t13, t14, ()), (l0, h1, ()))
def limit_Print_l23 (edge : ByteArray) (t12 : (List TLimit)) (t13 : Int) (t14 : Int) (l0 : (List TToken)) (h1 : TLimit) : (Option ((ByteArray × Int × Unit) × Unit)) := limit_Print_D.lab 23 limit_Print_F23 (((), (), edge, t12, t13, t14, ()), (l0, h1, ()))
theorem limit_Print_l7_eq (t12 : (List TLimit)) (t13 : Int) (t14 : Int) (l0 : (List TToken)) : limit_Print_l7 t12 t13 t14 l0 =
  if (decide (t14 < t13)) = true then
    if 0 ≤ t14 ∧ t14 < (t12.length : Int) then
      (limit_form (t12.getD t14.toNat dLimit)).bind fun y1 =>
        if (y1.1.1 != 0) = true then
          some (((strB []), y1.1.1, ()), ())
        else
          (lex_Name (t12.getD t14.toNat dLimit).2.1).bind fun y2 =>
            if (!y2.1.1) = true then
              some (((strB []), 4, ()), ())
            else
              (limit_clocked (t12.getD t14.toNat dLimit)).bind fun y3 =>
                if y3.1.1 = true then
                  (lex_Name (t12.getD t14.toNat dLimit).2.2.1).bind fun y4 =>
                    if (!y4.1.1) = true then
                      some (((strB []), 4, ()), ())
                    else
                      (limit_word (t12.getD t14.toNat dLimit).1).bind fun y5 =>
                        (limit_name y5.1.1).bind fun y6 =>
                          (limit_name (t12.getD t14.toNat dLimit).2.1).bind fun y7 =>
                            if (l0.length + 2) * 40 ≤ 140737488355328 ∧ 0 < 40 then
                              (limit_clocked (t12.getD t14.toNat dLimit)).bind fun y8 =>
                                if y8.1.1 = true then
                                  if (t12.getD t14.toNat dLimit).2.2.2.1 = true then
                                    limit_Print_l23 (strB [114, 105, 115, 101]) t12 t13 t14 (l0 ++ [y6.1.1, y7.1.1]) (t12.getD t14.toNat dLimit)
                                  else
                                    limit_Print_l23 (strB [102, 97, 108, 108]) t12 t13 t14 (l0 ++ [y6.1.1, y7.1.1]) (t12.getD t14.toNat dLimit)
                                else
                                  limit_Print_l20 t12 t13 t14 (l0 ++ [y6.1.1, y7.1.1]) (t12.getD t14.toNat dLimit)
                            else
                              none
                else
                  (limit_word (t12.getD t14.toNat dLimit).1).bind fun y9 =>
                    (limit_name y9.1.1).bind fun y10 =>
                      (limit_name (t12.getD t14.toNat dLimit).2.1).bind fun y11 =>
                        if (l0.length + 2) * 40 ≤ 140737488355328 ∧ 0 < 40 then
                          (limit_clocked (t12.getD t14.toNat dLimit)).bind fun y12 =>
                            if y12.1.1 = true then
                              if (t12.getD t14.toNat dLimit).2.2.2.1 = true then
                                limit_Print_l23 (strB [114, 105, 115, 101]) t12 t13 t14 (l0 ++ [y10.1.1, y11.1.1]) (t12.getD t14.toNat dLimit)
                              else
                                limit_Print_l23 (strB [102, 97, 108, 108]) t12 t13 t14 (l0 ++ [y10.1.1, y11.1.1]) (t12.getD t14.toNat dLimit)
                            else
                              limit_Print_l20 t12 t13 t14 (l0 ++ [y10.1.1, y11.1.1]) (t12.getD t14.toNat dLimit)
                        else
                          none
    else
      none
  else
    (lex_Text l0).bind fun y13 =>
      some ((y13.1.1, y13.1.2.1, ()), ()) := (FD.lab_eq _ _ _ _).trans (by kernel_rfl)
theorem limit_Print_l20_eq (t12 : (List TLimit)) (t13 : Int) (t14 : Int) (l0 : (List TToken)) (h1 : TLimit) : limit_Print_l20 t12 t13 t14 l0 h1 =
  (limit_number h1.2.2.2.2.1).bind fun y1 =>
    (limit_mark (strB [46])).bind fun y2 =>
      (limit_mark (strB [46])).bind fun y3 =>
        (limit_number h1.2.2.2.2.2).bind fun y4 =>
          (limit_mark (strB [59])).bind fun y5 =>
            if (l0.length + 5) * 40 ≤ 140737488355328 ∧ 0 < 40 then
              limit_Print_l7 t12 t13 (IntKind.i64.wrap (t14 + 1)) (l0 ++ [y1.1.1, y2.1.1, y3.1.1, y4.1.1, y5.1.1])
            else
              none := (FD.lab_eq _ _ _ _).trans (by kernel_rfl)
theorem limit_Print_l23_eq (edge : ByteArray) (t12 : (List TLimit)) (t13 : Int) (t14 : Int) (l0 : (List TToken)) (h1 : TLimit) : limit_Print_l23 edge t12 t13 t14 l0 h1 =
  (limit_name h1.2.2.1).bind fun y1 =>
    (limit_name edge).bind fun y2 =>
      if (l0.length + 2) * 40 ≤ 140737488355328 ∧ 0 < 40 then
        limit_Print_l20 t12 t13 t14 (l0 ++ [y1.1.1, y2.1.1]) h1
      else
        none := (FD.lab_eq _ _ _ _).trans (by kernel_rfl)
def limit_Print (l : (List TLimit)) : (Option ((ByteArray × Int × Unit) × Unit)) :=
  if (decide ((l.length : Int) > 64)) = true then
    some (((strB []), 6, ()), ())
  else
    limit_Print_l7 l (l.length : Int) 0 []
def fc11 : FC := ⟨⟨[.one (.sl (.cons (.int .i64) (.cons .str (.cons .str (.cons .bool (.cons (.int .i64) (.int .i64)))))))], []⟩, ⟨[.one .str, .one (.int .i64)], []⟩, fun x => limit_Print x.1.1⟩
theorem con11 : Contract Tryd.prog 11 fc11 :=
  limit_Print_D.contract tok (cok_of (l := [(19, fc19), (21, fc21), (26, fc26), (27, fc27), (28, fc28), (29, fc29), (30, fc30), (31, fc31)]) ⟨con19, con21, con26, con27, con28, con29, con30, con31, trivial⟩) mixed (fn' := Tryd.f11) (by kernel_rfl) (by kernel_rfl) rfl (by kernel_rfl) (fun x => (FD.fn_eq _ _).trans (by kernel_rfl))
end
end Go.Proofs.YtejehchbflmofaaDoor
end

section
/-
YtejehchbflmofaaDoor: signalbench.lex.words, as one plain function, its equations, its contract. No condition.
-/
set_option maxRecDepth 100000
set_option linter.unusedVariables false
set_option maxHeartbeats 4000000
open Go Go.AM
namespace Go.Proofs.YtejehchbflmofaaDoor
noncomputable section
def lex_words_F3 : FSh := ⟨[(0, .one .str), (3, .one (.int .i64))], []⟩
def lex_words_D : FD := ⟨T, lookC [(40, fc40)], [], (Tryd.f61.body.getD .skip), Tryd.f61.results.toList, ⟨[.one .str], []⟩, ⟨[.one (.int .i64)], []⟩, [(3, lex_words_F3)]⟩
def lex_words_l3 (s : ByteArray) (n : Int) : (Option ((Int × Unit) × Unit)) := lex_words_D.lab 3 lex_words_F3 ((s, n, ()), ())
theorem lex_words_l3_eq (s : ByteArray) (n : Int) : lex_words_l3 s n =
  if (decide (n < (s.size : Int))) = true then
    if 0 ≤ n ∧ n < (s.size : Int) then
      (lex_word (IntKind.i32.wrap (bt s n))).bind fun y1 =>
        if y1.1.1 = true then
          lex_words_l3 s (IntKind.i64.wrap (n + 1))
        else
          some ((n, ()), ())
    else
      none
  else
    some ((n, ()), ()) := (FD.lab_eq _ _ _ _).trans (by kernel_rfl)
def lex_words (s : ByteArray) : (Option ((Int × Unit) × Unit)) :=
  lex_words_l3 s 0
def fc61 : FC := ⟨⟨[.one .str], []⟩, ⟨[.one (.int .i64)], []⟩, fun x => lex_words x.1.1⟩
theorem con61 : Contract Tryd.prog 61 fc61 :=
  lex_words_D.contract tok (cok_of (l := [(40, fc40)]) ⟨con40, trivial⟩) mixed (fn' := Tryd.f61) (by kernel_rfl) (by kernel_rfl) rfl (by kernel_rfl) (fun x => (FD.fn_eq _ _).trans (by kernel_rfl))
end
end Go.Proofs.YtejehchbflmofaaDoor
end

section
/-
YtejehchbflmofaaDoor: signalbench.lex.quoted, as one plain function, its equations, its contract. No condition.
-/
set_option maxRecDepth 100000
set_option linter.unusedVariables false
set_option maxHeartbeats 4000000
open Go Go.AM
namespace Go.Proofs.YtejehchbflmofaaDoor
noncomputable section
def lex_quoted_F3 : FSh := ⟨[(0, .one .str), (3, .one (.int .i64))], []⟩
def lex_quoted_D : FD := ⟨T, lookC [], [], (Tryd.f62.body.getD .skip), Tryd.f62.results.toList, ⟨[.one .str], []⟩, ⟨[.one (.int .i64)], []⟩, [(3, lex_quoted_F3)]⟩
def lex_quoted_l3 (s : ByteArray) (i : Int) : (Option ((Int × Unit) × Unit)) := lex_quoted_D.lab 3 lex_quoted_F3 ((s, i, ()), ())
theorem lex_quoted_l3_eq (s : ByteArray) (i : Int) : lex_quoted_l3 s i =
  if (decide (i < (s.size : Int))) = true then
    if 0 ≤ i ∧ i < (s.size : Int) then
      if ((bt s i) == 34) = true then
        some ((IntKind.i64.wrap (i + 1), ()), ())
      else
        if ((bt s i) == 92) = true then
          lex_quoted_l3 s (IntKind.i64.wrap ((IntKind.i64.wrap (i + 1)) + 1))
        else
          lex_quoted_l3 s (IntKind.i64.wrap (i + 1))
    else
      none
  else
    some ((0, ()), ()) := (FD.lab_eq _ _ _ _).trans (by kernel_rfl)
def lex_quoted (s : ByteArray) : (Option ((Int × Unit) × Unit)) :=
  lex_quoted_l3 s 1
def fc62 : FC := ⟨⟨[.one .str], []⟩, ⟨[.one (.int .i64)], []⟩, fun x => lex_quoted x.1.1⟩
theorem con62 : Contract Tryd.prog 62 fc62 :=
  lex_quoted_D.contract tok (cok_of (l := []) trivial) mixed (fn' := Tryd.f62) (by kernel_rfl) (by kernel_rfl) rfl (by kernel_rfl) (fun x => (FD.fn_eq _ _).trans (by kernel_rfl))
end
end Go.Proofs.YtejehchbflmofaaDoor
end

section
/-
YtejehchbflmofaaDoor: signalbench.lex.escape, as one plain function, its equations, its contract. No condition.
-/
set_option maxRecDepth 100000
set_option linter.unusedVariables false
set_option maxHeartbeats 4000000
open Go Go.AM
namespace Go.Proofs.YtejehchbflmofaaDoor
noncomputable section
def lex_escape_F6 : FSh := ⟨[(0, .one .str), (8, .one (.int .u8)), (9, .one .bool)], []⟩
def lex_escape_D : FD := ⟨T, lookC [(74, fc74)], [6], (Tryd.f78.body.getD .skip), Tryd.f78.results.toList, ⟨[.one .str], []⟩, ⟨[.one (.int .u8), .one (.int .i64)], []⟩, [(6, lex_escape_F6)]⟩
def lex_escape_l6 (s : ByteArray) (t8 : Int) (t9 : Bool) : (Option ((Int × Int × Unit) × Unit)) := lex_escape_D.lab 6 lex_escape_F6 ((s, t8, t9, ()), ())
theorem lex_escape_l6_eq (s : ByteArray) (t8 : Int) (t9 : Bool) : lex_escape_l6 s t8 t9 =
  if t9 = true then
    if 0 ≤ (1 : Int) ∧ 1 < (s.size : Int) then
      some ((bt s 1, 2, ()), ())
    else
      none
  else
    if (t8 == 110) = true then
      some ((10, 2, ()), ())
    else
      if (t8 == 120) = true then
        if (decide ((s.size : Int) < 4)) = true then
          some ((0, 0, ()), ())
        else
          if 0 ≤ (2 : Int) ∧ 2 < (s.size : Int) then
            (lex_hex (bt s 2)).bind fun y1 =>
              if (decide (y1.1.1 < 0)) = true then
                some ((0, 0, ()), ())
              else
                if 0 ≤ (3 : Int) ∧ 3 < (s.size : Int) then
                  (lex_hex (bt s 3)).bind fun y2 =>
                    if (decide (y2.1.1 < 0)) = true then
                      some ((0, 0, ()), ())
                    else
                      if 0 ≤ (2 : Int) ∧ 2 < (s.size : Int) then
                        (lex_hex (bt s 2)).bind fun y3 =>
                          if 0 ≤ (3 : Int) ∧ 3 < (s.size : Int) then
                            (lex_hex (bt s 3)).bind fun y4 =>
                              some ((IntKind.u8.wrap (IntKind.i64.wrap ((IntKind.i64.wrap (16 * y3.1.1)) + y4.1.1)), 4, ()), ())
                          else
                            none
                      else
                        none
                else
                  none
          else
            none
      else
        some ((0, 0, ()), ()) := (FD.lab_eq _ _ _ _).trans (by kernel_rfl)
def lex_escape (s : ByteArray) : (Option ((Int × Int × Unit) × Unit)) :=
  if (decide ((s.size : Int) < 2)) = true then
    some ((0, 0, ()), ())
  else
    if 0 ≤ (1 : Int) ∧ 1 < (s.size : Int) then
      if ((bt s 1) == 34) = true then
        lex_escape_l6 s (bt s 1) true
      else
        lex_escape_l6 s (bt s 1) ((bt s 1) == 92)
    else
      none
def fc78 : FC := ⟨⟨[.one .str], []⟩, ⟨[.one (.int .u8), .one (.int .i64)], []⟩, fun x => lex_escape x.1.1⟩
theorem con78 : Contract Tryd.prog 78 fc78 :=
  lex_escape_D.contract tok (cok_of (l := [(74, fc74)]) ⟨con74, trivial⟩) mixed (fn' := Tryd.f78) (by kernel_rfl) (by kernel_rfl) rfl (by kernel_rfl) (fun x => (FD.fn_eq _ _).trans (by kernel_rfl))
end
end Go.Proofs.YtejehchbflmofaaDoor
end

section
/-
YtejehchbflmofaaDoor: signalbench.lex.Unquote, as one plain function, its equations, its contract. No condition.
-/
set_option maxRecDepth 100000
set_option linter.unusedVariables false
set_option maxHeartbeats 4000000
open Go Go.AM
namespace Go.Proofs.YtejehchbflmofaaDoor
noncomputable section
def lex_Unquote_F7 : FSh := ⟨[(0, .one .str), (4, .one (.own 0))], [.arr 5 (.int .u8) true]⟩
def lex_Unquote_F14 : FSh := ⟨[(0, .one .str), (4, .one (.own 0)), (5, .one (.int .u8)), (6, .one (.int .i64))], [.arr 5 (.int .u8) true]⟩
def lex_Unquote_D : FD := ⟨T, lookC [(75, fc75), (78, fc78)], [14], (Tryd.f63.body.getD .skip), Tryd.f63.results.toList, ⟨[.one .str], []⟩, ⟨[.one .str, .one (.int .i64)], []⟩, [(7, lex_Unquote_F7), (14, lex_Unquote_F14)]⟩
def lex_Unquote_l7 (s : ByteArray) (l0 : (List Int)) : (Option ((ByteArray × Int × Unit) × Unit)) := lex_Unquote_D.lab 7 lex_Unquote_F7 ((s, (), ()), (l0, ()))
def lex_Unquote_l14 (s : ByteArray) (c : Int) (n : Int) (l0 : (List Int)) : (Option ((ByteArray × Int × Unit) × Unit)) := lex_Unquote_D.lab 14 lex_Unquote_F14 ((s, (), c, n, ()), (l0, ()))
theorem lex_Unquote_l7_eq (s : ByteArray) (l0 : (List Int)) : lex_Unquote_l7 s l0 =
  if (!(s.toList == (strB []).toList)) = true then
    if 0 ≤ (0 : Int) ∧ 0 < (s.size : Int) then
      (lex_plain (IntKind.i32.wrap (bt s 0))).bind fun y1 =>
        if y1.1.1 = true then
          if 0 ≤ (0 : Int) ∧ 0 < (s.size : Int) then
            if (l0.length + 1) * 1 ≤ 140737488355328 ∧ 0 < 1 then
              if 0 ≤ (1 : Int) ∧ 1 ≤ (s.size : Int) then
                lex_Unquote_l7 (s.extract 1 s.size) (l0 ++ [bt s 0])
              else
                none
            else
              none
          else
            none
        else
          if 0 ≤ (0 : Int) ∧ 0 < (s.size : Int) then
            if ((bt s 0) == 92) = true then
              (lex_escape s).bind fun y2 =>
                lex_Unquote_l14 s y2.1.1 y2.1.2.1 l0
            else
              lex_Unquote_l14 s 0 0 l0
          else
            none
    else
      none
  else
    some ((strOfBytes l0, 0, ()), ()) := (FD.lab_eq _ _ _ _).trans (by kernel_rfl)
theorem lex_Unquote_l14_eq (s : ByteArray) (c : Int) (n : Int) (l0 : (List Int)) : lex_Unquote_l14 s c n l0 =
  if (n == 0) = true then
    some (((strB []), 4, ()), ())
  else
    if (l0.length + 1) * 1 ≤ 140737488355328 ∧ 0 < 1 then
      if 0 ≤ n ∧ n ≤ (s.size : Int) then
        lex_Unquote_l7 (s.extract n.toNat s.size) (l0 ++ [c])
      else
        none
    else
      none := (FD.lab_eq _ _ _ _).trans (by kernel_rfl)
def lex_Unquote (s : ByteArray) : (Option ((ByteArray × Int × Unit) × Unit)) :=
  if (decide ((s.size : Int) < 2)) = true then
    some (((strB []), 4, ()), ())
  else
    if 0 ≤ (0 : Int) ∧ 0 < (s.size : Int) then
      if ((bt s 0) != 34) = true then
        some (((strB []), 4, ()), ())
      else
        if 0 ≤ IntKind.i64.wrap ((s.size : Int) - 1) ∧ IntKind.i64.wrap ((s.size : Int) - 1) < (s.size : Int) then
          if ((bt s (IntKind.i64.wrap ((s.size : Int) - 1))) != 34) = true then
            some (((strB []), 4, ()), ())
          else
            if 0 ≤ (1 : Int) ∧ (1 : Int) ≤ IntKind.i64.wrap ((s.size : Int) - 1) ∧ IntKind.i64.wrap ((s.size : Int) - 1) ≤ (s.size : Int) then
              lex_Unquote_l7 (s.extract 1 (IntKind.i64.wrap ((s.size : Int) - 1)).toNat) []
            else
              none
        else
          none
    else
      none
def fc63 : FC := ⟨⟨[.one .str], []⟩, ⟨[.one .str, .one (.int .i64)], []⟩, fun x => lex_Unquote x.1.1⟩
theorem con63 : Contract Tryd.prog 63 fc63 :=
  lex_Unquote_D.contract tok (cok_of (l := [(75, fc75), (78, fc78)]) ⟨con75, con78, trivial⟩) mixed (fn' := Tryd.f63) (by kernel_rfl) (by kernel_rfl) rfl (by kernel_rfl) (fun x => (FD.fn_eq _ _).trans (by kernel_rfl))
end
end Go.Proofs.YtejehchbflmofaaDoor
end

section
/-
YtejehchbflmofaaDoor: signalbench.lex.take, as one plain function, its equations, its contract. No condition.
-/
set_option maxRecDepth 100000
set_option linter.unusedVariables false
set_option maxHeartbeats 4000000
open Go Go.AM
namespace Go.Proofs.YtejehchbflmofaaDoor
noncomputable section
def lex_take_D : FD := ⟨T, lookC [(26, fc26), (39, fc39), (54, fc54), (56, fc56), (58, fc58), (61, fc61), (62, fc62), (63, fc63)], [], (Tryd.f48.body.getD .skip), Tryd.f48.results.toList, ⟨[.one .str], []⟩, ⟨[.row (.cons (.int .i64) (.cons .str (.cons (.int .i64) (.int .i64)))), .one (.int .i64), .one (.int .i64)], []⟩, []⟩
def lex_take (s : ByteArray) : (Option ((TToken × Int × Int × Unit) × Unit)) :=
  if 0 ≤ (0 : Int) ∧ 0 < (s.size : Int) then
    (lex_letter (IntKind.i32.wrap (bt s 0))).bind fun y1 =>
      if y1.1.1 = true then
        (lex_words s).bind fun y2 =>
          if 0 ≤ (0 : Int) ∧ (0 : Int) ≤ y2.1.1 ∧ y2.1.1 ≤ (s.size : Int) then
            (lex_Name (s.extract 0 y2.1.1.toNat)).bind fun y3 =>
              if (!y3.1.1) = true then
                some (((0, (strB []), 0, 0), 0, 4, ()), ())
              else
                if 0 ≤ (0 : Int) ∧ (0 : Int) ≤ y2.1.1 ∧ y2.1.1 ≤ (s.size : Int) then
                  some (((1, s.extract 0 y2.1.1.toNat, 0, 0), y2.1.1, 0, ()), ())
                else
                  none
          else
            none
      else
        (lex_digit (IntKind.i32.wrap (bt s 0))).bind fun y4 =>
          if y4.1.1 = true then
            if 0 ≤ (1 : Int) ∧ 1 ≤ (s.size : Int) then
              (lex_words (s.extract 1 s.size)).bind fun y5 =>
                if 0 ≤ (0 : Int) ∧ (0 : Int) ≤ IntKind.i64.wrap (1 + y5.1.1) ∧ IntKind.i64.wrap (1 + y5.1.1) ≤ (s.size : Int) then
                  (lex_Number (s.extract 0 (IntKind.i64.wrap (1 + y5.1.1)).toNat)).bind fun y6 =>
                    if 0 ≤ (0 : Int) ∧ (0 : Int) ≤ IntKind.i64.wrap (1 + y5.1.1) ∧ IntKind.i64.wrap (1 + y5.1.1) ≤ (s.size : Int) then
                      some (((2, s.extract 0 (IntKind.i64.wrap (1 + y5.1.1)).toNat, y6.1.1, 0), IntKind.i64.wrap (1 + y5.1.1), y6.1.2.1, ()), ())
                    else
                      none
                else
                  none
            else
              none
          else
            if ((IntKind.i32.wrap (bt s 0)) == 45) = true then
              if 0 ≤ (1 : Int) ∧ 1 ≤ (s.size : Int) then
                (lex_words (s.extract 1 s.size)).bind fun y7 =>
                  if 0 ≤ (0 : Int) ∧ (0 : Int) ≤ IntKind.i64.wrap (1 + y7.1.1) ∧ IntKind.i64.wrap (1 + y7.1.1) ≤ (s.size : Int) then
                    (lex_Number (s.extract 0 (IntKind.i64.wrap (1 + y7.1.1)).toNat)).bind fun y8 =>
                      if 0 ≤ (0 : Int) ∧ (0 : Int) ≤ IntKind.i64.wrap (1 + y7.1.1) ∧ IntKind.i64.wrap (1 + y7.1.1) ≤ (s.size : Int) then
                        some (((2, s.extract 0 (IntKind.i64.wrap (1 + y7.1.1)).toNat, y8.1.1, 0), IntKind.i64.wrap (1 + y7.1.1), y8.1.2.1, ()), ())
                      else
                        none
                  else
                    none
              else
                none
            else
              if ((IntKind.i32.wrap (bt s 0)) == 34) = true then
                (lex_quoted s).bind fun y9 =>
                  if 0 ≤ (0 : Int) ∧ (0 : Int) ≤ y9.1.1 ∧ y9.1.1 ≤ (s.size : Int) then
                    (lex_Unquote (s.extract 0 y9.1.1.toNat)).bind fun y10 =>
                      some (((3, y10.1.1, 0, 0), y9.1.1, y10.1.2.1, ()), ())
                  else
                    none
              else
                (lex_mark (IntKind.i32.wrap (bt s 0))).bind fun y11 =>
                  if y11.1.1 = true then
                    if 0 ≤ (0 : Int) ∧ (0 : Int) ≤ 1 ∧ 1 ≤ (s.size : Int) then
                      some (((4, s.extract 0 1, 0, 0), 1, 0, ()), ())
                    else
                      none
                  else
                    some (((0, (strB []), 0, 0), 0, 4, ()), ())
  else
    none
def fc48 : FC := ⟨⟨[.one .str], []⟩, ⟨[.row (.cons (.int .i64) (.cons .str (.cons (.int .i64) (.int .i64)))), .one (.int .i64), .one (.int .i64)], []⟩, fun x => lex_take x.1.1⟩
theorem con48 : Contract Tryd.prog 48 fc48 :=
  lex_take_D.contract tok (cok_of (l := [(26, fc26), (39, fc39), (54, fc54), (56, fc56), (58, fc58), (61, fc61), (62, fc62), (63, fc63)]) ⟨con26, con39, con54, con56, con58, con61, con62, con63, trivial⟩) mixed (fn' := Tryd.f48) (by kernel_rfl) (by kernel_rfl) rfl (by kernel_rfl) (fun x => (FD.fn_eq _ _).trans (by kernel_rfl))
end
end Go.Proofs.YtejehchbflmofaaDoor
end

section
/-
YtejehchbflmofaaDoor: strings.IndexByte, by the shelf. No condition.
-/
open Go Go.AM
variable [Inhabited ZMem]
namespace Go.Proofs.YtejehchbflmofaaDoor
noncomputable section
def strings_IndexByte (s : ByteArray) (c : Int) : Option ((Int × Unit) × Unit) := some ((Lib.indexByte s.data.toList c.toNat.toUInt8, ()), ())
def fc47 : FC := ⟨⟨[.one .str, .one (.int .u8)], []⟩, ⟨[.one (.int .i64)], []⟩, fun x => strings_IndexByte x.1.1 x.1.2.1⟩
theorem con47 : Contract Tryd.prog 47 fc47 :=
  Contract.still (P := Tryd.prog) (f := 47) (sa := [.one .str, .one (.int .u8)]) (sr := [.one (.int .i64)]) (fn := Tryd.f47) (c := Tryd.f47.body.getD .skip) (by kernel_rfl) (by kernel_rfl) (by kernel_rfl) (g := fun x => some (Lib.indexByte x.1.data.toList x.2.1.toNat.toUInt8, ())) (fun w M G x y vals hI hv hg => by
    obtain ⟨s, c, u⟩ := x
    obtain ⟨vs⟩ := vals
    match vs, hv with
    | [v1, v2], hv =>
      obtain ⟨⟨rfl, _⟩, ⟨rfl, _⟩, _⟩ := hv
      cases hg
      refine (Tryd.strings_IndexByte s c w).mono ?_
      rintro e w' ⟨rfl, rfl⟩
      exact ⟨_, rfl, rfl, rfl, rfl⟩)
end
end Go.Proofs.YtejehchbflmofaaDoor
end

section
/-
YtejehchbflmofaaDoor: signalbench.lex.Tokens, as one plain function, its equations, its contract. No condition.
-/
set_option maxRecDepth 100000
set_option linter.unusedVariables false
set_option maxHeartbeats 4000000
open Go Go.AM
namespace Go.Proofs.YtejehchbflmofaaDoor
noncomputable section
def lex_Tokens_F7 : FSh := ⟨[(0, .one .str), (5, .one (.own 0)), (6, .one (.int .i64))], [.arr 65 (.cons (.int .i64) (.cons .str (.cons (.int .i64) (.int .i64)))) true]⟩
def lex_Tokens_F15 : FSh := ⟨[(0, .one .str), (5, .one (.own 0)), (6, .one (.int .i64)), (17, .one (.int .u8)), (24, .one .bool)], [.arr 65 (.cons (.int .i64) (.cons .str (.cons (.int .i64) (.int .i64)))) true]⟩
def lex_Tokens_D : FD := ⟨T, lookC [(47, fc47), (48, fc48)], [15], (Tryd.f32.body.getD .skip), Tryd.f32.results.toList, ⟨[.one .str], []⟩, ⟨[.one (.sl (.cons (.int .i64) (.cons .str (.cons (.int .i64) (.int .i64))))), .one (.int .i64), .one (.int .i64)], []⟩, [(7, lex_Tokens_F7), (15, lex_Tokens_F15)]⟩
def lex_Tokens_l7 (s : ByteArray) (line : Int) (l0 : (List TToken)) : (Option (((List TToken) × Int × Int × Unit) × Unit)) := lex_Tokens_D.lab 7 lex_Tokens_F7 ((s, (), line, ()), (l0, ()))
def lex_Tokens_l15 (s : ByteArray) (line : Int) (t17 : Int) (t24 : Bool) (l0 : (List TToken)) : (Option (((List TToken) × Int × Int × Unit) × Unit)) := lex_Tokens_D.lab 15 lex_Tokens_F15 ((s, (), line, t17, t24, ()), (l0, ()))
theorem lex_Tokens_l7_eq (s : ByteArray) (line : Int) (l0 : (List TToken)) : lex_Tokens_l7 s line l0 =
  if (!(s.toList == (strB []).toList)) = true then
    if 0 ≤ (0 : Int) ∧ 0 < (s.size : Int) then
      if ((bt s 0) == 10) = true then
        if 0 ≤ (1 : Int) ∧ 1 ≤ (s.size : Int) then
          lex_Tokens_l7 (s.extract 1 s.size) (IntKind.i64.wrap (line + 1)) l0
        else
          none
      else
        if ((bt s 0) == 32) = true then
          lex_Tokens_l15 s line (bt s 0) true l0
        else
          lex_Tokens_l15 s line (bt s 0) ((bt s 0) == 9) l0
    else
      none
  else
    some ((l0, 0, 0, ()), ()) := (FD.lab_eq _ _ _ _).trans (by kernel_rfl)
theorem lex_Tokens_l15_eq (s : ByteArray) (line : Int) (t17 : Int) (t24 : Bool) (l0 : (List TToken)) : lex_Tokens_l15 s line t17 t24 l0 =
  if t24 = true then
    if 0 ≤ (1 : Int) ∧ 1 ≤ (s.size : Int) then
      lex_Tokens_l7 (s.extract 1 s.size) line l0
    else
      none
  else
    if (t17 == 35) = true then
      (strings_IndexByte s 10).bind fun y1 =>
        if (decide (y1.1.1 < 0)) = true then
          if 0 ≤ (s.size : Int) ∧ (s.size : Int) ≤ (s.size : Int) then
            lex_Tokens_l7 (s.extract (s.size : Int).toNat s.size) line l0
          else
            none
        else
          if 0 ≤ y1.1.1 ∧ y1.1.1 ≤ (s.size : Int) then
            lex_Tokens_l7 (s.extract y1.1.1.toNat s.size) line l0
          else
            none
    else
      (lex_take s).bind fun y2 =>
        if (y2.1.2.2.1 != 0) = true then
          some (([], line, y2.1.2.2.1, ()), ())
        else
          if (l0.length + 1) * 40 ≤ 140737488355328 ∧ 0 < 40 then
            if 0 ≤ y2.1.2.1 ∧ y2.1.2.1 ≤ (s.size : Int) then
              lex_Tokens_l7 (s.extract y2.1.2.1.toNat s.size) line (l0 ++ [(y2.1.1.1, y2.1.1.2.1, y2.1.1.2.2.1, line)])
            else
              none
          else
            none := (FD.lab_eq _ _ _ _).trans (by kernel_rfl)
def lex_Tokens (s : ByteArray) : (Option (((List TToken) × Int × Int × Unit) × Unit)) :=
  if (decide ((s.size : Int) > 1048576)) = true then
    some (([], 0, 6, ()), ())
  else
    lex_Tokens_l7 s 1 []
def fc32 : FC := ⟨⟨[.one .str], []⟩, ⟨[.one (.sl (.cons (.int .i64) (.cons .str (.cons (.int .i64) (.int .i64))))), .one (.int .i64), .one (.int .i64)], []⟩, fun x => lex_Tokens x.1.1⟩
theorem con32 : Contract Tryd.prog 32 fc32 :=
  lex_Tokens_D.contract tok (cok_of (l := [(47, fc47), (48, fc48)]) ⟨con47, con48, trivial⟩) mixed (fn' := Tryd.f32) (by kernel_rfl) (by kernel_rfl) rfl (by kernel_rfl) (fun x => (FD.fn_eq _ _).trans (by kernel_rfl))
end
end Go.Proofs.YtejehchbflmofaaDoor
end

section
/-
YtejehchbflmofaaDoor: (*signalbench.limit.reader).need, as one plain function, its equations, its contract. No condition.
-/
set_option maxRecDepth 100000
set_option linter.unusedVariables false
set_option maxHeartbeats 4000000
open Go Go.AM
namespace Go.Proofs.YtejehchbflmofaaDoor
noncomputable section
def limit_reader_need_D : FD := ⟨T, lookC [], [], (Tryd.f49.body.getD .skip), Tryd.f49.results.toList, ⟨[.one (.ptr 0 0), .one (.int .i64), .one .str], [.boxr 74 (.cons (.sl (.cons (.int .i64) (.cons .str (.cons (.int .i64) (.int .i64))))) (.cons (.int .i64) (.int .i64)))]⟩, ⟨[.row (.cons (.int .i64) (.cons .str (.cons (.int .i64) (.int .i64))))], [.boxr 74 (.cons (.sl (.cons (.int .i64) (.cons .str (.cons (.int .i64) (.int .i64))))) (.cons (.int .i64) (.int .i64)))]⟩, []⟩
def limit_reader_need (kind : Int) (text : ByteArray) (h0 : Treader) : (Option ((TToken × Unit) × (Treader × Unit))) :=
  if (decide (h0.2.2 > 0)) = true then
    some (((0, (strB []), 0, 0), ()), (h0, ()))
  else
    if (decide (h0.2.1 ≥ (h0.1.length : Int))) = true then
      if 0 ≤ IntKind.i64.wrap ((h0.1.length : Int) - 1) ∧ IntKind.i64.wrap ((h0.1.length : Int) - 1) < (h0.1.length : Int) then
        some (((0, (strB []), 0, 0), ()), ((h0.1, h0.2.1, (h0.1.getD (IntKind.i64.wrap ((h0.1.length : Int) - 1)).toNat dToken).2.2.2), ()))
      else
        none
    else
      if 0 ≤ h0.2.1 ∧ h0.2.1 < (h0.1.length : Int) then
        if ((h0.1.getD h0.2.1.toNat dToken).1 != kind) = true then
          some (((0, (strB []), 0, 0), ()), ((h0.1, h0.2.1, (h0.1.getD h0.2.1.toNat dToken).2.2.2), ()))
        else
          if (!(text.toList == (strB []).toList)) = true then
            if (!((h0.1.getD h0.2.1.toNat dToken).2.1.toList == text.toList)) = true then
              some (((0, (strB []), 0, 0), ()), ((h0.1, h0.2.1, (h0.1.getD h0.2.1.toNat dToken).2.2.2), ()))
            else
              some (((h0.1.getD h0.2.1.toNat dToken), ()), ((h0.1, IntKind.i64.wrap (h0.2.1 + 1), h0.2.2), ()))
          else
            some (((h0.1.getD h0.2.1.toNat dToken), ()), ((h0.1, IntKind.i64.wrap (h0.2.1 + 1), h0.2.2), ()))
      else
        none
def fc49 : FC := ⟨⟨[.one (.ptr 0 0), .one (.int .i64), .one .str], [.boxr 74 (.cons (.sl (.cons (.int .i64) (.cons .str (.cons (.int .i64) (.int .i64))))) (.cons (.int .i64) (.int .i64)))]⟩, ⟨[.row (.cons (.int .i64) (.cons .str (.cons (.int .i64) (.int .i64))))], [.boxr 74 (.cons (.sl (.cons (.int .i64) (.cons .str (.cons (.int .i64) (.int .i64))))) (.cons (.int .i64) (.int .i64)))]⟩, fun x => limit_reader_need x.1.2.1 x.1.2.2.1 x.2.1⟩
theorem con49 : Contract Tryd.prog 49 fc49 :=
  limit_reader_need_D.contract tok (cok_of (l := []) trivial) mixed (fn' := Tryd.f49) (by kernel_rfl) (by kernel_rfl) rfl (by kernel_rfl) (fun x => (FD.fn_eq _ _).trans (by kernel_rfl))
end
end Go.Proofs.YtejehchbflmofaaDoor
end

section
/-
YtejehchbflmofaaDoor: (*signalbench.limit.reader).limit, as one plain function, its equations, its contract. No condition.
-/
set_option maxRecDepth 100000
set_option linter.unusedVariables false
set_option maxHeartbeats 4000000
open Go Go.AM
namespace Go.Proofs.YtejehchbflmofaaDoor
noncomputable section
def limit_reader_limit_F4 : FSh := ⟨[(0, .one (.ptr 0 0)), (2, .one (.ptr 1 0)), (3, .one (.ptr 2 0)), (4, .one (.int .i64))], [.boxr 74 (.cons (.sl (.cons (.int .i64) (.cons .str (.cons (.int .i64) (.int .i64))))) (.cons (.int .i64) (.int .i64))), .boxr 41 (.cons (.int .i64) (.cons .str (.cons .str (.cons .bool (.cons (.int .i64) (.int .i64)))))), .boxr 41 (.cons (.int .i64) (.cons .str (.cons .str (.cons .bool (.cons (.int .i64) (.int .i64))))))]⟩
def limit_reader_limit_F16 : FSh := ⟨[(0, .one (.ptr 0 0)), (2, .one (.ptr 1 0)), (3, .one (.ptr 2 0))], [.boxr 74 (.cons (.sl (.cons (.int .i64) (.cons .str (.cons (.int .i64) (.int .i64))))) (.cons (.int .i64) (.int .i64))), .boxr 41 (.cons (.int .i64) (.cons .str (.cons .str (.cons .bool (.cons (.int .i64) (.int .i64)))))), .boxr 41 (.cons (.int .i64) (.cons .str (.cons .str (.cons .bool (.cons (.int .i64) (.int .i64))))))]⟩
def limit_reader_limit_D : FD := ⟨T, lookC [(21, fc21), (28, fc28), (49, fc49)], [16], (Tryd.f33.body.getD .skip), Tryd.f33.results.toList, ⟨[.one (.ptr 0 0)], [.boxr 74 (.cons (.sl (.cons (.int .i64) (.cons .str (.cons (.int .i64) (.int .i64))))) (.cons (.int .i64) (.int .i64)))]⟩, ⟨[.row (.cons (.int .i64) (.cons .str (.cons .str (.cons .bool (.cons (.int .i64) (.int .i64))))))], [.boxr 74 (.cons (.sl (.cons (.int .i64) (.cons .str (.cons (.int .i64) (.int .i64))))) (.cons (.int .i64) (.int .i64)))]⟩, [(4, limit_reader_limit_F4), (16, limit_reader_limit_F16)]⟩
def limit_reader_limit_l4 (m : Int) (h0 : Treader) (h1 : TLimit) (h2 : TLimit) : (Option ((TLimit × Unit) × (Treader × Unit))) := limit_reader_limit_D.lab 4 limit_reader_limit_F4 (((), (), (), m, ()), (h0, h1, h2, ()))
def limit_reader_limit_l16 (h0 : Treader) (h1 : TLimit) (h2 : TLimit) : (Option ((TLimit × Unit) × (Treader × Unit))) := limit_reader_limit_D.lab 16 limit_reader_limit_F16 (((), (), (), ()), (h0, h1, h2, ()))
theorem limit_reader_limit_l4_eq (m : Int) (h0 : Treader) (h1 : TLimit) (h2 : TLimit) : limit_reader_limit_l4 m h0 h1 h2 =
  if (decide (m ≤ 6)) = true then
    if 0 ≤ h0.2.1 ∧ h0.2.1 < (h0.1.length : Int) then
      if ((h0.1.getD h0.2.1.toNat dToken).1 == 1) = true then
        (limit_word m).bind fun y1 =>
          if ((h0.1.getD h0.2.1.toNat dToken).2.1.toList == y1.1.1.toList) = true then
            limit_reader_limit_l4 (IntKind.i64.wrap (m + 1)) h0 h1 (m, h2.2)
          else
            limit_reader_limit_l4 (IntKind.i64.wrap (m + 1)) h0 h1 h2
      else
        limit_reader_limit_l4 (IntKind.i64.wrap (m + 1)) h0 h1 h2
    else
      none
  else
    if (h2.1 == 0) = true then
      if 0 ≤ h0.2.1 ∧ h0.2.1 < (h0.1.length : Int) then
        some ((h2, ()), ((h0.1, h0.2.1, (h0.1.getD h0.2.1.toNat dToken).2.2.2), ()))
      else
        none
    else
      (limit_reader_need 1 (strB []) (h0.1, IntKind.i64.wrap (h0.2.1 + 1), h0.2.2)).bind fun y2 =>
        (limit_clocked (h2.1, y2.1.1.2.1, h2.2.2)).bind fun y3 =>
          if y3.1.1 = true then
            (limit_reader_need 1 (strB []) y2.2.1).bind fun y4 =>
              (limit_reader_need 1 (strB []) y4.2.1).bind fun y5 =>
                if (y5.2.1.2.2 == 0) = true then
                  if (!(y5.1.1.2.1.toList == (strB [114, 105, 115, 101]).toList)) = true then
                    if (!(y5.1.1.2.1.toList == (strB [102, 97, 108, 108]).toList)) = true then
                      limit_reader_limit_l16 (y5.2.1.1, y5.2.1.2.1, y5.1.1.2.2.2) h1 (h2.1, y2.1.1.2.1, y4.1.1.2.1, y5.1.1.2.1.toList == (strB [114, 105, 115, 101]).toList, h2.2.2.2.2)
                    else
                      limit_reader_limit_l16 y5.2.1 h1 (h2.1, y2.1.1.2.1, y4.1.1.2.1, y5.1.1.2.1.toList == (strB [114, 105, 115, 101]).toList, h2.2.2.2.2)
                  else
                    limit_reader_limit_l16 y5.2.1 h1 (h2.1, y2.1.1.2.1, y4.1.1.2.1, y5.1.1.2.1.toList == (strB [114, 105, 115, 101]).toList, h2.2.2.2.2)
                else
                  limit_reader_limit_l16 y5.2.1 h1 (h2.1, y2.1.1.2.1, y4.1.1.2.1, y5.1.1.2.1.toList == (strB [114, 105, 115, 101]).toList, h2.2.2.2.2)
          else
            limit_reader_limit_l16 y2.2.1 h1 (h2.1, y2.1.1.2.1, h2.2.2) := (FD.lab_eq _ _ _ _).trans (by kernel_rfl)
theorem limit_reader_limit_l16_eq (h0 : Treader) (h1 : TLimit) (h2 : TLimit) : limit_reader_limit_l16 h0 h1 h2 =
  (limit_reader_need 2 (strB []) h0).bind fun y1 =>
    (limit_reader_need 4 (strB [46]) y1.2.1).bind fun y2 =>
      (limit_reader_need 4 (strB [46]) y2.2.1).bind fun y3 =>
        (limit_reader_need 2 (strB []) y3.2.1).bind fun y4 =>
          (limit_reader_need 4 (strB [59]) y4.2.1).bind fun y5 =>
            some (((h2.1, h2.2.1, h2.2.2.1, h2.2.2.2.1, y1.1.1.2.2.1, y4.1.1.2.2.1), ()), (y5.2.1, ())) := (FD.lab_eq _ _ _ _).trans (by kernel_rfl)
def limit_reader_limit (h0 : Treader) : (Option ((TLimit × Unit) × (Treader × Unit))) :=
  limit_reader_limit_l4 1 h0 (0, (strB []), (strB []), false, 0, 0) (0, (strB []), (strB []), false, 0, 0)
def fc33 : FC := ⟨⟨[.one (.ptr 0 0)], [.boxr 74 (.cons (.sl (.cons (.int .i64) (.cons .str (.cons (.int .i64) (.int .i64))))) (.cons (.int .i64) (.int .i64)))]⟩, ⟨[.row (.cons (.int .i64) (.cons .str (.cons .str (.cons .bool (.cons (.int .i64) (.int .i64))))))], [.boxr 74 (.cons (.sl (.cons (.int .i64) (.cons .str (.cons (.int .i64) (.int .i64))))) (.cons (.int .i64) (.int .i64)))]⟩, fun x => limit_reader_limit x.2.1⟩
theorem con33 : Contract Tryd.prog 33 fc33 :=
  limit_reader_limit_D.contract tok (cok_of (l := [(21, fc21), (28, fc28), (49, fc49)]) ⟨con21, con28, con49, trivial⟩) mixed (fn' := Tryd.f33) (by kernel_rfl) (by kernel_rfl) rfl (by kernel_rfl) (fun x => (FD.fn_eq _ _).trans (by kernel_rfl))
end
end Go.Proofs.YtejehchbflmofaaDoor
end

section
/-
YtejehchbflmofaaDoor: signalbench.limit.Parse, as one plain function, its equations, its contract. No condition.
-/
set_option maxRecDepth 100000
set_option linter.unusedVariables false
set_option maxHeartbeats 4000000
open Go Go.AM
namespace Go.Proofs.YtejehchbflmofaaDoor
noncomputable section
def limit_Parse_F8 : FSh := ⟨[(8, .one (.ptr 0 0)), (9, .one (.own 1))], [.boxr 74 (.cons (.sl (.cons (.int .i64) (.cons .str (.cons (.int .i64) (.int .i64))))) (.cons (.int .i64) (.int .i64))), .arr 41 (.cons (.int .i64) (.cons .str (.cons .str (.cons .bool (.cons (.int .i64) (.int .i64)))))) true]⟩
def limit_Parse_D : FD := ⟨T, lookC [(11, fc11), (32, fc32), (33, fc33)], [], (Tryd.f12.body.getD .skip), Tryd.f12.results.toList, ⟨[.one .str], []⟩, ⟨[.one (.sl (.cons (.int .i64) (.cons .str (.cons .str (.cons .bool (.cons (.int .i64) (.int .i64))))))), .one (.int .i64), .one (.int .i64)], []⟩, [(8, limit_Parse_F8)]⟩
def limit_Parse_l8 (h0 : Treader) (l1 : (List TLimit)) : (Option (((List TLimit) × Int × Int × Unit) × Unit)) := limit_Parse_D.lab 8 limit_Parse_F8 (((), (), ()), (h0, l1, ()))
theorem limit_Parse_l8_eq (h0 : Treader) (l1 : (List TLimit)) : limit_Parse_l8 h0 l1 =
  if (decide (h0.2.1 < (h0.1.length : Int))) = true then
    if (h0.2.2 == 0) = true then
      (limit_reader_limit h0).bind fun y1 =>
        if (l1.length + 1) * 64 ≤ 140737488355328 ∧ 0 < 64 then
          limit_Parse_l8 y1.2.1 (l1 ++ [y1.1.1])
        else
          none
    else
      if (decide (h0.2.2 > 0)) = true then
        some (([], h0.2.2, 4, ()), ())
      else
        (limit_Print l1).bind fun y2 =>
          if (y2.1.2.1 != 0) = true then
            some (([], 0, y2.1.2.1, ()), ())
          else
            some ((l1, 0, 0, ()), ())
  else
    if (decide (h0.2.2 > 0)) = true then
      some (([], h0.2.2, 4, ()), ())
    else
      (limit_Print l1).bind fun y3 =>
        if (y3.1.2.1 != 0) = true then
          some (([], 0, y3.1.2.1, ()), ())
        else
          some ((l1, 0, 0, ()), ()) := (FD.lab_eq _ _ _ _).trans (by kernel_rfl)
def limit_Parse (s : ByteArray) : (Option (((List TLimit) × Int × Int × Unit) × Unit)) :=
  (lex_Tokens s).bind fun y1 =>
    if (y1.1.2.2.1 != 0) = true then
      some (([], y1.1.2.1, y1.1.2.2.1, ()), ())
    else
      limit_Parse_l8 (y1.1.1, 0, 0) []
def fc12 : FC := ⟨⟨[.one .str], []⟩, ⟨[.one (.sl (.cons (.int .i64) (.cons .str (.cons .str (.cons .bool (.cons (.int .i64) (.int .i64))))))), .one (.int .i64), .one (.int .i64)], []⟩, fun x => limit_Parse x.1.1⟩
theorem con12 : Contract Tryd.prog 12 fc12 :=
  limit_Parse_D.contract tok (cok_of (l := [(11, fc11), (32, fc32), (33, fc33)]) ⟨con11, con32, con33, trivial⟩) mixed (fn' := Tryd.f12) (by kernel_rfl) (by kernel_rfl) rfl (by kernel_rfl) (fun x => (FD.fn_eq _ _).trans (by kernel_rfl))
end
end Go.Proofs.YtejehchbflmofaaDoor
end

section
/-
YtejehchbflmofaaDoor: signalbench.signalbenchref49.Same, as one plain function, its equations, its contract. No condition.
-/
set_option maxRecDepth 100000
set_option linter.unusedVariables false
set_option maxHeartbeats 4000000
open Go Go.AM
namespace Go.Proofs.YtejehchbflmofaaDoor
noncomputable section
def ref49_Same_F6 : FSh := ⟨[(0, .one (.sl (.cons (.int .i64) (.cons .str (.cons .str (.cons .bool (.cons (.int .i64) (.int .i64)))))))), (1, .one (.sl (.cons (.int .i64) (.cons .str (.cons .str (.cons .bool (.cons (.int .i64) (.int .i64)))))))), (5, .one (.int .i64))], []⟩
def ref49_Same_D : FD := ⟨T, lookC [], [], (Tryd.f13.body.getD .skip), Tryd.f13.results.toList, ⟨[.one (.sl (.cons (.int .i64) (.cons .str (.cons .str (.cons .bool (.cons (.int .i64) (.int .i64))))))), .one (.sl (.cons (.int .i64) (.cons .str (.cons .str (.cons .bool (.cons (.int .i64) (.int .i64)))))))], []⟩, ⟨[.one .bool], []⟩, [(6, ref49_Same_F6)]⟩
def ref49_Same_l6 (a : (List TLimit)) (b : (List TLimit)) (i : Int) : (Option ((Bool × Unit) × Unit)) := ref49_Same_D.lab 6 ref49_Same_F6 ((a, b, i, ()), ())
theorem ref49_Same_l6_eq (a : (List TLimit)) (b : (List TLimit)) (i : Int) : ref49_Same_l6 a b i =
  if (decide (i < (a.length : Int))) = true then
    if 0 ≤ i ∧ i < (a.length : Int) then
      if 0 ≤ i ∧ i < (b.length : Int) then
        if (!(eqU uLimit (a.getD i.toNat dLimit) (b.getD i.toNat dLimit))) = true then
          some ((false, ()), ())
        else
          ref49_Same_l6 a b (IntKind.i64.wrap (i + 1))
      else
        none
    else
      none
  else
    some ((true, ()), ()) := (FD.lab_eq _ _ _ _).trans (by kernel_rfl)
def ref49_Same (a : (List TLimit)) (b : (List TLimit)) : (Option ((Bool × Unit) × Unit)) :=
  if ((a.length : Int) != (b.length : Int)) = true then
    some ((false, ()), ())
  else
    ref49_Same_l6 a b 0
def fc13 : FC := ⟨⟨[.one (.sl (.cons (.int .i64) (.cons .str (.cons .str (.cons .bool (.cons (.int .i64) (.int .i64))))))), .one (.sl (.cons (.int .i64) (.cons .str (.cons .str (.cons .bool (.cons (.int .i64) (.int .i64)))))))], []⟩, ⟨[.one .bool], []⟩, fun x => ref49_Same x.1.1 x.1.2.1⟩
theorem con13 : Contract Tryd.prog 13 fc13 :=
  ref49_Same_D.contract tok (cok_of (l := []) trivial) mixed (fn' := Tryd.f13) (by kernel_rfl) (by kernel_rfl) rfl (by kernel_rfl) (fun x => (FD.fn_eq _ _).trans (by kernel_rfl))
end
end Go.Proofs.YtejehchbflmofaaDoor
end

section
/-
YtejehchbflmofaaDoor: signalbench.signalbenchlaw49.brief, as one plain function, its equations, its contract. No condition.
-/
set_option maxRecDepth 100000
set_option linter.unusedVariables false
set_option maxHeartbeats 4000000
open Go Go.AM
namespace Go.Proofs.YtejehchbflmofaaDoor
noncomputable section
def law49_brief_D : FD := ⟨T, lookC [], [], (Tryd.f14.body.getD .skip), Tryd.f14.results.toList, ⟨[.one .str], []⟩, ⟨[.one .bool], []⟩, []⟩
def law49_brief (s : ByteArray) : (Option ((Bool × Unit) × Unit)) :=
  some ((decide ((s.size : Int) ≤ 20), ()), ())
def fc14 : FC := ⟨⟨[.one .str], []⟩, ⟨[.one .bool], []⟩, fun x => law49_brief x.1.1⟩
theorem con14 : Contract Tryd.prog 14 fc14 :=
  law49_brief_D.contract tok (cok_of (l := []) trivial) mixed (fn' := Tryd.f14) (by kernel_rfl) (by kernel_rfl) rfl (by kernel_rfl) (fun x => (FD.fn_eq _ _).trans (by kernel_rfl))
end
end Go.Proofs.YtejehchbflmofaaDoor
end

section
/-
YtejehchbflmofaaDoor: slices.Index[[]string,string], as one plain function, its equations, its contract. No condition.
-/
set_option maxRecDepth 100000
set_option linter.unusedVariables false
set_option maxHeartbeats 4000000
open Go Go.AM
namespace Go.Proofs.YtejehchbflmofaaDoor
noncomputable section
def slices_Index_string_string_F3 : FSh := ⟨[(0, .one (.sl .str)), (1, .one .str), (7, .one (.int .i64)), (8, .one (.int .i64))], []⟩
def slices_Index_string_string_D : FD := ⟨T, lookC [], [], (Tryd.f64.body.getD .skip), Tryd.f64.results.toList, ⟨[.one (.sl .str), .one .str], []⟩, ⟨[.one (.int .i64)], []⟩, [(3, slices_Index_string_string_F3)]⟩
def slices_Index_string_string_l3 (s : (List ByteArray)) (v : ByteArray) (t7 : Int) (t8 : Int) : (Option ((Int × Unit) × Unit)) := slices_Index_string_string_D.lab 3 slices_Index_string_string_F3 ((s, v, t7, t8, ()), ())
theorem slices_Index_string_string_l3_eq (s : (List ByteArray)) (v : ByteArray) (t7 : Int) (t8 : Int) : slices_Index_string_string_l3 s v t7 t8 =
  if (decide (t8 < t7)) = true then
    if 0 ≤ t8 ∧ t8 < (s.length : Int) then
      if (v.toList == (s.getD t8.toNat (strB [])).toList) = true then
        some ((t8, ()), ())
      else
        slices_Index_string_string_l3 s v t7 (IntKind.i64.wrap (t8 + 1))
    else
      none
  else
    some (((-1), ()), ()) := (FD.lab_eq _ _ _ _).trans (by kernel_rfl)
def slices_Index_string_string (s : (List ByteArray)) (v : ByteArray) : (Option ((Int × Unit) × Unit)) :=
  slices_Index_string_string_l3 s v (s.length : Int) 0
def fc64 : FC := ⟨⟨[.one (.sl .str), .one .str], []⟩, ⟨[.one (.int .i64)], []⟩, fun x => slices_Index_string_string x.1.1 x.1.2.1⟩
theorem con64 : Contract Tryd.prog 64 fc64 :=
  slices_Index_string_string_D.contract tok (cok_of (l := []) trivial) mixed (fn' := Tryd.f64) (by kernel_rfl) (by kernel_rfl) rfl (by kernel_rfl) (fun x => (FD.fn_eq _ _).trans (by kernel_rfl))
end
end Go.Proofs.YtejehchbflmofaaDoor
end

section
/-
YtejehchbflmofaaDoor: slices.Contains[[]string,string], as one plain function, its equations, its contract. No condition.
-/
set_option maxRecDepth 100000
set_option linter.unusedVariables false
set_option maxHeartbeats 4000000
open Go Go.AM
namespace Go.Proofs.YtejehchbflmofaaDoor
noncomputable section
def slices_Contains_string_string_D : FD := ⟨T, lookC [(64, fc64)], [], (Tryd.f52.body.getD .skip), Tryd.f52.results.toList, ⟨[.one (.sl .str), .one .str], []⟩, ⟨[.one .bool], []⟩, []⟩
def slices_Contains_string_string (s : (List ByteArray)) (v : ByteArray) : (Option ((Bool × Unit) × Unit)) :=
  (slices_Index_string_string s v).bind fun y1 =>
    some ((decide (y1.1.1 ≥ 0), ()), ())
def fc52 : FC := ⟨⟨[.one (.sl .str), .one .str], []⟩, ⟨[.one .bool], []⟩, fun x => slices_Contains_string_string x.1.1 x.1.2.1⟩
theorem con52 : Contract Tryd.prog 52 fc52 :=
  slices_Contains_string_string_D.contract tok (cok_of (l := [(64, fc64)]) ⟨con64, trivial⟩) mixed (fn' := Tryd.f52) (by kernel_rfl) (by kernel_rfl) rfl (by kernel_rfl) (fun x => (FD.fn_eq _ _).trans (by kernel_rfl))
end
end Go.Proofs.YtejehchbflmofaaDoor
end

section
/-
YtejehchbflmofaaDoor: signalbench.capture.checkNames, as one plain function, its equations, its contract. No condition.
-/
set_option maxRecDepth 100000
set_option linter.unusedVariables false
set_option maxHeartbeats 4000000
open Go Go.AM
namespace Go.Proofs.YtejehchbflmofaaDoor
noncomputable section
def capture_checkNames_F6 : FSh := ⟨[(0, .one (.sl .str)), (10, .one (.sl .str)), (11, .one (.int .i64)), (12, .one (.int .i64))], []⟩
def capture_checkNames_F15 : FSh := ⟨[(0, .one (.sl .str)), (20, .one (.sl .str)), (21, .one (.int .i64)), (22, .one (.int .i64))], []⟩
def capture_checkNames_D : FD := ⟨T, lookC [(26, fc26), (52, fc52)], [], (Tryd.f36.body.getD .skip), Tryd.f36.results.toList, ⟨[.one (.sl .str)], []⟩, ⟨[.one (.int .i64)], []⟩, [(6, capture_checkNames_F6), (15, capture_checkNames_F15)]⟩
def capture_checkNames_l6 (names : (List ByteArray)) (t10 : (List ByteArray)) (t11 : Int) (t12 : Int) : (Option ((Int × Unit) × Unit)) := capture_checkNames_D.lab 6 capture_checkNames_F6 ((names, t10, t11, t12, ()), ())
def capture_checkNames_l15 (names : (List ByteArray)) (t20 : (List ByteArray)) (t21 : Int) (t22 : Int) : (Option ((Int × Unit) × Unit)) := capture_checkNames_D.lab 15 capture_checkNames_F15 ((names, t20, t21, t22, ()), ())
theorem capture_checkNames_l6_eq (names : (List ByteArray)) (t10 : (List ByteArray)) (t11 : Int) (t12 : Int) : capture_checkNames_l6 names t10 t11 t12 =
  if (decide (t12 < t11)) = true then
    if 0 ≤ t12 ∧ t12 < (t10.length : Int) then
      (lex_Name (t10.getD t12.toNat (strB []))).bind fun y1 =>
        if (!y1.1.1) = true then
          some ((4, ()), ())
        else
          capture_checkNames_l6 names t10 t11 (IntKind.i64.wrap (t12 + 1))
    else
      none
  else
    capture_checkNames_l15 names names (names.length : Int) 0 := (FD.lab_eq _ _ _ _).trans (by kernel_rfl)
theorem capture_checkNames_l15_eq (names : (List ByteArray)) (t20 : (List ByteArray)) (t21 : Int) (t22 : Int) : capture_checkNames_l15 names t20 t21 t22 =
  if (decide (t22 < t21)) = true then
    if 0 ≤ t22 ∧ t22 < (t20.length : Int) then
      if 0 ≤ (0 : Int) ∧ (0 : Int) ≤ t22 ∧ t22 ≤ (names.length : Int) then
        (slices_Contains_string_string (names.take t22.toNat) (t20.getD t22.toNat (strB []))).bind fun y1 =>
          if y1.1.1 = true then
            some ((9, ()), ())
          else
            capture_checkNames_l15 names t20 t21 (IntKind.i64.wrap (t22 + 1))
      else
        none
    else
      none
  else
    some ((0, ()), ()) := (FD.lab_eq _ _ _ _).trans (by kernel_rfl)
def capture_checkNames (names : (List ByteArray)) : (Option ((Int × Unit) × Unit)) :=
  if ((names.length : Int) == 0) = true then
    some ((1, ()), ())
  else
    capture_checkNames_l6 names names (names.length : Int) 0
def fc36 : FC := ⟨⟨[.one (.sl .str)], []⟩, ⟨[.one (.int .i64)], []⟩, fun x => capture_checkNames x.1.1⟩
theorem con36 : Contract Tryd.prog 36 fc36 :=
  capture_checkNames_D.contract tok (cok_of (l := [(26, fc26), (52, fc52)]) ⟨con26, con52, trivial⟩) mixed (fn' := Tryd.f36) (by kernel_rfl) (by kernel_rfl) rfl (by kernel_rfl) (fun x => (FD.fn_eq _ _).trans (by kernel_rfl))
end
end Go.Proofs.YtejehchbflmofaaDoor
end

section
/-
YtejehchbflmofaaDoor: signalbench.capture.Check, as one plain function, its equations, its contract. No condition.
-/
set_option maxRecDepth 100000
set_option linter.unusedVariables false
set_option maxHeartbeats 4000000
open Go Go.AM
namespace Go.Proofs.YtejehchbflmofaaDoor
noncomputable section
def capture_Check_F11 : FSh := ⟨[(4, .one (.int .i64)), (5, .one (.int .i64)), (30, .one (.sl (.cons (.int .i64) (.int .i64)))), (31, .one (.int .i64)), (32, .one (.int .i64))], []⟩
def capture_Check_D : FD := ⟨T, lookC [(36, fc36)], [], (Tryd.f18.body.getD .skip), Tryd.f18.results.toList, ⟨[.row (.cons (.sl .str) (.sl (.cons (.int .i64) (.int .i64))))], []⟩, ⟨[.one (.int .i64)], []⟩, [(11, capture_Check_F11)]⟩
def capture_Check_l11 (mask : Int) (left : Int) (t30 : (List TGap)) (t31 : Int) (t32 : Int) : (Option ((Int × Unit) × Unit)) := capture_Check_D.lab 11 capture_Check_F11 ((mask, left, t30, t31, t32, ()), ())
theorem capture_Check_l11_eq (mask : Int) (left : Int) (t30 : (List TGap)) (t31 : Int) (t32 : Int) : capture_Check_l11 mask left t30 t31 t32 =
  if (decide (t32 < t31)) = true then
    if 0 ≤ t32 ∧ t32 < (t30.length : Int) then
      if (decide ((t30.getD t32.toNat dGap).1 < 0)) = true then
        some ((2, ()), ())
      else
        if (decide ((t30.getD t32.toNat dGap).1 > mask)) = true then
          some ((2, ()), ())
        else
          if (decide ((t30.getD t32.toNat dGap).2 < 1)) = true then
            some ((2, ()), ())
          else
            if (decide ((t30.getD t32.toNat dGap).2 > left)) = true then
              some ((2, ()), ())
            else
              capture_Check_l11 mask (IntKind.i64.wrap (left - (t30.getD t32.toNat dGap).2)) t30 t31 (IntKind.i64.wrap (t32 + 1))
    else
      none
  else
    some ((0, ()), ()) := (FD.lab_eq _ _ _ _).trans (by kernel_rfl)
def capture_Check (c : TCapture) : (Option ((Int × Unit) × Unit)) :=
  if (decide ((c.1.length : Int) > 16)) = true then
    some ((6, ()), ())
  else
    if (decide ((c.2.length : Int) > 262144)) = true then
      some ((6, ()), ())
    else
      (capture_checkNames c.1).bind fun y1 =>
        if (y1.1.1 != 0) = true then
          some ((y1.1.1, ()), ())
        else
          if 0 ≤ (c.1.length : Int) then
            capture_Check_l11 (IntKind.i64.wrap ((IntKind.i64.wrap (1 * 2 ^ (min (c.1.length : Int).toNat 64))) - 1)) 1099511627776 c.2 (c.2.length : Int) 0
          else
            none
def fc18 : FC := ⟨⟨[.row (.cons (.sl .str) (.sl (.cons (.int .i64) (.int .i64))))], []⟩, ⟨[.one (.int .i64)], []⟩, fun x => capture_Check x.1.1⟩
theorem con18 : Contract Tryd.prog 18 fc18 :=
  capture_Check_D.contract tok (cok_of (l := [(36, fc36)]) ⟨con36, trivial⟩) mixed (fn' := Tryd.f18) (by kernel_rfl) (by kernel_rfl) rfl (by kernel_rfl) (fun x => (FD.fn_eq _ _).trans (by kernel_rfl))
end
end Go.Proofs.YtejehchbflmofaaDoor
end

section
/-
YtejehchbflmofaaDoor: signalbench.capture.join, as one plain function, its equations, its contract. No condition.
-/
set_option maxRecDepth 100000
set_option linter.unusedVariables false
set_option maxHeartbeats 4000000
open Go Go.AM
namespace Go.Proofs.YtejehchbflmofaaDoor
noncomputable section
def capture_join_D : FD := ⟨T, lookC [], [], (Tryd.f65.body.getD .skip), Tryd.f65.results.toList, ⟨[.one (.own 0), .one (.int .i64), .one (.int .i64)], [.arr 57 (.cons (.int .i64) (.int .i64)) true]⟩, ⟨[.one (.own 1)], [.dead, .arr 57 (.cons (.int .i64) (.int .i64)) true]⟩, []⟩
def capture_join (level : Int) (ticks : Int) (l0 : (List TGap)) : (Option ((Unit × Unit) × (Unit × (List TGap) × Unit))) :=
  if (decide ((l0.length : Int) > 0)) = true then
    if 0 ≤ IntKind.i64.wrap ((l0.length : Int) - 1) ∧ IntKind.i64.wrap ((l0.length : Int) - 1) < (l0.length : Int) then
      if ((l0.getD (IntKind.i64.wrap ((l0.length : Int) - 1)).toNat dGap).1 == level) = true then
        if 0 ≤ IntKind.i64.wrap ((l0.length : Int) - 1) ∧ IntKind.i64.wrap ((l0.length : Int) - 1) < (l0.length : Int) then
          if 0 ≤ IntKind.i64.wrap ((l0.length : Int) - 1) ∧ IntKind.i64.wrap ((l0.length : Int) - 1) < (l0.length : Int) then
            some (((), ()), ((), l0.set (IntKind.i64.wrap ((l0.length : Int) - 1)).toNat ((l0.getD (IntKind.i64.wrap ((l0.length : Int) - 1)).toNat dGap).1, IntKind.i64.wrap ((l0.getD (IntKind.i64.wrap ((l0.length : Int) - 1)).toNat dGap).2 + ticks)), ()))
          else
            none
        else
          none
      else
        if (l0.length + 1) * 16 ≤ 140737488355328 ∧ 0 < 16 then
          some (((), ()), ((), l0 ++ [(level, ticks)], ()))
        else
          none
    else
      none
  else
    if (l0.length + 1) * 16 ≤ 140737488355328 ∧ 0 < 16 then
      some (((), ()), ((), l0 ++ [(level, ticks)], ()))
    else
      none
def fc65 : FC := ⟨⟨[.one (.own 0), .one (.int .i64), .one (.int .i64)], [.arr 57 (.cons (.int .i64) (.int .i64)) true]⟩, ⟨[.one (.own 1)], [.dead, .arr 57 (.cons (.int .i64) (.int .i64)) true]⟩, fun x => capture_join x.1.2.1 x.1.2.2.1 x.2.1⟩
theorem con65 : Contract Tryd.prog 65 fc65 :=
  capture_join_D.contract tok (cok_of (l := []) trivial) mixed (fn' := Tryd.f65) (by kernel_rfl) (by kernel_rfl) rfl (by kernel_rfl) (fun x => (FD.fn_eq _ _).trans (by kernel_rfl))
end
end Go.Proofs.YtejehchbflmofaaDoor
end

section
/-
YtejehchbflmofaaDoor: signalbench.capture.Channel, as one plain function, its equations, its contract. No condition.
-/
set_option maxRecDepth 100000
set_option linter.unusedVariables false
set_option maxHeartbeats 4000000
open Go Go.AM
namespace Go.Proofs.YtejehchbflmofaaDoor
noncomputable section
def capture_Channel_F12 : FSh := ⟨[(7, .one (.int .i64)), (8, .one (.own 0)), (23, .one (.sl (.cons (.int .i64) (.int .i64)))), (24, .one (.int .i64)), (25, .one (.int .i64))], [.arr 57 (.cons (.int .i64) (.int .i64)) true]⟩
def capture_Channel_D : FD := ⟨T, lookC [(18, fc18), (64, fc64), (65, fc65)], [], (Tryd.f50.body.getD .skip), Tryd.f50.results.toList, ⟨[.row (.cons (.sl .str) (.sl (.cons (.int .i64) (.int .i64)))), .one .str], []⟩, ⟨[.one (.sl (.cons (.int .i64) (.int .i64))), .one (.int .i64)], []⟩, [(12, capture_Channel_F12)]⟩
def capture_Channel_l12 (k0 : Int) (t23 : (List TGap)) (t24 : Int) (t25 : Int) (l0 : (List TGap)) : (Option (((List TGap) × Int × Unit) × Unit)) := capture_Channel_D.lab 12 capture_Channel_F12 ((k0, (), t23, t24, t25, ()), (l0, ()))
theorem capture_Channel_l12_eq (k0 : Int) (t23 : (List TGap)) (t24 : Int) (t25 : Int) (l0 : (List TGap)) : capture_Channel_l12 k0 t23 t24 t25 l0 =
  if (decide (t25 < t24)) = true then
    if 0 ≤ t25 ∧ t25 < (t23.length : Int) then
      if 0 ≤ k0 then
        (capture_join (IntKind.i64.wrap (BitVec.ofInt 64 ((t23.getD t25.toNat dGap).1.fdiv (2 ^ (min k0.toNat 64))) &&& BitVec.ofInt 64 1).toNat) (t23.getD t25.toNat dGap).2 l0).bind fun y1 =>
          capture_Channel_l12 k0 t23 t24 (IntKind.i64.wrap (t25 + 1)) y1.2.2.1
      else
        none
    else
      none
  else
    some ((l0, 0, ()), ()) := (FD.lab_eq _ _ _ _).trans (by kernel_rfl)
def capture_Channel (c : TCapture) (name : ByteArray) : (Option (((List TGap) × Int × Unit) × Unit)) :=
  (capture_Check c).bind fun y1 =>
    if (y1.1.1 != 0) = true then
      some (([], y1.1.1, ()), ())
    else
      (slices_Index_string_string c.1 name).bind fun y2 =>
        if (decide (y2.1.1 < 0)) = true then
          some (([], 8, ()), ())
        else
          capture_Channel_l12 y2.1.1 c.2 (c.2.length : Int) 0 []
def fc50 : FC := ⟨⟨[.row (.cons (.sl .str) (.sl (.cons (.int .i64) (.int .i64)))), .one .str], []⟩, ⟨[.one (.sl (.cons (.int .i64) (.int .i64))), .one (.int .i64)], []⟩, fun x => capture_Channel x.1.1 x.1.2.1⟩
theorem con50 : Contract Tryd.prog 50 fc50 :=
  capture_Channel_D.contract tok (cok_of (l := [(18, fc18), (64, fc64), (65, fc65)]) ⟨con18, con64, con65, trivial⟩) mixed (fn' := Tryd.f50) (by kernel_rfl) (by kernel_rfl) rfl (by kernel_rfl) (fun x => (FD.fn_eq _ _).trans (by kernel_rfl))
end
end Go.Proofs.YtejehchbflmofaaDoor
end

section
/-
YtejehchbflmofaaDoor: signalbench.wave.Clean, as one plain function, its equations, its contract. No condition.
-/
set_option maxRecDepth 100000
set_option linter.unusedVariables false
set_option maxHeartbeats 4000000
open Go Go.AM
namespace Go.Proofs.YtejehchbflmofaaDoor
noncomputable section
def wave_Clean_D : FD := ⟨T, lookC [(100, fc100), (101, fc101)], [], (Tryd.f90.body.getD .skip), Tryd.f90.results.toList, ⟨[.one (.sl (.cons (.int .i64) (.int .i64)))], []⟩, ⟨[.one (.sl (.cons (.int .i64) (.int .i64)))], []⟩, []⟩
def wave_Clean (l : (List TGap)) : (Option (((List TGap) × Unit) × Unit)) :=
  (wave_Valid l).bind fun y1 =>
    if (!y1.1.1) = true then
      some (([], ()), ())
    else
      (wave_joined l).bind fun y2 =>
        some ((y2.1.1, ()), ())
def fc90 : FC := ⟨⟨[.one (.sl (.cons (.int .i64) (.int .i64)))], []⟩, ⟨[.one (.sl (.cons (.int .i64) (.int .i64)))], []⟩, fun x => wave_Clean x.1.1⟩
theorem con90 : Contract Tryd.prog 90 fc90 :=
  wave_Clean_D.contract tok (cok_of (l := [(100, fc100), (101, fc101)]) ⟨con100, con101, trivial⟩) mixed (fn' := Tryd.f90) (by kernel_rfl) (by kernel_rfl) rfl (by kernel_rfl) (fun x => (FD.fn_eq _ _).trans (by kernel_rfl))
end
end Go.Proofs.YtejehchbflmofaaDoor
end

section
/-
YtejehchbflmofaaDoor: signalbench.measure.changes, as one plain function, its equations, its contract. No condition.
-/
set_option maxRecDepth 100000
set_option linter.unusedVariables false
set_option maxHeartbeats 4000000
open Go Go.AM
namespace Go.Proofs.YtejehchbflmofaaDoor
noncomputable section
def measure_changes_F5 : FSh := ⟨[(3, .one (.own 0)), (4, .one (.int .i64)), (8, .one (.sl (.cons (.int .i64) (.int .i64)))), (9, .one (.int .i64)), (10, .one (.int .i64))], [.arr 146 (.cons (.int .i64) .bool) true]⟩
def measure_changes_D : FD := ⟨T, lookC [(90, fc90)], [], (Tryd.f99.body.getD .skip), Tryd.f99.results.toList, ⟨[.one (.sl (.cons (.int .i64) (.int .i64)))], []⟩, ⟨[.one (.sl (.cons (.int .i64) .bool))], []⟩, [(5, measure_changes_F5)]⟩
def measure_changes_l5 (at_ : Int) (t8 : (List TGap)) (t9 : Int) (t10 : Int) (l0 : (List Tchange)) : (Option (((List Tchange) × Unit) × Unit)) := measure_changes_D.lab 5 measure_changes_F5 (((), at_, t8, t9, t10, ()), (l0, ()))
theorem measure_changes_l5_eq (at_ : Int) (t8 : (List TGap)) (t9 : Int) (t10 : Int) (l0 : (List Tchange)) : measure_changes_l5 at_ t8 t9 t10 l0 =
  if (decide (t10 < t9)) = true then
    if 0 ≤ t10 ∧ t10 < (t8.length : Int) then
      if (decide (t10 > 0)) = true then
        if (l0.length + 1) * 16 ≤ 140737488355328 ∧ 0 < 16 then
          measure_changes_l5 (IntKind.i64.wrap (at_ + (t8.getD t10.toNat dGap).2)) t8 t9 (IntKind.i64.wrap (t10 + 1)) (l0 ++ [(at_, (t8.getD t10.toNat dGap).1 == 1)])
        else
          none
      else
        measure_changes_l5 (IntKind.i64.wrap (at_ + (t8.getD t10.toNat dGap).2)) t8 t9 (IntKind.i64.wrap (t10 + 1)) l0
    else
      none
  else
    some ((l0, ()), ()) := (FD.lab_eq _ _ _ _).trans (by kernel_rfl)
def measure_changes (l : (List TGap)) : (Option (((List Tchange) × Unit) × Unit)) :=
  (wave_Clean l).bind fun y1 =>
    measure_changes_l5 0 y1.1.1 (y1.1.1.length : Int) 0 []
def fc99 : FC := ⟨⟨[.one (.sl (.cons (.int .i64) (.int .i64)))], []⟩, ⟨[.one (.sl (.cons (.int .i64) .bool))], []⟩, fun x => measure_changes x.1.1⟩
theorem con99 : Contract Tryd.prog 99 fc99 :=
  measure_changes_D.contract tok (cok_of (l := [(90, fc90)]) ⟨con90, trivial⟩) mixed (fn' := Tryd.f99) (by kernel_rfl) (by kernel_rfl) rfl (by kernel_rfl) (fun x => (FD.fn_eq _ _).trans (by kernel_rfl))
end
end Go.Proofs.YtejehchbflmofaaDoor
end

section
/-
YtejehchbflmofaaDoor: signalbench.measure.rises, as one plain function, its equations, its contract. No condition.
-/
set_option maxRecDepth 100000
set_option linter.unusedVariables false
set_option maxHeartbeats 4000000
open Go Go.AM
namespace Go.Proofs.YtejehchbflmofaaDoor
noncomputable section
def measure_rises_F4 : FSh := ⟨[(1, .one .bool), (5, .one (.own 0)), (9, .one (.sl (.cons (.int .i64) .bool))), (10, .one (.int .i64)), (11, .one (.int .i64))], [.arr 3 (.int .i64) true]⟩
def measure_rises_D : FD := ⟨T, lookC [(99, fc99)], [], (Tryd.f89.body.getD .skip), Tryd.f89.results.toList, ⟨[.one (.sl (.cons (.int .i64) (.int .i64))), .one .bool], []⟩, ⟨[.one (.sl (.int .i64))], []⟩, [(4, measure_rises_F4)]⟩
def measure_rises_l4 (rising : Bool) (t9 : (List Tchange)) (t10 : Int) (t11 : Int) (l0 : (List Int)) : (Option (((List Int) × Unit) × Unit)) := measure_rises_D.lab 4 measure_rises_F4 ((rising, (), t9, t10, t11, ()), (l0, ()))
theorem measure_rises_l4_eq (rising : Bool) (t9 : (List Tchange)) (t10 : Int) (t11 : Int) (l0 : (List Int)) : measure_rises_l4 rising t9 t10 t11 l0 =
  if (decide (t11 < t10)) = true then
    if 0 ≤ t11 ∧ t11 < (t9.length : Int) then
      if ((t9.getD t11.toNat dchange).2 == rising) = true then
        if (l0.length + 1) * 8 ≤ 140737488355328 ∧ 0 < 8 then
          measure_rises_l4 rising t9 t10 (IntKind.i64.wrap (t11 + 1)) (l0 ++ [(t9.getD t11.toNat dchange).1])
        else
          none
      else
        measure_rises_l4 rising t9 t10 (IntKind.i64.wrap (t11 + 1)) l0
    else
      none
  else
    some ((l0, ()), ()) := (FD.lab_eq _ _ _ _).trans (by kernel_rfl)
def measure_rises (l : (List TGap)) (rising : Bool) : (Option (((List Int) × Unit) × Unit)) :=
  (measure_changes l).bind fun y1 =>
    measure_rises_l4 rising y1.1.1 (y1.1.1.length : Int) 0 []
def fc89 : FC := ⟨⟨[.one (.sl (.cons (.int .i64) (.int .i64))), .one .bool], []⟩, ⟨[.one (.sl (.int .i64))], []⟩, fun x => measure_rises x.1.1 x.1.2.1⟩
theorem con89 : Contract Tryd.prog 89 fc89 :=
  measure_rises_D.contract tok (cok_of (l := [(99, fc99)]) ⟨con99, trivial⟩) mixed (fn' := Tryd.f89) (by kernel_rfl) (by kernel_rfl) rfl (by kernel_rfl) (fun x => (FD.fn_eq _ _).trans (by kernel_rfl))
end
end Go.Proofs.YtejehchbflmofaaDoor
end

section
/-
YtejehchbflmofaaDoor: signalbench.measure.Periods, as one plain function, its equations, its contract. No condition.
-/
set_option maxRecDepth 100000
set_option linter.unusedVariables false
set_option maxHeartbeats 4000000
open Go Go.AM
namespace Go.Proofs.YtejehchbflmofaaDoor
noncomputable section
def measure_Periods_F5 : FSh := ⟨[(3, .one (.own 0)), (4, .one (.sl (.int .i64))), (5, .one (.int .i64))], [.arr 50 (.cons (.int .i64) (.int .i64)) true]⟩
def measure_Periods_D : FD := ⟨T, lookC [(89, fc89)], [], (Tryd.f79.body.getD .skip), Tryd.f79.results.toList, ⟨[.one (.sl (.cons (.int .i64) (.int .i64)))], []⟩, ⟨[.one (.sl (.cons (.int .i64) (.int .i64)))], []⟩, [(5, measure_Periods_F5)]⟩
def measure_Periods_l5 (r : (List Int)) (i : Int) (l0 : (List TGap)) : (Option (((List TGap) × Unit) × Unit)) := measure_Periods_D.lab 5 measure_Periods_F5 (((), r, i, ()), (l0, ()))
theorem measure_Periods_l5_eq (r : (List Int)) (i : Int) (l0 : (List TGap)) : measure_Periods_l5 r i l0 =
  if (decide (i < (r.length : Int))) = true then
    if 0 ≤ IntKind.i64.wrap (i - 1) ∧ IntKind.i64.wrap (i - 1) < (r.length : Int) then
      if 0 ≤ i ∧ i < (r.length : Int) then
        if 0 ≤ IntKind.i64.wrap (i - 1) ∧ IntKind.i64.wrap (i - 1) < (r.length : Int) then
          if (l0.length + 1) * 16 ≤ 140737488355328 ∧ 0 < 16 then
            measure_Periods_l5 r (IntKind.i64.wrap (i + 1)) (l0 ++ [(r.getD (IntKind.i64.wrap (i - 1)).toNat 0, IntKind.i64.wrap ((r.getD i.toNat 0) - (r.getD (IntKind.i64.wrap (i - 1)).toNat 0)))])
          else
            none
        else
          none
      else
        none
    else
      none
  else
    some ((l0, ()), ()) := (FD.lab_eq _ _ _ _).trans (by kernel_rfl)
def measure_Periods (l : (List TGap)) : (Option (((List TGap) × Unit) × Unit)) :=
  (measure_rises l true).bind fun y1 =>
    measure_Periods_l5 y1.1.1 1 []
def fc79 : FC := ⟨⟨[.one (.sl (.cons (.int .i64) (.int .i64)))], []⟩, ⟨[.one (.sl (.cons (.int .i64) (.int .i64)))], []⟩, fun x => measure_Periods x.1.1⟩
theorem con79 : Contract Tryd.prog 79 fc79 :=
  measure_Periods_D.contract tok (cok_of (l := [(89, fc89)]) ⟨con89, trivial⟩) mixed (fn' := Tryd.f79) (by kernel_rfl) (by kernel_rfl) rfl (by kernel_rfl) (fun x => (FD.fn_eq _ _).trans (by kernel_rfl))
end
end Go.Proofs.YtejehchbflmofaaDoor
end

section
/-
YtejehchbflmofaaDoor: (signalbench.limit.waves).period, as one plain function, its equations, its contract. No condition.
-/
set_option maxRecDepth 100000
set_option linter.unusedVariables false
set_option maxHeartbeats 4000000
open Go Go.AM
namespace Go.Proofs.YtejehchbflmofaaDoor
noncomputable section
def limit_waves_period_D : FD := ⟨T, lookC [(79, fc79)], [], (Tryd.f66.body.getD .skip), Tryd.f66.results.toList, ⟨[.row (.cons (.sl (.cons (.int .i64) (.int .i64))) (.cons (.sl (.cons (.int .i64) (.int .i64))) .bool))], []⟩, ⟨[.one (.sl (.cons (.int .i64) (.int .i64)))], []⟩, []⟩
def limit_waves_period (w0 : Twaves) : (Option (((List TGap) × Unit) × Unit)) :=
  (measure_Periods w0.1).bind fun y1 =>
    some ((y1.1.1, ()), ())
def fc66 : FC := ⟨⟨[.row (.cons (.sl (.cons (.int .i64) (.int .i64))) (.cons (.sl (.cons (.int .i64) (.int .i64))) .bool))], []⟩, ⟨[.one (.sl (.cons (.int .i64) (.int .i64)))], []⟩, fun x => limit_waves_period x.1.1⟩
theorem con66 : Contract Tryd.prog 66 fc66 :=
  limit_waves_period_D.contract tok (cok_of (l := [(79, fc79)]) ⟨con79, trivial⟩) mixed (fn' := Tryd.f66) (by kernel_rfl) (by kernel_rfl) rfl (by kernel_rfl) (fun x => (FD.fn_eq _ _).trans (by kernel_rfl))
end
end Go.Proofs.YtejehchbflmofaaDoor
end

section
/-
YtejehchbflmofaaDoor: signalbench.measure.Pulses, as one plain function, its equations, its contract. No condition.
-/
set_option maxRecDepth 100000
set_option linter.unusedVariables false
set_option maxHeartbeats 4000000
open Go Go.AM
namespace Go.Proofs.YtejehchbflmofaaDoor
noncomputable section
def measure_Pulses_F6 : FSh := ⟨[(1, .one (.int .i64)), (5, .one (.own 0)), (6, .one (.sl (.cons (.int .i64) (.int .i64)))), (7, .one (.int .i64)), (12, .one (.sl (.cons (.int .i64) (.int .i64)))), (13, .one (.int .i64)), (14, .one (.int .i64))], [.arr 50 (.cons (.int .i64) (.int .i64)) true]⟩
def measure_Pulses_D : FD := ⟨T, lookC [(90, fc90)], [], (Tryd.f80.body.getD .skip), Tryd.f80.results.toList, ⟨[.one (.sl (.cons (.int .i64) (.int .i64))), .one (.int .i64)], []⟩, ⟨[.one (.sl (.cons (.int .i64) (.int .i64)))], []⟩, [(6, measure_Pulses_F6)]⟩
def measure_Pulses_l6 (level : Int) (c : (List TGap)) (at_ : Int) (t12 : (List TGap)) (t13 : Int) (t14 : Int) (l0 : (List TGap)) : (Option (((List TGap) × Unit) × Unit)) := measure_Pulses_D.lab 6 measure_Pulses_F6 ((level, (), c, at_, t12, t13, t14, ()), (l0, ()))
theorem measure_Pulses_l6_eq (level : Int) (c : (List TGap)) (at_ : Int) (t12 : (List TGap)) (t13 : Int) (t14 : Int) (l0 : (List TGap)) : measure_Pulses_l6 level c at_ t12 t13 t14 l0 =
  if (decide (t14 < t13)) = true then
    if 0 ≤ t14 ∧ t14 < (t12.length : Int) then
      if (decide (t14 > 0)) = true then
        if (decide (t14 < (IntKind.i64.wrap ((c.length : Int) - 1)))) = true then
          if ((t12.getD t14.toNat dGap).1 == level) = true then
            if (l0.length + 1) * 16 ≤ 140737488355328 ∧ 0 < 16 then
              measure_Pulses_l6 level c (IntKind.i64.wrap (at_ + (t12.getD t14.toNat dGap).2)) t12 t13 (IntKind.i64.wrap (t14 + 1)) (l0 ++ [(at_, (t12.getD t14.toNat dGap).2)])
            else
              none
          else
            measure_Pulses_l6 level c (IntKind.i64.wrap (at_ + (t12.getD t14.toNat dGap).2)) t12 t13 (IntKind.i64.wrap (t14 + 1)) l0
        else
          measure_Pulses_l6 level c (IntKind.i64.wrap (at_ + (t12.getD t14.toNat dGap).2)) t12 t13 (IntKind.i64.wrap (t14 + 1)) l0
      else
        measure_Pulses_l6 level c (IntKind.i64.wrap (at_ + (t12.getD t14.toNat dGap).2)) t12 t13 (IntKind.i64.wrap (t14 + 1)) l0
    else
      none
  else
    some ((l0, ()), ()) := (FD.lab_eq _ _ _ _).trans (by kernel_rfl)
def measure_Pulses (l : (List TGap)) (level : Int) : (Option (((List TGap) × Unit) × Unit)) :=
  (wave_Clean l).bind fun y1 =>
    measure_Pulses_l6 level y1.1.1 0 y1.1.1 (y1.1.1.length : Int) 0 []
def fc80 : FC := ⟨⟨[.one (.sl (.cons (.int .i64) (.int .i64))), .one (.int .i64)], []⟩, ⟨[.one (.sl (.cons (.int .i64) (.int .i64)))], []⟩, fun x => measure_Pulses x.1.1 x.1.2.1⟩
theorem con80 : Contract Tryd.prog 80 fc80 :=
  measure_Pulses_D.contract tok (cok_of (l := [(90, fc90)]) ⟨con90, trivial⟩) mixed (fn' := Tryd.f80) (by kernel_rfl) (by kernel_rfl) rfl (by kernel_rfl) (fun x => (FD.fn_eq _ _).trans (by kernel_rfl))
end
end Go.Proofs.YtejehchbflmofaaDoor
end

section
/-
YtejehchbflmofaaDoor: (signalbench.limit.waves).high, as one plain function, its equations, its contract. No condition.
-/
set_option maxRecDepth 100000
set_option linter.unusedVariables false
set_option maxHeartbeats 4000000
open Go Go.AM
namespace Go.Proofs.YtejehchbflmofaaDoor
noncomputable section
def limit_waves_high_D : FD := ⟨T, lookC [(80, fc80)], [], (Tryd.f67.body.getD .skip), Tryd.f67.results.toList, ⟨[.row (.cons (.sl (.cons (.int .i64) (.int .i64))) (.cons (.sl (.cons (.int .i64) (.int .i64))) .bool))], []⟩, ⟨[.one (.sl (.cons (.int .i64) (.int .i64)))], []⟩, []⟩
def limit_waves_high (w0 : Twaves) : (Option (((List TGap) × Unit) × Unit)) :=
  (measure_Pulses w0.1 1).bind fun y1 =>
    some ((y1.1.1, ()), ())
def fc67 : FC := ⟨⟨[.row (.cons (.sl (.cons (.int .i64) (.int .i64))) (.cons (.sl (.cons (.int .i64) (.int .i64))) .bool))], []⟩, ⟨[.one (.sl (.cons (.int .i64) (.int .i64)))], []⟩, fun x => limit_waves_high x.1.1⟩
theorem con67 : Contract Tryd.prog 67 fc67 :=
  limit_waves_high_D.contract tok (cok_of (l := [(80, fc80)]) ⟨con80, trivial⟩) mixed (fn' := Tryd.f67) (by kernel_rfl) (by kernel_rfl) rfl (by kernel_rfl) (fun x => (FD.fn_eq _ _).trans (by kernel_rfl))
end
end Go.Proofs.YtejehchbflmofaaDoor
end

section
/-
YtejehchbflmofaaDoor: (signalbench.limit.waves).low, as one plain function, its equations, its contract. No condition.
-/
set_option maxRecDepth 100000
set_option linter.unusedVariables false
set_option maxHeartbeats 4000000
open Go Go.AM
namespace Go.Proofs.YtejehchbflmofaaDoor
noncomputable section
def limit_waves_low_D : FD := ⟨T, lookC [(80, fc80)], [], (Tryd.f68.body.getD .skip), Tryd.f68.results.toList, ⟨[.row (.cons (.sl (.cons (.int .i64) (.int .i64))) (.cons (.sl (.cons (.int .i64) (.int .i64))) .bool))], []⟩, ⟨[.one (.sl (.cons (.int .i64) (.int .i64)))], []⟩, []⟩
def limit_waves_low (w0 : Twaves) : (Option (((List TGap) × Unit) × Unit)) :=
  (measure_Pulses w0.1 0).bind fun y1 =>
    some ((y1.1.1, ()), ())
def fc68 : FC := ⟨⟨[.row (.cons (.sl (.cons (.int .i64) (.int .i64))) (.cons (.sl (.cons (.int .i64) (.int .i64))) .bool))], []⟩, ⟨[.one (.sl (.cons (.int .i64) (.int .i64)))], []⟩, fun x => limit_waves_low x.1.1⟩
theorem con68 : Contract Tryd.prog 68 fc68 :=
  limit_waves_low_D.contract tok (cok_of (l := [(80, fc80)]) ⟨con80, trivial⟩) mixed (fn' := Tryd.f68) (by kernel_rfl) (by kernel_rfl) rfl (by kernel_rfl) (fun x => (FD.fn_eq _ _).trans (by kernel_rfl))
end
end Go.Proofs.YtejehchbflmofaaDoor
end

section
/-
YtejehchbflmofaaDoor: signalbench.measure.both, as one plain function, its equations, its contract. No condition.
-/
set_option maxRecDepth 100000
set_option linter.unusedVariables false
set_option maxHeartbeats 4000000
open Go Go.AM
namespace Go.Proofs.YtejehchbflmofaaDoor
noncomputable section
def measure_both_D : FD := ⟨T, lookC [(100, fc100)], [], (Tryd.f91.body.getD .skip), Tryd.f91.results.toList, ⟨[.one (.sl (.cons (.int .i64) (.int .i64))), .one (.sl (.cons (.int .i64) (.int .i64)))], []⟩, ⟨[.one .bool], []⟩, []⟩
def measure_both (a : (List TGap)) (b : (List TGap)) : (Option ((Bool × Unit) × Unit)) :=
  (wave_Valid a).bind fun y1 =>
    if y1.1.1 = true then
      (wave_Valid b).bind fun y2 =>
        some ((y2.1.1, ()), ())
    else
      some ((false, ()), ())
def fc91 : FC := ⟨⟨[.one (.sl (.cons (.int .i64) (.int .i64))), .one (.sl (.cons (.int .i64) (.int .i64)))], []⟩, ⟨[.one .bool], []⟩, fun x => measure_both x.1.1 x.1.2.1⟩
theorem con91 : Contract Tryd.prog 91 fc91 :=
  measure_both_D.contract tok (cok_of (l := [(100, fc100)]) ⟨con100, trivial⟩) mixed (fn' := Tryd.f91) (by kernel_rfl) (by kernel_rfl) rfl (by kernel_rfl) (fun x => (FD.fn_eq _ _).trans (by kernel_rfl))
end
end Go.Proofs.YtejehchbflmofaaDoor
end

section
/-
YtejehchbflmofaaDoor: signalbench.wave.Edges, as one plain function, its equations, its contract. No condition.
-/
set_option maxRecDepth 100000
set_option linter.unusedVariables false
set_option maxHeartbeats 4000000
open Go Go.AM
namespace Go.Proofs.YtejehchbflmofaaDoor
noncomputable section
def wave_Edges_F8 : FSh := ⟨[(0, .one (.sl (.cons (.int .i64) (.int .i64)))), (3, .one (.own 0)), (4, .one (.int .i64)), (10, .one (.sl (.cons (.int .i64) (.int .i64)))), (11, .one (.int .i64)), (12, .one (.int .i64))], [.arr 3 (.int .i64) true]⟩
def wave_Edges_D : FD := ⟨T, lookC [(100, fc100)], [], (Tryd.f92.body.getD .skip), Tryd.f92.results.toList, ⟨[.one (.sl (.cons (.int .i64) (.int .i64)))], []⟩, ⟨[.one (.sl (.int .i64))], []⟩, [(8, wave_Edges_F8)]⟩
def wave_Edges_l8 (l : (List TGap)) (at_ : Int) (t10 : (List TGap)) (t11 : Int) (t12 : Int) (l0 : (List Int)) : (Option (((List Int) × Unit) × Unit)) := wave_Edges_D.lab 8 wave_Edges_F8 ((l, (), at_, t10, t11, t12, ()), (l0, ()))
theorem wave_Edges_l8_eq (l : (List TGap)) (at_ : Int) (t10 : (List TGap)) (t11 : Int) (t12 : Int) (l0 : (List Int)) : wave_Edges_l8 l at_ t10 t11 t12 l0 =
  if (decide (t12 < t11)) = true then
    if 0 ≤ t12 ∧ t12 < (t10.length : Int) then
      if (decide (t12 > 0)) = true then
        if 0 ≤ IntKind.i64.wrap (t12 - 1) ∧ IntKind.i64.wrap (t12 - 1) < (l.length : Int) then
          if ((l.getD (IntKind.i64.wrap (t12 - 1)).toNat dGap).1 != (t10.getD t12.toNat dGap).1) = true then
            if (l0.length + 1) * 8 ≤ 140737488355328 ∧ 0 < 8 then
              wave_Edges_l8 l (IntKind.i64.wrap (at_ + (t10.getD t12.toNat dGap).2)) t10 t11 (IntKind.i64.wrap (t12 + 1)) (l0 ++ [at_])
            else
              none
          else
            wave_Edges_l8 l (IntKind.i64.wrap (at_ + (t10.getD t12.toNat dGap).2)) t10 t11 (IntKind.i64.wrap (t12 + 1)) l0
        else
          none
      else
        wave_Edges_l8 l (IntKind.i64.wrap (at_ + (t10.getD t12.toNat dGap).2)) t10 t11 (IntKind.i64.wrap (t12 + 1)) l0
    else
      none
  else
    some ((l0, ()), ()) := (FD.lab_eq _ _ _ _).trans (by kernel_rfl)
def wave_Edges (l : (List TGap)) : (Option (((List Int) × Unit) × Unit)) :=
  (wave_Valid l).bind fun y1 =>
    if (!y1.1.1) = true then
      some (([], ()), ())
    else
      wave_Edges_l8 l 0 l (l.length : Int) 0 []
def fc92 : FC := ⟨⟨[.one (.sl (.cons (.int .i64) (.int .i64)))], []⟩, ⟨[.one (.sl (.int .i64))], []⟩, fun x => wave_Edges x.1.1⟩
theorem con92 : Contract Tryd.prog 92 fc92 :=
  wave_Edges_D.contract tok (cok_of (l := [(100, fc100)]) ⟨con100, trivial⟩) mixed (fn' := Tryd.f92) (by kernel_rfl) (by kernel_rfl) rfl (by kernel_rfl) (fun x => (FD.fn_eq _ _).trans (by kernel_rfl))
end
end Go.Proofs.YtejehchbflmofaaDoor
end

section
/-
YtejehchbflmofaaDoor: signalbench.measure.Setup, as one plain function, its equations, its contract. No condition.
-/
set_option maxRecDepth 100000
set_option linter.unusedVariables false
set_option maxHeartbeats 4000000
open Go Go.AM
namespace Go.Proofs.YtejehchbflmofaaDoor
noncomputable section
def measure_Setup_F8 : FSh := ⟨[(7, .one (.own 0)), (8, .one (.sl (.int .i64))), (9, .one (.int .i64)), (20, .one (.sl (.int .i64))), (21, .one (.int .i64)), (22, .one (.int .i64))], [.arr 50 (.cons (.int .i64) (.int .i64)) true]⟩
def measure_Setup_F14 : FSh := ⟨[(7, .one (.own 0)), (8, .one (.sl (.int .i64))), (9, .one (.int .i64)), (11, .one (.int .i64)), (20, .one (.sl (.int .i64))), (21, .one (.int .i64)), (22, .one (.int .i64))], [.arr 50 (.cons (.int .i64) (.int .i64)) true]⟩
def measure_Setup_D : FD := ⟨T, lookC [(89, fc89), (91, fc91), (92, fc92)], [], (Tryd.f81.body.getD .skip), Tryd.f81.results.toList, ⟨[.one (.sl (.cons (.int .i64) (.int .i64))), .one (.sl (.cons (.int .i64) (.int .i64))), .one .bool], []⟩, ⟨[.one (.sl (.cons (.int .i64) (.int .i64)))], []⟩, [(8, measure_Setup_F8), (14, measure_Setup_F14)]⟩
def measure_Setup_l8 (edges : (List Int)) (k0 : Int) (t20 : (List Int)) (t21 : Int) (t22 : Int) (l0 : (List TGap)) : (Option (((List TGap) × Unit) × Unit)) := measure_Setup_D.lab 8 measure_Setup_F8 (((), edges, k0, t20, t21, t22, ()), (l0, ()))
def measure_Setup_l14 (edges : (List Int)) (k0 : Int) (t : Int) (t20 : (List Int)) (t21 : Int) (t22 : Int) (l0 : (List TGap)) : (Option (((List TGap) × Unit) × Unit)) := measure_Setup_D.lab 14 measure_Setup_F14 (((), edges, k0, t, t20, t21, t22, ()), (l0, ()))
theorem measure_Setup_l8_eq (edges : (List Int)) (k0 : Int) (t20 : (List Int)) (t21 : Int) (t22 : Int) (l0 : (List TGap)) : measure_Setup_l8 edges k0 t20 t21 t22 l0 =
  if (decide (t22 < t21)) = true then
    if 0 ≤ t22 ∧ t22 < (t20.length : Int) then
      measure_Setup_l14 edges k0 (t20.getD t22.toNat 0) t20 t21 t22 l0
    else
      none
  else
    some ((l0, ()), ()) := (FD.lab_eq _ _ _ _).trans (by kernel_rfl)
theorem measure_Setup_l14_eq (edges : (List Int)) (k0 : Int) (t : Int) (t20 : (List Int)) (t21 : Int) (t22 : Int) (l0 : (List TGap)) : measure_Setup_l14 edges k0 t t20 t21 t22 l0 =
  if (decide (k0 < (edges.length : Int))) = true then
    if 0 ≤ k0 ∧ k0 < (edges.length : Int) then
      if (decide ((edges.getD k0.toNat 0) ≤ t)) = true then
        measure_Setup_l14 edges (IntKind.i64.wrap (k0 + 1)) t t20 t21 t22 l0
      else
        if (decide (k0 > 0)) = true then
          if 0 ≤ IntKind.i64.wrap (k0 - 1) ∧ IntKind.i64.wrap (k0 - 1) < (edges.length : Int) then
            if 0 ≤ IntKind.i64.wrap (k0 - 1) ∧ IntKind.i64.wrap (k0 - 1) < (edges.length : Int) then
              if (l0.length + 1) * 16 ≤ 140737488355328 ∧ 0 < 16 then
                measure_Setup_l8 edges k0 t20 t21 (IntKind.i64.wrap (t22 + 1)) (l0 ++ [(edges.getD (IntKind.i64.wrap (k0 - 1)).toNat 0, IntKind.i64.wrap (t - (edges.getD (IntKind.i64.wrap (k0 - 1)).toNat 0)))])
              else
                none
            else
              none
          else
            none
        else
          measure_Setup_l8 edges k0 t20 t21 (IntKind.i64.wrap (t22 + 1)) l0
    else
      none
  else
    if (decide (k0 > 0)) = true then
      if 0 ≤ IntKind.i64.wrap (k0 - 1) ∧ IntKind.i64.wrap (k0 - 1) < (edges.length : Int) then
        if 0 ≤ IntKind.i64.wrap (k0 - 1) ∧ IntKind.i64.wrap (k0 - 1) < (edges.length : Int) then
          if (l0.length + 1) * 16 ≤ 140737488355328 ∧ 0 < 16 then
            measure_Setup_l8 edges k0 t20 t21 (IntKind.i64.wrap (t22 + 1)) (l0 ++ [(edges.getD (IntKind.i64.wrap (k0 - 1)).toNat 0, IntKind.i64.wrap (t - (edges.getD (IntKind.i64.wrap (k0 - 1)).toNat 0)))])
          else
            none
        else
          none
      else
        none
    else
      measure_Setup_l8 edges k0 t20 t21 (IntKind.i64.wrap (t22 + 1)) l0 := (FD.lab_eq _ _ _ _).trans (by kernel_rfl)
def measure_Setup (data : (List TGap)) (clock : (List TGap)) (rising : Bool) : (Option (((List TGap) × Unit) × Unit)) :=
  (measure_both data clock).bind fun y1 =>
    if (!y1.1.1) = true then
      some (([], ()), ())
    else
      (wave_Edges data).bind fun y2 =>
        (measure_rises clock rising).bind fun y3 =>
          measure_Setup_l8 y2.1.1 0 y3.1.1 (y3.1.1.length : Int) 0 []
def fc81 : FC := ⟨⟨[.one (.sl (.cons (.int .i64) (.int .i64))), .one (.sl (.cons (.int .i64) (.int .i64))), .one .bool], []⟩, ⟨[.one (.sl (.cons (.int .i64) (.int .i64)))], []⟩, fun x => measure_Setup x.1.1 x.1.2.1 x.1.2.2.1⟩
theorem con81 : Contract Tryd.prog 81 fc81 :=
  measure_Setup_D.contract tok (cok_of (l := [(89, fc89), (91, fc91), (92, fc92)]) ⟨con89, con91, con92, trivial⟩) mixed (fn' := Tryd.f81) (by kernel_rfl) (by kernel_rfl) rfl (by kernel_rfl) (fun x => (FD.fn_eq _ _).trans (by kernel_rfl))
end
end Go.Proofs.YtejehchbflmofaaDoor
end

section
/-
YtejehchbflmofaaDoor: (signalbench.limit.waves).setup, as one plain function, its equations, its contract. No condition.
-/
set_option maxRecDepth 100000
set_option linter.unusedVariables false
set_option maxHeartbeats 4000000
open Go Go.AM
namespace Go.Proofs.YtejehchbflmofaaDoor
noncomputable section
def limit_waves_setup_D : FD := ⟨T, lookC [(81, fc81)], [], (Tryd.f69.body.getD .skip), Tryd.f69.results.toList, ⟨[.row (.cons (.sl (.cons (.int .i64) (.int .i64))) (.cons (.sl (.cons (.int .i64) (.int .i64))) .bool))], []⟩, ⟨[.one (.sl (.cons (.int .i64) (.int .i64)))], []⟩, []⟩
def limit_waves_setup (w0 : Twaves) : (Option (((List TGap) × Unit) × Unit)) :=
  (measure_Setup w0.1 w0.2.1 w0.2.2).bind fun y1 =>
    some ((y1.1.1, ()), ())
def fc69 : FC := ⟨⟨[.row (.cons (.sl (.cons (.int .i64) (.int .i64))) (.cons (.sl (.cons (.int .i64) (.int .i64))) .bool))], []⟩, ⟨[.one (.sl (.cons (.int .i64) (.int .i64)))], []⟩, fun x => limit_waves_setup x.1.1⟩
theorem con69 : Contract Tryd.prog 69 fc69 :=
  limit_waves_setup_D.contract tok (cok_of (l := [(81, fc81)]) ⟨con81, trivial⟩) mixed (fn' := Tryd.f69) (by kernel_rfl) (by kernel_rfl) rfl (by kernel_rfl) (fun x => (FD.fn_eq _ _).trans (by kernel_rfl))
end
end Go.Proofs.YtejehchbflmofaaDoor
end

section
/-
YtejehchbflmofaaDoor: signalbench.measure.behind, as one plain function, its equations, its contract. No condition.
-/
set_option maxRecDepth 100000
set_option linter.unusedVariables false
set_option maxHeartbeats 4000000
open Go Go.AM
namespace Go.Proofs.YtejehchbflmofaaDoor
noncomputable section
def measure_behind_F5 : FSh := ⟨[(5, .one (.own 0)), (6, .one (.fn 105 [1, 2])), (13, .one (.sl (.int .i64))), (14, .one (.int .i64)), (15, .one (.int .i64))], [.arr 50 (.cons (.int .i64) (.int .i64)) true, .box 3 [(.int .i64)], .box 130 [(.sl (.int .i64))]]⟩
def measure_behind_D : FD := ⟨T, lookC [(102, fc102), (105, fc105)], [], (Tryd.f93.body.getD .skip), Tryd.f93.results.toList, ⟨[.one (.sl (.int .i64)), .one (.sl (.int .i64))], []⟩, ⟨[.one (.sl (.cons (.int .i64) (.int .i64)))], []⟩, [(5, measure_behind_F5)]⟩
def measure_behind_l5 (t13 : (List Int)) (t14 : Int) (t15 : Int) (l0 : (List TGap)) (h1_0 : Int) (h2_0 : (List Int)) : (Option (((List TGap) × Unit) × Unit)) := measure_behind_D.lab 5 measure_behind_F5 (((), (), t13, t14, t15, ()), (l0, (h1_0, ()), (h2_0, ()), ()))
theorem measure_behind_l5_eq (t13 : (List Int)) (t14 : Int) (t15 : Int) (l0 : (List TGap)) (h1_0 : Int) (h2_0 : (List Int)) : measure_behind_l5 t13 t14 t15 l0 h1_0 h2_0 =
  if (decide (t15 < t14)) = true then
    if 0 ≤ t15 ∧ t15 < (t13.length : Int) then
      (measure_follower_1 (t13.getD t15.toNat 0) h1_0 h2_0).bind fun y1 =>
        if y1.1.2.1 = true then
          if (l0.length + 1) * 16 ≤ 140737488355328 ∧ 0 < 16 then
            measure_behind_l5 t13 t14 (IntKind.i64.wrap (t15 + 1)) (l0 ++ [(t13.getD t15.toNat 0, IntKind.i64.wrap (y1.1.1 - (t13.getD t15.toNat 0)))]) y1.2.1.1 y1.2.2.1.1
          else
            none
        else
          measure_behind_l5 t13 t14 (IntKind.i64.wrap (t15 + 1)) l0 y1.2.1.1 y1.2.2.1.1
    else
      none
  else
    some ((l0, ()), ()) := (FD.lab_eq _ _ _ _).trans (by kernel_rfl)
def measure_behind (times : (List Int)) (edges : (List Int)) : (Option (((List TGap) × Unit) × Unit)) :=
  (measure_follower times).bind fun y1 =>
    measure_behind_l5 edges (edges.length : Int) 0 [] y1.2.1.1 y1.2.2.1.1
def fc93 : FC := ⟨⟨[.one (.sl (.int .i64)), .one (.sl (.int .i64))], []⟩, ⟨[.one (.sl (.cons (.int .i64) (.int .i64)))], []⟩, fun x => measure_behind x.1.1 x.1.2.1⟩
theorem con93 : Contract Tryd.prog 93 fc93 :=
  measure_behind_D.contract tok (cok_of (l := [(102, fc102), (105, fc105)]) ⟨con102, con105, trivial⟩) mixed (fn' := Tryd.f93) (by kernel_rfl) (by kernel_rfl) rfl (by kernel_rfl) (fun x => (FD.fn_eq _ _).trans (by kernel_rfl))
end
end Go.Proofs.YtejehchbflmofaaDoor
end

section
/-
YtejehchbflmofaaDoor: signalbench.measure.Hold, as one plain function, its equations, its contract. No condition.
-/
set_option maxRecDepth 100000
set_option linter.unusedVariables false
set_option maxHeartbeats 4000000
open Go Go.AM
namespace Go.Proofs.YtejehchbflmofaaDoor
noncomputable section
def measure_Hold_D : FD := ⟨T, lookC [(89, fc89), (91, fc91), (92, fc92), (93, fc93)], [], (Tryd.f82.body.getD .skip), Tryd.f82.results.toList, ⟨[.one (.sl (.cons (.int .i64) (.int .i64))), .one (.sl (.cons (.int .i64) (.int .i64))), .one .bool], []⟩, ⟨[.one (.sl (.cons (.int .i64) (.int .i64)))], []⟩, []⟩
def measure_Hold (data : (List TGap)) (clock : (List TGap)) (rising : Bool) : (Option (((List TGap) × Unit) × Unit)) :=
  (measure_both data clock).bind fun y1 =>
    if (!y1.1.1) = true then
      some (([], ()), ())
    else
      (wave_Edges data).bind fun y2 =>
        (measure_rises clock rising).bind fun y3 =>
          (measure_behind y2.1.1 y3.1.1).bind fun y4 =>
            some ((y4.1.1, ()), ())
def fc82 : FC := ⟨⟨[.one (.sl (.cons (.int .i64) (.int .i64))), .one (.sl (.cons (.int .i64) (.int .i64))), .one .bool], []⟩, ⟨[.one (.sl (.cons (.int .i64) (.int .i64)))], []⟩, fun x => measure_Hold x.1.1 x.1.2.1 x.1.2.2.1⟩
theorem con82 : Contract Tryd.prog 82 fc82 :=
  measure_Hold_D.contract tok (cok_of (l := [(89, fc89), (91, fc91), (92, fc92), (93, fc93)]) ⟨con89, con91, con92, con93, trivial⟩) mixed (fn' := Tryd.f82) (by kernel_rfl) (by kernel_rfl) rfl (by kernel_rfl) (fun x => (FD.fn_eq _ _).trans (by kernel_rfl))
end
end Go.Proofs.YtejehchbflmofaaDoor
end

section
/-
YtejehchbflmofaaDoor: (signalbench.limit.waves).hold, as one plain function, its equations, its contract. No condition.
-/
set_option maxRecDepth 100000
set_option linter.unusedVariables false
set_option maxHeartbeats 4000000
open Go Go.AM
namespace Go.Proofs.YtejehchbflmofaaDoor
noncomputable section
def limit_waves_hold_D : FD := ⟨T, lookC [(82, fc82)], [], (Tryd.f70.body.getD .skip), Tryd.f70.results.toList, ⟨[.row (.cons (.sl (.cons (.int .i64) (.int .i64))) (.cons (.sl (.cons (.int .i64) (.int .i64))) .bool))], []⟩, ⟨[.one (.sl (.cons (.int .i64) (.int .i64)))], []⟩, []⟩
def limit_waves_hold (w0 : Twaves) : (Option (((List TGap) × Unit) × Unit)) :=
  (measure_Hold w0.1 w0.2.1 w0.2.2).bind fun y1 =>
    some ((y1.1.1, ()), ())
def fc70 : FC := ⟨⟨[.row (.cons (.sl (.cons (.int .i64) (.int .i64))) (.cons (.sl (.cons (.int .i64) (.int .i64))) .bool))], []⟩, ⟨[.one (.sl (.cons (.int .i64) (.int .i64)))], []⟩, fun x => limit_waves_hold x.1.1⟩
theorem con70 : Contract Tryd.prog 70 fc70 :=
  limit_waves_hold_D.contract tok (cok_of (l := [(82, fc82)]) ⟨con82, trivial⟩) mixed (fn' := Tryd.f70) (by kernel_rfl) (by kernel_rfl) rfl (by kernel_rfl) (fun x => (FD.fn_eq _ _).trans (by kernel_rfl))
end
end Go.Proofs.YtejehchbflmofaaDoor
end

section
/-
YtejehchbflmofaaDoor: signalbench.measure.Delay, as one plain function, its equations, its contract. No condition.
-/
set_option maxRecDepth 100000
set_option linter.unusedVariables false
set_option maxHeartbeats 4000000
open Go Go.AM
namespace Go.Proofs.YtejehchbflmofaaDoor
noncomputable section
def measure_Delay_D : FD := ⟨T, lookC [(89, fc89), (91, fc91), (93, fc93)], [], (Tryd.f83.body.getD .skip), Tryd.f83.results.toList, ⟨[.one (.sl (.cons (.int .i64) (.int .i64))), .one (.sl (.cons (.int .i64) (.int .i64))), .one .bool], []⟩, ⟨[.one (.sl (.cons (.int .i64) (.int .i64)))], []⟩, []⟩
def measure_Delay (data : (List TGap)) (clock : (List TGap)) (rising : Bool) : (Option (((List TGap) × Unit) × Unit)) :=
  (measure_both data clock).bind fun y1 =>
    if (!y1.1.1) = true then
      some (([], ()), ())
    else
      (measure_rises data true).bind fun y2 =>
        (measure_rises clock rising).bind fun y3 =>
          (measure_behind y2.1.1 y3.1.1).bind fun y4 =>
            some ((y4.1.1, ()), ())
def fc83 : FC := ⟨⟨[.one (.sl (.cons (.int .i64) (.int .i64))), .one (.sl (.cons (.int .i64) (.int .i64))), .one .bool], []⟩, ⟨[.one (.sl (.cons (.int .i64) (.int .i64)))], []⟩, fun x => measure_Delay x.1.1 x.1.2.1 x.1.2.2.1⟩
theorem con83 : Contract Tryd.prog 83 fc83 :=
  measure_Delay_D.contract tok (cok_of (l := [(89, fc89), (91, fc91), (93, fc93)]) ⟨con89, con91, con93, trivial⟩) mixed (fn' := Tryd.f83) (by kernel_rfl) (by kernel_rfl) rfl (by kernel_rfl) (fun x => (FD.fn_eq _ _).trans (by kernel_rfl))
end
end Go.Proofs.YtejehchbflmofaaDoor
end

section
/-
YtejehchbflmofaaDoor: (signalbench.limit.waves).delay, as one plain function, its equations, its contract. No condition.
-/
set_option maxRecDepth 100000
set_option linter.unusedVariables false
set_option maxHeartbeats 4000000
open Go Go.AM
namespace Go.Proofs.YtejehchbflmofaaDoor
noncomputable section
def limit_waves_delay_D : FD := ⟨T, lookC [(83, fc83)], [], (Tryd.f71.body.getD .skip), Tryd.f71.results.toList, ⟨[.row (.cons (.sl (.cons (.int .i64) (.int .i64))) (.cons (.sl (.cons (.int .i64) (.int .i64))) .bool))], []⟩, ⟨[.one (.sl (.cons (.int .i64) (.int .i64)))], []⟩, []⟩
def limit_waves_delay (w0 : Twaves) : (Option (((List TGap) × Unit) × Unit)) :=
  (measure_Delay w0.1 w0.2.1 w0.2.2).bind fun y1 =>
    some ((y1.1.1, ()), ())
def fc71 : FC := ⟨⟨[.row (.cons (.sl (.cons (.int .i64) (.int .i64))) (.cons (.sl (.cons (.int .i64) (.int .i64))) .bool))], []⟩, ⟨[.one (.sl (.cons (.int .i64) (.int .i64)))], []⟩, fun x => limit_waves_delay x.1.1⟩
theorem con71 : Contract Tryd.prog 71 fc71 :=
  limit_waves_delay_D.contract tok (cok_of (l := [(83, fc83)]) ⟨con83, trivial⟩) mixed (fn' := Tryd.f71) (by kernel_rfl) (by kernel_rfl) rfl (by kernel_rfl) (fun x => (FD.fn_eq _ _).trans (by kernel_rfl))
end
end Go.Proofs.YtejehchbflmofaaDoor
end

section
/-
YtejehchbflmofaaDoor: signalbench.limit.measurement, as one plain function, its equations, its contract. No condition.
-/
set_option maxRecDepth 100000
set_option linter.unusedVariables false
set_option maxHeartbeats 4000000
open Go Go.AM
namespace Go.Proofs.YtejehchbflmofaaDoor
noncomputable section
def limit_measurementvdelay_D : FD := ⟨T, lookC [(66, fc66), (67, fc67), (68, fc68), (69, fc69), (70, fc70), (71, fc71)], [], (Tryd.f51.body.getD .skip), Tryd.f51.results.toList, ⟨[.row (.cons (.int .i64) (.cons .str (.cons .str (.cons .bool (.cons (.int .i64) (.int .i64))))))], []⟩, ⟨[.one (.fn 71 [])], []⟩, []⟩
def limit_measurementvdelay (x0 : TLimit) : (Option ((Unit × Unit) × Unit)) :=
  if (x0.1 == 1) = true then
    none
  else
    if (x0.1 == 2) = true then
      none
    else
      if (x0.1 == 3) = true then
        none
      else
        if (x0.1 == 4) = true then
          none
        else
          if (x0.1 == 5) = true then
            none
          else
            some (((), ()), ())
def fc51vdelay : FC := ⟨⟨[.row (.cons (.int .i64) (.cons .str (.cons .str (.cons .bool (.cons (.int .i64) (.int .i64))))))], []⟩, ⟨[.one (.fn 71 [])], []⟩, fun x => limit_measurementvdelay x.1.1⟩
theorem con51vdelay : Contract Tryd.prog 51 fc51vdelay :=
  limit_measurementvdelay_D.contract tok (cok_of (l := [(66, fc66), (67, fc67), (68, fc68), (69, fc69), (70, fc70), (71, fc71)]) ⟨con66, con67, con68, con69, con70, con71, trivial⟩) mixed (fn' := Tryd.f51) (by kernel_rfl) (by kernel_rfl) rfl (by kernel_rfl) (fun x => (FD.fn_eq _ _).trans (by kernel_rfl))
end
end Go.Proofs.YtejehchbflmofaaDoor
end

section
/-
YtejehchbflmofaaDoor: signalbench.limit.measurement, as one plain function, its equations, its contract. No condition.
-/
set_option maxRecDepth 100000
set_option linter.unusedVariables false
set_option maxHeartbeats 4000000
open Go Go.AM
namespace Go.Proofs.YtejehchbflmofaaDoor
noncomputable section
def limit_measurementvhigh_D : FD := ⟨T, lookC [(66, fc66), (67, fc67), (68, fc68), (69, fc69), (70, fc70), (71, fc71)], [], (Tryd.f51.body.getD .skip), Tryd.f51.results.toList, ⟨[.row (.cons (.int .i64) (.cons .str (.cons .str (.cons .bool (.cons (.int .i64) (.int .i64))))))], []⟩, ⟨[.one (.fn 67 [])], []⟩, []⟩
def limit_measurementvhigh (x0 : TLimit) : (Option ((Unit × Unit) × Unit)) :=
  if (x0.1 == 1) = true then
    none
  else
    if (x0.1 == 2) = true then
      some (((), ()), ())
    else
      if (x0.1 == 3) = true then
        none
      else
        if (x0.1 == 4) = true then
          none
        else
          if (x0.1 == 5) = true then
            none
          else
            none
def fc51vhigh : FC := ⟨⟨[.row (.cons (.int .i64) (.cons .str (.cons .str (.cons .bool (.cons (.int .i64) (.int .i64))))))], []⟩, ⟨[.one (.fn 67 [])], []⟩, fun x => limit_measurementvhigh x.1.1⟩
theorem con51vhigh : Contract Tryd.prog 51 fc51vhigh :=
  limit_measurementvhigh_D.contract tok (cok_of (l := [(66, fc66), (67, fc67), (68, fc68), (69, fc69), (70, fc70), (71, fc71)]) ⟨con66, con67, con68, con69, con70, con71, trivial⟩) mixed (fn' := Tryd.f51) (by kernel_rfl) (by kernel_rfl) rfl (by kernel_rfl) (fun x => (FD.fn_eq _ _).trans (by kernel_rfl))
end
end Go.Proofs.YtejehchbflmofaaDoor
end

section
/-
YtejehchbflmofaaDoor: signalbench.limit.measurement, as one plain function, its equations, its contract. No condition.
-/
set_option maxRecDepth 100000
set_option linter.unusedVariables false
set_option maxHeartbeats 4000000
open Go Go.AM
namespace Go.Proofs.YtejehchbflmofaaDoor
noncomputable section
def limit_measurementvhold_D : FD := ⟨T, lookC [(66, fc66), (67, fc67), (68, fc68), (69, fc69), (70, fc70), (71, fc71)], [], (Tryd.f51.body.getD .skip), Tryd.f51.results.toList, ⟨[.row (.cons (.int .i64) (.cons .str (.cons .str (.cons .bool (.cons (.int .i64) (.int .i64))))))], []⟩, ⟨[.one (.fn 70 [])], []⟩, []⟩
def limit_measurementvhold (x0 : TLimit) : (Option ((Unit × Unit) × Unit)) :=
  if (x0.1 == 1) = true then
    none
  else
    if (x0.1 == 2) = true then
      none
    else
      if (x0.1 == 3) = true then
        none
      else
        if (x0.1 == 4) = true then
          none
        else
          if (x0.1 == 5) = true then
            some (((), ()), ())
          else
            none
def fc51vhold : FC := ⟨⟨[.row (.cons (.int .i64) (.cons .str (.cons .str (.cons .bool (.cons (.int .i64) (.int .i64))))))], []⟩, ⟨[.one (.fn 70 [])], []⟩, fun x => limit_measurementvhold x.1.1⟩
theorem con51vhold : Contract Tryd.prog 51 fc51vhold :=
  limit_measurementvhold_D.contract tok (cok_of (l := [(66, fc66), (67, fc67), (68, fc68), (69, fc69), (70, fc70), (71, fc71)]) ⟨con66, con67, con68, con69, con70, con71, trivial⟩) mixed (fn' := Tryd.f51) (by kernel_rfl) (by kernel_rfl) rfl (by kernel_rfl) (fun x => (FD.fn_eq _ _).trans (by kernel_rfl))
end
end Go.Proofs.YtejehchbflmofaaDoor
end

section
/-
YtejehchbflmofaaDoor: signalbench.limit.measurement, as one plain function, its equations, its contract. No condition.
-/
set_option maxRecDepth 100000
set_option linter.unusedVariables false
set_option maxHeartbeats 4000000
open Go Go.AM
namespace Go.Proofs.YtejehchbflmofaaDoor
noncomputable section
def limit_measurementvlow_D : FD := ⟨T, lookC [(66, fc66), (67, fc67), (68, fc68), (69, fc69), (70, fc70), (71, fc71)], [], (Tryd.f51.body.getD .skip), Tryd.f51.results.toList, ⟨[.row (.cons (.int .i64) (.cons .str (.cons .str (.cons .bool (.cons (.int .i64) (.int .i64))))))], []⟩, ⟨[.one (.fn 68 [])], []⟩, []⟩
def limit_measurementvlow (x0 : TLimit) : (Option ((Unit × Unit) × Unit)) :=
  if (x0.1 == 1) = true then
    none
  else
    if (x0.1 == 2) = true then
      none
    else
      if (x0.1 == 3) = true then
        some (((), ()), ())
      else
        if (x0.1 == 4) = true then
          none
        else
          if (x0.1 == 5) = true then
            none
          else
            none
def fc51vlow : FC := ⟨⟨[.row (.cons (.int .i64) (.cons .str (.cons .str (.cons .bool (.cons (.int .i64) (.int .i64))))))], []⟩, ⟨[.one (.fn 68 [])], []⟩, fun x => limit_measurementvlow x.1.1⟩
theorem con51vlow : Contract Tryd.prog 51 fc51vlow :=
  limit_measurementvlow_D.contract tok (cok_of (l := [(66, fc66), (67, fc67), (68, fc68), (69, fc69), (70, fc70), (71, fc71)]) ⟨con66, con67, con68, con69, con70, con71, trivial⟩) mixed (fn' := Tryd.f51) (by kernel_rfl) (by kernel_rfl) rfl (by kernel_rfl) (fun x => (FD.fn_eq _ _).trans (by kernel_rfl))
end
end Go.Proofs.YtejehchbflmofaaDoor
end

section
/-
YtejehchbflmofaaDoor: signalbench.limit.measurement, as one plain function, its equations, its contract. No condition.
-/
set_option maxRecDepth 100000
set_option linter.unusedVariables false
set_option maxHeartbeats 4000000
open Go Go.AM
namespace Go.Proofs.YtejehchbflmofaaDoor
noncomputable section
def limit_measurementvperiod_D : FD := ⟨T, lookC [(66, fc66), (67, fc67), (68, fc68), (69, fc69), (70, fc70), (71, fc71)], [], (Tryd.f51.body.getD .skip), Tryd.f51.results.toList, ⟨[.row (.cons (.int .i64) (.cons .str (.cons .str (.cons .bool (.cons (.int .i64) (.int .i64))))))], []⟩, ⟨[.one (.fn 66 [])], []⟩, []⟩
def limit_measurementvperiod (x0 : TLimit) : (Option ((Unit × Unit) × Unit)) :=
  if (x0.1 == 1) = true then
    some (((), ()), ())
  else
    if (x0.1 == 2) = true then
      none
    else
      if (x0.1 == 3) = true then
        none
      else
        if (x0.1 == 4) = true then
          none
        else
          if (x0.1 == 5) = true then
            none
          else
            none
def fc51vperiod : FC := ⟨⟨[.row (.cons (.int .i64) (.cons .str (.cons .str (.cons .bool (.cons (.int .i64) (.int .i64))))))], []⟩, ⟨[.one (.fn 66 [])], []⟩, fun x => limit_measurementvperiod x.1.1⟩
theorem con51vperiod : Contract Tryd.prog 51 fc51vperiod :=
  limit_measurementvperiod_D.contract tok (cok_of (l := [(66, fc66), (67, fc67), (68, fc68), (69, fc69), (70, fc70), (71, fc71)]) ⟨con66, con67, con68, con69, con70, con71, trivial⟩) mixed (fn' := Tryd.f51) (by kernel_rfl) (by kernel_rfl) rfl (by kernel_rfl) (fun x => (FD.fn_eq _ _).trans (by kernel_rfl))
end
end Go.Proofs.YtejehchbflmofaaDoor
end

section
/-
YtejehchbflmofaaDoor: signalbench.limit.measurement, as one plain function, its equations, its contract. No condition.
-/
set_option maxRecDepth 100000
set_option linter.unusedVariables false
set_option maxHeartbeats 4000000
open Go Go.AM
namespace Go.Proofs.YtejehchbflmofaaDoor
noncomputable section
def limit_measurementvsetup_D : FD := ⟨T, lookC [(66, fc66), (67, fc67), (68, fc68), (69, fc69), (70, fc70), (71, fc71)], [], (Tryd.f51.body.getD .skip), Tryd.f51.results.toList, ⟨[.row (.cons (.int .i64) (.cons .str (.cons .str (.cons .bool (.cons (.int .i64) (.int .i64))))))], []⟩, ⟨[.one (.fn 69 [])], []⟩, []⟩
def limit_measurementvsetup (x0 : TLimit) : (Option ((Unit × Unit) × Unit)) :=
  if (x0.1 == 1) = true then
    none
  else
    if (x0.1 == 2) = true then
      none
    else
      if (x0.1 == 3) = true then
        none
      else
        if (x0.1 == 4) = true then
          some (((), ()), ())
        else
          if (x0.1 == 5) = true then
            none
          else
            none
def fc51vsetup : FC := ⟨⟨[.row (.cons (.int .i64) (.cons .str (.cons .str (.cons .bool (.cons (.int .i64) (.int .i64))))))], []⟩, ⟨[.one (.fn 69 [])], []⟩, fun x => limit_measurementvsetup x.1.1⟩
theorem con51vsetup : Contract Tryd.prog 51 fc51vsetup :=
  limit_measurementvsetup_D.contract tok (cok_of (l := [(66, fc66), (67, fc67), (68, fc68), (69, fc69), (70, fc70), (71, fc71)]) ⟨con66, con67, con68, con69, con70, con71, trivial⟩) mixed (fn' := Tryd.f51) (by kernel_rfl) (by kernel_rfl) rfl (by kernel_rfl) (fun x => (FD.fn_eq _ _).trans (by kernel_rfl))
end
end Go.Proofs.YtejehchbflmofaaDoor
end

section
/-
YtejehchbflmofaaDoor: signalbench.limit.gaps, as one plain function, its equations, its contract. No condition.
-/
set_option maxRecDepth 100000
set_option linter.unusedVariables false
set_option maxHeartbeats 4000000
open Go Go.AM
namespace Go.Proofs.YtejehchbflmofaaDoor
noncomputable section
def limit_gaps_D : FD := ⟨T, lookC [(21, fc21), (50, fc50), (51, fc51vperiod), (51, fc51vhigh), (51, fc51vlow), (51, fc51vsetup), (51, fc51vhold), (51, fc51vdelay), (66, fc66), (67, fc67), (68, fc68), (69, fc69), (70, fc70), (71, fc71)], [], (Tryd.f34.body.getD .skip), Tryd.f34.results.toList, ⟨[.row (.cons (.sl .str) (.sl (.cons (.int .i64) (.int .i64)))), .row (.cons (.int .i64) (.cons .str (.cons .str (.cons .bool (.cons (.int .i64) (.int .i64))))))], []⟩, ⟨[.one (.sl (.cons (.int .i64) (.int .i64)))], []⟩, []⟩
def limit_gaps (c : TCapture) (x0 : TLimit) : (Option (((List TGap) × Unit) × Unit)) :=
  (capture_Channel c x0.2.1).bind fun y1 =>
    (limit_clocked x0).bind fun y2 =>
      if y2.1.1 = true then
        (capture_Channel c x0.2.2.1).bind fun y3 =>
          orK (limit_measurementvperiod x0) (fun y14 =>
            (limit_waves_period (y1.1.1, y3.1.1, x0.2.2.2.1)).bind fun y15 =>
              some ((y15.1.1, ()), ()))
          (
            orK (limit_measurementvhigh x0) (fun y12 =>
              (limit_waves_high (y1.1.1, y3.1.1, x0.2.2.2.1)).bind fun y13 =>
                some ((y13.1.1, ()), ()))
            (
              orK (limit_measurementvlow x0) (fun y10 =>
                (limit_waves_low (y1.1.1, y3.1.1, x0.2.2.2.1)).bind fun y11 =>
                  some ((y11.1.1, ()), ()))
              (
                orK (limit_measurementvsetup x0) (fun y8 =>
                  (limit_waves_setup (y1.1.1, y3.1.1, x0.2.2.2.1)).bind fun y9 =>
                    some ((y9.1.1, ()), ()))
                (
                  orK (limit_measurementvhold x0) (fun y6 =>
                    (limit_waves_hold (y1.1.1, y3.1.1, x0.2.2.2.1)).bind fun y7 =>
                      some ((y7.1.1, ()), ()))
                  (
                    (limit_measurementvdelay x0).bind fun y4 =>
                      (limit_waves_delay (y1.1.1, y3.1.1, x0.2.2.2.1)).bind fun y5 =>
                        some ((y5.1.1, ()), ()))))))
      else
        orK (limit_measurementvperiod x0) (fun y26 =>
          (limit_waves_period (y1.1.1, [], x0.2.2.2.1)).bind fun y27 =>
            some ((y27.1.1, ()), ()))
        (
          orK (limit_measurementvhigh x0) (fun y24 =>
            (limit_waves_high (y1.1.1, [], x0.2.2.2.1)).bind fun y25 =>
              some ((y25.1.1, ()), ()))
          (
            orK (limit_measurementvlow x0) (fun y22 =>
              (limit_waves_low (y1.1.1, [], x0.2.2.2.1)).bind fun y23 =>
                some ((y23.1.1, ()), ()))
            (
              orK (limit_measurementvsetup x0) (fun y20 =>
                (limit_waves_setup (y1.1.1, [], x0.2.2.2.1)).bind fun y21 =>
                  some ((y21.1.1, ()), ()))
              (
                orK (limit_measurementvhold x0) (fun y18 =>
                  (limit_waves_hold (y1.1.1, [], x0.2.2.2.1)).bind fun y19 =>
                    some ((y19.1.1, ()), ()))
                (
                  (limit_measurementvdelay x0).bind fun y16 =>
                    (limit_waves_delay (y1.1.1, [], x0.2.2.2.1)).bind fun y17 =>
                      some ((y17.1.1, ()), ()))))))
def fc34 : FC := ⟨⟨[.row (.cons (.sl .str) (.sl (.cons (.int .i64) (.int .i64)))), .row (.cons (.int .i64) (.cons .str (.cons .str (.cons .bool (.cons (.int .i64) (.int .i64))))))], []⟩, ⟨[.one (.sl (.cons (.int .i64) (.int .i64)))], []⟩, fun x => limit_gaps x.1.1 x.1.2.1⟩
theorem con34 : Contract Tryd.prog 34 fc34 :=
  limit_gaps_D.contract tok (cok_of (l := [(21, fc21), (50, fc50), (51, fc51vperiod), (51, fc51vhigh), (51, fc51vlow), (51, fc51vsetup), (51, fc51vhold), (51, fc51vdelay), (66, fc66), (67, fc67), (68, fc68), (69, fc69), (70, fc70), (71, fc71)]) ⟨con21, con50, con51vperiod, con51vhigh, con51vlow, con51vsetup, con51vhold, con51vdelay, con66, con67, con68, con69, con70, con71, trivial⟩) mixed (fn' := Tryd.f34) (by kernel_rfl) (by kernel_rfl) rfl (by kernel_rfl) (fun x => (FD.fn_eq _ _).trans (by kernel_rfl))
end
end Go.Proofs.YtejehchbflmofaaDoor
end

section
/-
YtejehchbflmofaaDoor: signalbench.limit.has, as one plain function, its equations, its contract. No condition.
-/
set_option maxRecDepth 100000
set_option linter.unusedVariables false
set_option maxHeartbeats 4000000
open Go Go.AM
namespace Go.Proofs.YtejehchbflmofaaDoor
noncomputable section
def limit_has_F3 : FSh := ⟨[(1, .one .str), (8, .one (.sl .str)), (9, .one (.int .i64)), (10, .one (.int .i64))], []⟩
def limit_has_D : FD := ⟨T, lookC [], [], (Tryd.f20.body.getD .skip), Tryd.f20.results.toList, ⟨[.row (.cons (.sl .str) (.sl (.cons (.int .i64) (.int .i64)))), .one .str], []⟩, ⟨[.one .bool], []⟩, [(3, limit_has_F3)]⟩
def limit_has_l3 (name : ByteArray) (t8 : (List ByteArray)) (t9 : Int) (t10 : Int) : (Option ((Bool × Unit) × Unit)) := limit_has_D.lab 3 limit_has_F3 ((name, t8, t9, t10, ()), ())
theorem limit_has_l3_eq (name : ByteArray) (t8 : (List ByteArray)) (t9 : Int) (t10 : Int) : limit_has_l3 name t8 t9 t10 =
  if (decide (t10 < t9)) = true then
    if 0 ≤ t10 ∧ t10 < (t8.length : Int) then
      if ((t8.getD t10.toNat (strB [])).toList == name.toList) = true then
        some ((true, ()), ())
      else
        limit_has_l3 name t8 t9 (IntKind.i64.wrap (t10 + 1))
    else
      none
  else
    some ((false, ()), ()) := (FD.lab_eq _ _ _ _).trans (by kernel_rfl)
def limit_has (c : TCapture) (name : ByteArray) : (Option ((Bool × Unit) × Unit)) :=
  limit_has_l3 name c.1 (c.1.length : Int) 0
def fc20 : FC := ⟨⟨[.row (.cons (.sl .str) (.sl (.cons (.int .i64) (.int .i64)))), .one .str], []⟩, ⟨[.one .bool], []⟩, fun x => limit_has x.1.1 x.1.2.1⟩
theorem con20 : Contract Tryd.prog 20 fc20 :=
  limit_has_D.contract tok (cok_of (l := []) trivial) mixed (fn' := Tryd.f20) (by kernel_rfl) (by kernel_rfl) rfl (by kernel_rfl) (fun x => (FD.fn_eq _ _).trans (by kernel_rfl))
end
end Go.Proofs.YtejehchbflmofaaDoor
end

section
/-
YtejehchbflmofaaDoor: signalbench.limit.Check, as one plain function, its equations, its contract. No condition.
-/
set_option maxRecDepth 100000
set_option linter.unusedVariables false
set_option maxHeartbeats 4000000
open Go Go.AM
namespace Go.Proofs.YtejehchbflmofaaDoor
noncomputable section
def limit_Check_F10 : FSh := ⟨[(2, .one (.ptr 0 0)), (18, .one (.sl (.cons (.int .i64) (.cons .str (.cons .str (.cons .bool (.cons (.int .i64) (.int .i64)))))))), (19, .one (.int .i64)), (20, .one (.int .i64))], [.boxr 25 (.cons (.sl .str) (.sl (.cons (.int .i64) (.int .i64))))]⟩
def limit_Check_D : FD := ⟨T, lookC [(18, fc18), (19, fc19), (20, fc20), (21, fc21)], [], (Tryd.f9.body.getD .skip), Tryd.f9.results.toList, ⟨[.row (.cons (.sl .str) (.sl (.cons (.int .i64) (.int .i64)))), .one (.sl (.cons (.int .i64) (.cons .str (.cons .str (.cons .bool (.cons (.int .i64) (.int .i64)))))))], []⟩, ⟨[.one (.int .i64), .one (.int .i64)], []⟩, [(10, limit_Check_F10)]⟩
def limit_Check_l10 (t18 : (List TLimit)) (t19 : Int) (t20 : Int) (h0 : TCapture) : (Option ((Int × Int × Unit) × Unit)) := limit_Check_D.lab 10 limit_Check_F10 (((), t18, t19, t20, ()), (h0, ()))
theorem limit_Check_l10_eq (t18 : (List TLimit)) (t19 : Int) (t20 : Int) (h0 : TCapture) : limit_Check_l10 t18 t19 t20 h0 =
  if (decide (t20 < t19)) = true then
    if 0 ≤ t20 ∧ t20 < (t18.length : Int) then
      (limit_form (t18.getD t20.toNat dLimit)).bind fun y1 =>
        if (y1.1.1 != 0) = true then
          some ((t20, y1.1.1, ()), ())
        else
          (limit_has h0 (t18.getD t20.toNat dLimit).2.1).bind fun y2 =>
            if (!y2.1.1) = true then
              some ((t20, 8, ()), ())
            else
              (limit_clocked (t18.getD t20.toNat dLimit)).bind fun y3 =>
                if y3.1.1 = true then
                  (limit_has h0 (t18.getD t20.toNat dLimit).2.2.1).bind fun y4 =>
                    if (!y4.1.1) = true then
                      some ((t20, 8, ()), ())
                    else
                      limit_Check_l10 t18 t19 (IntKind.i64.wrap (t20 + 1)) h0
                else
                  limit_Check_l10 t18 t19 (IntKind.i64.wrap (t20 + 1)) h0
    else
      none
  else
    some (((-1), 0, ()), ()) := (FD.lab_eq _ _ _ _).trans (by kernel_rfl)
def limit_Check (c : TCapture) (l : (List TLimit)) : (Option ((Int × Int × Unit) × Unit)) :=
  (capture_Check c).bind fun y1 =>
    if (y1.1.1 != 0) = true then
      some (((-1), y1.1.1, ()), ())
    else
      if (decide ((l.length : Int) > 64)) = true then
        some (((-1), 6, ()), ())
      else
        limit_Check_l10 l (l.length : Int) 0 c
def fc9 : FC := ⟨⟨[.row (.cons (.sl .str) (.sl (.cons (.int .i64) (.int .i64)))), .one (.sl (.cons (.int .i64) (.cons .str (.cons .str (.cons .bool (.cons (.int .i64) (.int .i64)))))))], []⟩, ⟨[.one (.int .i64), .one (.int .i64)], []⟩, fun x => limit_Check x.1.1 x.1.2.1⟩
theorem con9 : Contract Tryd.prog 9 fc9 :=
  limit_Check_D.contract tok (cok_of (l := [(18, fc18), (19, fc19), (20, fc20), (21, fc21)]) ⟨con18, con19, con20, con21, trivial⟩) mixed (fn' := Tryd.f9) (by kernel_rfl) (by kernel_rfl) rfl (by kernel_rfl) (fun x => (FD.fn_eq _ _).trans (by kernel_rfl))
end
end Go.Proofs.YtejehchbflmofaaDoor
end

section
/-
YtejehchbflmofaaDoor: signalbench.limit.Gaps, as one plain function, its equations, its contract. No condition.
-/
set_option maxRecDepth 100000
set_option linter.unusedVariables false
set_option maxHeartbeats 4000000
open Go Go.AM
namespace Go.Proofs.YtejehchbflmofaaDoor
noncomputable section
def limit_Gaps_D : FD := ⟨T, lookC [(9, fc9), (34, fc34)], [], (Tryd.f15.body.getD .skip), Tryd.f15.results.toList, ⟨[.row (.cons (.sl .str) (.sl (.cons (.int .i64) (.int .i64)))), .row (.cons (.int .i64) (.cons .str (.cons .str (.cons .bool (.cons (.int .i64) (.int .i64))))))], []⟩, ⟨[.one (.sl (.cons (.int .i64) (.int .i64))), .one (.int .i64)], []⟩, []⟩
def limit_Gaps (c : TCapture) (x0 : TLimit) : (Option (((List TGap) × Int × Unit) × Unit)) :=
  (limit_Check c [x0]).bind fun y1 =>
    if (y1.1.2.1 != 0) = true then
      some (([], y1.1.2.1, ()), ())
    else
      (limit_gaps c x0).bind fun y2 =>
        some ((y2.1.1, 0, ()), ())
def fc15 : FC := ⟨⟨[.row (.cons (.sl .str) (.sl (.cons (.int .i64) (.int .i64)))), .row (.cons (.int .i64) (.cons .str (.cons .str (.cons .bool (.cons (.int .i64) (.int .i64))))))], []⟩, ⟨[.one (.sl (.cons (.int .i64) (.int .i64))), .one (.int .i64)], []⟩, fun x => limit_Gaps x.1.1 x.1.2.1⟩
theorem con15 : Contract Tryd.prog 15 fc15 :=
  limit_Gaps_D.contract tok (cok_of (l := [(9, fc9), (34, fc34)]) ⟨con9, con34, trivial⟩) mixed (fn' := Tryd.f15) (by kernel_rfl) (by kernel_rfl) rfl (by kernel_rfl) (fun x => (FD.fn_eq _ _).trans (by kernel_rfl))
end
end Go.Proofs.YtejehchbflmofaaDoor
end

section
/-
YtejehchbflmofaaDoor: signalbench.limit.Find, as one plain function, its equations, its contract. No condition.
-/
set_option maxRecDepth 100000
set_option linter.unusedVariables false
set_option maxHeartbeats 4000000
open Go Go.AM
namespace Go.Proofs.YtejehchbflmofaaDoor
noncomputable section
def limit_Find_F8 : FSh := ⟨[(2, .one (.ptr 0 0)), (8, .one (.own 1)), (22, .one (.sl (.cons (.int .i64) (.cons .str (.cons .str (.cons .bool (.cons (.int .i64) (.int .i64)))))))), (23, .one (.int .i64)), (24, .one (.int .i64))], [.boxr 25 (.cons (.sl .str) (.sl (.cons (.int .i64) (.int .i64)))), .arr 54 (.cons (.int .i64) (.cons (.int .i64) (.int .i64))) true]⟩
def limit_Find_F14 : FSh := ⟨[(2, .one (.ptr 0 0)), (8, .one (.own 1)), (9, .one (.int .i64)), (10, .one (.ptr 2 0)), (22, .one (.sl (.cons (.int .i64) (.cons .str (.cons .str (.cons .bool (.cons (.int .i64) (.int .i64)))))))), (23, .one (.int .i64)), (24, .one (.int .i64)), (31, .one (.sl (.cons (.int .i64) (.int .i64)))), (32, .one (.int .i64)), (33, .one (.int .i64))], [.boxr 25 (.cons (.sl .str) (.sl (.cons (.int .i64) (.int .i64)))), .arr 54 (.cons (.int .i64) (.cons (.int .i64) (.int .i64))) true, .boxr 41 (.cons (.int .i64) (.cons .str (.cons .str (.cons .bool (.cons (.int .i64) (.int .i64))))))]⟩
def limit_Find_D : FD := ⟨T, lookC [(9, fc9), (34, fc34)], [], (Tryd.f16.body.getD .skip), Tryd.f16.results.toList, ⟨[.row (.cons (.sl .str) (.sl (.cons (.int .i64) (.int .i64)))), .one (.sl (.cons (.int .i64) (.cons .str (.cons .str (.cons .bool (.cons (.int .i64) (.int .i64)))))))], []⟩, ⟨[.one (.sl (.cons (.int .i64) (.cons (.int .i64) (.int .i64)))), .one (.int .i64)], []⟩, [(8, limit_Find_F8), (14, limit_Find_F14)]⟩
def limit_Find_l8 (t22 : (List TLimit)) (t23 : Int) (t24 : Int) (h0 : TCapture) (l1 : (List TViolation)) : (Option (((List TViolation) × Int × Unit) × Unit)) := limit_Find_D.lab 8 limit_Find_F8 (((), (), t22, t23, t24, ()), (h0, l1, ()))
def limit_Find_l14 (i : Int) (t22 : (List TLimit)) (t23 : Int) (t24 : Int) (t31 : (List TGap)) (t32 : Int) (t33 : Int) (h0 : TCapture) (l1 : (List TViolation)) (h2 : TLimit) : (Option (((List TViolation) × Int × Unit) × Unit)) := limit_Find_D.lab 14 limit_Find_F14 (((), (), i, (), t22, t23, t24, t31, t32, t33, ()), (h0, l1, h2, ()))
theorem limit_Find_l8_eq (t22 : (List TLimit)) (t23 : Int) (t24 : Int) (h0 : TCapture) (l1 : (List TViolation)) : limit_Find_l8 t22 t23 t24 h0 l1 =
  if (decide (t24 < t23)) = true then
    if 0 ≤ t24 ∧ t24 < (t22.length : Int) then
      (limit_gaps h0 (t22.getD t24.toNat dLimit)).bind fun y1 =>
        limit_Find_l14 t24 t22 t23 t24 y1.1.1 (y1.1.1.length : Int) 0 h0 l1 (t22.getD t24.toNat dLimit)
    else
      none
  else
    some ((l1, 0, ()), ()) := (FD.lab_eq _ _ _ _).trans (by kernel_rfl)
theorem limit_Find_l14_eq (i : Int) (t22 : (List TLimit)) (t23 : Int) (t24 : Int) (t31 : (List TGap)) (t32 : Int) (t33 : Int) (h0 : TCapture) (l1 : (List TViolation)) (h2 : TLimit) : limit_Find_l14 i t22 t23 t24 t31 t32 t33 h0 l1 h2 =
  if (decide (t33 < t32)) = true then
    if 0 ≤ t33 ∧ t33 < (t31.length : Int) then
      if (decide ((t31.getD t33.toNat dGap).2 < h2.2.2.2.2.1)) = true then
        if (l1.length + 1) * 24 ≤ 140737488355328 ∧ 0 < 24 then
          limit_Find_l14 i t22 t23 t24 t31 t32 (IntKind.i64.wrap (t33 + 1)) h0 (l1 ++ [(i, (t31.getD t33.toNat dGap))]) h2
        else
          none
      else
        if (decide ((t31.getD t33.toNat dGap).2 > h2.2.2.2.2.2)) = true then
          if (l1.length + 1) * 24 ≤ 140737488355328 ∧ 0 < 24 then
            limit_Find_l14 i t22 t23 t24 t31 t32 (IntKind.i64.wrap (t33 + 1)) h0 (l1 ++ [(i, (t31.getD t33.toNat dGap))]) h2
          else
            none
        else
          limit_Find_l14 i t22 t23 t24 t31 t32 (IntKind.i64.wrap (t33 + 1)) h0 l1 h2
    else
      none
  else
    limit_Find_l8 t22 t23 (IntKind.i64.wrap (t24 + 1)) h0 l1 := (FD.lab_eq _ _ _ _).trans (by kernel_rfl)
def limit_Find (c : TCapture) (l : (List TLimit)) : (Option (((List TViolation) × Int × Unit) × Unit)) :=
  (limit_Check c l).bind fun y1 =>
    if (y1.1.2.1 != 0) = true then
      some (([], y1.1.2.1, ()), ())
    else
      limit_Find_l8 l (l.length : Int) 0 c []
def fc16 : FC := ⟨⟨[.row (.cons (.sl .str) (.sl (.cons (.int .i64) (.int .i64)))), .one (.sl (.cons (.int .i64) (.cons .str (.cons .str (.cons .bool (.cons (.int .i64) (.int .i64)))))))], []⟩, ⟨[.one (.sl (.cons (.int .i64) (.cons (.int .i64) (.int .i64)))), .one (.int .i64)], []⟩, fun x => limit_Find x.1.1 x.1.2.1⟩
theorem con16 : Contract Tryd.prog 16 fc16 :=
  limit_Find_D.contract tok (cok_of (l := [(9, fc9), (34, fc34)]) ⟨con9, con34, trivial⟩) mixed (fn' := Tryd.f16) (by kernel_rfl) (by kernel_rfl) rfl (by kernel_rfl) (fun x => (FD.fn_eq _ _).trans (by kernel_rfl))
end
end Go.Proofs.YtejehchbflmofaaDoor
end

section
/-
YtejehchbflmofaaDoor: signalbench.limit.away, as one plain function, its equations, its contract. No condition.
-/
set_option maxRecDepth 100000
set_option linter.unusedVariables false
set_option maxHeartbeats 4000000
open Go Go.AM
namespace Go.Proofs.YtejehchbflmofaaDoor
noncomputable section
def limit_away_D : FD := ⟨T, lookC [], [], (Tryd.f35.body.getD .skip), Tryd.f35.results.toList, ⟨[.row (.cons (.int .i64) (.cons .str (.cons .str (.cons .bool (.cons (.int .i64) (.int .i64)))))), .row (.cons (.int .i64) (.int .i64))], []⟩, ⟨[.one (.int .i64)], []⟩, []⟩
def limit_away (x0 : TLimit) (g : TGap) : (Option ((Int × Unit) × Unit)) :=
  some ((if IntKind.i64.wrap ((IntKind.i64.wrap ((IntKind.i64.wrap (2 * g.2)) - x0.2.2.2.2.1)) - x0.2.2.2.2.2) < IntKind.i64.wrap (0 - (IntKind.i64.wrap ((IntKind.i64.wrap ((IntKind.i64.wrap (2 * g.2)) - x0.2.2.2.2.1)) - x0.2.2.2.2.2))) then IntKind.i64.wrap (0 - (IntKind.i64.wrap ((IntKind.i64.wrap ((IntKind.i64.wrap (2 * g.2)) - x0.2.2.2.2.1)) - x0.2.2.2.2.2))) else IntKind.i64.wrap ((IntKind.i64.wrap ((IntKind.i64.wrap (2 * g.2)) - x0.2.2.2.2.1)) - x0.2.2.2.2.2), ()), ())
def fc35 : FC := ⟨⟨[.row (.cons (.int .i64) (.cons .str (.cons .str (.cons .bool (.cons (.int .i64) (.int .i64)))))), .row (.cons (.int .i64) (.int .i64))], []⟩, ⟨[.one (.int .i64)], []⟩, fun x => limit_away x.1.1 x.1.2.1⟩
theorem con35 : Contract Tryd.prog 35 fc35 :=
  limit_away_D.contract tok (cok_of (l := []) trivial) mixed (fn' := Tryd.f35) (by kernel_rfl) (by kernel_rfl) rfl (by kernel_rfl) (fun x => (FD.fn_eq _ _).trans (by kernel_rfl))
end
end Go.Proofs.YtejehchbflmofaaDoor
end

section
/-
YtejehchbflmofaaDoor: signalbench.limit.Worst, as one plain function, its equations, its contract. No condition.
-/
set_option maxRecDepth 100000
set_option linter.unusedVariables false
set_option maxHeartbeats 4000000
open Go Go.AM
namespace Go.Proofs.YtejehchbflmofaaDoor
noncomputable section
def limit_Worst_F8 : FSh := ⟨[(3, .one (.ptr 0 0)), (4, .one (.ptr 1 0)), (8, .one (.ptr 2 0)), (28, .one (.sl (.cons (.int .i64) (.int .i64)))), (29, .one (.int .i64)), (30, .one (.int .i64))], [.boxr 41 (.cons (.int .i64) (.cons .str (.cons .str (.cons .bool (.cons (.int .i64) (.int .i64)))))), .boxr 50 (.cons (.int .i64) (.int .i64)), .boxr 50 (.cons (.int .i64) (.int .i64))]⟩
def limit_Worst_D : FD := ⟨T, lookC [(15, fc15), (35, fc35)], [], (Tryd.f17.body.getD .skip), Tryd.f17.results.toList, ⟨[.row (.cons (.sl .str) (.sl (.cons (.int .i64) (.int .i64)))), .row (.cons (.int .i64) (.cons .str (.cons .str (.cons .bool (.cons (.int .i64) (.int .i64))))))], []⟩, ⟨[.row (.cons (.int .i64) (.int .i64)), .one .bool], []⟩, [(8, limit_Worst_F8)]⟩
def limit_Worst_l8 (t28 : (List TGap)) (t29 : Int) (t30 : Int) (h0 : TLimit) (h1 : TGap) (h2 : TGap) : (Option ((TGap × Bool × Unit) × Unit)) := limit_Worst_D.lab 8 limit_Worst_F8 (((), (), (), t28, t29, t30, ()), (h0, h1, h2, ()))
theorem limit_Worst_l8_eq (t28 : (List TGap)) (t29 : Int) (t30 : Int) (h0 : TLimit) (h1 : TGap) (h2 : TGap) : limit_Worst_l8 t28 t29 t30 h0 h1 h2 =
  if (decide (t30 < t29)) = true then
    if 0 ≤ t30 ∧ t30 < (t28.length : Int) then
      (limit_away h0 (t28.getD t30.toNat dGap)).bind fun y1 =>
        (limit_away h0 h2).bind fun y2 =>
          if (decide (y1.1.1 > y2.1.1)) = true then
            limit_Worst_l8 t28 t29 (IntKind.i64.wrap (t30 + 1)) h0 h1 (t28.getD t30.toNat dGap)
          else
            limit_Worst_l8 t28 t29 (IntKind.i64.wrap (t30 + 1)) h0 h1 h2
    else
      none
  else
    some ((h2, true, ()), ()) := (FD.lab_eq _ _ _ _).trans (by kernel_rfl)
def limit_Worst (c : TCapture) (x0 : TLimit) : (Option ((TGap × Bool × Unit) × Unit)) :=
  (limit_Gaps c x0).bind fun y1 =>
    if (y1.1.2.1 != 0) = true then
      some (((0, 0), false, ()), ())
    else
      if ((y1.1.1.length : Int) == 0) = true then
        some (((0, 0), false, ()), ())
      else
        if 0 ≤ (0 : Int) ∧ 0 < (y1.1.1.length : Int) then
          limit_Worst_l8 y1.1.1 (y1.1.1.length : Int) 0 x0 (0, 0) (y1.1.1.getD 0 dGap)
        else
          none
def fc17 : FC := ⟨⟨[.row (.cons (.sl .str) (.sl (.cons (.int .i64) (.int .i64)))), .row (.cons (.int .i64) (.cons .str (.cons .str (.cons .bool (.cons (.int .i64) (.int .i64))))))], []⟩, ⟨[.row (.cons (.int .i64) (.int .i64)), .one .bool], []⟩, fun x => limit_Worst x.1.1 x.1.2.1⟩
theorem con17 : Contract Tryd.prog 17 fc17 :=
  limit_Worst_D.contract tok (cok_of (l := [(15, fc15), (35, fc35)]) ⟨con15, con35, trivial⟩) mixed (fn' := Tryd.f17) (by kernel_rfl) (by kernel_rfl) rfl (by kernel_rfl) (fun x => (FD.fn_eq _ _).trans (by kernel_rfl))
end
end Go.Proofs.YtejehchbflmofaaDoor
end

section
/-
YtejehchbflmofaaDoor: signalbench.signalbenchlaw49.small, as one plain function, its equations, its contract. No condition.
-/
set_option maxRecDepth 100000
set_option linter.unusedVariables false
set_option maxHeartbeats 4000000
open Go Go.AM
namespace Go.Proofs.YtejehchbflmofaaDoor
noncomputable section
def law49_small_F6 : FSh := ⟨[(1, .one (.ptr 0 0)), (3, .one (.int .i64))], [.boxr 25 (.cons (.sl .str) (.sl (.cons (.int .i64) (.int .i64))))]⟩
def law49_small_D : FD := ⟨T, lookC [(14, fc14)], [], (Tryd.f6.body.getD .skip), Tryd.f6.results.toList, ⟨[.row (.cons (.sl .str) (.sl (.cons (.int .i64) (.int .i64))))], []⟩, ⟨[.one .bool], []⟩, [(6, law49_small_F6)]⟩
def law49_small_l6 (i : Int) (h0 : TCapture) : (Option ((Bool × Unit) × Unit)) := law49_small_D.lab 6 law49_small_F6 (((), i, ()), (h0, ()))
theorem law49_small_l6_eq (i : Int) (h0 : TCapture) : law49_small_l6 i h0 =
  if (decide (i < (h0.1.length : Int))) = true then
    if 0 ≤ i ∧ i < (h0.1.length : Int) then
      (law49_brief (h0.1.getD i.toNat (strB []))).bind fun y1 =>
        if (!y1.1.1) = true then
          some ((false, ()), ())
        else
          law49_small_l6 (IntKind.i64.wrap (i + 1)) h0
    else
      none
  else
    some ((true, ()), ()) := (FD.lab_eq _ _ _ _).trans (by kernel_rfl)
def law49_small (c : TCapture) : (Option ((Bool × Unit) × Unit)) :=
  if (decide ((c.2.length : Int) > 30)) = true then
    some ((false, ()), ())
  else
    if (decide ((c.1.length : Int) > 17)) = true then
      some ((false, ()), ())
    else
      law49_small_l6 0 c
def fc6 : FC := ⟨⟨[.row (.cons (.sl .str) (.sl (.cons (.int .i64) (.int .i64))))], []⟩, ⟨[.one .bool], []⟩, fun x => law49_small x.1.1⟩
theorem con6 : Contract Tryd.prog 6 fc6 :=
  law49_small_D.contract tok (cok_of (l := [(14, fc14)]) ⟨con14, trivial⟩) mixed (fn' := Tryd.f6) (by kernel_rfl) (by kernel_rfl) rfl (by kernel_rfl) (fun x => (FD.fn_eq _ _).trans (by kernel_rfl))
end
end Go.Proofs.YtejehchbflmofaaDoor
end

section
/-
YtejehchbflmofaaDoor: signalbench.signalbenchlaw49.few, as one plain function, its equations, its contract. No condition.
-/
set_option maxRecDepth 100000
set_option linter.unusedVariables false
set_option maxHeartbeats 4000000
open Go Go.AM
namespace Go.Proofs.YtejehchbflmofaaDoor
noncomputable section
def law49_few_F6 : FSh := ⟨[(0, .one (.sl (.cons (.int .i64) (.cons .str (.cons .str (.cons .bool (.cons (.int .i64) (.int .i64)))))))), (3, .one (.int .i64))], []⟩
def law49_few_D : FD := ⟨T, lookC [(14, fc14)], [], (Tryd.f7.body.getD .skip), Tryd.f7.results.toList, ⟨[.one (.sl (.cons (.int .i64) (.cons .str (.cons .str (.cons .bool (.cons (.int .i64) (.int .i64)))))))], []⟩, ⟨[.one .bool], []⟩, [(6, law49_few_F6)]⟩
def law49_few_l6 (l : (List TLimit)) (i : Int) : (Option ((Bool × Unit) × Unit)) := law49_few_D.lab 6 law49_few_F6 ((l, i, ()), ())
theorem law49_few_l6_eq (l : (List TLimit)) (i : Int) : law49_few_l6 l i =
  if (decide (i < (l.length : Int))) = true then
    if 0 ≤ i ∧ i < (l.length : Int) then
      (law49_brief (l.getD i.toNat dLimit).2.1).bind fun y1 =>
        if (!y1.1.1) = true then
          some ((false, ()), ())
        else
          if 0 ≤ i ∧ i < (l.length : Int) then
            (law49_brief (l.getD i.toNat dLimit).2.2.1).bind fun y2 =>
              if (!y2.1.1) = true then
                some ((false, ()), ())
              else
                law49_few_l6 l (IntKind.i64.wrap (i + 1))
          else
            none
    else
      none
  else
    some ((true, ()), ()) := (FD.lab_eq _ _ _ _).trans (by kernel_rfl)
def law49_few (l : (List TLimit)) : (Option ((Bool × Unit) × Unit)) :=
  if (decide ((l.length : Int) > 66)) = true then
    some ((false, ()), ())
  else
    law49_few_l6 l 0
def fc7 : FC := ⟨⟨[.one (.sl (.cons (.int .i64) (.cons .str (.cons .str (.cons .bool (.cons (.int .i64) (.int .i64)))))))], []⟩, ⟨[.one .bool], []⟩, fun x => law49_few x.1.1⟩
theorem con7 : Contract Tryd.prog 7 fc7 :=
  law49_few_D.contract tok (cok_of (l := [(14, fc14)]) ⟨con14, trivial⟩) mixed (fn' := Tryd.f7) (by kernel_rfl) (by kernel_rfl) rfl (by kernel_rfl) (fun x => (FD.fn_eq _ _).trans (by kernel_rfl))
end
end Go.Proofs.YtejehchbflmofaaDoor
end
