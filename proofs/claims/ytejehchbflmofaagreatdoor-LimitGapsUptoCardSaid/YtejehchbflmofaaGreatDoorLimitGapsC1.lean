/-
The plain functions of the program that the law LimitGaps reaches, that the program computes them, and what they come to. No condition.
-/
import Derived.Test.YtejehchbflmofaaGreatDoorRows
import Derived.Test.YtejehchbflmofaaGreatDoorChecked
import Derived.Lib.ItoaNum
import Derived.Lib.LaidTab
import Derived.Lib.Builder
import Derived.Lib.UnsafeStr
import Derived.Lib.Walk
import Derived.WalkKit
import Derived.Laws.Externs
import Derived.Test.YtejehchbflmofaaGreatDoorAm1
import Derived.Test.YtejehchbflmofaaGreatDoorAm2
import Derived.Test.YtejehchbflmofaaGreatDoorAm3
set_option linter.unusedVariables false
set_option linter.unusedSimpArgs false
set_option linter.unusedSectionVars false

section
/-
YtejehchbflmofaaGreatDoor: the given measure of what is read is the machine's. No condition.
-/
namespace Go.Proofs.YtejehchbflmofaaGreatDoor
open Go

mutual
theorem bulk_eq {H : Type} : ∀ d : DataW H, Rows.uptoBulk d = AM.bulkW d
  | .lit (.string _) => by simp [Rows.uptoBulk, AM.bulkW]
  | .lit (.bool _) => by simp [Rows.uptoBulk, AM.bulkW]
  | .lit (.int _ _) => by simp [Rows.uptoBulk, AM.bulkW]
  | .lit (.float _ _) => by simp [Rows.uptoBulk, AM.bulkW]
  | .lit .nil => by simp [Rows.uptoBulk, AM.bulkW]
  | .nil => by simp [Rows.uptoBulk, AM.bulkW]
  | .ptr d => by simp [Rows.uptoBulk, AM.bulkW, bulk_eq d]
  | .slice a b => by simp [Rows.uptoBulk, AM.bulkW, bulkAll_eq a, bulkAll_eq b]
  | .agg a => by simp [Rows.uptoBulk, AM.bulkW, bulkAll_eq a]
  | .iface _ d => by simp [Rows.uptoBulk, AM.bulkW, bulk_eq d]
  | .map es => by simp [Rows.uptoBulk, AM.bulkW, bulkEntries_eq es]
  | .held _ => by simp [Rows.uptoBulk, AM.bulkW]
theorem bulkAll_eq {H : Type} : ∀ l : List (DataW H), Rows.uptoBulkAll l = AM.bulkAll l
  | [] => by simp [Rows.uptoBulkAll, AM.bulkAll]
  | d :: r => by simp [Rows.uptoBulkAll, AM.bulkAll, bulk_eq d, bulkAll_eq r]
theorem bulkEntries_eq {H : Type} : ∀ l : List (Lit × DataW H), Rows.uptoBulkEntries l = AM.bulkEntries l
  | [] => by simp [Rows.uptoBulkEntries, AM.bulkEntries]
  | x :: r => by simp [Rows.uptoBulkEntries, AM.bulkEntries, bulkEntry_eq x, bulkEntries_eq r]
theorem bulkEntry_eq {H : Type} : ∀ x : Lit × DataW H, Rows.uptoBulkEntry x = AM.bulkEntry x
  | (.string _, d) => by simp [Rows.uptoBulkEntry, AM.bulkEntry, bulk_eq d]
  | (.bool _, d) => by simp [Rows.uptoBulkEntry, AM.bulkEntry, bulk_eq d]
  | (.int _ _, d) => by simp [Rows.uptoBulkEntry, AM.bulkEntry, bulk_eq d]
  | (.float _ _, d) => by simp [Rows.uptoBulkEntry, AM.bulkEntry, bulk_eq d]
  | (.nil, d) => by simp [Rows.uptoBulkEntry, AM.bulkEntry, bulk_eq d]
end

theorem bulk_bound {H : Type} {l : List (DataW H)} (hk : Rows.uptoSmall H l = true) : AM.bulkAll l ≤ 1048576 := by
  rw [← bulkAll_eq]
  exact of_decide_eq_true hk

theorem own : ownKnob Tryz.prog.godebug = none := by kernel_rfl
theorem laidOut : laidOutB Tryz.prog = true := by kernel_rfl

end Go.Proofs.YtejehchbflmofaaGreatDoor
end

section
/-
YtejehchbflmofaaGreatDoor: the library's table that the row lists, as every state holds it. No condition.
-/
open Go Go.AM
namespace Go.Proofs.YtejehchbflmofaaGreatDoor
noncomputable section
def powCells : Array Value := (Lib.pow10Tab.map fun z => Value.int .u64 z).toArray
instance zoneI : Inhabited ZMem := ⟨fun b => if b = 1 then some powCells else none⟩

theorem zone_pow : Zone 1 = some powCells := rfl

theorem zone_tab {w : World} (h : HoldsB w 1 powCells) : Lib.TabIs Tryz.prog w "internal/strconv.uint64pow10" .u64 Lib.pow10Tab := by
  obtain ⟨t, fr, h⟩ := h
  unfold Lib.TabIs World.var?
  rw [show Tryz.prog.globalNamed "internal/strconv.uint64pow10" = some 1 by kernel_rfl]
  simp only [Option.bind_some]
  rw [h]
  rfl

theorem zone_met {w : World} (h : Lib.TabIs Tryz.prog w "internal/strconv.uint64pow10" .u64 Lib.pow10Tab) : ∀ (b : Nat) (o : Array Value), Zone b = some o → HoldsB w b o := by
  intro b o hz
  have hz' : (if b = 1 then some powCells else none) = some o := hz
  split at hz'
  · rename_i e
    subst e
    cases hz'
    unfold Lib.TabIs World.var? at h
    rw [show Tryz.prog.globalNamed "internal/strconv.uint64pow10" = some 1 by kernel_rfl] at h
    simp only [Option.bind_some] at h
    split at h
    · rename_i cs t fr hq
      cases h
      exact ⟨t, fr, hq⟩
    · cases h
  · cases hz'
end
end Go.Proofs.YtejehchbflmofaaGreatDoor
end

section
/-
YtejehchbflmofaaGreatDoor: the types that the functions use. No condition.
-/
set_option maxRecDepth 100000
open Go Go.AM
namespace Go.Proofs.YtejehchbflmofaaGreatDoor
noncomputable section
abbrev TGap : Type := Int × Int
abbrev uGap : U := (.cons (.int .i64) (.int .i64))
def dGap : TGap := (0, 0)
abbrev TCapture : Type := (List ByteArray) × (List TGap)
abbrev uCapture : U := (.cons (.sl .str) (.sl (.cons (.int .i64) (.int .i64))))
def dCapture : TCapture := ([], [])
abbrev TLimit : Type := Int × ByteArray × ByteArray × Bool × TGap
abbrev uLimit : U := (.cons (.int .i64) (.cons .str (.cons .str (.cons .bool (.cons (.int .i64) (.int .i64))))))
def dLimit : TLimit := (0, ((strB []), ((strB []), (false, dGap))))
abbrev TViolation : Type := Int × TGap
abbrev uViolation : U := (.cons (.int .i64) (.cons (.int .i64) (.int .i64)))
def dViolation : TViolation := (0, dGap)
abbrev TToken : Type := Int × ByteArray × TGap
abbrev uToken : U := (.cons (.int .i64) (.cons .str (.cons (.int .i64) (.int .i64))))
def dToken : TToken := (0, ((strB []), dGap))
abbrev Treader : Type := (List TToken) × TGap
abbrev ureader : U := (.cons (.sl (.cons (.int .i64) (.cons .str (.cons (.int .i64) (.int .i64))))) (.cons (.int .i64) (.int .i64)))
def dreader : Treader := ([], dGap)
abbrev Twaves : Type := (List TGap) × (List TGap) × Bool
abbrev uwaves : U := (.cons (.sl (.cons (.int .i64) (.int .i64))) (.cons (.sl (.cons (.int .i64) (.int .i64))) .bool))
def dwaves : Twaves := ([], ([], false))
abbrev Tchange : Type := Int × Bool
abbrev uchange : U := (.cons (.int .i64) .bool)
def dchange : Tchange := (0, false)
def TL : List (Nat × TD) := [
  (3, ⟨.int .i64, 1, 8, [.val (.int .i64 0)], some (.int .i64), false, []⟩),
  (4, ⟨.bool, 1, 1, [.val (.bool false)], some .bool, false, []⟩),
  (5, ⟨.int .u8, 1, 1, [.val (.int .u8 0)], some (.int .u8), false, []⟩),
  (9, ⟨.string, 1, 16, [.val (.string ⟨#[]⟩)], some .str, false, []⟩),
  (21, ⟨.int .i32, 1, 4, [.val (.int .i32 0)], some (.int .i32), false, []⟩),
  (22, ⟨.slice 9, 1, 24, [.val (.slice none 0 0)], some (.sl .str), false, []⟩),
  (23, ⟨.slice 55, 1, 24, [.val (.slice none 0 0)], some (.sl (.cons (.int .i64) (.int .i64))), false, []⟩),
  (25, ⟨(Tryz.t24.desc), 2, 48, [.val (.slice none 0 0), .val (.slice none 0 0)], some (.cons (.sl .str) (.sl (.cons (.int .i64) (.int .i64)))), false, [(0, 1), (1, 1)]⟩),
  (26, ⟨.slice 46, 1, 24, [.val (.slice none 0 0)], some (.sl (.cons (.int .i64) (.cons .str (.cons .str (.cons .bool (.cons (.int .i64) (.int .i64))))))), false, []⟩),
  (30, ⟨.slice 37, 1, 24, [.val (.slice none 0 0)], some (.sl (.cons (.int .i64) (.cons (.int .i64) (.int .i64)))), false, []⟩),
  (31, ⟨.int .i64, 1, 8, [.val (.int .i64 0)], some (.int .i64), false, []⟩),
  (35, ⟨(Tryz.t34.desc), 2, 16, [.val (.int .i64 0), .val (.int .i64 0)], some (.cons (.int .i64) (.int .i64)), true, [(0, 1), (1, 1)]⟩),
  (37, ⟨(Tryz.t36.desc), 3, 24, [.val (.int .i64 0), .val (.int .i64 0), .val (.int .i64 0)], some (.cons (.int .i64) (.cons (.int .i64) (.int .i64))), true, [(0, 1), (1, 2)]⟩),
  (46, ⟨(Tryz.t45.desc), 6, 64, [.val (.int .i64 0), .val (.string ⟨#[]⟩), .val (.string ⟨#[]⟩), .val (.bool false), .val (.int .i64 0), .val (.int .i64 0)], some (.cons (.int .i64) (.cons .str (.cons .str (.cons .bool (.cons (.int .i64) (.int .i64)))))), true, [(0, 1), (1, 1), (2, 1), (3, 1), (4, 1), (5, 1)]⟩),
  (47, ⟨.slice 35, 1, 24, [.val (.slice none 0 0)], some (.sl (.cons (.int .i64) (.int .i64))), false, []⟩),
  (55, ⟨(Tryz.t54.desc), 2, 16, [.val (.int .i64 0), .val (.int .i64 0)], some (.cons (.int .i64) (.int .i64)), false, [(0, 1), (1, 1)]⟩),
  (59, ⟨.slice 63, 1, 24, [.val (.slice none 0 0)], some (.sl (.cons (.int .i64) (.cons .str (.cons (.int .i64) (.int .i64))))), false, []⟩),
  (63, ⟨(Tryz.t62.desc), 4, 40, [.val (.int .i64 0), .val (.string ⟨#[]⟩), .val (.int .i64 0), .val (.int .i64 0)], some (.cons (.int .i64) (.cons .str (.cons (.int .i64) (.int .i64)))), false, [(0, 1), (1, 1), (2, 1), (3, 1)]⟩),
  (72, ⟨.pointer 74, 1, 8, [.val (.pointer none)], none, false, []⟩),
  (74, ⟨(Tryz.t73.desc), 3, 40, [.val (.slice none 0 0), .val (.int .i64 0), .val (.int .i64 0)], some (.cons (.sl (.cons (.int .i64) (.cons .str (.cons (.int .i64) (.int .i64))))) (.cons (.int .i64) (.int .i64))), false, [(0, 1), (1, 1), (2, 1)]⟩),
  (88, ⟨(Tryz.t87.desc), 3, 56, [.val (.slice none 0 0), .val (.slice none 0 0), .val (.bool false)], some (.cons (.sl (.cons (.int .i64) (.int .i64))) (.cons (.sl (.cons (.int .i64) (.int .i64))) .bool)), false, [(0, 1), (1, 1), (2, 1)]⟩),
  (89, ⟨(Tryz.t89.desc), 1, 8, [.val (.nilFunc)], none, false, []⟩),
  (93, ⟨.array 7 9, 7, 112, [.val (.string ⟨#[]⟩), .val (.string ⟨#[]⟩), .val (.string ⟨#[]⟩), .val (.string ⟨#[]⟩), .val (.string ⟨#[]⟩), .val (.string ⟨#[]⟩), .val (.string ⟨#[]⟩)], some (.cons .str (.cons .str (.cons .str (.cons .str (.cons .str (.cons .str .str)))))), false, []⟩),
  (94, ⟨.pointer 97, 1, 8, [.val (.pointer none)], none, false, []⟩),
  (95, ⟨.slice 5, 1, 24, [.val (.slice none 0 0)], some (.sl (.int .u8)), false, []⟩),
  (97, ⟨(Tryz.t96.desc), 2, 32, [.val (.pointer none), .val (.slice none 0 0)], none, false, [(0, 1), (1, 1)]⟩),
  (101, ⟨(Tryz.t100.desc), 1, 16, [.val (.nilIface)], some .any, false, []⟩),
  (120, ⟨.slice 124, 1, 24, [.val (.slice none 0 0)], some (.sl (.cons (.int .i64) (.int .i64))), false, []⟩),
  (124, ⟨(Tryz.t123.desc), 2, 16, [.val (.int .i64 0), .val (.int .i64 0)], some (.cons (.int .i64) (.int .i64)), false, [(0, 1), (1, 1)]⟩),
  (134, ⟨.pointer 5, 1, 8, [.val (.pointer none)], none, false, []⟩),
  (151, ⟨.slice 3, 1, 24, [.val (.slice none 0 0)], some (.sl (.int .i64)), false, []⟩),
  (163, ⟨.slice 166, 1, 24, [.val (.slice none 0 0)], some (.sl (.cons (.int .i64) .bool)), false, []⟩),
  (166, ⟨(Tryz.t165.desc), 2, 16, [.val (.int .i64 0), .val (.bool false)], some (.cons (.int .i64) .bool), false, [(0, 1), (1, 1)]⟩),
  (167, ⟨(Tryz.t167.desc), 1, 8, [.val (.nilFunc)], none, false, []⟩)]
def T : TT := lookT TL
theorem tokAll : AllT Tryz.prog TL := ⟨
  TOk.of Tryz.t3 (.int .i64 0) (by kernel_rfl) (by kernel_rfl) (by kernel_rfl) (by kernel_rfl) (by kernel_rfl) (by kernel_rfl) (fun fs h => nomatch h) (fun h => nomatch h),
  TOk.of Tryz.t4 (.bool false) (by kernel_rfl) (by kernel_rfl) (by kernel_rfl) (by kernel_rfl) (by kernel_rfl) (by kernel_rfl) (fun fs h => nomatch h) (fun h => nomatch h),
  TOk.of Tryz.t5 (.int .u8 0) (by kernel_rfl) (by kernel_rfl) (by kernel_rfl) (by kernel_rfl) (by kernel_rfl) (by kernel_rfl) (fun fs h => nomatch h) (fun h => nomatch h),
  TOk.of Tryz.t9 (.string ⟨#[]⟩) (by kernel_rfl) (by kernel_rfl) (by kernel_rfl) (by kernel_rfl) (by kernel_rfl) (by kernel_rfl) (fun fs h => nomatch h) (fun h => nomatch h),
  TOk.of Tryz.t21 (.int .i32 0) (by kernel_rfl) (by kernel_rfl) (by kernel_rfl) (by kernel_rfl) (by kernel_rfl) (by kernel_rfl) (fun fs h => nomatch h) (fun h => nomatch h),
  TOk.of Tryz.t22 (.slice none 0 0) (by kernel_rfl) (by kernel_rfl) (by kernel_rfl) (by kernel_rfl) (by kernel_rfl) (by kernel_rfl) (fun fs h => nomatch h) (fun h => nomatch h),
  TOk.of Tryz.t23 (.slice none 0 0) (by kernel_rfl) (by kernel_rfl) (by kernel_rfl) (by kernel_rfl) (by kernel_rfl) (by kernel_rfl) (fun fs h => nomatch h) (fun h => nomatch h),
  TOk.of Tryz.t25 (.agg #[.slice none 0 0, .slice none 0 0]) (by kernel_rfl) (by kernel_rfl) (by kernel_rfl) (by kernel_rfl) (by kernel_rfl) (by kernel_rfl) (fun fs h => by cases h; kernel_rfl) (fun h => nomatch h),
  TOk.of Tryz.t26 (.slice none 0 0) (by kernel_rfl) (by kernel_rfl) (by kernel_rfl) (by kernel_rfl) (by kernel_rfl) (by kernel_rfl) (fun fs h => nomatch h) (fun h => nomatch h),
  TOk.of Tryz.t30 (.slice none 0 0) (by kernel_rfl) (by kernel_rfl) (by kernel_rfl) (by kernel_rfl) (by kernel_rfl) (by kernel_rfl) (fun fs h => nomatch h) (fun h => nomatch h),
  TOk.of Tryz.t31 (.int .i64 0) (by kernel_rfl) (by kernel_rfl) (by kernel_rfl) (by kernel_rfl) (by kernel_rfl) (by kernel_rfl) (fun fs h => nomatch h) (fun h => nomatch h),
  TOk.of Tryz.t35 (.agg #[.int .i64 0, .int .i64 0]) (by kernel_rfl) (by kernel_rfl) (by kernel_rfl) (by kernel_rfl) (by kernel_rfl) (by kernel_rfl) (fun fs h => by cases h; kernel_rfl) (eq_ok (fs := (Tryz.prog.fieldsOf 35)) rfl (by kernel_rfl) (by kernel_rfl) (by kernel_rfl) (by kernel_rfl)),
  TOk.of Tryz.t37 (.agg #[.int .i64 0, .int .i64 0, .int .i64 0]) (by kernel_rfl) (by kernel_rfl) (by kernel_rfl) (by kernel_rfl) (by kernel_rfl) (by kernel_rfl) (fun fs h => by cases h; kernel_rfl) (eq_ok (fs := (Tryz.prog.fieldsOf 37)) rfl (by kernel_rfl) (by kernel_rfl) (by kernel_rfl) (by kernel_rfl)),
  TOk.of Tryz.t46 (.agg #[.int .i64 0, .string ⟨#[]⟩, .string ⟨#[]⟩, .bool false, .int .i64 0, .int .i64 0]) (by kernel_rfl) (by kernel_rfl) (by kernel_rfl) (by kernel_rfl) (by kernel_rfl) (by kernel_rfl) (fun fs h => by cases h; kernel_rfl) (eq_ok (fs := (Tryz.prog.fieldsOf 46)) rfl (by kernel_rfl) (by kernel_rfl) (by kernel_rfl) (by kernel_rfl)),
  TOk.of Tryz.t47 (.slice none 0 0) (by kernel_rfl) (by kernel_rfl) (by kernel_rfl) (by kernel_rfl) (by kernel_rfl) (by kernel_rfl) (fun fs h => nomatch h) (fun h => nomatch h),
  TOk.of Tryz.t55 (.agg #[.int .i64 0, .int .i64 0]) (by kernel_rfl) (by kernel_rfl) (by kernel_rfl) (by kernel_rfl) (by kernel_rfl) (by kernel_rfl) (fun fs h => by cases h; kernel_rfl) (fun h => nomatch h),
  TOk.of Tryz.t59 (.slice none 0 0) (by kernel_rfl) (by kernel_rfl) (by kernel_rfl) (by kernel_rfl) (by kernel_rfl) (by kernel_rfl) (fun fs h => nomatch h) (fun h => nomatch h),
  TOk.of Tryz.t63 (.agg #[.int .i64 0, .string ⟨#[]⟩, .int .i64 0, .int .i64 0]) (by kernel_rfl) (by kernel_rfl) (by kernel_rfl) (by kernel_rfl) (by kernel_rfl) (by kernel_rfl) (fun fs h => by cases h; kernel_rfl) (fun h => nomatch h),
  TOk.of Tryz.t72 (.pointer none) (by kernel_rfl) (by kernel_rfl) (by kernel_rfl) (by kernel_rfl) (by kernel_rfl) (by kernel_rfl) (fun fs h => nomatch h) (fun h => nomatch h),
  TOk.of Tryz.t74 (.agg #[.slice none 0 0, .int .i64 0, .int .i64 0]) (by kernel_rfl) (by kernel_rfl) (by kernel_rfl) (by kernel_rfl) (by kernel_rfl) (by kernel_rfl) (fun fs h => by cases h; kernel_rfl) (fun h => nomatch h),
  TOk.of Tryz.t88 (.agg #[.slice none 0 0, .slice none 0 0, .bool false]) (by kernel_rfl) (by kernel_rfl) (by kernel_rfl) (by kernel_rfl) (by kernel_rfl) (by kernel_rfl) (fun fs h => by cases h; kernel_rfl) (fun h => nomatch h),
  TOk.of Tryz.t89 (.nilFunc) (by kernel_rfl) (by kernel_rfl) (by kernel_rfl) (by kernel_rfl) (by kernel_rfl) (by kernel_rfl) (fun fs h => nomatch h) (fun h => nomatch h),
  TOk.of Tryz.t93 (.agg #[.string ⟨#[]⟩, .string ⟨#[]⟩, .string ⟨#[]⟩, .string ⟨#[]⟩, .string ⟨#[]⟩, .string ⟨#[]⟩, .string ⟨#[]⟩]) (by kernel_rfl) (by kernel_rfl) (by kernel_rfl) (by kernel_rfl) (by kernel_rfl) (by kernel_rfl) (fun fs h => nomatch h) (fun h => nomatch h),
  TOk.of Tryz.t94 (.pointer none) (by kernel_rfl) (by kernel_rfl) (by kernel_rfl) (by kernel_rfl) (by kernel_rfl) (by kernel_rfl) (fun fs h => nomatch h) (fun h => nomatch h),
  TOk.of Tryz.t95 (.slice none 0 0) (by kernel_rfl) (by kernel_rfl) (by kernel_rfl) (by kernel_rfl) (by kernel_rfl) (by kernel_rfl) (fun fs h => nomatch h) (fun h => nomatch h),
  TOk.of Tryz.t97 (.agg #[.pointer none, .slice none 0 0]) (by kernel_rfl) (by kernel_rfl) (by kernel_rfl) (by kernel_rfl) (by kernel_rfl) (by kernel_rfl) (fun fs h => by cases h; kernel_rfl) (fun h => nomatch h),
  TOk.of Tryz.t101 (.nilIface) (by kernel_rfl) (by kernel_rfl) (by kernel_rfl) (by kernel_rfl) (by kernel_rfl) (by kernel_rfl) (fun fs h => nomatch h) (fun h => nomatch h),
  TOk.of Tryz.t120 (.slice none 0 0) (by kernel_rfl) (by kernel_rfl) (by kernel_rfl) (by kernel_rfl) (by kernel_rfl) (by kernel_rfl) (fun fs h => nomatch h) (fun h => nomatch h),
  TOk.of Tryz.t124 (.agg #[.int .i64 0, .int .i64 0]) (by kernel_rfl) (by kernel_rfl) (by kernel_rfl) (by kernel_rfl) (by kernel_rfl) (by kernel_rfl) (fun fs h => by cases h; kernel_rfl) (fun h => nomatch h),
  TOk.of Tryz.t134 (.pointer none) (by kernel_rfl) (by kernel_rfl) (by kernel_rfl) (by kernel_rfl) (by kernel_rfl) (by kernel_rfl) (fun fs h => nomatch h) (fun h => nomatch h),
  TOk.of Tryz.t151 (.slice none 0 0) (by kernel_rfl) (by kernel_rfl) (by kernel_rfl) (by kernel_rfl) (by kernel_rfl) (by kernel_rfl) (fun fs h => nomatch h) (fun h => nomatch h),
  TOk.of Tryz.t163 (.slice none 0 0) (by kernel_rfl) (by kernel_rfl) (by kernel_rfl) (by kernel_rfl) (by kernel_rfl) (by kernel_rfl) (fun fs h => nomatch h) (fun h => nomatch h),
  TOk.of Tryz.t166 (.agg #[.int .i64 0, .bool false]) (by kernel_rfl) (by kernel_rfl) (by kernel_rfl) (by kernel_rfl) (by kernel_rfl) (by kernel_rfl) (fun fs h => by cases h; kernel_rfl) (fun h => nomatch h),
  TOk.of Tryz.t167 (.nilFunc) (by kernel_rfl) (by kernel_rfl) (by kernel_rfl) (by kernel_rfl) (by kernel_rfl) (by kernel_rfl) (fun fs h => nomatch h) (fun h => nomatch h),
  trivial⟩
theorem tok : TOK Tryz.prog T := tok_of tokAll
theorem mixed : Tryz.prog.follows .mixedOrders = true := by kernel_rfl
end
end Go.Proofs.YtejehchbflmofaaGreatDoor
end

section
/-
YtejehchbflmofaaGreatDoor: signalbench.limit.clocked, as one plain function, its equations, its contract. No condition.
-/
set_option maxRecDepth 100000
set_option linter.unusedVariables false
set_option maxHeartbeats 4000000
open Go Go.AM
namespace Go.Proofs.YtejehchbflmofaaGreatDoor
noncomputable section
def limit_clocked_D : FD := ⟨T, lookC [], [], (Tryz.f28.body.getD .skip), Tryz.f28.results.toList, ⟨[.row (.cons (.int .i64) (.cons .str (.cons .str (.cons .bool (.cons (.int .i64) (.int .i64))))))], []⟩, ⟨[.one .bool], []⟩, []⟩
def limit_clocked (x0 : TLimit) : (Option ((Bool × Unit) × Unit)) :=
  if (x0.1 == 4) = true then
    some ((true, ()), ())
  else
    if (x0.1 == 5) = true then
      some ((true, ()), ())
    else
      some ((x0.1 == 6, ()), ())
def fc28 : FC := ⟨⟨[.row (.cons (.int .i64) (.cons .str (.cons .str (.cons .bool (.cons (.int .i64) (.int .i64))))))], []⟩, ⟨[.one .bool], []⟩, fun x => limit_clocked x.1.1⟩
theorem con28 : Contract Tryz.prog 28 fc28 :=
  limit_clocked_D.contract tok (cok_of (l := []) trivial) mixed (fn' := Tryz.f28) (by kernel_rfl) (by kernel_rfl) rfl (by kernel_rfl) (fun x => (FD.fn_eq _ _).trans (by kernel_rfl))
end
end Go.Proofs.YtejehchbflmofaaGreatDoor
end

section
/-
YtejehchbflmofaaGreatDoor: signalbench.limit.form, as one plain function, its equations, its contract. No condition.
-/
set_option maxRecDepth 100000
set_option linter.unusedVariables false
set_option maxHeartbeats 4000000
open Go Go.AM
namespace Go.Proofs.YtejehchbflmofaaGreatDoor
noncomputable section
def limit_form_D : FD := ⟨T, lookC [(28, fc28)], [], (Tryz.f26.body.getD .skip), Tryz.f26.results.toList, ⟨[.row (.cons (.int .i64) (.cons .str (.cons .str (.cons .bool (.cons (.int .i64) (.int .i64))))))], []⟩, ⟨[.one (.int .i64)], []⟩, []⟩
def limit_form (x0 : TLimit) : (Option ((Int × Unit) × Unit)) :=
  if (decide (x0.1 < 1)) = true then
    some ((1, ()), ())
  else
    if (decide (x0.1 > 6)) = true then
      some ((1, ()), ())
    else
      if (decide (x0.2.2.2.2.1 < 0)) = true then
        some ((1, ()), ())
      else
        if (decide (x0.2.2.2.2.1 > x0.2.2.2.2.2)) = true then
          some ((1, ()), ())
        else
          if (decide (x0.2.2.2.2.2 > 1099511627776)) = true then
            some ((1, ()), ())
          else
            (limit_clocked x0).bind fun y1 =>
              if (!y1.1.1) = true then
                if (!(x0.2.2.1.toList == (strB []).toList)) = true then
                  some ((1, ()), ())
                else
                  if x0.2.2.2.1 = true then
                    some ((1, ()), ())
                  else
                    some ((0, ()), ())
              else
                some ((0, ()), ())
def fc26 : FC := ⟨⟨[.row (.cons (.int .i64) (.cons .str (.cons .str (.cons .bool (.cons (.int .i64) (.int .i64))))))], []⟩, ⟨[.one (.int .i64)], []⟩, fun x => limit_form x.1.1⟩
theorem con26 : Contract Tryz.prog 26 fc26 :=
  limit_form_D.contract tok (cok_of (l := [(28, fc28)]) ⟨con28, trivial⟩) mixed (fn' := Tryz.f26) (by kernel_rfl) (by kernel_rfl) rfl (by kernel_rfl) (fun x => (FD.fn_eq _ _).trans (by kernel_rfl))
end
end Go.Proofs.YtejehchbflmofaaGreatDoor
end

section
/-
YtejehchbflmofaaGreatDoor: slices.Index[[]string,string], as one plain function, its equations, its contract. No condition.
-/
set_option maxRecDepth 100000
set_option linter.unusedVariables false
set_option maxHeartbeats 4000000
open Go Go.AM
namespace Go.Proofs.YtejehchbflmofaaGreatDoor
noncomputable section
def slices_Index_string_string_F3 : FSh := ⟨[(0, .one (.sl .str)), (1, .one .str), (7, .one (.int .i64)), (8, .one (.int .i64))], []⟩
def slices_Index_string_string_D : FD := ⟨T, lookC [], [], (Tryz.f88.body.getD .skip), Tryz.f88.results.toList, ⟨[.one (.sl .str), .one .str], []⟩, ⟨[.one (.int .i64)], []⟩, [(3, slices_Index_string_string_F3)]⟩
def slices_Index_string_string_l3 (s : (List ByteArray)) (v : ByteArray) (t7 : Int) (t8 : Int) : (Option ((Int × Unit) × Unit)) := slices_Index_string_string_D.lab 3 slices_Index_string_string_F3 ((s, v, t7, t8, ()), ())
theorem slices_Index_string_string_l3_eq (s : (List ByteArray)) (v : ByteArray) (t7 : Int) (t8 : Int) : slices_Index_string_string_l3 s v t7 t8 =
  if (decide (t8 < t7)) = true then
    if 0 ≤ t8 ∧ t8 < (s.length : Int) then
      if (v.toList == (s.getD t8.toNat (strB [])).toList) = true then
        some ((t8, ()), ())
      else
        slices_Index_string_string_l3 s v t7 (IntKind.i64.wrap (t8 + 1))
    else
      none
  else
    some (((-1), ()), ()) := (FD.lab_eq _ _ _ _).trans (by kernel_rfl)
def slices_Index_string_string (s : (List ByteArray)) (v : ByteArray) : (Option ((Int × Unit) × Unit)) :=
  slices_Index_string_string_l3 s v (s.length : Int) 0
def fc88 : FC := ⟨⟨[.one (.sl .str), .one .str], []⟩, ⟨[.one (.int .i64)], []⟩, fun x => slices_Index_string_string x.1.1 x.1.2.1⟩
theorem con88 : Contract Tryz.prog 88 fc88 :=
  slices_Index_string_string_D.contract tok (cok_of (l := []) trivial) mixed (fn' := Tryz.f88) (by kernel_rfl) (by kernel_rfl) rfl (by kernel_rfl) (fun x => (FD.fn_eq _ _).trans (by kernel_rfl))
end
end Go.Proofs.YtejehchbflmofaaGreatDoor
end

section
/-
YtejehchbflmofaaGreatDoor: slices.Contains[[]string,string], as one plain function, its equations, its contract. No condition.
-/
set_option maxRecDepth 100000
set_option linter.unusedVariables false
set_option maxHeartbeats 4000000
open Go Go.AM
namespace Go.Proofs.YtejehchbflmofaaGreatDoor
noncomputable section
def slices_Contains_string_string_D : FD := ⟨T, lookC [(88, fc88)], [], (Tryz.f118.body.getD .skip), Tryz.f118.results.toList, ⟨[.one (.sl .str), .one .str], []⟩, ⟨[.one .bool], []⟩, []⟩
def slices_Contains_string_string (s : (List ByteArray)) (v : ByteArray) : (Option ((Bool × Unit) × Unit)) :=
  (slices_Index_string_string s v).bind fun y1 =>
    some ((decide (y1.1.1 ≥ 0), ()), ())
def fc118 : FC := ⟨⟨[.one (.sl .str), .one .str], []⟩, ⟨[.one .bool], []⟩, fun x => slices_Contains_string_string x.1.1 x.1.2.1⟩
theorem con118 : Contract Tryz.prog 118 fc118 :=
  slices_Contains_string_string_D.contract tok (cok_of (l := [(88, fc88)]) ⟨con88, trivial⟩) mixed (fn' := Tryz.f118) (by kernel_rfl) (by kernel_rfl) rfl (by kernel_rfl) (fun x => (FD.fn_eq _ _).trans (by kernel_rfl))
end
end Go.Proofs.YtejehchbflmofaaGreatDoor
end

section
/-
YtejehchbflmofaaGreatDoor: signalbench.lex.letter, as one plain function, its equations, its contract. No condition.
-/
set_option maxRecDepth 100000
set_option linter.unusedVariables false
set_option maxHeartbeats 4000000
open Go Go.AM
namespace Go.Proofs.YtejehchbflmofaaGreatDoor
noncomputable section
def lex_letter_D : FD := ⟨T, lookC [], [], (Tryz.f58.body.getD .skip), Tryz.f58.results.toList, ⟨[.one (.int .i32)], []⟩, ⟨[.one .bool], []⟩, []⟩
def lex_letter (c : Int) : (Option ((Bool × Unit) × Unit)) :=
  if (decide ((97 : Int) ≤ c)) = true then
    some ((decide (c ≤ 122), ()), ())
  else
    some ((false, ()), ())
def fc58 : FC := ⟨⟨[.one (.int .i32)], []⟩, ⟨[.one .bool], []⟩, fun x => lex_letter x.1.1⟩
theorem con58 : Contract Tryz.prog 58 fc58 :=
  lex_letter_D.contract tok (cok_of (l := []) trivial) mixed (fn' := Tryz.f58) (by kernel_rfl) (by kernel_rfl) rfl (by kernel_rfl) (fun x => (FD.fn_eq _ _).trans (by kernel_rfl))
end
end Go.Proofs.YtejehchbflmofaaGreatDoor
end

section
/-
YtejehchbflmofaaGreatDoor: signalbench.lex.digit, as one plain function, its equations, its contract. No condition.
-/
set_option maxRecDepth 100000
set_option linter.unusedVariables false
set_option maxHeartbeats 4000000
open Go Go.AM
namespace Go.Proofs.YtejehchbflmofaaGreatDoor
noncomputable section
def lex_digit_D : FD := ⟨T, lookC [], [], (Tryz.f98.body.getD .skip), Tryz.f98.results.toList, ⟨[.one (.int .i32)], []⟩, ⟨[.one .bool], []⟩, []⟩
def lex_digit (c : Int) : (Option ((Bool × Unit) × Unit)) :=
  if (decide ((48 : Int) ≤ c)) = true then
    some ((decide (c ≤ 57), ()), ())
  else
    some ((false, ()), ())
def fc98 : FC := ⟨⟨[.one (.int .i32)], []⟩, ⟨[.one .bool], []⟩, fun x => lex_digit x.1.1⟩
theorem con98 : Contract Tryz.prog 98 fc98 :=
  lex_digit_D.contract tok (cok_of (l := []) trivial) mixed (fn' := Tryz.f98) (by kernel_rfl) (by kernel_rfl) rfl (by kernel_rfl) (fun x => (FD.fn_eq _ _).trans (by kernel_rfl))
end
end Go.Proofs.YtejehchbflmofaaGreatDoor
end

section
/-
YtejehchbflmofaaGreatDoor: signalbench.lex.word, as one plain function, its equations, its contract. No condition.
-/
set_option maxRecDepth 100000
set_option linter.unusedVariables false
set_option maxHeartbeats 4000000
open Go Go.AM
namespace Go.Proofs.YtejehchbflmofaaGreatDoor
noncomputable section
def lex_word_D : FD := ⟨T, lookC [(58, fc58), (98, fc98)], [], (Tryz.f59.body.getD .skip), Tryz.f59.results.toList, ⟨[.one (.int .i32)], []⟩, ⟨[.one .bool], []⟩, []⟩
def lex_word (c : Int) : (Option ((Bool × Unit) × Unit)) :=
  (lex_letter c).bind fun y1 =>
    if y1.1.1 = true then
      some ((true, ()), ())
    else
      (lex_digit c).bind fun y2 =>
        if y2.1.1 = true then
          some ((true, ()), ())
        else
          some ((c == 95, ()), ())
def fc59 : FC := ⟨⟨[.one (.int .i32)], []⟩, ⟨[.one .bool], []⟩, fun x => lex_word x.1.1⟩
theorem con59 : Contract Tryz.prog 59 fc59 :=
  lex_word_D.contract tok (cok_of (l := [(58, fc58), (98, fc98)]) ⟨con58, con98, trivial⟩) mixed (fn' := Tryz.f59) (by kernel_rfl) (by kernel_rfl) rfl (by kernel_rfl) (fun x => (FD.fn_eq _ _).trans (by kernel_rfl))
end
end Go.Proofs.YtejehchbflmofaaGreatDoor
end

section
/-
YtejehchbflmofaaGreatDoor: signalbench.lex.Name, as one plain function, its equations, its contract. No condition.
-/
set_option maxRecDepth 100000
set_option linter.unusedVariables false
set_option maxHeartbeats 4000000
open Go Go.AM
namespace Go.Proofs.YtejehchbflmofaaGreatDoor
noncomputable section
def lex_Name_F6 : FSh := ⟨[(0, .one .str), (19, .one (.int .i64)), (20, .one (.int .i64))], []⟩
def lex_Name_D : FD := ⟨T, lookC [(58, fc58), (59, fc59)], [], (Tryz.f27.body.getD .skip), Tryz.f27.results.toList, ⟨[.one .str], []⟩, ⟨[.one .bool], []⟩, [(6, lex_Name_F6)]⟩
def lex_Name_l6 (s : ByteArray) (t19 : Int) (t20 : Int) : (Option ((Bool × Unit) × Unit)) := lex_Name_D.lab 6 lex_Name_F6 ((s, t19, t20, ()), ())
theorem lex_Name_l6_eq (s : ByteArray) (t19 : Int) (t20 : Int) : lex_Name_l6 s t19 t20 =
  if (decide (t20 < t19)) = true then
    if 0 ≤ t20 ∧ t20 < (s.size : Int) then
      (lex_word (IntKind.i32.wrap (bt s t20))).bind fun y1 =>
        if (!y1.1.1) = true then
          some ((false, ()), ())
        else
          lex_Name_l6 s t19 (IntKind.i64.wrap (t20 + 1))
    else
      none
  else
    some ((true, ()), ()) := (FD.lab_eq _ _ _ _).trans (by kernel_rfl)
def lex_Name (s : ByteArray) : (Option ((Bool × Unit) × Unit)) :=
  if (s.toList == (strB []).toList) = true then
    some ((false, ()), ())
  else
    if (decide ((s.size : Int) > 16)) = true then
      some ((false, ()), ())
    else
      if 0 ≤ (0 : Int) ∧ 0 < (s.size : Int) then
        (lex_letter (IntKind.i32.wrap (bt s 0))).bind fun y1 =>
          if (!y1.1.1) = true then
            some ((false, ()), ())
          else
            lex_Name_l6 s (s.size : Int) 0
      else
        none
def fc27 : FC := ⟨⟨[.one .str], []⟩, ⟨[.one .bool], []⟩, fun x => lex_Name x.1.1⟩
theorem con27 : Contract Tryz.prog 27 fc27 :=
  lex_Name_D.contract tok (cok_of (l := [(58, fc58), (59, fc59)]) ⟨con58, con59, trivial⟩) mixed (fn' := Tryz.f27) (by kernel_rfl) (by kernel_rfl) rfl (by kernel_rfl) (fun x => (FD.fn_eq _ _).trans (by kernel_rfl))
end
end Go.Proofs.YtejehchbflmofaaGreatDoor
end

section
/-
YtejehchbflmofaaGreatDoor: signalbench.capture.checkNames, as one plain function, its equations, its contract. No condition.
-/
set_option maxRecDepth 100000
set_option linter.unusedVariables false
set_option maxHeartbeats 4000000
open Go Go.AM
namespace Go.Proofs.YtejehchbflmofaaGreatDoor
noncomputable section
def capture_checkNames_F6 : FSh := ⟨[(0, .one (.sl .str)), (10, .one (.sl .str)), (11, .one (.int .i64)), (12, .one (.int .i64))], []⟩
def capture_checkNames_F15 : FSh := ⟨[(0, .one (.sl .str)), (20, .one (.sl .str)), (21, .one (.int .i64)), (22, .one (.int .i64))], []⟩
def capture_checkNames_D : FD := ⟨T, lookC [(27, fc27), (118, fc118)], [], (Tryz.f87.body.getD .skip), Tryz.f87.results.toList, ⟨[.one (.sl .str)], []⟩, ⟨[.one (.int .i64)], []⟩, [(6, capture_checkNames_F6), (15, capture_checkNames_F15)]⟩
def capture_checkNames_l6 (names : (List ByteArray)) (t10 : (List ByteArray)) (t11 : Int) (t12 : Int) : (Option ((Int × Unit) × Unit)) := capture_checkNames_D.lab 6 capture_checkNames_F6 ((names, t10, t11, t12, ()), ())
def capture_checkNames_l15 (names : (List ByteArray)) (t20 : (List ByteArray)) (t21 : Int) (t22 : Int) : (Option ((Int × Unit) × Unit)) := capture_checkNames_D.lab 15 capture_checkNames_F15 ((names, t20, t21, t22, ()), ())
theorem capture_checkNames_l6_eq (names : (List ByteArray)) (t10 : (List ByteArray)) (t11 : Int) (t12 : Int) : capture_checkNames_l6 names t10 t11 t12 =
  if (decide (t12 < t11)) = true then
    if 0 ≤ t12 ∧ t12 < (t10.length : Int) then
      (lex_Name (t10.getD t12.toNat (strB []))).bind fun y1 =>
        if (!y1.1.1) = true then
          some ((4, ()), ())
        else
          capture_checkNames_l6 names t10 t11 (IntKind.i64.wrap (t12 + 1))
    else
      none
  else
    capture_checkNames_l15 names names (names.length : Int) 0 := (FD.lab_eq _ _ _ _).trans (by kernel_rfl)
theorem capture_checkNames_l15_eq (names : (List ByteArray)) (t20 : (List ByteArray)) (t21 : Int) (t22 : Int) : capture_checkNames_l15 names t20 t21 t22 =
  if (decide (t22 < t21)) = true then
    if 0 ≤ t22 ∧ t22 < (t20.length : Int) then
      if 0 ≤ (0 : Int) ∧ (0 : Int) ≤ t22 ∧ t22 ≤ (names.length : Int) then
        (slices_Contains_string_string (names.take t22.toNat) (t20.getD t22.toNat (strB []))).bind fun y1 =>
          if y1.1.1 = true then
            some ((9, ()), ())
          else
            capture_checkNames_l15 names t20 t21 (IntKind.i64.wrap (t22 + 1))
      else
        none
    else
      none
  else
    some ((0, ()), ()) := (FD.lab_eq _ _ _ _).trans (by kernel_rfl)
def capture_checkNames (names : (List ByteArray)) : (Option ((Int × Unit) × Unit)) :=
  if ((names.length : Int) == 0) = true then
    some ((1, ()), ())
  else
    capture_checkNames_l6 names names (names.length : Int) 0
def fc87 : FC := ⟨⟨[.one (.sl .str)], []⟩, ⟨[.one (.int .i64)], []⟩, fun x => capture_checkNames x.1.1⟩
theorem con87 : Contract Tryz.prog 87 fc87 :=
  capture_checkNames_D.contract tok (cok_of (l := [(27, fc27), (118, fc118)]) ⟨con27, con118, trivial⟩) mixed (fn' := Tryz.f87) (by kernel_rfl) (by kernel_rfl) rfl (by kernel_rfl) (fun x => (FD.fn_eq _ _).trans (by kernel_rfl))
end
end Go.Proofs.YtejehchbflmofaaGreatDoor
end

section
/-
YtejehchbflmofaaGreatDoor: signalbench.capture.Check, as one plain function, its equations, its contract. No condition.
-/
set_option maxRecDepth 100000
set_option linter.unusedVariables false
set_option maxHeartbeats 4000000
open Go Go.AM
namespace Go.Proofs.YtejehchbflmofaaGreatDoor
noncomputable section
def capture_Check_F11 : FSh := ⟨[(4, .one (.int .i64)), (5, .one (.int .i64)), (30, .one (.sl (.cons (.int .i64) (.int .i64)))), (31, .one (.int .i64)), (32, .one (.int .i64))], []⟩
def capture_Check_D : FD := ⟨T, lookC [(87, fc87)], [], (Tryz.f51.body.getD .skip), Tryz.f51.results.toList, ⟨[.row (.cons (.sl .str) (.sl (.cons (.int .i64) (.int .i64))))], []⟩, ⟨[.one (.int .i64)], []⟩, [(11, capture_Check_F11)]⟩
def capture_Check_l11 (mask : Int) (left : Int) (t30 : (List TGap)) (t31 : Int) (t32 : Int) : (Option ((Int × Unit) × Unit)) := capture_Check_D.lab 11 capture_Check_F11 ((mask, left, t30, t31, t32, ()), ())
theorem capture_Check_l11_eq (mask : Int) (left : Int) (t30 : (List TGap)) (t31 : Int) (t32 : Int) : capture_Check_l11 mask left t30 t31 t32 =
  if (decide (t32 < t31)) = true then
    if 0 ≤ t32 ∧ t32 < (t30.length : Int) then
      if (decide ((t30.getD t32.toNat dGap).1 < 0)) = true then
        some ((2, ()), ())
      else
        if (decide ((t30.getD t32.toNat dGap).1 > mask)) = true then
          some ((2, ()), ())
        else
          if (decide ((t30.getD t32.toNat dGap).2 < 1)) = true then
            some ((2, ()), ())
          else
            if (decide ((t30.getD t32.toNat dGap).2 > left)) = true then
              some ((2, ()), ())
            else
              capture_Check_l11 mask (IntKind.i64.wrap (left - (t30.getD t32.toNat dGap).2)) t30 t31 (IntKind.i64.wrap (t32 + 1))
    else
      none
  else
    some ((0, ()), ()) := (FD.lab_eq _ _ _ _).trans (by kernel_rfl)
def capture_Check (c : TCapture) : (Option ((Int × Unit) × Unit)) :=
  if (decide ((c.1.length : Int) > 16)) = true then
    some ((6, ()), ())
  else
    if (decide ((c.2.length : Int) > 262144)) = true then
      some ((6, ()), ())
    else
      (capture_checkNames c.1).bind fun y1 =>
        if (y1.1.1 != 0) = true then
          some ((y1.1.1, ()), ())
        else
          if 0 ≤ (c.1.length : Int) then
            capture_Check_l11 (IntKind.i64.wrap ((IntKind.i64.wrap (1 * 2 ^ (min (c.1.length : Int).toNat 64))) - 1)) 1099511627776 c.2 (c.2.length : Int) 0
          else
            none
def fc51 : FC := ⟨⟨[.row (.cons (.sl .str) (.sl (.cons (.int .i64) (.int .i64))))], []⟩, ⟨[.one (.int .i64)], []⟩, fun x => capture_Check x.1.1⟩
theorem con51 : Contract Tryz.prog 51 fc51 :=
  capture_Check_D.contract tok (cok_of (l := [(87, fc87)]) ⟨con87, trivial⟩) mixed (fn' := Tryz.f51) (by kernel_rfl) (by kernel_rfl) rfl (by kernel_rfl) (fun x => (FD.fn_eq _ _).trans (by kernel_rfl))
end
end Go.Proofs.YtejehchbflmofaaGreatDoor
end

section
/-
YtejehchbflmofaaGreatDoor: signalbench.limit.has, as one plain function, its equations, its contract. No condition.
-/
set_option maxRecDepth 100000
set_option linter.unusedVariables false
set_option maxHeartbeats 4000000
open Go Go.AM
namespace Go.Proofs.YtejehchbflmofaaGreatDoor
noncomputable section
def limit_has_F3 : FSh := ⟨[(1, .one .str), (8, .one (.sl .str)), (9, .one (.int .i64)), (10, .one (.int .i64))], []⟩
def limit_has_D : FD := ⟨T, lookC [], [], (Tryz.f52.body.getD .skip), Tryz.f52.results.toList, ⟨[.row (.cons (.sl .str) (.sl (.cons (.int .i64) (.int .i64)))), .one .str], []⟩, ⟨[.one .bool], []⟩, [(3, limit_has_F3)]⟩
def limit_has_l3 (name : ByteArray) (t8 : (List ByteArray)) (t9 : Int) (t10 : Int) : (Option ((Bool × Unit) × Unit)) := limit_has_D.lab 3 limit_has_F3 ((name, t8, t9, t10, ()), ())
theorem limit_has_l3_eq (name : ByteArray) (t8 : (List ByteArray)) (t9 : Int) (t10 : Int) : limit_has_l3 name t8 t9 t10 =
  if (decide (t10 < t9)) = true then
    if 0 ≤ t10 ∧ t10 < (t8.length : Int) then
      if ((t8.getD t10.toNat (strB [])).toList == name.toList) = true then
        some ((true, ()), ())
      else
        limit_has_l3 name t8 t9 (IntKind.i64.wrap (t10 + 1))
    else
      none
  else
    some ((false, ()), ()) := (FD.lab_eq _ _ _ _).trans (by kernel_rfl)
def limit_has (c : TCapture) (name : ByteArray) : (Option ((Bool × Unit) × Unit)) :=
  limit_has_l3 name c.1 (c.1.length : Int) 0
def fc52 : FC := ⟨⟨[.row (.cons (.sl .str) (.sl (.cons (.int .i64) (.int .i64)))), .one .str], []⟩, ⟨[.one .bool], []⟩, fun x => limit_has x.1.1 x.1.2.1⟩
theorem con52 : Contract Tryz.prog 52 fc52 :=
  limit_has_D.contract tok (cok_of (l := []) trivial) mixed (fn' := Tryz.f52) (by kernel_rfl) (by kernel_rfl) rfl (by kernel_rfl) (fun x => (FD.fn_eq _ _).trans (by kernel_rfl))
end
end Go.Proofs.YtejehchbflmofaaGreatDoor
end

section
/-
YtejehchbflmofaaGreatDoor: signalbench.limit.Check, as one plain function, its equations, its contract. No condition.
-/
set_option maxRecDepth 100000
set_option linter.unusedVariables false
set_option maxHeartbeats 4000000
open Go Go.AM
namespace Go.Proofs.YtejehchbflmofaaGreatDoor
noncomputable section
def limit_Check_F10 : FSh := ⟨[(2, .one (.ptr 0 0)), (18, .one (.sl (.cons (.int .i64) (.cons .str (.cons .str (.cons .bool (.cons (.int .i64) (.int .i64)))))))), (19, .one (.int .i64)), (20, .one (.int .i64))], [.boxr 25 (.cons (.sl .str) (.sl (.cons (.int .i64) (.int .i64))))]⟩
def limit_Check_D : FD := ⟨T, lookC [(26, fc26), (28, fc28), (51, fc51), (52, fc52)], [], (Tryz.f23.body.getD .skip), Tryz.f23.results.toList, ⟨[.row (.cons (.sl .str) (.sl (.cons (.int .i64) (.int .i64)))), .one (.sl (.cons (.int .i64) (.cons .str (.cons .str (.cons .bool (.cons (.int .i64) (.int .i64)))))))], []⟩, ⟨[.one (.int .i64), .one (.int .i64)], []⟩, [(10, limit_Check_F10)]⟩
def limit_Check_l10 (t18 : (List TLimit)) (t19 : Int) (t20 : Int) (h0 : TCapture) : (Option ((Int × Int × Unit) × Unit)) := limit_Check_D.lab 10 limit_Check_F10 (((), t18, t19, t20, ()), (h0, ()))
theorem limit_Check_l10_eq (t18 : (List TLimit)) (t19 : Int) (t20 : Int) (h0 : TCapture) : limit_Check_l10 t18 t19 t20 h0 =
  if (decide (t20 < t19)) = true then
    if 0 ≤ t20 ∧ t20 < (t18.length : Int) then
      (limit_form (t18.getD t20.toNat dLimit)).bind fun y1 =>
        if (y1.1.1 != 0) = true then
          some ((t20, y1.1.1, ()), ())
        else
          (limit_has h0 (t18.getD t20.toNat dLimit).2.1).bind fun y2 =>
            if (!y2.1.1) = true then
              some ((t20, 8, ()), ())
            else
              (limit_clocked (t18.getD t20.toNat dLimit)).bind fun y3 =>
                if y3.1.1 = true then
                  (limit_has h0 (t18.getD t20.toNat dLimit).2.2.1).bind fun y4 =>
                    if (!y4.1.1) = true then
                      some ((t20, 8, ()), ())
                    else
                      limit_Check_l10 t18 t19 (IntKind.i64.wrap (t20 + 1)) h0
                else
                  limit_Check_l10 t18 t19 (IntKind.i64.wrap (t20 + 1)) h0
    else
      none
  else
    some (((-1), 0, ()), ()) := (FD.lab_eq _ _ _ _).trans (by kernel_rfl)
def limit_Check (c : TCapture) (l : (List TLimit)) : (Option ((Int × Int × Unit) × Unit)) :=
  (capture_Check c).bind fun y1 =>
    if (y1.1.1 != 0) = true then
      some (((-1), y1.1.1, ()), ())
    else
      if (decide ((l.length : Int) > 64)) = true then
        some (((-1), 6, ()), ())
      else
        limit_Check_l10 l (l.length : Int) 0 c
def fc23 : FC := ⟨⟨[.row (.cons (.sl .str) (.sl (.cons (.int .i64) (.int .i64)))), .one (.sl (.cons (.int .i64) (.cons .str (.cons .str (.cons .bool (.cons (.int .i64) (.int .i64)))))))], []⟩, ⟨[.one (.int .i64), .one (.int .i64)], []⟩, fun x => limit_Check x.1.1 x.1.2.1⟩
theorem con23 : Contract Tryz.prog 23 fc23 :=
  limit_Check_D.contract tok (cok_of (l := [(26, fc26), (28, fc28), (51, fc51), (52, fc52)]) ⟨con26, con28, con51, con52, trivial⟩) mixed (fn' := Tryz.f23) (by kernel_rfl) (by kernel_rfl) rfl (by kernel_rfl) (fun x => (FD.fn_eq _ _).trans (by kernel_rfl))
end
end Go.Proofs.YtejehchbflmofaaGreatDoor
end

section
/-
YtejehchbflmofaaGreatDoor: signalbench.capture.join, as one plain function, its equations, its contract. No condition.
-/
set_option maxRecDepth 100000
set_option linter.unusedVariables false
set_option maxHeartbeats 4000000
open Go Go.AM
namespace Go.Proofs.YtejehchbflmofaaGreatDoor
noncomputable section
def capture_join_D : FD := ⟨T, lookC [], [], (Tryz.f89.body.getD .skip), Tryz.f89.results.toList, ⟨[.one (.own 0), .one (.int .i64), .one (.int .i64)], [.arr 55 (.cons (.int .i64) (.int .i64)) true]⟩, ⟨[.one (.own 1)], [.dead, .arr 55 (.cons (.int .i64) (.int .i64)) true]⟩, []⟩
def capture_join (level : Int) (ticks : Int) (l0 : (List TGap)) : (Option ((Unit × Unit) × (Unit × (List TGap) × Unit))) :=
  if (decide ((l0.length : Int) > 0)) = true then
    if 0 ≤ IntKind.i64.wrap ((l0.length : Int) - 1) ∧ IntKind.i64.wrap ((l0.length : Int) - 1) < (l0.length : Int) then
      if ((l0.getD (IntKind.i64.wrap ((l0.length : Int) - 1)).toNat dGap).1 == level) = true then
        if 0 ≤ IntKind.i64.wrap ((l0.length : Int) - 1) ∧ IntKind.i64.wrap ((l0.length : Int) - 1) < (l0.length : Int) then
          if 0 ≤ IntKind.i64.wrap ((l0.length : Int) - 1) ∧ IntKind.i64.wrap ((l0.length : Int) - 1) < (l0.length : Int) then
            some (((), ()), ((), l0.set (IntKind.i64.wrap ((l0.length : Int) - 1)).toNat ((l0.getD (IntKind.i64.wrap ((l0.length : Int) - 1)).toNat dGap).1, IntKind.i64.wrap ((l0.getD (IntKind.i64.wrap ((l0.length : Int) - 1)).toNat dGap).2 + ticks)), ()))
          else
            none
        else
          none
      else
        if (l0.length + 1) * 16 ≤ 140737488355328 ∧ 0 < 16 then
          some (((), ()), ((), l0 ++ [(level, ticks)], ()))
        else
          none
    else
      none
  else
    if (l0.length + 1) * 16 ≤ 140737488355328 ∧ 0 < 16 then
      some (((), ()), ((), l0 ++ [(level, ticks)], ()))
    else
      none
def fc89 : FC := ⟨⟨[.one (.own 0), .one (.int .i64), .one (.int .i64)], [.arr 55 (.cons (.int .i64) (.int .i64)) true]⟩, ⟨[.one (.own 1)], [.dead, .arr 55 (.cons (.int .i64) (.int .i64)) true]⟩, fun x => capture_join x.1.2.1 x.1.2.2.1 x.2.1⟩
theorem con89 : Contract Tryz.prog 89 fc89 :=
  capture_join_D.contract tok (cok_of (l := []) trivial) mixed (fn' := Tryz.f89) (by kernel_rfl) (by kernel_rfl) rfl (by kernel_rfl) (fun x => (FD.fn_eq _ _).trans (by kernel_rfl))
end
end Go.Proofs.YtejehchbflmofaaGreatDoor
end

section
/-
YtejehchbflmofaaGreatDoor: signalbench.capture.Channel, as one plain function, its equations, its contract. No condition.
-/
set_option maxRecDepth 100000
set_option linter.unusedVariables false
set_option maxHeartbeats 4000000
open Go Go.AM
namespace Go.Proofs.YtejehchbflmofaaGreatDoor
noncomputable section
def capture_Channel_F12 : FSh := ⟨[(7, .one (.int .i64)), (8, .one (.own 0)), (23, .one (.sl (.cons (.int .i64) (.int .i64)))), (24, .one (.int .i64)), (25, .one (.int .i64))], [.arr 55 (.cons (.int .i64) (.int .i64)) true]⟩
def capture_Channel_D : FD := ⟨T, lookC [(51, fc51), (88, fc88), (89, fc89)], [], (Tryz.f53.body.getD .skip), Tryz.f53.results.toList, ⟨[.row (.cons (.sl .str) (.sl (.cons (.int .i64) (.int .i64)))), .one .str], []⟩, ⟨[.one (.sl (.cons (.int .i64) (.int .i64))), .one (.int .i64)], []⟩, [(12, capture_Channel_F12)]⟩
def capture_Channel_l12 (k0 : Int) (t23 : (List TGap)) (t24 : Int) (t25 : Int) (l0 : (List TGap)) : (Option (((List TGap) × Int × Unit) × Unit)) := capture_Channel_D.lab 12 capture_Channel_F12 ((k0, (), t23, t24, t25, ()), (l0, ()))
theorem capture_Channel_l12_eq (k0 : Int) (t23 : (List TGap)) (t24 : Int) (t25 : Int) (l0 : (List TGap)) : capture_Channel_l12 k0 t23 t24 t25 l0 =
  if (decide (t25 < t24)) = true then
    if 0 ≤ t25 ∧ t25 < (t23.length : Int) then
      if 0 ≤ k0 then
        (capture_join (IntKind.i64.wrap (BitVec.ofInt 64 ((t23.getD t25.toNat dGap).1.fdiv (2 ^ (min k0.toNat 64))) &&& BitVec.ofInt 64 1).toNat) (t23.getD t25.toNat dGap).2 l0).bind fun y1 =>
          capture_Channel_l12 k0 t23 t24 (IntKind.i64.wrap (t25 + 1)) y1.2.2.1
      else
        none
    else
      none
  else
    some ((l0, 0, ()), ()) := (FD.lab_eq _ _ _ _).trans (by kernel_rfl)
def capture_Channel (c : TCapture) (name : ByteArray) : (Option (((List TGap) × Int × Unit) × Unit)) :=
  (capture_Check c).bind fun y1 =>
    if (y1.1.1 != 0) = true then
      some (([], y1.1.1, ()), ())
    else
      (slices_Index_string_string c.1 name).bind fun y2 =>
        if (decide (y2.1.1 < 0)) = true then
          some (([], 8, ()), ())
        else
          capture_Channel_l12 y2.1.1 c.2 (c.2.length : Int) 0 []
def fc53 : FC := ⟨⟨[.row (.cons (.sl .str) (.sl (.cons (.int .i64) (.int .i64)))), .one .str], []⟩, ⟨[.one (.sl (.cons (.int .i64) (.int .i64))), .one (.int .i64)], []⟩, fun x => capture_Channel x.1.1 x.1.2.1⟩
theorem con53 : Contract Tryz.prog 53 fc53 :=
  capture_Channel_D.contract tok (cok_of (l := [(51, fc51), (88, fc88), (89, fc89)]) ⟨con51, con88, con89, trivial⟩) mixed (fn' := Tryz.f53) (by kernel_rfl) (by kernel_rfl) rfl (by kernel_rfl) (fun x => (FD.fn_eq _ _).trans (by kernel_rfl))
end
end Go.Proofs.YtejehchbflmofaaGreatDoor
end

section
/-
YtejehchbflmofaaGreatDoor: signalbench.wave.Valid, as one plain function, its equations, its contract. No condition.
-/
set_option maxRecDepth 100000
set_option linter.unusedVariables false
set_option maxHeartbeats 4000000
open Go Go.AM
namespace Go.Proofs.YtejehchbflmofaaGreatDoor
noncomputable section
def wave_Valid_F7 : FSh := ⟨[(3, .one (.int .i64)), (9, .one (.sl (.cons (.int .i64) (.int .i64)))), (10, .one (.int .i64)), (11, .one (.int .i64))], []⟩
def wave_Valid_D : FD := ⟨T, lookC [], [], (Tryz.f145.body.getD .skip), Tryz.f145.results.toList, ⟨[.one (.sl (.cons (.int .i64) (.int .i64)))], []⟩, ⟨[.one .bool], []⟩, [(7, wave_Valid_F7)]⟩
def wave_Valid_l7 (left : Int) (t9 : (List TGap)) (t10 : Int) (t11 : Int) : (Option ((Bool × Unit) × Unit)) := wave_Valid_D.lab 7 wave_Valid_F7 ((left, t9, t10, t11, ()), ())
theorem wave_Valid_l7_eq (left : Int) (t9 : (List TGap)) (t10 : Int) (t11 : Int) : wave_Valid_l7 left t9 t10 t11 =
  if (decide (t11 < t10)) = true then
    if 0 ≤ t11 ∧ t11 < (t9.length : Int) then
      if ((IntKind.i64.wrap (BitVec.ofInt 64 (t9.getD t11.toNat dGap).1 &&& ~~~ BitVec.ofInt 64 1).toNat) != 0) = true then
        some ((false, ()), ())
      else
        if (decide ((t9.getD t11.toNat dGap).2 < 1)) = true then
          some ((false, ()), ())
        else
          if (decide ((t9.getD t11.toNat dGap).2 > left)) = true then
            some ((false, ()), ())
          else
            wave_Valid_l7 (IntKind.i64.wrap (left - (t9.getD t11.toNat dGap).2)) t9 t10 (IntKind.i64.wrap (t11 + 1))
    else
      none
  else
    some ((true, ()), ()) := (FD.lab_eq _ _ _ _).trans (by kernel_rfl)
def wave_Valid (l : (List TGap)) : (Option ((Bool × Unit) × Unit)) :=
  if (decide ((l.length : Int) > 262144)) = true then
    some ((false, ()), ())
  else
    wave_Valid_l7 1099511627776 l (l.length : Int) 0
def fc145 : FC := ⟨⟨[.one (.sl (.cons (.int .i64) (.int .i64)))], []⟩, ⟨[.one .bool], []⟩, fun x => wave_Valid x.1.1⟩
theorem con145 : Contract Tryz.prog 145 fc145 :=
  wave_Valid_D.contract tok (cok_of (l := []) trivial) mixed (fn' := Tryz.f145) (by kernel_rfl) (by kernel_rfl) rfl (by kernel_rfl) (fun x => (FD.fn_eq _ _).trans (by kernel_rfl))
end
end Go.Proofs.YtejehchbflmofaaGreatDoor
end

section
/-
YtejehchbflmofaaGreatDoor: signalbench.wave.joined, as one plain function, its equations, its contract. No condition.
-/
set_option maxRecDepth 100000
set_option linter.unusedVariables false
set_option maxHeartbeats 4000000
open Go Go.AM
namespace Go.Proofs.YtejehchbflmofaaGreatDoor
noncomputable section
def wave_joined_F4 : FSh := ⟨[(3, .one (.own 0)), (7, .one (.sl (.cons (.int .i64) (.int .i64)))), (8, .one (.int .i64)), (9, .one (.int .i64))], [.arr 55 (.cons (.int .i64) (.int .i64)) true]⟩
def wave_joined_D : FD := ⟨T, lookC [], [], (Tryz.f146.body.getD .skip), Tryz.f146.results.toList, ⟨[.one (.sl (.cons (.int .i64) (.int .i64)))], []⟩, ⟨[.one (.sl (.cons (.int .i64) (.int .i64)))], []⟩, [(4, wave_joined_F4)]⟩
def wave_joined_l4 (t7 : (List TGap)) (t8 : Int) (t9 : Int) (l0 : (List TGap)) : (Option (((List TGap) × Unit) × Unit)) := wave_joined_D.lab 4 wave_joined_F4 (((), t7, t8, t9, ()), (l0, ()))
theorem wave_joined_l4_eq (t7 : (List TGap)) (t8 : Int) (t9 : Int) (l0 : (List TGap)) : wave_joined_l4 t7 t8 t9 l0 =
  if (decide (t9 < t8)) = true then
    if 0 ≤ t9 ∧ t9 < (t7.length : Int) then
      if (decide ((l0.length : Int) > 0)) = true then
        if 0 ≤ IntKind.i64.wrap ((l0.length : Int) - 1) ∧ IntKind.i64.wrap ((l0.length : Int) - 1) < (l0.length : Int) then
          if ((l0.getD (IntKind.i64.wrap ((l0.length : Int) - 1)).toNat dGap).1 == (t7.getD t9.toNat dGap).1) = true then
            if 0 ≤ IntKind.i64.wrap ((l0.length : Int) - 1) ∧ IntKind.i64.wrap ((l0.length : Int) - 1) < (l0.length : Int) then
              if 0 ≤ IntKind.i64.wrap ((l0.length : Int) - 1) ∧ IntKind.i64.wrap ((l0.length : Int) - 1) < (l0.length : Int) then
                wave_joined_l4 t7 t8 (IntKind.i64.wrap (t9 + 1)) (l0.set (IntKind.i64.wrap ((l0.length : Int) - 1)).toNat ((l0.getD (IntKind.i64.wrap ((l0.length : Int) - 1)).toNat dGap).1, IntKind.i64.wrap ((l0.getD (IntKind.i64.wrap ((l0.length : Int) - 1)).toNat dGap).2 + (t7.getD t9.toNat dGap).2)))
              else
                none
            else
              none
          else
            if (l0.length + 1) * 16 ≤ 140737488355328 ∧ 0 < 16 then
              wave_joined_l4 t7 t8 (IntKind.i64.wrap (t9 + 1)) (l0 ++ [(t7.getD t9.toNat dGap)])
            else
              none
        else
          none
      else
        if (l0.length + 1) * 16 ≤ 140737488355328 ∧ 0 < 16 then
          wave_joined_l4 t7 t8 (IntKind.i64.wrap (t9 + 1)) (l0 ++ [(t7.getD t9.toNat dGap)])
        else
          none
    else
      none
  else
    some ((l0, ()), ()) := (FD.lab_eq _ _ _ _).trans (by kernel_rfl)
def wave_joined (l : (List TGap)) : (Option (((List TGap) × Unit) × Unit)) :=
  wave_joined_l4 l (l.length : Int) 0 []
def fc146 : FC := ⟨⟨[.one (.sl (.cons (.int .i64) (.int .i64)))], []⟩, ⟨[.one (.sl (.cons (.int .i64) (.int .i64)))], []⟩, fun x => wave_joined x.1.1⟩
theorem con146 : Contract Tryz.prog 146 fc146 :=
  wave_joined_D.contract tok (cok_of (l := []) trivial) mixed (fn' := Tryz.f146) (by kernel_rfl) (by kernel_rfl) rfl (by kernel_rfl) (fun x => (FD.fn_eq _ _).trans (by kernel_rfl))
end
end Go.Proofs.YtejehchbflmofaaGreatDoor
end

section
/-
YtejehchbflmofaaGreatDoor: signalbench.wave.Clean, as one plain function, its equations, its contract. No condition.
-/
set_option maxRecDepth 100000
set_option linter.unusedVariables false
set_option maxHeartbeats 4000000
open Go Go.AM
namespace Go.Proofs.YtejehchbflmofaaGreatDoor
noncomputable section
def wave_Clean_D : FD := ⟨T, lookC [(145, fc145), (146, fc146)], [], (Tryz.f135.body.getD .skip), Tryz.f135.results.toList, ⟨[.one (.sl (.cons (.int .i64) (.int .i64)))], []⟩, ⟨[.one (.sl (.cons (.int .i64) (.int .i64)))], []⟩, []⟩
def wave_Clean (l : (List TGap)) : (Option (((List TGap) × Unit) × Unit)) :=
  (wave_Valid l).bind fun y1 =>
    if (!y1.1.1) = true then
      some (([], ()), ())
    else
      (wave_joined l).bind fun y2 =>
        some ((y2.1.1, ()), ())
def fc135 : FC := ⟨⟨[.one (.sl (.cons (.int .i64) (.int .i64)))], []⟩, ⟨[.one (.sl (.cons (.int .i64) (.int .i64)))], []⟩, fun x => wave_Clean x.1.1⟩
theorem con135 : Contract Tryz.prog 135 fc135 :=
  wave_Clean_D.contract tok (cok_of (l := [(145, fc145), (146, fc146)]) ⟨con145, con146, trivial⟩) mixed (fn' := Tryz.f135) (by kernel_rfl) (by kernel_rfl) rfl (by kernel_rfl) (fun x => (FD.fn_eq _ _).trans (by kernel_rfl))
end
end Go.Proofs.YtejehchbflmofaaGreatDoor
end

section
/-
YtejehchbflmofaaGreatDoor: signalbench.measure.changes, as one plain function, its equations, its contract. No condition.
-/
set_option maxRecDepth 100000
set_option linter.unusedVariables false
set_option maxHeartbeats 4000000
open Go Go.AM
namespace Go.Proofs.YtejehchbflmofaaGreatDoor
noncomputable section
def measure_changes_F5 : FSh := ⟨[(3, .one (.own 0)), (4, .one (.int .i64)), (8, .one (.sl (.cons (.int .i64) (.int .i64)))), (9, .one (.int .i64)), (10, .one (.int .i64))], [.arr 166 (.cons (.int .i64) .bool) true]⟩
def measure_changes_D : FD := ⟨T, lookC [(135, fc135)], [], (Tryz.f144.body.getD .skip), Tryz.f144.results.toList, ⟨[.one (.sl (.cons (.int .i64) (.int .i64)))], []⟩, ⟨[.one (.sl (.cons (.int .i64) .bool))], []⟩, [(5, measure_changes_F5)]⟩
def measure_changes_l5 (at_ : Int) (t8 : (List TGap)) (t9 : Int) (t10 : Int) (l0 : (List Tchange)) : (Option (((List Tchange) × Unit) × Unit)) := measure_changes_D.lab 5 measure_changes_F5 (((), at_, t8, t9, t10, ()), (l0, ()))
theorem measure_changes_l5_eq (at_ : Int) (t8 : (List TGap)) (t9 : Int) (t10 : Int) (l0 : (List Tchange)) : measure_changes_l5 at_ t8 t9 t10 l0 =
  if (decide (t10 < t9)) = true then
    if 0 ≤ t10 ∧ t10 < (t8.length : Int) then
      if (decide (t10 > 0)) = true then
        if (l0.length + 1) * 16 ≤ 140737488355328 ∧ 0 < 16 then
          measure_changes_l5 (IntKind.i64.wrap (at_ + (t8.getD t10.toNat dGap).2)) t8 t9 (IntKind.i64.wrap (t10 + 1)) (l0 ++ [(at_, (t8.getD t10.toNat dGap).1 == 1)])
        else
          none
      else
        measure_changes_l5 (IntKind.i64.wrap (at_ + (t8.getD t10.toNat dGap).2)) t8 t9 (IntKind.i64.wrap (t10 + 1)) l0
    else
      none
  else
    some ((l0, ()), ()) := (FD.lab_eq _ _ _ _).trans (by kernel_rfl)
def measure_changes (l : (List TGap)) : (Option (((List Tchange) × Unit) × Unit)) :=
  (wave_Clean l).bind fun y1 =>
    measure_changes_l5 0 y1.1.1 (y1.1.1.length : Int) 0 []
def fc144 : FC := ⟨⟨[.one (.sl (.cons (.int .i64) (.int .i64)))], []⟩, ⟨[.one (.sl (.cons (.int .i64) .bool))], []⟩, fun x => measure_changes x.1.1⟩
theorem con144 : Contract Tryz.prog 144 fc144 :=
  measure_changes_D.contract tok (cok_of (l := [(135, fc135)]) ⟨con135, trivial⟩) mixed (fn' := Tryz.f144) (by kernel_rfl) (by kernel_rfl) rfl (by kernel_rfl) (fun x => (FD.fn_eq _ _).trans (by kernel_rfl))
end
end Go.Proofs.YtejehchbflmofaaGreatDoor
end

section
/-
YtejehchbflmofaaGreatDoor: signalbench.measure.rises, as one plain function, its equations, its contract. No condition.
-/
set_option maxRecDepth 100000
set_option linter.unusedVariables false
set_option maxHeartbeats 4000000
open Go Go.AM
namespace Go.Proofs.YtejehchbflmofaaGreatDoor
noncomputable section
def measure_rises_F4 : FSh := ⟨[(1, .one .bool), (5, .one (.own 0)), (9, .one (.sl (.cons (.int .i64) .bool))), (10, .one (.int .i64)), (11, .one (.int .i64))], [.arr 3 (.int .i64) true]⟩
def measure_rises_D : FD := ⟨T, lookC [(144, fc144)], [], (Tryz.f134.body.getD .skip), Tryz.f134.results.toList, ⟨[.one (.sl (.cons (.int .i64) (.int .i64))), .one .bool], []⟩, ⟨[.one (.sl (.int .i64))], []⟩, [(4, measure_rises_F4)]⟩
def measure_rises_l4 (rising : Bool) (t9 : (List Tchange)) (t10 : Int) (t11 : Int) (l0 : (List Int)) : (Option (((List Int) × Unit) × Unit)) := measure_rises_D.lab 4 measure_rises_F4 ((rising, (), t9, t10, t11, ()), (l0, ()))
theorem measure_rises_l4_eq (rising : Bool) (t9 : (List Tchange)) (t10 : Int) (t11 : Int) (l0 : (List Int)) : measure_rises_l4 rising t9 t10 t11 l0 =
  if (decide (t11 < t10)) = true then
    if 0 ≤ t11 ∧ t11 < (t9.length : Int) then
      if ((t9.getD t11.toNat dchange).2 == rising) = true then
        if (l0.length + 1) * 8 ≤ 140737488355328 ∧ 0 < 8 then
          measure_rises_l4 rising t9 t10 (IntKind.i64.wrap (t11 + 1)) (l0 ++ [(t9.getD t11.toNat dchange).1])
        else
          none
      else
        measure_rises_l4 rising t9 t10 (IntKind.i64.wrap (t11 + 1)) l0
    else
      none
  else
    some ((l0, ()), ()) := (FD.lab_eq _ _ _ _).trans (by kernel_rfl)
def measure_rises (l : (List TGap)) (rising : Bool) : (Option (((List Int) × Unit) × Unit)) :=
  (measure_changes l).bind fun y1 =>
    measure_rises_l4 rising y1.1.1 (y1.1.1.length : Int) 0 []
def fc134 : FC := ⟨⟨[.one (.sl (.cons (.int .i64) (.int .i64))), .one .bool], []⟩, ⟨[.one (.sl (.int .i64))], []⟩, fun x => measure_rises x.1.1 x.1.2.1⟩
theorem con134 : Contract Tryz.prog 134 fc134 :=
  measure_rises_D.contract tok (cok_of (l := [(144, fc144)]) ⟨con144, trivial⟩) mixed (fn' := Tryz.f134) (by kernel_rfl) (by kernel_rfl) rfl (by kernel_rfl) (fun x => (FD.fn_eq _ _).trans (by kernel_rfl))
end
end Go.Proofs.YtejehchbflmofaaGreatDoor
end

section
/-
YtejehchbflmofaaGreatDoor: signalbench.measure.Periods, as one plain function, its equations, its contract. No condition.
-/
set_option maxRecDepth 100000
set_option linter.unusedVariables false
set_option maxHeartbeats 4000000
open Go Go.AM
namespace Go.Proofs.YtejehchbflmofaaGreatDoor
noncomputable section
def measure_Periods_F5 : FSh := ⟨[(3, .one (.own 0)), (4, .one (.sl (.int .i64))), (5, .one (.int .i64))], [.arr 35 (.cons (.int .i64) (.int .i64)) true]⟩
def measure_Periods_D : FD := ⟨T, lookC [(134, fc134)], [], (Tryz.f119.body.getD .skip), Tryz.f119.results.toList, ⟨[.one (.sl (.cons (.int .i64) (.int .i64)))], []⟩, ⟨[.one (.sl (.cons (.int .i64) (.int .i64)))], []⟩, [(5, measure_Periods_F5)]⟩
def measure_Periods_l5 (r : (List Int)) (i : Int) (l0 : (List TGap)) : (Option (((List TGap) × Unit) × Unit)) := measure_Periods_D.lab 5 measure_Periods_F5 (((), r, i, ()), (l0, ()))
theorem measure_Periods_l5_eq (r : (List Int)) (i : Int) (l0 : (List TGap)) : measure_Periods_l5 r i l0 =
  if (decide (i < (r.length : Int))) = true then
    if 0 ≤ IntKind.i64.wrap (i - 1) ∧ IntKind.i64.wrap (i - 1) < (r.length : Int) then
      if 0 ≤ i ∧ i < (r.length : Int) then
        if 0 ≤ IntKind.i64.wrap (i - 1) ∧ IntKind.i64.wrap (i - 1) < (r.length : Int) then
          if (l0.length + 1) * 16 ≤ 140737488355328 ∧ 0 < 16 then
            measure_Periods_l5 r (IntKind.i64.wrap (i + 1)) (l0 ++ [(r.getD (IntKind.i64.wrap (i - 1)).toNat 0, IntKind.i64.wrap ((r.getD i.toNat 0) - (r.getD (IntKind.i64.wrap (i - 1)).toNat 0)))])
          else
            none
        else
          none
      else
        none
    else
      none
  else
    some ((l0, ()), ()) := (FD.lab_eq _ _ _ _).trans (by kernel_rfl)
def measure_Periods (l : (List TGap)) : (Option (((List TGap) × Unit) × Unit)) :=
  (measure_rises l true).bind fun y1 =>
    measure_Periods_l5 y1.1.1 1 []
def fc119 : FC := ⟨⟨[.one (.sl (.cons (.int .i64) (.int .i64)))], []⟩, ⟨[.one (.sl (.cons (.int .i64) (.int .i64)))], []⟩, fun x => measure_Periods x.1.1⟩
theorem con119 : Contract Tryz.prog 119 fc119 :=
  measure_Periods_D.contract tok (cok_of (l := [(134, fc134)]) ⟨con134, trivial⟩) mixed (fn' := Tryz.f119) (by kernel_rfl) (by kernel_rfl) rfl (by kernel_rfl) (fun x => (FD.fn_eq _ _).trans (by kernel_rfl))
end
end Go.Proofs.YtejehchbflmofaaGreatDoor
end

section
/-
YtejehchbflmofaaGreatDoor: (signalbench.limit.waves).period, as one plain function, its equations, its contract. No condition.
-/
set_option maxRecDepth 100000
set_option linter.unusedVariables false
set_option maxHeartbeats 4000000
open Go Go.AM
namespace Go.Proofs.YtejehchbflmofaaGreatDoor
noncomputable section
def limit_waves_period_D : FD := ⟨T, lookC [(119, fc119)], [], (Tryz.f90.body.getD .skip), Tryz.f90.results.toList, ⟨[.row (.cons (.sl (.cons (.int .i64) (.int .i64))) (.cons (.sl (.cons (.int .i64) (.int .i64))) .bool))], []⟩, ⟨[.one (.sl (.cons (.int .i64) (.int .i64)))], []⟩, []⟩
def limit_waves_period (w0 : Twaves) : (Option (((List TGap) × Unit) × Unit)) :=
  (measure_Periods w0.1).bind fun y1 =>
    some ((y1.1.1, ()), ())
def fc90 : FC := ⟨⟨[.row (.cons (.sl (.cons (.int .i64) (.int .i64))) (.cons (.sl (.cons (.int .i64) (.int .i64))) .bool))], []⟩, ⟨[.one (.sl (.cons (.int .i64) (.int .i64)))], []⟩, fun x => limit_waves_period x.1.1⟩
theorem con90 : Contract Tryz.prog 90 fc90 :=
  limit_waves_period_D.contract tok (cok_of (l := [(119, fc119)]) ⟨con119, trivial⟩) mixed (fn' := Tryz.f90) (by kernel_rfl) (by kernel_rfl) rfl (by kernel_rfl) (fun x => (FD.fn_eq _ _).trans (by kernel_rfl))
end
end Go.Proofs.YtejehchbflmofaaGreatDoor
end

section
/-
YtejehchbflmofaaGreatDoor: signalbench.measure.Pulses, as one plain function, its equations, its contract. No condition.
-/
set_option maxRecDepth 100000
set_option linter.unusedVariables false
set_option maxHeartbeats 4000000
open Go Go.AM
namespace Go.Proofs.YtejehchbflmofaaGreatDoor
noncomputable section
def measure_Pulses_F6 : FSh := ⟨[(1, .one (.int .i64)), (5, .one (.own 0)), (6, .one (.sl (.cons (.int .i64) (.int .i64)))), (7, .one (.int .i64)), (12, .one (.sl (.cons (.int .i64) (.int .i64)))), (13, .one (.int .i64)), (14, .one (.int .i64))], [.arr 35 (.cons (.int .i64) (.int .i64)) true]⟩
def measure_Pulses_D : FD := ⟨T, lookC [(135, fc135)], [], (Tryz.f120.body.getD .skip), Tryz.f120.results.toList, ⟨[.one (.sl (.cons (.int .i64) (.int .i64))), .one (.int .i64)], []⟩, ⟨[.one (.sl (.cons (.int .i64) (.int .i64)))], []⟩, [(6, measure_Pulses_F6)]⟩
def measure_Pulses_l6 (level : Int) (c : (List TGap)) (at_ : Int) (t12 : (List TGap)) (t13 : Int) (t14 : Int) (l0 : (List TGap)) : (Option (((List TGap) × Unit) × Unit)) := measure_Pulses_D.lab 6 measure_Pulses_F6 ((level, (), c, at_, t12, t13, t14, ()), (l0, ()))
theorem measure_Pulses_l6_eq (level : Int) (c : (List TGap)) (at_ : Int) (t12 : (List TGap)) (t13 : Int) (t14 : Int) (l0 : (List TGap)) : measure_Pulses_l6 level c at_ t12 t13 t14 l0 =
  if (decide (t14 < t13)) = true then
    if 0 ≤ t14 ∧ t14 < (t12.length : Int) then
      if (decide (t14 > 0)) = true then
        if (decide (t14 < (IntKind.i64.wrap ((c.length : Int) - 1)))) = true then
          if ((t12.getD t14.toNat dGap).1 == level) = true then
            if (l0.length + 1) * 16 ≤ 140737488355328 ∧ 0 < 16 then
              measure_Pulses_l6 level c (IntKind.i64.wrap (at_ + (t12.getD t14.toNat dGap).2)) t12 t13 (IntKind.i64.wrap (t14 + 1)) (l0 ++ [(at_, (t12.getD t14.toNat dGap).2)])
            else
              none
          else
            measure_Pulses_l6 level c (IntKind.i64.wrap (at_ + (t12.getD t14.toNat dGap).2)) t12 t13 (IntKind.i64.wrap (t14 + 1)) l0
        else
          measure_Pulses_l6 level c (IntKind.i64.wrap (at_ + (t12.getD t14.toNat dGap).2)) t12 t13 (IntKind.i64.wrap (t14 + 1)) l0
      else
        measure_Pulses_l6 level c (IntKind.i64.wrap (at_ + (t12.getD t14.toNat dGap).2)) t12 t13 (IntKind.i64.wrap (t14 + 1)) l0
    else
      none
  else
    some ((l0, ()), ()) := (FD.lab_eq _ _ _ _).trans (by kernel_rfl)
def measure_Pulses (l : (List TGap)) (level : Int) : (Option (((List TGap) × Unit) × Unit)) :=
  (wave_Clean l).bind fun y1 =>
    measure_Pulses_l6 level y1.1.1 0 y1.1.1 (y1.1.1.length : Int) 0 []
def fc120 : FC := ⟨⟨[.one (.sl (.cons (.int .i64) (.int .i64))), .one (.int .i64)], []⟩, ⟨[.one (.sl (.cons (.int .i64) (.int .i64)))], []⟩, fun x => measure_Pulses x.1.1 x.1.2.1⟩
theorem con120 : Contract Tryz.prog 120 fc120 :=
  measure_Pulses_D.contract tok (cok_of (l := [(135, fc135)]) ⟨con135, trivial⟩) mixed (fn' := Tryz.f120) (by kernel_rfl) (by kernel_rfl) rfl (by kernel_rfl) (fun x => (FD.fn_eq _ _).trans (by kernel_rfl))
end
end Go.Proofs.YtejehchbflmofaaGreatDoor
end

section
/-
YtejehchbflmofaaGreatDoor: (signalbench.limit.waves).high, as one plain function, its equations, its contract. No condition.
-/
set_option maxRecDepth 100000
set_option linter.unusedVariables false
set_option maxHeartbeats 4000000
open Go Go.AM
namespace Go.Proofs.YtejehchbflmofaaGreatDoor
noncomputable section
def limit_waves_high_D : FD := ⟨T, lookC [(120, fc120)], [], (Tryz.f91.body.getD .skip), Tryz.f91.results.toList, ⟨[.row (.cons (.sl (.cons (.int .i64) (.int .i64))) (.cons (.sl (.cons (.int .i64) (.int .i64))) .bool))], []⟩, ⟨[.one (.sl (.cons (.int .i64) (.int .i64)))], []⟩, []⟩
def limit_waves_high (w0 : Twaves) : (Option (((List TGap) × Unit) × Unit)) :=
  (measure_Pulses w0.1 1).bind fun y1 =>
    some ((y1.1.1, ()), ())
def fc91 : FC := ⟨⟨[.row (.cons (.sl (.cons (.int .i64) (.int .i64))) (.cons (.sl (.cons (.int .i64) (.int .i64))) .bool))], []⟩, ⟨[.one (.sl (.cons (.int .i64) (.int .i64)))], []⟩, fun x => limit_waves_high x.1.1⟩
theorem con91 : Contract Tryz.prog 91 fc91 :=
  limit_waves_high_D.contract tok (cok_of (l := [(120, fc120)]) ⟨con120, trivial⟩) mixed (fn' := Tryz.f91) (by kernel_rfl) (by kernel_rfl) rfl (by kernel_rfl) (fun x => (FD.fn_eq _ _).trans (by kernel_rfl))
end
end Go.Proofs.YtejehchbflmofaaGreatDoor
end

section
/-
YtejehchbflmofaaGreatDoor: (signalbench.limit.waves).low, as one plain function, its equations, its contract. No condition.
-/
set_option maxRecDepth 100000
set_option linter.unusedVariables false
set_option maxHeartbeats 4000000
open Go Go.AM
namespace Go.Proofs.YtejehchbflmofaaGreatDoor
noncomputable section
def limit_waves_low_D : FD := ⟨T, lookC [(120, fc120)], [], (Tryz.f92.body.getD .skip), Tryz.f92.results.toList, ⟨[.row (.cons (.sl (.cons (.int .i64) (.int .i64))) (.cons (.sl (.cons (.int .i64) (.int .i64))) .bool))], []⟩, ⟨[.one (.sl (.cons (.int .i64) (.int .i64)))], []⟩, []⟩
def limit_waves_low (w0 : Twaves) : (Option (((List TGap) × Unit) × Unit)) :=
  (measure_Pulses w0.1 0).bind fun y1 =>
    some ((y1.1.1, ()), ())
def fc92 : FC := ⟨⟨[.row (.cons (.sl (.cons (.int .i64) (.int .i64))) (.cons (.sl (.cons (.int .i64) (.int .i64))) .bool))], []⟩, ⟨[.one (.sl (.cons (.int .i64) (.int .i64)))], []⟩, fun x => limit_waves_low x.1.1⟩
theorem con92 : Contract Tryz.prog 92 fc92 :=
  limit_waves_low_D.contract tok (cok_of (l := [(120, fc120)]) ⟨con120, trivial⟩) mixed (fn' := Tryz.f92) (by kernel_rfl) (by kernel_rfl) rfl (by kernel_rfl) (fun x => (FD.fn_eq _ _).trans (by kernel_rfl))
end
end Go.Proofs.YtejehchbflmofaaGreatDoor
end

section
/-
YtejehchbflmofaaGreatDoor: signalbench.measure.both, as one plain function, its equations, its contract. No condition.
-/
set_option maxRecDepth 100000
set_option linter.unusedVariables false
set_option maxHeartbeats 4000000
open Go Go.AM
namespace Go.Proofs.YtejehchbflmofaaGreatDoor
noncomputable section
def measure_both_D : FD := ⟨T, lookC [(145, fc145)], [], (Tryz.f136.body.getD .skip), Tryz.f136.results.toList, ⟨[.one (.sl (.cons (.int .i64) (.int .i64))), .one (.sl (.cons (.int .i64) (.int .i64)))], []⟩, ⟨[.one .bool], []⟩, []⟩
def measure_both (a : (List TGap)) (b : (List TGap)) : (Option ((Bool × Unit) × Unit)) :=
  (wave_Valid a).bind fun y1 =>
    if y1.1.1 = true then
      (wave_Valid b).bind fun y2 =>
        some ((y2.1.1, ()), ())
    else
      some ((false, ()), ())
def fc136 : FC := ⟨⟨[.one (.sl (.cons (.int .i64) (.int .i64))), .one (.sl (.cons (.int .i64) (.int .i64)))], []⟩, ⟨[.one .bool], []⟩, fun x => measure_both x.1.1 x.1.2.1⟩
theorem con136 : Contract Tryz.prog 136 fc136 :=
  measure_both_D.contract tok (cok_of (l := [(145, fc145)]) ⟨con145, trivial⟩) mixed (fn' := Tryz.f136) (by kernel_rfl) (by kernel_rfl) rfl (by kernel_rfl) (fun x => (FD.fn_eq _ _).trans (by kernel_rfl))
end
end Go.Proofs.YtejehchbflmofaaGreatDoor
end

section
/-
YtejehchbflmofaaGreatDoor: signalbench.wave.Edges, as one plain function, its equations, its contract. No condition.
-/
set_option maxRecDepth 100000
set_option linter.unusedVariables false
set_option maxHeartbeats 4000000
open Go Go.AM
namespace Go.Proofs.YtejehchbflmofaaGreatDoor
noncomputable section
def wave_Edges_F8 : FSh := ⟨[(0, .one (.sl (.cons (.int .i64) (.int .i64)))), (3, .one (.own 0)), (4, .one (.int .i64)), (10, .one (.sl (.cons (.int .i64) (.int .i64)))), (11, .one (.int .i64)), (12, .one (.int .i64))], [.arr 3 (.int .i64) true]⟩
def wave_Edges_D : FD := ⟨T, lookC [(145, fc145)], [], (Tryz.f137.body.getD .skip), Tryz.f137.results.toList, ⟨[.one (.sl (.cons (.int .i64) (.int .i64)))], []⟩, ⟨[.one (.sl (.int .i64))], []⟩, [(8, wave_Edges_F8)]⟩
def wave_Edges_l8 (l : (List TGap)) (at_ : Int) (t10 : (List TGap)) (t11 : Int) (t12 : Int) (l0 : (List Int)) : (Option (((List Int) × Unit) × Unit)) := wave_Edges_D.lab 8 wave_Edges_F8 ((l, (), at_, t10, t11, t12, ()), (l0, ()))
theorem wave_Edges_l8_eq (l : (List TGap)) (at_ : Int) (t10 : (List TGap)) (t11 : Int) (t12 : Int) (l0 : (List Int)) : wave_Edges_l8 l at_ t10 t11 t12 l0 =
  if (decide (t12 < t11)) = true then
    if 0 ≤ t12 ∧ t12 < (t10.length : Int) then
      if (decide (t12 > 0)) = true then
        if 0 ≤ IntKind.i64.wrap (t12 - 1) ∧ IntKind.i64.wrap (t12 - 1) < (l.length : Int) then
          if ((l.getD (IntKind.i64.wrap (t12 - 1)).toNat dGap).1 != (t10.getD t12.toNat dGap).1) = true then
            if (l0.length + 1) * 8 ≤ 140737488355328 ∧ 0 < 8 then
              wave_Edges_l8 l (IntKind.i64.wrap (at_ + (t10.getD t12.toNat dGap).2)) t10 t11 (IntKind.i64.wrap (t12 + 1)) (l0 ++ [at_])
            else
              none
          else
            wave_Edges_l8 l (IntKind.i64.wrap (at_ + (t10.getD t12.toNat dGap).2)) t10 t11 (IntKind.i64.wrap (t12 + 1)) l0
        else
          none
      else
        wave_Edges_l8 l (IntKind.i64.wrap (at_ + (t10.getD t12.toNat dGap).2)) t10 t11 (IntKind.i64.wrap (t12 + 1)) l0
    else
      none
  else
    some ((l0, ()), ()) := (FD.lab_eq _ _ _ _).trans (by kernel_rfl)
def wave_Edges (l : (List TGap)) : (Option (((List Int) × Unit) × Unit)) :=
  (wave_Valid l).bind fun y1 =>
    if (!y1.1.1) = true then
      some (([], ()), ())
    else
      wave_Edges_l8 l 0 l (l.length : Int) 0 []
def fc137 : FC := ⟨⟨[.one (.sl (.cons (.int .i64) (.int .i64)))], []⟩, ⟨[.one (.sl (.int .i64))], []⟩, fun x => wave_Edges x.1.1⟩
theorem con137 : Contract Tryz.prog 137 fc137 :=
  wave_Edges_D.contract tok (cok_of (l := [(145, fc145)]) ⟨con145, trivial⟩) mixed (fn' := Tryz.f137) (by kernel_rfl) (by kernel_rfl) rfl (by kernel_rfl) (fun x => (FD.fn_eq _ _).trans (by kernel_rfl))
end
end Go.Proofs.YtejehchbflmofaaGreatDoor
end

section
/-
YtejehchbflmofaaGreatDoor: signalbench.measure.Setup, as one plain function, its equations, its contract. No condition.
-/
set_option maxRecDepth 100000
set_option linter.unusedVariables false
set_option maxHeartbeats 4000000
open Go Go.AM
namespace Go.Proofs.YtejehchbflmofaaGreatDoor
noncomputable section
def measure_Setup_F8 : FSh := ⟨[(7, .one (.own 0)), (8, .one (.sl (.int .i64))), (9, .one (.int .i64)), (20, .one (.sl (.int .i64))), (21, .one (.int .i64)), (22, .one (.int .i64))], [.arr 35 (.cons (.int .i64) (.int .i64)) true]⟩
def measure_Setup_F14 : FSh := ⟨[(7, .one (.own 0)), (8, .one (.sl (.int .i64))), (9, .one (.int .i64)), (11, .one (.int .i64)), (20, .one (.sl (.int .i64))), (21, .one (.int .i64)), (22, .one (.int .i64))], [.arr 35 (.cons (.int .i64) (.int .i64)) true]⟩
def measure_Setup_D : FD := ⟨T, lookC [(134, fc134), (136, fc136), (137, fc137)], [], (Tryz.f121.body.getD .skip), Tryz.f121.results.toList, ⟨[.one (.sl (.cons (.int .i64) (.int .i64))), .one (.sl (.cons (.int .i64) (.int .i64))), .one .bool], []⟩, ⟨[.one (.sl (.cons (.int .i64) (.int .i64)))], []⟩, [(8, measure_Setup_F8), (14, measure_Setup_F14)]⟩
def measure_Setup_l8 (edges : (List Int)) (k0 : Int) (t20 : (List Int)) (t21 : Int) (t22 : Int) (l0 : (List TGap)) : (Option (((List TGap) × Unit) × Unit)) := measure_Setup_D.lab 8 measure_Setup_F8 (((), edges, k0, t20, t21, t22, ()), (l0, ()))
def measure_Setup_l14 (edges : (List Int)) (k0 : Int) (t : Int) (t20 : (List Int)) (t21 : Int) (t22 : Int) (l0 : (List TGap)) : (Option (((List TGap) × Unit) × Unit)) := measure_Setup_D.lab 14 measure_Setup_F14 (((), edges, k0, t, t20, t21, t22, ()), (l0, ()))
theorem measure_Setup_l8_eq (edges : (List Int)) (k0 : Int) (t20 : (List Int)) (t21 : Int) (t22 : Int) (l0 : (List TGap)) : measure_Setup_l8 edges k0 t20 t21 t22 l0 =
  if (decide (t22 < t21)) = true then
    if 0 ≤ t22 ∧ t22 < (t20.length : Int) then
      measure_Setup_l14 edges k0 (t20.getD t22.toNat 0) t20 t21 t22 l0
    else
      none
  else
    some ((l0, ()), ()) := (FD.lab_eq _ _ _ _).trans (by kernel_rfl)
theorem measure_Setup_l14_eq (edges : (List Int)) (k0 : Int) (t : Int) (t20 : (List Int)) (t21 : Int) (t22 : Int) (l0 : (List TGap)) : measure_Setup_l14 edges k0 t t20 t21 t22 l0 =
  if (decide (k0 < (edges.length : Int))) = true then
    if 0 ≤ k0 ∧ k0 < (edges.length : Int) then
      if (decide ((edges.getD k0.toNat 0) ≤ t)) = true then
        measure_Setup_l14 edges (IntKind.i64.wrap (k0 + 1)) t t20 t21 t22 l0
      else
        if (decide (k0 > 0)) = true then
          if 0 ≤ IntKind.i64.wrap (k0 - 1) ∧ IntKind.i64.wrap (k0 - 1) < (edges.length : Int) then
            if 0 ≤ IntKind.i64.wrap (k0 - 1) ∧ IntKind.i64.wrap (k0 - 1) < (edges.length : Int) then
              if (l0.length + 1) * 16 ≤ 140737488355328 ∧ 0 < 16 then
                measure_Setup_l8 edges k0 t20 t21 (IntKind.i64.wrap (t22 + 1)) (l0 ++ [(edges.getD (IntKind.i64.wrap (k0 - 1)).toNat 0, IntKind.i64.wrap (t - (edges.getD (IntKind.i64.wrap (k0 - 1)).toNat 0)))])
              else
                none
            else
              none
          else
            none
        else
          measure_Setup_l8 edges k0 t20 t21 (IntKind.i64.wrap (t22 + 1)) l0
    else
      none
  else
    if (decide (k0 > 0)) = true then
      if 0 ≤ IntKind.i64.wrap (k0 - 1) ∧ IntKind.i64.wrap (k0 - 1) < (edges.length : Int) then
        if 0 ≤ IntKind.i64.wrap (k0 - 1) ∧ IntKind.i64.wrap (k0 - 1) < (edges.length : Int) then
          if (l0.length + 1) * 16 ≤ 140737488355328 ∧ 0 < 16 then
            measure_Setup_l8 edges k0 t20 t21 (IntKind.i64.wrap (t22 + 1)) (l0 ++ [(edges.getD (IntKind.i64.wrap (k0 - 1)).toNat 0, IntKind.i64.wrap (t - (edges.getD (IntKind.i64.wrap (k0 - 1)).toNat 0)))])
          else
            none
        else
          none
      else
        none
    else
      measure_Setup_l8 edges k0 t20 t21 (IntKind.i64.wrap (t22 + 1)) l0 := (FD.lab_eq _ _ _ _).trans (by kernel_rfl)
def measure_Setup (data : (List TGap)) (clock : (List TGap)) (rising : Bool) : (Option (((List TGap) × Unit) × Unit)) :=
  (measure_both data clock).bind fun y1 =>
    if (!y1.1.1) = true then
      some (([], ()), ())
    else
      (wave_Edges data).bind fun y2 =>
        (measure_rises clock rising).bind fun y3 =>
          measure_Setup_l8 y2.1.1 0 y3.1.1 (y3.1.1.length : Int) 0 []
def fc121 : FC := ⟨⟨[.one (.sl (.cons (.int .i64) (.int .i64))), .one (.sl (.cons (.int .i64) (.int .i64))), .one .bool], []⟩, ⟨[.one (.sl (.cons (.int .i64) (.int .i64)))], []⟩, fun x => measure_Setup x.1.1 x.1.2.1 x.1.2.2.1⟩
theorem con121 : Contract Tryz.prog 121 fc121 :=
  measure_Setup_D.contract tok (cok_of (l := [(134, fc134), (136, fc136), (137, fc137)]) ⟨con134, con136, con137, trivial⟩) mixed (fn' := Tryz.f121) (by kernel_rfl) (by kernel_rfl) rfl (by kernel_rfl) (fun x => (FD.fn_eq _ _).trans (by kernel_rfl))
end
end Go.Proofs.YtejehchbflmofaaGreatDoor
end

section
/-
YtejehchbflmofaaGreatDoor: (signalbench.limit.waves).setup, as one plain function, its equations, its contract. No condition.
-/
set_option maxRecDepth 100000
set_option linter.unusedVariables false
set_option maxHeartbeats 4000000
open Go Go.AM
namespace Go.Proofs.YtejehchbflmofaaGreatDoor
noncomputable section
def limit_waves_setup_D : FD := ⟨T, lookC [(121, fc121)], [], (Tryz.f93.body.getD .skip), Tryz.f93.results.toList, ⟨[.row (.cons (.sl (.cons (.int .i64) (.int .i64))) (.cons (.sl (.cons (.int .i64) (.int .i64))) .bool))], []⟩, ⟨[.one (.sl (.cons (.int .i64) (.int .i64)))], []⟩, []⟩
def limit_waves_setup (w0 : Twaves) : (Option (((List TGap) × Unit) × Unit)) :=
  (measure_Setup w0.1 w0.2.1 w0.2.2).bind fun y1 =>
    some ((y1.1.1, ()), ())
def fc93 : FC := ⟨⟨[.row (.cons (.sl (.cons (.int .i64) (.int .i64))) (.cons (.sl (.cons (.int .i64) (.int .i64))) .bool))], []⟩, ⟨[.one (.sl (.cons (.int .i64) (.int .i64)))], []⟩, fun x => limit_waves_setup x.1.1⟩
theorem con93 : Contract Tryz.prog 93 fc93 :=
  limit_waves_setup_D.contract tok (cok_of (l := [(121, fc121)]) ⟨con121, trivial⟩) mixed (fn' := Tryz.f93) (by kernel_rfl) (by kernel_rfl) rfl (by kernel_rfl) (fun x => (FD.fn_eq _ _).trans (by kernel_rfl))
end
end Go.Proofs.YtejehchbflmofaaGreatDoor
end

section
/-
YtejehchbflmofaaGreatDoor: signalbench.measure.follower$1, as one plain function, its equations, its contract. No condition.
-/
set_option maxRecDepth 100000
set_option linter.unusedVariables false
set_option maxHeartbeats 4000000
open Go Go.AM
namespace Go.Proofs.YtejehchbflmofaaGreatDoor
noncomputable section
def measure_follower_1_F2 : FSh := ⟨[(0, .one (.int .i64)), (1, .one (.ptr 0 0)), (2, .one (.ptr 1 0))], [.box 3 [(.int .i64)], .box 151 [(.sl (.int .i64))]]⟩
def measure_follower_1_D : FD := ⟨T, lookC [], [], (Tryz.f153.body.getD .skip), Tryz.f153.results.toList, ⟨[.one (.int .i64), .one (.ptr 0 0), .one (.ptr 1 0)], [.box 3 [(.int .i64)], .box 151 [(.sl (.int .i64))]]⟩, ⟨[.one (.int .i64), .one .bool], [.box 3 [(.int .i64)], .box 151 [(.sl (.int .i64))]]⟩, [(2, measure_follower_1_F2)]⟩
def measure_follower_1_l2 (t : Int) (h0_0 : Int) (h1_0 : (List Int)) : (Option ((Int × Bool × Unit) × ((Int × Unit) × ((List Int) × Unit) × Unit))) := measure_follower_1_D.lab 2 measure_follower_1_F2 ((t, (), (), ()), ((h0_0, ()), (h1_0, ()), ()))
theorem measure_follower_1_l2_eq (t : Int) (h0_0 : Int) (h1_0 : (List Int)) : measure_follower_1_l2 t h0_0 h1_0 =
  if (decide (h0_0 < (h1_0.length : Int))) = true then
    if 0 ≤ h0_0 ∧ h0_0 < (h1_0.length : Int) then
      if (decide ((h1_0.getD h0_0.toNat 0) ≤ t)) = true then
        measure_follower_1_l2 t (IntKind.i64.wrap (h0_0 + 1)) h1_0
      else
        if (h0_0 == (h1_0.length : Int)) = true then
          some ((0, false, ()), ((h0_0, ()), (h1_0, ()), ()))
        else
          if 0 ≤ h0_0 ∧ h0_0 < (h1_0.length : Int) then
            some ((h1_0.getD h0_0.toNat 0, true, ()), ((h0_0, ()), (h1_0, ()), ()))
          else
            none
    else
      none
  else
    if (h0_0 == (h1_0.length : Int)) = true then
      some ((0, false, ()), ((h0_0, ()), (h1_0, ()), ()))
    else
      if 0 ≤ h0_0 ∧ h0_0 < (h1_0.length : Int) then
        some ((h1_0.getD h0_0.toNat 0, true, ()), ((h0_0, ()), (h1_0, ()), ()))
      else
        none := (FD.lab_eq _ _ _ _).trans (by kernel_rfl)
def measure_follower_1 (t : Int) (h0_0 : Int) (h1_0 : (List Int)) : (Option ((Int × Bool × Unit) × ((Int × Unit) × ((List Int) × Unit) × Unit))) :=
  measure_follower_1_l2 t h0_0 h1_0
def fc153 : FC := ⟨⟨[.one (.int .i64), .one (.ptr 0 0), .one (.ptr 1 0)], [.box 3 [(.int .i64)], .box 151 [(.sl (.int .i64))]]⟩, ⟨[.one (.int .i64), .one .bool], [.box 3 [(.int .i64)], .box 151 [(.sl (.int .i64))]]⟩, fun x => measure_follower_1 x.1.1 x.2.1.1 x.2.2.1.1⟩
theorem con153 : Contract Tryz.prog 153 fc153 :=
  measure_follower_1_D.contract tok (cok_of (l := []) trivial) mixed (fn' := Tryz.f153) (by kernel_rfl) (by kernel_rfl) rfl (by kernel_rfl) (fun x => (FD.fn_eq _ _).trans (by kernel_rfl))
end
end Go.Proofs.YtejehchbflmofaaGreatDoor
end

section
/-
YtejehchbflmofaaGreatDoor: signalbench.measure.follower, as one plain function, its equations, its contract. No condition.
-/
set_option maxRecDepth 100000
set_option linter.unusedVariables false
set_option maxHeartbeats 4000000
open Go Go.AM
namespace Go.Proofs.YtejehchbflmofaaGreatDoor
noncomputable section
def measure_follower_D : FD := ⟨T, lookC [(153, fc153)], [], (Tryz.f147.body.getD .skip), Tryz.f147.results.toList, ⟨[.one (.sl (.int .i64))], []⟩, ⟨[.one (.fn 153 [0, 1])], [.box 3 [(.int .i64)], .box 151 [(.sl (.int .i64))]]⟩, []⟩
def measure_follower (l : (List Int)) : (Option ((Unit × Unit) × ((Int × Unit) × ((List Int) × Unit) × Unit))) :=
  some (((), ()), ((0, ()), (l, ()), ()))
def fc147 : FC := ⟨⟨[.one (.sl (.int .i64))], []⟩, ⟨[.one (.fn 153 [0, 1])], [.box 3 [(.int .i64)], .box 151 [(.sl (.int .i64))]]⟩, fun x => measure_follower x.1.1⟩
theorem con147 : Contract Tryz.prog 147 fc147 :=
  measure_follower_D.contract tok (cok_of (l := [(153, fc153)]) ⟨con153, trivial⟩) mixed (fn' := Tryz.f147) (by kernel_rfl) (by kernel_rfl) rfl (by kernel_rfl) (fun x => (FD.fn_eq _ _).trans (by kernel_rfl))
end
end Go.Proofs.YtejehchbflmofaaGreatDoor
end

section
/-
YtejehchbflmofaaGreatDoor: signalbench.measure.behind, as one plain function, its equations, its contract. No condition.
-/
set_option maxRecDepth 100000
set_option linter.unusedVariables false
set_option maxHeartbeats 4000000
open Go Go.AM
namespace Go.Proofs.YtejehchbflmofaaGreatDoor
noncomputable section
def measure_behind_F5 : FSh := ⟨[(5, .one (.own 0)), (6, .one (.fn 153 [1, 2])), (13, .one (.sl (.int .i64))), (14, .one (.int .i64)), (15, .one (.int .i64))], [.arr 35 (.cons (.int .i64) (.int .i64)) true, .box 3 [(.int .i64)], .box 151 [(.sl (.int .i64))]]⟩
def measure_behind_D : FD := ⟨T, lookC [(147, fc147), (153, fc153)], [], (Tryz.f138.body.getD .skip), Tryz.f138.results.toList, ⟨[.one (.sl (.int .i64)), .one (.sl (.int .i64))], []⟩, ⟨[.one (.sl (.cons (.int .i64) (.int .i64)))], []⟩, [(5, measure_behind_F5)]⟩
def measure_behind_l5 (t13 : (List Int)) (t14 : Int) (t15 : Int) (l0 : (List TGap)) (h1_0 : Int) (h2_0 : (List Int)) : (Option (((List TGap) × Unit) × Unit)) := measure_behind_D.lab 5 measure_behind_F5 (((), (), t13, t14, t15, ()), (l0, (h1_0, ()), (h2_0, ()), ()))
theorem measure_behind_l5_eq (t13 : (List Int)) (t14 : Int) (t15 : Int) (l0 : (List TGap)) (h1_0 : Int) (h2_0 : (List Int)) : measure_behind_l5 t13 t14 t15 l0 h1_0 h2_0 =
  if (decide (t15 < t14)) = true then
    if 0 ≤ t15 ∧ t15 < (t13.length : Int) then
      (measure_follower_1 (t13.getD t15.toNat 0) h1_0 h2_0).bind fun y1 =>
        if y1.1.2.1 = true then
          if (l0.length + 1) * 16 ≤ 140737488355328 ∧ 0 < 16 then
            measure_behind_l5 t13 t14 (IntKind.i64.wrap (t15 + 1)) (l0 ++ [(t13.getD t15.toNat 0, IntKind.i64.wrap (y1.1.1 - (t13.getD t15.toNat 0)))]) y1.2.1.1 y1.2.2.1.1
          else
            none
        else
          measure_behind_l5 t13 t14 (IntKind.i64.wrap (t15 + 1)) l0 y1.2.1.1 y1.2.2.1.1
    else
      none
  else
    some ((l0, ()), ()) := (FD.lab_eq _ _ _ _).trans (by kernel_rfl)
def measure_behind (times : (List Int)) (edges : (List Int)) : (Option (((List TGap) × Unit) × Unit)) :=
  (measure_follower times).bind fun y1 =>
    measure_behind_l5 edges (edges.length : Int) 0 [] y1.2.1.1 y1.2.2.1.1
def fc138 : FC := ⟨⟨[.one (.sl (.int .i64)), .one (.sl (.int .i64))], []⟩, ⟨[.one (.sl (.cons (.int .i64) (.int .i64)))], []⟩, fun x => measure_behind x.1.1 x.1.2.1⟩
theorem con138 : Contract Tryz.prog 138 fc138 :=
  measure_behind_D.contract tok (cok_of (l := [(147, fc147), (153, fc153)]) ⟨con147, con153, trivial⟩) mixed (fn' := Tryz.f138) (by kernel_rfl) (by kernel_rfl) rfl (by kernel_rfl) (fun x => (FD.fn_eq _ _).trans (by kernel_rfl))
end
end Go.Proofs.YtejehchbflmofaaGreatDoor
end

section
/-
YtejehchbflmofaaGreatDoor: signalbench.measure.Hold, as one plain function, its equations, its contract. No condition.
-/
set_option maxRecDepth 100000
set_option linter.unusedVariables false
set_option maxHeartbeats 4000000
open Go Go.AM
namespace Go.Proofs.YtejehchbflmofaaGreatDoor
noncomputable section
def measure_Hold_D : FD := ⟨T, lookC [(134, fc134), (136, fc136), (137, fc137), (138, fc138)], [], (Tryz.f122.body.getD .skip), Tryz.f122.results.toList, ⟨[.one (.sl (.cons (.int .i64) (.int .i64))), .one (.sl (.cons (.int .i64) (.int .i64))), .one .bool], []⟩, ⟨[.one (.sl (.cons (.int .i64) (.int .i64)))], []⟩, []⟩
def measure_Hold (data : (List TGap)) (clock : (List TGap)) (rising : Bool) : (Option (((List TGap) × Unit) × Unit)) :=
  (measure_both data clock).bind fun y1 =>
    if (!y1.1.1) = true then
      some (([], ()), ())
    else
      (wave_Edges data).bind fun y2 =>
        (measure_rises clock rising).bind fun y3 =>
          (measure_behind y2.1.1 y3.1.1).bind fun y4 =>
            some ((y4.1.1, ()), ())
def fc122 : FC := ⟨⟨[.one (.sl (.cons (.int .i64) (.int .i64))), .one (.sl (.cons (.int .i64) (.int .i64))), .one .bool], []⟩, ⟨[.one (.sl (.cons (.int .i64) (.int .i64)))], []⟩, fun x => measure_Hold x.1.1 x.1.2.1 x.1.2.2.1⟩
theorem con122 : Contract Tryz.prog 122 fc122 :=
  measure_Hold_D.contract tok (cok_of (l := [(134, fc134), (136, fc136), (137, fc137), (138, fc138)]) ⟨con134, con136, con137, con138, trivial⟩) mixed (fn' := Tryz.f122) (by kernel_rfl) (by kernel_rfl) rfl (by kernel_rfl) (fun x => (FD.fn_eq _ _).trans (by kernel_rfl))
end
end Go.Proofs.YtejehchbflmofaaGreatDoor
end

section
/-
YtejehchbflmofaaGreatDoor: (signalbench.limit.waves).hold, as one plain function, its equations, its contract. No condition.
-/
set_option maxRecDepth 100000
set_option linter.unusedVariables false
set_option maxHeartbeats 4000000
open Go Go.AM
namespace Go.Proofs.YtejehchbflmofaaGreatDoor
noncomputable section
def limit_waves_hold_D : FD := ⟨T, lookC [(122, fc122)], [], (Tryz.f94.body.getD .skip), Tryz.f94.results.toList, ⟨[.row (.cons (.sl (.cons (.int .i64) (.int .i64))) (.cons (.sl (.cons (.int .i64) (.int .i64))) .bool))], []⟩, ⟨[.one (.sl (.cons (.int .i64) (.int .i64)))], []⟩, []⟩
def limit_waves_hold (w0 : Twaves) : (Option (((List TGap) × Unit) × Unit)) :=
  (measure_Hold w0.1 w0.2.1 w0.2.2).bind fun y1 =>
    some ((y1.1.1, ()), ())
def fc94 : FC := ⟨⟨[.row (.cons (.sl (.cons (.int .i64) (.int .i64))) (.cons (.sl (.cons (.int .i64) (.int .i64))) .bool))], []⟩, ⟨[.one (.sl (.cons (.int .i64) (.int .i64)))], []⟩, fun x => limit_waves_hold x.1.1⟩
theorem con94 : Contract Tryz.prog 94 fc94 :=
  limit_waves_hold_D.contract tok (cok_of (l := [(122, fc122)]) ⟨con122, trivial⟩) mixed (fn' := Tryz.f94) (by kernel_rfl) (by kernel_rfl) rfl (by kernel_rfl) (fun x => (FD.fn_eq _ _).trans (by kernel_rfl))
end
end Go.Proofs.YtejehchbflmofaaGreatDoor
end

section
/-
YtejehchbflmofaaGreatDoor: signalbench.measure.Delay, as one plain function, its equations, its contract. No condition.
-/
set_option maxRecDepth 100000
set_option linter.unusedVariables false
set_option maxHeartbeats 4000000
open Go Go.AM
namespace Go.Proofs.YtejehchbflmofaaGreatDoor
noncomputable section
def measure_Delay_D : FD := ⟨T, lookC [(134, fc134), (136, fc136), (138, fc138)], [], (Tryz.f123.body.getD .skip), Tryz.f123.results.toList, ⟨[.one (.sl (.cons (.int .i64) (.int .i64))), .one (.sl (.cons (.int .i64) (.int .i64))), .one .bool], []⟩, ⟨[.one (.sl (.cons (.int .i64) (.int .i64)))], []⟩, []⟩
def measure_Delay (data : (List TGap)) (clock : (List TGap)) (rising : Bool) : (Option (((List TGap) × Unit) × Unit)) :=
  (measure_both data clock).bind fun y1 =>
    if (!y1.1.1) = true then
      some (([], ()), ())
    else
      (measure_rises data true).bind fun y2 =>
        (measure_rises clock rising).bind fun y3 =>
          (measure_behind y2.1.1 y3.1.1).bind fun y4 =>
            some ((y4.1.1, ()), ())
def fc123 : FC := ⟨⟨[.one (.sl (.cons (.int .i64) (.int .i64))), .one (.sl (.cons (.int .i64) (.int .i64))), .one .bool], []⟩, ⟨[.one (.sl (.cons (.int .i64) (.int .i64)))], []⟩, fun x => measure_Delay x.1.1 x.1.2.1 x.1.2.2.1⟩
theorem con123 : Contract Tryz.prog 123 fc123 :=
  measure_Delay_D.contract tok (cok_of (l := [(134, fc134), (136, fc136), (138, fc138)]) ⟨con134, con136, con138, trivial⟩) mixed (fn' := Tryz.f123) (by kernel_rfl) (by kernel_rfl) rfl (by kernel_rfl) (fun x => (FD.fn_eq _ _).trans (by kernel_rfl))
end
end Go.Proofs.YtejehchbflmofaaGreatDoor
end

section
/-
YtejehchbflmofaaGreatDoor: (signalbench.limit.waves).delay, as one plain function, its equations, its contract. No condition.
-/
set_option maxRecDepth 100000
set_option linter.unusedVariables false
set_option maxHeartbeats 4000000
open Go Go.AM
namespace Go.Proofs.YtejehchbflmofaaGreatDoor
noncomputable section
def limit_waves_delay_D : FD := ⟨T, lookC [(123, fc123)], [], (Tryz.f95.body.getD .skip), Tryz.f95.results.toList, ⟨[.row (.cons (.sl (.cons (.int .i64) (.int .i64))) (.cons (.sl (.cons (.int .i64) (.int .i64))) .bool))], []⟩, ⟨[.one (.sl (.cons (.int .i64) (.int .i64)))], []⟩, []⟩
def limit_waves_delay (w0 : Twaves) : (Option (((List TGap) × Unit) × Unit)) :=
  (measure_Delay w0.1 w0.2.1 w0.2.2).bind fun y1 =>
    some ((y1.1.1, ()), ())
def fc95 : FC := ⟨⟨[.row (.cons (.sl (.cons (.int .i64) (.int .i64))) (.cons (.sl (.cons (.int .i64) (.int .i64))) .bool))], []⟩, ⟨[.one (.sl (.cons (.int .i64) (.int .i64)))], []⟩, fun x => limit_waves_delay x.1.1⟩
theorem con95 : Contract Tryz.prog 95 fc95 :=
  limit_waves_delay_D.contract tok (cok_of (l := [(123, fc123)]) ⟨con123, trivial⟩) mixed (fn' := Tryz.f95) (by kernel_rfl) (by kernel_rfl) rfl (by kernel_rfl) (fun x => (FD.fn_eq _ _).trans (by kernel_rfl))
end
end Go.Proofs.YtejehchbflmofaaGreatDoor
end

section
/-
YtejehchbflmofaaGreatDoor: signalbench.limit.measurement, as one plain function, its equations, its contract. No condition.
-/
set_option maxRecDepth 100000
set_option linter.unusedVariables false
set_option maxHeartbeats 4000000
open Go Go.AM
namespace Go.Proofs.YtejehchbflmofaaGreatDoor
noncomputable section
def limit_measurementvdelay_D : FD := ⟨T, lookC [(90, fc90), (91, fc91), (92, fc92), (93, fc93), (94, fc94), (95, fc95)], [], (Tryz.f54.body.getD .skip), Tryz.f54.results.toList, ⟨[.row (.cons (.int .i64) (.cons .str (.cons .str (.cons .bool (.cons (.int .i64) (.int .i64))))))], []⟩, ⟨[.one (.fn 95 [])], []⟩, []⟩
def limit_measurementvdelay (x0 : TLimit) : (Option ((Unit × Unit) × Unit)) :=
  if (x0.1 == 1) = true then
    none
  else
    if (x0.1 == 2) = true then
      none
    else
      if (x0.1 == 3) = true then
        none
      else
        if (x0.1 == 4) = true then
          none
        else
          if (x0.1 == 5) = true then
            none
          else
            some (((), ()), ())
def fc54vdelay : FC := ⟨⟨[.row (.cons (.int .i64) (.cons .str (.cons .str (.cons .bool (.cons (.int .i64) (.int .i64))))))], []⟩, ⟨[.one (.fn 95 [])], []⟩, fun x => limit_measurementvdelay x.1.1⟩
theorem con54vdelay : Contract Tryz.prog 54 fc54vdelay :=
  limit_measurementvdelay_D.contract tok (cok_of (l := [(90, fc90), (91, fc91), (92, fc92), (93, fc93), (94, fc94), (95, fc95)]) ⟨con90, con91, con92, con93, con94, con95, trivial⟩) mixed (fn' := Tryz.f54) (by kernel_rfl) (by kernel_rfl) rfl (by kernel_rfl) (fun x => (FD.fn_eq _ _).trans (by kernel_rfl))
end
end Go.Proofs.YtejehchbflmofaaGreatDoor
end

section
/-
YtejehchbflmofaaGreatDoor: signalbench.limit.measurement, as one plain function, its equations, its contract. No condition.
-/
set_option maxRecDepth 100000
set_option linter.unusedVariables false
set_option maxHeartbeats 4000000
open Go Go.AM
namespace Go.Proofs.YtejehchbflmofaaGreatDoor
noncomputable section
def limit_measurementvhigh_D : FD := ⟨T, lookC [(90, fc90), (91, fc91), (92, fc92), (93, fc93), (94, fc94), (95, fc95)], [], (Tryz.f54.body.getD .skip), Tryz.f54.results.toList, ⟨[.row (.cons (.int .i64) (.cons .str (.cons .str (.cons .bool (.cons (.int .i64) (.int .i64))))))], []⟩, ⟨[.one (.fn 91 [])], []⟩, []⟩
def limit_measurementvhigh (x0 : TLimit) : (Option ((Unit × Unit) × Unit)) :=
  if (x0.1 == 1) = true then
    none
  else
    if (x0.1 == 2) = true then
      some (((), ()), ())
    else
      if (x0.1 == 3) = true then
        none
      else
        if (x0.1 == 4) = true then
          none
        else
          if (x0.1 == 5) = true then
            none
          else
            none
def fc54vhigh : FC := ⟨⟨[.row (.cons (.int .i64) (.cons .str (.cons .str (.cons .bool (.cons (.int .i64) (.int .i64))))))], []⟩, ⟨[.one (.fn 91 [])], []⟩, fun x => limit_measurementvhigh x.1.1⟩
theorem con54vhigh : Contract Tryz.prog 54 fc54vhigh :=
  limit_measurementvhigh_D.contract tok (cok_of (l := [(90, fc90), (91, fc91), (92, fc92), (93, fc93), (94, fc94), (95, fc95)]) ⟨con90, con91, con92, con93, con94, con95, trivial⟩) mixed (fn' := Tryz.f54) (by kernel_rfl) (by kernel_rfl) rfl (by kernel_rfl) (fun x => (FD.fn_eq _ _).trans (by kernel_rfl))
end
end Go.Proofs.YtejehchbflmofaaGreatDoor
end

section
/-
YtejehchbflmofaaGreatDoor: signalbench.limit.measurement, as one plain function, its equations, its contract. No condition.
-/
set_option maxRecDepth 100000
set_option linter.unusedVariables false
set_option maxHeartbeats 4000000
open Go Go.AM
namespace Go.Proofs.YtejehchbflmofaaGreatDoor
noncomputable section
def limit_measurementvhold_D : FD := ⟨T, lookC [(90, fc90), (91, fc91), (92, fc92), (93, fc93), (94, fc94), (95, fc95)], [], (Tryz.f54.body.getD .skip), Tryz.f54.results.toList, ⟨[.row (.cons (.int .i64) (.cons .str (.cons .str (.cons .bool (.cons (.int .i64) (.int .i64))))))], []⟩, ⟨[.one (.fn 94 [])], []⟩, []⟩
def limit_measurementvhold (x0 : TLimit) : (Option ((Unit × Unit) × Unit)) :=
  if (x0.1 == 1) = true then
    none
  else
    if (x0.1 == 2) = true then
      none
    else
      if (x0.1 == 3) = true then
        none
      else
        if (x0.1 == 4) = true then
          none
        else
          if (x0.1 == 5) = true then
            some (((), ()), ())
          else
            none
def fc54vhold : FC := ⟨⟨[.row (.cons (.int .i64) (.cons .str (.cons .str (.cons .bool (.cons (.int .i64) (.int .i64))))))], []⟩, ⟨[.one (.fn 94 [])], []⟩, fun x => limit_measurementvhold x.1.1⟩
theorem con54vhold : Contract Tryz.prog 54 fc54vhold :=
  limit_measurementvhold_D.contract tok (cok_of (l := [(90, fc90), (91, fc91), (92, fc92), (93, fc93), (94, fc94), (95, fc95)]) ⟨con90, con91, con92, con93, con94, con95, trivial⟩) mixed (fn' := Tryz.f54) (by kernel_rfl) (by kernel_rfl) rfl (by kernel_rfl) (fun x => (FD.fn_eq _ _).trans (by kernel_rfl))
end
end Go.Proofs.YtejehchbflmofaaGreatDoor
end

section
/-
YtejehchbflmofaaGreatDoor: signalbench.limit.measurement, as one plain function, its equations, its contract. No condition.
-/
set_option maxRecDepth 100000
set_option linter.unusedVariables false
set_option maxHeartbeats 4000000
open Go Go.AM
namespace Go.Proofs.YtejehchbflmofaaGreatDoor
noncomputable section
def limit_measurementvlow_D : FD := ⟨T, lookC [(90, fc90), (91, fc91), (92, fc92), (93, fc93), (94, fc94), (95, fc95)], [], (Tryz.f54.body.getD .skip), Tryz.f54.results.toList, ⟨[.row (.cons (.int .i64) (.cons .str (.cons .str (.cons .bool (.cons (.int .i64) (.int .i64))))))], []⟩, ⟨[.one (.fn 92 [])], []⟩, []⟩
def limit_measurementvlow (x0 : TLimit) : (Option ((Unit × Unit) × Unit)) :=
  if (x0.1 == 1) = true then
    none
  else
    if (x0.1 == 2) = true then
      none
    else
      if (x0.1 == 3) = true then
        some (((), ()), ())
      else
        if (x0.1 == 4) = true then
          none
        else
          if (x0.1 == 5) = true then
            none
          else
            none
def fc54vlow : FC := ⟨⟨[.row (.cons (.int .i64) (.cons .str (.cons .str (.cons .bool (.cons (.int .i64) (.int .i64))))))], []⟩, ⟨[.one (.fn 92 [])], []⟩, fun x => limit_measurementvlow x.1.1⟩
theorem con54vlow : Contract Tryz.prog 54 fc54vlow :=
  limit_measurementvlow_D.contract tok (cok_of (l := [(90, fc90), (91, fc91), (92, fc92), (93, fc93), (94, fc94), (95, fc95)]) ⟨con90, con91, con92, con93, con94, con95, trivial⟩) mixed (fn' := Tryz.f54) (by kernel_rfl) (by kernel_rfl) rfl (by kernel_rfl) (fun x => (FD.fn_eq _ _).trans (by kernel_rfl))
end
end Go.Proofs.YtejehchbflmofaaGreatDoor
end

section
/-
YtejehchbflmofaaGreatDoor: signalbench.limit.measurement, as one plain function, its equations, its contract. No condition.
-/
set_option maxRecDepth 100000
set_option linter.unusedVariables false
set_option maxHeartbeats 4000000
open Go Go.AM
namespace Go.Proofs.YtejehchbflmofaaGreatDoor
noncomputable section
def limit_measurementvperiod_D : FD := ⟨T, lookC [(90, fc90), (91, fc91), (92, fc92), (93, fc93), (94, fc94), (95, fc95)], [], (Tryz.f54.body.getD .skip), Tryz.f54.results.toList, ⟨[.row (.cons (.int .i64) (.cons .str (.cons .str (.cons .bool (.cons (.int .i64) (.int .i64))))))], []⟩, ⟨[.one (.fn 90 [])], []⟩, []⟩
def limit_measurementvperiod (x0 : TLimit) : (Option ((Unit × Unit) × Unit)) :=
  if (x0.1 == 1) = true then
    some (((), ()), ())
  else
    if (x0.1 == 2) = true then
      none
    else
      if (x0.1 == 3) = true then
        none
      else
        if (x0.1 == 4) = true then
          none
        else
          if (x0.1 == 5) = true then
            none
          else
            none
def fc54vperiod : FC := ⟨⟨[.row (.cons (.int .i64) (.cons .str (.cons .str (.cons .bool (.cons (.int .i64) (.int .i64))))))], []⟩, ⟨[.one (.fn 90 [])], []⟩, fun x => limit_measurementvperiod x.1.1⟩
theorem con54vperiod : Contract Tryz.prog 54 fc54vperiod :=
  limit_measurementvperiod_D.contract tok (cok_of (l := [(90, fc90), (91, fc91), (92, fc92), (93, fc93), (94, fc94), (95, fc95)]) ⟨con90, con91, con92, con93, con94, con95, trivial⟩) mixed (fn' := Tryz.f54) (by kernel_rfl) (by kernel_rfl) rfl (by kernel_rfl) (fun x => (FD.fn_eq _ _).trans (by kernel_rfl))
end
end Go.Proofs.YtejehchbflmofaaGreatDoor
end

section
/-
YtejehchbflmofaaGreatDoor: signalbench.limit.measurement, as one plain function, its equations, its contract. No condition.
-/
set_option maxRecDepth 100000
set_option linter.unusedVariables false
set_option maxHeartbeats 4000000
open Go Go.AM
namespace Go.Proofs.YtejehchbflmofaaGreatDoor
noncomputable section
def limit_measurementvsetup_D : FD := ⟨T, lookC [(90, fc90), (91, fc91), (92, fc92), (93, fc93), (94, fc94), (95, fc95)], [], (Tryz.f54.body.getD .skip), Tryz.f54.results.toList, ⟨[.row (.cons (.int .i64) (.cons .str (.cons .str (.cons .bool (.cons (.int .i64) (.int .i64))))))], []⟩, ⟨[.one (.fn 93 [])], []⟩, []⟩
def limit_measurementvsetup (x0 : TLimit) : (Option ((Unit × Unit) × Unit)) :=
  if (x0.1 == 1) = true then
    none
  else
    if (x0.1 == 2) = true then
      none
    else
      if (x0.1 == 3) = true then
        none
      else
        if (x0.1 == 4) = true then
          some (((), ()), ())
        else
          if (x0.1 == 5) = true then
            none
          else
            none
def fc54vsetup : FC := ⟨⟨[.row (.cons (.int .i64) (.cons .str (.cons .str (.cons .bool (.cons (.int .i64) (.int .i64))))))], []⟩, ⟨[.one (.fn 93 [])], []⟩, fun x => limit_measurementvsetup x.1.1⟩
theorem con54vsetup : Contract Tryz.prog 54 fc54vsetup :=
  limit_measurementvsetup_D.contract tok (cok_of (l := [(90, fc90), (91, fc91), (92, fc92), (93, fc93), (94, fc94), (95, fc95)]) ⟨con90, con91, con92, con93, con94, con95, trivial⟩) mixed (fn' := Tryz.f54) (by kernel_rfl) (by kernel_rfl) rfl (by kernel_rfl) (fun x => (FD.fn_eq _ _).trans (by kernel_rfl))
end
end Go.Proofs.YtejehchbflmofaaGreatDoor
end

section
/-
YtejehchbflmofaaGreatDoor: signalbench.limit.gaps, as one plain function, its equations, its contract. No condition.
-/
set_option maxRecDepth 100000
set_option linter.unusedVariables false
set_option maxHeartbeats 4000000
open Go Go.AM
namespace Go.Proofs.YtejehchbflmofaaGreatDoor
noncomputable section
def limit_gaps_D : FD := ⟨T, lookC [(28, fc28), (53, fc53), (54, fc54vperiod), (54, fc54vhigh), (54, fc54vlow), (54, fc54vsetup), (54, fc54vhold), (54, fc54vdelay), (90, fc90), (91, fc91), (92, fc92), (93, fc93), (94, fc94), (95, fc95)], [], (Tryz.f24.body.getD .skip), Tryz.f24.results.toList, ⟨[.row (.cons (.sl .str) (.sl (.cons (.int .i64) (.int .i64)))), .row (.cons (.int .i64) (.cons .str (.cons .str (.cons .bool (.cons (.int .i64) (.int .i64))))))], []⟩, ⟨[.one (.sl (.cons (.int .i64) (.int .i64)))], []⟩, []⟩
def limit_gaps (c : TCapture) (x0 : TLimit) : (Option (((List TGap) × Unit) × Unit)) :=
  (capture_Channel c x0.2.1).bind fun y1 =>
    (limit_clocked x0).bind fun y2 =>
      if y2.1.1 = true then
        (capture_Channel c x0.2.2.1).bind fun y3 =>
          orK (limit_measurementvperiod x0) (fun y14 =>
            (limit_waves_period (y1.1.1, y3.1.1, x0.2.2.2.1)).bind fun y15 =>
              some ((y15.1.1, ()), ()))
          (
            orK (limit_measurementvhigh x0) (fun y12 =>
              (limit_waves_high (y1.1.1, y3.1.1, x0.2.2.2.1)).bind fun y13 =>
                some ((y13.1.1, ()), ()))
            (
              orK (limit_measurementvlow x0) (fun y10 =>
                (limit_waves_low (y1.1.1, y3.1.1, x0.2.2.2.1)).bind fun y11 =>
                  some ((y11.1.1, ()), ()))
              (
                orK (limit_measurementvsetup x0) (fun y8 =>
                  (limit_waves_setup (y1.1.1, y3.1.1, x0.2.2.2.1)).bind fun y9 =>
                    some ((y9.1.1, ()), ()))
                (
                  orK (limit_measurementvhold x0) (fun y6 =>
                    (limit_waves_hold (y1.1.1, y3.1.1, x0.2.2.2.1)).bind fun y7 =>
                      some ((y7.1.1, ()), ()))
                  (
                    (limit_measurementvdelay x0).bind fun y4 =>
                      (limit_waves_delay (y1.1.1, y3.1.1, x0.2.2.2.1)).bind fun y5 =>
                        some ((y5.1.1, ()), ()))))))
      else
        orK (limit_measurementvperiod x0) (fun y26 =>
          (limit_waves_period (y1.1.1, [], x0.2.2.2.1)).bind fun y27 =>
            some ((y27.1.1, ()), ()))
        (
          orK (limit_measurementvhigh x0) (fun y24 =>
            (limit_waves_high (y1.1.1, [], x0.2.2.2.1)).bind fun y25 =>
              some ((y25.1.1, ()), ()))
          (
            orK (limit_measurementvlow x0) (fun y22 =>
              (limit_waves_low (y1.1.1, [], x0.2.2.2.1)).bind fun y23 =>
                some ((y23.1.1, ()), ()))
            (
              orK (limit_measurementvsetup x0) (fun y20 =>
                (limit_waves_setup (y1.1.1, [], x0.2.2.2.1)).bind fun y21 =>
                  some ((y21.1.1, ()), ()))
              (
                orK (limit_measurementvhold x0) (fun y18 =>
                  (limit_waves_hold (y1.1.1, [], x0.2.2.2.1)).bind fun y19 =>
                    some ((y19.1.1, ()), ()))
                (
                  (limit_measurementvdelay x0).bind fun y16 =>
                    (limit_waves_delay (y1.1.1, [], x0.2.2.2.1)).bind fun y17 =>
                      some ((y17.1.1, ()), ()))))))
def fc24 : FC := ⟨⟨[.row (.cons (.sl .str) (.sl (.cons (.int .i64) (.int .i64)))), .row (.cons (.int .i64) (.cons .str (.cons .str (.cons .bool (.cons (.int .i64) (.int .i64))))))], []⟩, ⟨[.one (.sl (.cons (.int .i64) (.int .i64)))], []⟩, fun x => limit_gaps x.1.1 x.1.2.1⟩
theorem con24 : Contract Tryz.prog 24 fc24 :=
  limit_gaps_D.contract tok (cok_of (l := [(28, fc28), (53, fc53), (54, fc54vperiod), (54, fc54vhigh), (54, fc54vlow), (54, fc54vsetup), (54, fc54vhold), (54, fc54vdelay), (90, fc90), (91, fc91), (92, fc92), (93, fc93), (94, fc94), (95, fc95)]) ⟨con28, con53, con54vperiod, con54vhigh, con54vlow, con54vsetup, con54vhold, con54vdelay, con90, con91, con92, con93, con94, con95, trivial⟩) mixed (fn' := Tryz.f24) (by kernel_rfl) (by kernel_rfl) rfl (by kernel_rfl) (fun x => (FD.fn_eq _ _).trans (by kernel_rfl))
end
end Go.Proofs.YtejehchbflmofaaGreatDoor
end

section
/-
YtejehchbflmofaaGreatDoor: signalbench.limit.Find, as one plain function, its equations, its contract. No condition.
-/
set_option maxRecDepth 100000
set_option linter.unusedVariables false
set_option maxHeartbeats 4000000
open Go Go.AM
namespace Go.Proofs.YtejehchbflmofaaGreatDoor
noncomputable section
def limit_Find_F8 : FSh := ⟨[(2, .one (.ptr 0 0)), (8, .one (.own 1)), (22, .one (.sl (.cons (.int .i64) (.cons .str (.cons .str (.cons .bool (.cons (.int .i64) (.int .i64)))))))), (23, .one (.int .i64)), (24, .one (.int .i64))], [.boxr 25 (.cons (.sl .str) (.sl (.cons (.int .i64) (.int .i64)))), .arr 37 (.cons (.int .i64) (.cons (.int .i64) (.int .i64))) true]⟩
def limit_Find_F14 : FSh := ⟨[(2, .one (.ptr 0 0)), (8, .one (.own 1)), (9, .one (.int .i64)), (10, .one (.ptr 2 0)), (22, .one (.sl (.cons (.int .i64) (.cons .str (.cons .str (.cons .bool (.cons (.int .i64) (.int .i64)))))))), (23, .one (.int .i64)), (24, .one (.int .i64)), (31, .one (.sl (.cons (.int .i64) (.int .i64)))), (32, .one (.int .i64)), (33, .one (.int .i64))], [.boxr 25 (.cons (.sl .str) (.sl (.cons (.int .i64) (.int .i64)))), .arr 37 (.cons (.int .i64) (.cons (.int .i64) (.int .i64))) true, .boxr 46 (.cons (.int .i64) (.cons .str (.cons .str (.cons .bool (.cons (.int .i64) (.int .i64))))))]⟩
def limit_Find_D : FD := ⟨T, lookC [(23, fc23), (24, fc24)], [], (Tryz.f10.body.getD .skip), Tryz.f10.results.toList, ⟨[.row (.cons (.sl .str) (.sl (.cons (.int .i64) (.int .i64)))), .one (.sl (.cons (.int .i64) (.cons .str (.cons .str (.cons .bool (.cons (.int .i64) (.int .i64)))))))], []⟩, ⟨[.one (.sl (.cons (.int .i64) (.cons (.int .i64) (.int .i64)))), .one (.int .i64)], []⟩, [(8, limit_Find_F8), (14, limit_Find_F14)]⟩
def limit_Find_l8 (t22 : (List TLimit)) (t23 : Int) (t24 : Int) (h0 : TCapture) (l1 : (List TViolation)) : (Option (((List TViolation) × Int × Unit) × Unit)) := limit_Find_D.lab 8 limit_Find_F8 (((), (), t22, t23, t24, ()), (h0, l1, ()))
def limit_Find_l14 (i : Int) (t22 : (List TLimit)) (t23 : Int) (t24 : Int) (t31 : (List TGap)) (t32 : Int) (t33 : Int) (h0 : TCapture) (l1 : (List TViolation)) (h2 : TLimit) : (Option (((List TViolation) × Int × Unit) × Unit)) := limit_Find_D.lab 14 limit_Find_F14 (((), (), i, (), t22, t23, t24, t31, t32, t33, ()), (h0, l1, h2, ()))
theorem limit_Find_l8_eq (t22 : (List TLimit)) (t23 : Int) (t24 : Int) (h0 : TCapture) (l1 : (List TViolation)) : limit_Find_l8 t22 t23 t24 h0 l1 =
  if (decide (t24 < t23)) = true then
    if 0 ≤ t24 ∧ t24 < (t22.length : Int) then
      (limit_gaps h0 (t22.getD t24.toNat dLimit)).bind fun y1 =>
        limit_Find_l14 t24 t22 t23 t24 y1.1.1 (y1.1.1.length : Int) 0 h0 l1 (t22.getD t24.toNat dLimit)
    else
      none
  else
    some ((l1, 0, ()), ()) := (FD.lab_eq _ _ _ _).trans (by kernel_rfl)
theorem limit_Find_l14_eq (i : Int) (t22 : (List TLimit)) (t23 : Int) (t24 : Int) (t31 : (List TGap)) (t32 : Int) (t33 : Int) (h0 : TCapture) (l1 : (List TViolation)) (h2 : TLimit) : limit_Find_l14 i t22 t23 t24 t31 t32 t33 h0 l1 h2 =
  if (decide (t33 < t32)) = true then
    if 0 ≤ t33 ∧ t33 < (t31.length : Int) then
      if (decide ((t31.getD t33.toNat dGap).2 < h2.2.2.2.2.1)) = true then
        if (l1.length + 1) * 24 ≤ 140737488355328 ∧ 0 < 24 then
          limit_Find_l14 i t22 t23 t24 t31 t32 (IntKind.i64.wrap (t33 + 1)) h0 (l1 ++ [(i, (t31.getD t33.toNat dGap))]) h2
        else
          none
      else
        if (decide ((t31.getD t33.toNat dGap).2 > h2.2.2.2.2.2)) = true then
          if (l1.length + 1) * 24 ≤ 140737488355328 ∧ 0 < 24 then
            limit_Find_l14 i t22 t23 t24 t31 t32 (IntKind.i64.wrap (t33 + 1)) h0 (l1 ++ [(i, (t31.getD t33.toNat dGap))]) h2
          else
            none
        else
          limit_Find_l14 i t22 t23 t24 t31 t32 (IntKind.i64.wrap (t33 + 1)) h0 l1 h2
    else
      none
  else
    limit_Find_l8 t22 t23 (IntKind.i64.wrap (t24 + 1)) h0 l1 := (FD.lab_eq _ _ _ _).trans (by kernel_rfl)
def limit_Find (c : TCapture) (l : (List TLimit)) : (Option (((List TViolation) × Int × Unit) × Unit)) :=
  (limit_Check c l).bind fun y1 =>
    if (y1.1.2.1 != 0) = true then
      some (([], y1.1.2.1, ()), ())
    else
      limit_Find_l8 l (l.length : Int) 0 c []
def fc10 : FC := ⟨⟨[.row (.cons (.sl .str) (.sl (.cons (.int .i64) (.int .i64)))), .one (.sl (.cons (.int .i64) (.cons .str (.cons .str (.cons .bool (.cons (.int .i64) (.int .i64)))))))], []⟩, ⟨[.one (.sl (.cons (.int .i64) (.cons (.int .i64) (.int .i64)))), .one (.int .i64)], []⟩, fun x => limit_Find x.1.1 x.1.2.1⟩
theorem con10 : Contract Tryz.prog 10 fc10 :=
  limit_Find_D.contract tok (cok_of (l := [(23, fc23), (24, fc24)]) ⟨con23, con24, trivial⟩) mixed (fn' := Tryz.f10) (by kernel_rfl) (by kernel_rfl) rfl (by kernel_rfl) (fun x => (FD.fn_eq _ _).trans (by kernel_rfl))
end
end Go.Proofs.YtejehchbflmofaaGreatDoor
end

section
/-
YtejehchbflmofaaGreatDoor: internal.stringslite.HasPrefix, as one plain function, its equations, its contract. No condition.
-/
set_option maxRecDepth 100000
set_option linter.unusedVariables false
set_option maxHeartbeats 4000000
open Go Go.AM
namespace Go.Proofs.YtejehchbflmofaaGreatDoor
noncomputable section
def stringslite_HasPrefix_D : FD := ⟨T, lookC [], [], (Tryz.f143.body.getD .skip), Tryz.f143.results.toList, ⟨[.one .str, .one .str], []⟩, ⟨[.one .bool], []⟩, []⟩
def stringslite_HasPrefix (s : ByteArray) (prefix_ : ByteArray) : (Option ((Bool × Unit) × Unit)) :=
  if (decide ((s.size : Int) ≥ (prefix_.size : Int))) = true then
    if 0 ≤ (0 : Int) ∧ (0 : Int) ≤ (prefix_.size : Int) ∧ (prefix_.size : Int) ≤ (s.size : Int) then
      some (((s.extract 0 (prefix_.size : Int).toNat).toList == prefix_.toList, ()), ())
    else
      none
  else
    some ((false, ()), ())
def fc143 : FC := ⟨⟨[.one .str, .one .str], []⟩, ⟨[.one .bool], []⟩, fun x => stringslite_HasPrefix x.1.1 x.1.2.1⟩
theorem con143 : Contract Tryz.prog 143 fc143 :=
  stringslite_HasPrefix_D.contract tok (cok_of (l := []) trivial) mixed (fn' := Tryz.f143) (by kernel_rfl) (by kernel_rfl) rfl (by kernel_rfl) (fun x => (FD.fn_eq _ _).trans (by kernel_rfl))
end
end Go.Proofs.YtejehchbflmofaaGreatDoor
end

section
/-
YtejehchbflmofaaGreatDoor: strings.HasPrefix, as one plain function, its equations, its contract. No condition.
-/
set_option maxRecDepth 100000
set_option linter.unusedVariables false
set_option maxHeartbeats 4000000
open Go Go.AM
namespace Go.Proofs.YtejehchbflmofaaGreatDoor
noncomputable section
def strings_HasPrefix_D : FD := ⟨T, lookC [(143, fc143)], [], (Tryz.f126.body.getD .skip), Tryz.f126.results.toList, ⟨[.one .str, .one .str], []⟩, ⟨[.one .bool], []⟩, []⟩
def strings_HasPrefix (s : ByteArray) (prefix_ : ByteArray) : (Option ((Bool × Unit) × Unit)) :=
  (stringslite_HasPrefix s prefix_).bind fun y1 =>
    some ((y1.1.1, ()), ())
def fc126 : FC := ⟨⟨[.one .str, .one .str], []⟩, ⟨[.one .bool], []⟩, fun x => strings_HasPrefix x.1.1 x.1.2.1⟩
theorem con126 : Contract Tryz.prog 126 fc126 :=
  strings_HasPrefix_D.contract tok (cok_of (l := [(143, fc143)]) ⟨con143, trivial⟩) mixed (fn' := Tryz.f126) (by kernel_rfl) (by kernel_rfl) rfl (by kernel_rfl) (fun x => (FD.fn_eq _ _).trans (by kernel_rfl))
end
end Go.Proofs.YtejehchbflmofaaGreatDoor
end

section
/-
YtejehchbflmofaaGreatDoor: signalbench.lex.hex, as one plain function, its equations, its contract. No condition.
-/
set_option maxRecDepth 100000
set_option linter.unusedVariables false
set_option maxHeartbeats 4000000
open Go Go.AM
namespace Go.Proofs.YtejehchbflmofaaGreatDoor
noncomputable section
def lex_hex_D : FD := ⟨T, lookC [], [], (Tryz.f127.body.getD .skip), Tryz.f127.results.toList, ⟨[.one (.int .u8)], []⟩, ⟨[.one (.int .i64)], []⟩, []⟩
def lex_hex (c : Int) : (Option ((Int × Unit) × Unit)) :=
  if (decide ((48 : Int) ≤ c)) = true then
    if (decide (c ≤ 57)) = true then
      some ((IntKind.i64.wrap (IntKind.u8.wrap (c - 48)), ()), ())
    else
      if (decide ((97 : Int) ≤ c)) = true then
        if (decide (c ≤ 102)) = true then
          some ((IntKind.i64.wrap ((IntKind.i64.wrap (IntKind.u8.wrap (c - 97))) + 10), ()), ())
        else
          some (((-1), ()), ())
      else
        some (((-1), ()), ())
  else
    if (decide ((97 : Int) ≤ c)) = true then
      if (decide (c ≤ 102)) = true then
        some ((IntKind.i64.wrap ((IntKind.i64.wrap (IntKind.u8.wrap (c - 97))) + 10), ()), ())
      else
        some (((-1), ()), ())
    else
      some (((-1), ()), ())
def fc127 : FC := ⟨⟨[.one (.int .u8)], []⟩, ⟨[.one (.int .i64)], []⟩, fun x => lex_hex x.1.1⟩
theorem con127 : Contract Tryz.prog 127 fc127 :=
  lex_hex_D.contract tok (cok_of (l := []) trivial) mixed (fn' := Tryz.f127) (by kernel_rfl) (by kernel_rfl) rfl (by kernel_rfl) (fun x => (FD.fn_eq _ _).trans (by kernel_rfl))
end
end Go.Proofs.YtejehchbflmofaaGreatDoor
end

section
/-
YtejehchbflmofaaGreatDoor: signalbench.lex.Number, as one plain function, its equations, its contract. No condition.
-/
set_option maxRecDepth 100000
set_option linter.unusedVariables false
set_option maxHeartbeats 4000000
open Go Go.AM
namespace Go.Proofs.YtejehchbflmofaaGreatDoor
noncomputable section
def lex_Number_F2 : FSh := ⟨[(0, .one .str), (4, .one .bool)], []⟩
def lex_Number_F5 : FSh := ⟨[(0, .one .str), (4, .one .bool), (5, .one (.int .i64))], []⟩
def lex_Number_F13 : FSh := ⟨[(0, .one .str), (4, .one .bool), (5, .one (.int .i64)), (6, .one (.int .i64)), (34, .one (.int .i64)), (35, .one (.int .i64))], []⟩
def lex_Number_D : FD := ⟨T, lookC [(126, fc126), (127, fc127)], [5, 2], (Tryz.f100.body.getD .skip), Tryz.f100.results.toList, ⟨[.one .str], []⟩, ⟨[.one (.int .i64), .one (.int .i64)], []⟩, [(2, lex_Number_F2), (5, lex_Number_F5), (13, lex_Number_F13)]⟩
def lex_Number_l2 (s : ByteArray) (minus : Bool) : (Option ((Int × Int × Unit) × Unit)) := lex_Number_D.lab 2 lex_Number_F2 ((s, minus, ()), ())
def lex_Number_l5 (s : ByteArray) (minus : Bool) (base : Int) : (Option ((Int × Int × Unit) × Unit)) := lex_Number_D.lab 5 lex_Number_F5 ((s, minus, base, ()), ())
def lex_Number_l13 (s : ByteArray) (minus : Bool) (base : Int) (n : Int) (t34 : Int) (t35 : Int) : (Option ((Int × Int × Unit) × Unit)) := lex_Number_D.lab 13 lex_Number_F13 ((s, minus, base, n, t34, t35, ()), ())
theorem lex_Number_l2_eq (s : ByteArray) (minus : Bool) : lex_Number_l2 s minus =
  (strings_HasPrefix s (strB [48, 120])).bind fun y1 =>
    if y1.1.1 = true then
      if 0 ≤ (2 : Int) ∧ 2 ≤ (s.size : Int) then
        lex_Number_l5 (s.extract 2 s.size) minus 16
      else
        none
    else
      lex_Number_l5 s minus 10 := (FD.lab_eq _ _ _ _).trans (by kernel_rfl)
theorem lex_Number_l5_eq (s : ByteArray) (minus : Bool) (base : Int) : lex_Number_l5 s minus base =
  if (s.toList == (strB []).toList) = true then
    some ((0, 4, ()), ())
  else
    if 0 ≤ (0 : Int) ∧ 0 < (s.size : Int) then
      if ((bt s 0) == 48) = true then
        if minus = true then
          some ((0, 4, ()), ())
        else
          if (decide ((s.size : Int) > 1)) = true then
            some ((0, 4, ()), ())
          else
            lex_Number_l13 s minus base 0 (s.size : Int) 0
      else
        lex_Number_l13 s minus base 0 (s.size : Int) 0
    else
      none := (FD.lab_eq _ _ _ _).trans (by kernel_rfl)
theorem lex_Number_l13_eq (s : ByteArray) (minus : Bool) (base : Int) (n : Int) (t34 : Int) (t35 : Int) : lex_Number_l13 s minus base n t34 t35 =
  if (decide (t35 < t34)) = true then
    if 0 ≤ t35 ∧ t35 < (s.size : Int) then
      (lex_hex (bt s t35)).bind fun y1 =>
        if (decide (y1.1.1 < 0)) = true then
          some ((0, 4, ()), ())
        else
          if (decide (y1.1.1 ≥ base)) = true then
            some ((0, 4, ()), ())
          else
            lex_Number_l13 s minus base (if (9007199254740993 : Int) < IntKind.i64.wrap ((IntKind.i64.wrap (base * n)) + y1.1.1) then 9007199254740993 else IntKind.i64.wrap ((IntKind.i64.wrap (base * n)) + y1.1.1)) t34 (IntKind.i64.wrap (t35 + 1))
    else
      none
  else
    if (decide (n > 9007199254740992)) = true then
      some ((0, 2, ()), ())
    else
      if minus = true then
        some ((IntKind.i64.wrap (0 - n), 0, ()), ())
      else
        some ((n, 0, ()), ()) := (FD.lab_eq _ _ _ _).trans (by kernel_rfl)
def lex_Number (s : ByteArray) : (Option ((Int × Int × Unit) × Unit)) :=
  (strings_HasPrefix s (strB [45])).bind fun y1 =>
    if y1.1.1 = true then
      if 0 ≤ (1 : Int) ∧ 1 ≤ (s.size : Int) then
        lex_Number_l2 (s.extract 1 s.size) y1.1.1
      else
        none
    else
      lex_Number_l2 s y1.1.1
def fc100 : FC := ⟨⟨[.one .str], []⟩, ⟨[.one (.int .i64), .one (.int .i64)], []⟩, fun x => lex_Number x.1.1⟩
theorem con100 : Contract Tryz.prog 100 fc100 :=
  lex_Number_D.contract tok (cok_of (l := [(126, fc126), (127, fc127)]) ⟨con126, con127, trivial⟩) mixed (fn' := Tryz.f100) (by kernel_rfl) (by kernel_rfl) rfl (by kernel_rfl) (fun x => (FD.fn_eq _ _).trans (by kernel_rfl))
end
end Go.Proofs.YtejehchbflmofaaGreatDoor
end

section
/-
YtejehchbflmofaaGreatDoor: signalbench.lex.plain, as one plain function, its equations, its contract. No condition.
-/
set_option maxRecDepth 100000
set_option linter.unusedVariables false
set_option maxHeartbeats 4000000
open Go Go.AM
namespace Go.Proofs.YtejehchbflmofaaGreatDoor
noncomputable section
def lex_plain_D : FD := ⟨T, lookC [], [], (Tryz.f128.body.getD .skip), Tryz.f128.results.toList, ⟨[.one (.int .i32)], []⟩, ⟨[.one .bool], []⟩, []⟩
def lex_plain (c : Int) : (Option ((Bool × Unit) × Unit)) :=
  if (decide ((32 : Int) ≤ c)) = true then
    if (decide (c ≤ 126)) = true then
      if (c != 34) = true then
        some ((c != 92, ()), ())
      else
        some ((false, ()), ())
    else
      some ((false, ()), ())
  else
    some ((false, ()), ())
def fc128 : FC := ⟨⟨[.one (.int .i32)], []⟩, ⟨[.one .bool], []⟩, fun x => lex_plain x.1.1⟩
theorem con128 : Contract Tryz.prog 128 fc128 :=
  lex_plain_D.contract tok (cok_of (l := []) trivial) mixed (fn' := Tryz.f128) (by kernel_rfl) (by kernel_rfl) rfl (by kernel_rfl) (fun x => (FD.fn_eq _ _).trans (by kernel_rfl))
end
end Go.Proofs.YtejehchbflmofaaGreatDoor
end

section
/-
YtejehchbflmofaaGreatDoor: strings.Builder's copyCheck and String, by walks; their contracts. No condition.
-/
open Go Go.AM Go.RowKit
set_option maxRecDepth 1000000
namespace Go.Proofs.YtejehchbflmofaaGreatDoor
section
variable [Inhabited ZMem]

theorem cc_used (b : Nat) (w : World) (h0 : w.cell? ⟨b, 0, none⟩ = some (.pointer (some ⟨b, 0, none⟩))) :
    Calls Tryz.prog 103 #[.pointer (some ⟨b, 0, none⟩)] w fun e w' => e = .returned (.tuple #[]) ∧ w' = w := by
  obtain ⟨j, hj, _⟩ := Option.map_eq_some_iff.1 (show (Tryz.prog.info? 97).map (·.size) = some 2 by kernel_rfl)
  go_enter Tryz.func103, Tryz.ntmps103
  go_wp2
  rw [Lib.run_neq_ptr_same w _ Tryz.underlying94 hj]
  go_wp2
  go_end0
  exact ⟨rfl, rfl⟩

theorem cc_fresh (b : Nat) (w : World) (h0 : w.cell? ⟨b, 0, none⟩ = some (.pointer none)) (hsh : w.shape? b = some (97, 2)) (hfz : w.frozen? ⟨b, 0, none⟩ = false) :
    Calls Tryz.prog 103 #[.pointer (some ⟨b, 0, none⟩)] w fun e w' => e = .returned (.tuple #[]) ∧ w' = w.setCell ⟨b, 0, none⟩ (.pointer (some ⟨b, 0, none⟩)) := by
  obtain ⟨j, hj, hjs⟩ := Option.map_eq_some_iff.1 (show (Tryz.prog.info? 97).map (·.size) = some 2 by kernel_rfl)
  go_enter Tryz.func103, Tryz.ntmps103
  go_wp2
  rw [Lib.run_to_unsafe w ⟨b, 0, none⟩ Tryz.underlying94 Tryz.underlying145 hj (by rw [hjs]; decide) hsh (Nat.zero_lt_succ 1)]
  simp only [Result.andThen]
  rw [Oper.upon_value]
  go_wp2
  rw [run_callFunc_extern Tryz.func129 (by kernel_rfl) (by kernel_rfl) (by kernel_rfl) (e := Extern.AbiNoEscape.same) (by kernel_rfl)]
  rw [Lib.run_noEscape]
  simp only [Result.andThen]
  rw [Oper.upon_value]
  go_wp2
  rw [Lib.run_from_unsafe w ⟨b, 0, none⟩ Tryz.underlying145 Tryz.underlying94 hj hsh (show liesAt Tryz.prog Tryz.prog.depth 97 (2 / Tryz.prog.cellsOf 97) 0 97 1 = true by kernel_rfl)]
  simp only [Result.andThen]
  rw [Oper.upon_value]
  go_wp2
  go_end0
  exact ⟨rfl, rfl⟩

theorem st_row (b g p cap : Nat) (w : World) (cs cur : Array Value) (l : List UInt8) (h0 : l ≠ []) (hbk : w.heap[b]? = some (.cells cs 97 (0, 0))) (hc1 : cs[1]? = some (.slice (some ⟨g, p, none⟩) l.length cap))
    (hg : w.heap[g]? = some (.cells cur 5 (0, 0))) (hn : l.length ≤ cap) (hcap : p + cap ≤ cur.size) (hm : cap ≤ maxLen)
    (hcell : ∀ j x, l[j]? = some x → w.cell? ((⟨g, p, none⟩ : Addr).add j) = some (.int .u8 x.toNat)) :
    Calls Tryz.prog 65 #[.pointer (some ⟨b, 0, none⟩)] w fun e w' => e = .returned (.string ⟨l.toArray⟩) ∧ w' = w.drew.freeze ⟨g, p, none⟩ l.length := by
  have hl0 : l.length ≠ 0 := by simpa using h0
  have c1 : w.drew.cell? ⟨b, 1, none⟩ = some (.slice (some ⟨g, p, none⟩) l.length cap) := by
    have : w.drew.heap[b]? = some (.cells cs 97 (0, 0)) := hbk
    rw [Lib.cell_of_heap this]; exact hc1
  have hSD : (Builtin.unsafeSliceData_ #[95] 134 #[.slice (some ⟨g, p, none⟩) l.length cap]).run Tryz.prog w.drew = .ok (.pointer (some ⟨g, p, none⟩)) w.drew :=
    Lib.run_unsafeSliceData_row _ _ _ _ _ _ (by omega)
  have hUS : (Builtin.unsafeString_ #[134, 3] 9 #[.pointer (some ⟨g, p, none⟩), .int .i64 l.length]).run Tryz.prog w.drew = .ok (.string ⟨l.toArray⟩) (w.drew.freeze ⟨g, p, none⟩ l.length) :=
    run_unsafeString_at w.drew 134 3 9 5 Tryz.underlying134 (by kernel_rfl) g p cur.size (by have hg' : w.drew.heap[g]? = some (.cells cur 5 (0, 0)) := hg; simp [World.shape?, hg']) l h0 (by omega) (by unfold maxLen at hm; omega) hcell
  clear hl0 hn hcap hm hcell
  go_enter Tryz.func65, Tryz.ntmps65
  go_wp2
  go_region
  all_goals (go_wp2; go_ret; exact ⟨rfl, rfl⟩)

theorem st_nil (b : Nat) (w : World) (cs : Array Value) (hbk : w.heap[b]? = some (.cells cs 97 (0, 0))) (hc1 : cs[1]? = some (.slice none 0 0)) :
    Calls Tryz.prog 65 #[.pointer (some ⟨b, 0, none⟩)] w fun e w' => e = .returned (.string .empty) ∧ w' = w.drew := by
  have hUS := Lib.run_unsafeString_none (P := Tryz.prog) w.drew 134 3 9 none
  have c1 : w.drew.cell? ⟨b, 1, none⟩ = some (.slice none 0 0) := by
    have : w.drew.heap[b]? = some (.cells cs 97 (0, 0)) := hbk
    rw [Lib.cell_of_heap this]; exact hc1
  have hSD : (Builtin.unsafeSliceData_ #[95] 134 #[.slice none 0 0]).run Tryz.prog w.drew = .ok (.pointer none) w.drew := rfl
  go_enter Tryz.func65, Tryz.ntmps65
  go_wp2
  go_region
  all_goals (go_wp2; go_ret; exact ⟨rfl, rfl⟩)

theorem st_room (b g p cap : Nat) (hcap : cap ≠ 0) (w : World) (cs : Array Value) (hbk : w.heap[b]? = some (.cells cs 97 (0, 0))) (hc1 : cs[1]? = some (.slice (some ⟨g, p, none⟩) 0 cap)) :
    Calls Tryz.prog 65 #[.pointer (some ⟨b, 0, none⟩)] w fun e w' => e = .returned (.string .empty) ∧ w' = w.drew := by
  have hUS := Lib.run_unsafeString_none (P := Tryz.prog) w.drew 134 3 9 (some ⟨g, p, none⟩)
  have c1 : w.drew.cell? ⟨b, 1, none⟩ = some (.slice (some ⟨g, p, none⟩) 0 cap) := by
    have : w.drew.heap[b]? = some (.cells cs 97 (0, 0)) := hbk
    rw [Lib.cell_of_heap this]; exact hc1
  have hSD : (Builtin.unsafeSliceData_ #[95] 134 #[.slice (some ⟨g, p, none⟩) 0 cap]).run Tryz.prog w.drew = .ok (.pointer (some ⟨g, p, none⟩)) w.drew :=
    Lib.run_unsafeSliceData_row _ _ _ _ _ _ hcap
  clear hcap
  go_enter Tryz.func65, Tryz.ntmps65
  go_wp2
  go_region
  all_goals (go_wp2; go_ret; exact ⟨rfl, rfl⟩)

theorem st_noroom (b g p : Nat) (w : World) (cs cur : Array Value) (hbk : w.heap[b]? = some (.cells cs 97 (0, 0))) (hc1 : cs[1]? = some (.slice (some ⟨g, p, none⟩) 0 0))
    (hg : w.heap[g]? = some (.cells cur 5 (0, 0))) :
    Calls Tryz.prog 65 #[.pointer (some ⟨b, 0, none⟩)] w fun e w' => e = .returned (.string .empty) ∧ w' = w.drew.alloc (.view ⟨g, p, none⟩ 5) := by
  have hlt : b < w.heap.size := by
    rcases Nat.lt_or_ge b w.heap.size with h' | h'
    · exact h'
    · simp [Array.getElem?_eq_none h'] at hbk
  have hUS := Lib.run_unsafeString_none (P := Tryz.prog) (w.drew.alloc (.view ⟨g, p, none⟩ 5)) 134 3 9 (some ⟨w.drew.heap.size, 0, none⟩)
  have hUS2 : (Builtin.unsafeString_ #[134, 3] 9 #[.pointer (some ⟨w.heap.size, 0, none⟩), .int .i64 0]).run Tryz.prog (w.alloc (.view ⟨g, p, none⟩ 5)).drew = .ok (.string .empty) (w.alloc (.view ⟨g, p, none⟩ 5)).drew := Lib.run_unsafeString_none _ 134 3 9 _
  have c1 : w.drew.cell? ⟨b, 1, none⟩ = some (.slice (some ⟨g, p, none⟩) 0 0) := by
    have : w.drew.heap[b]? = some (.cells cs 97 (0, 0)) := hbk
    rw [Lib.cell_of_heap this]; exact hc1
  have hSD : (Builtin.unsafeSliceData_ #[95] 134 #[.slice (some ⟨g, p, none⟩) 0 0]).run Tryz.prog w.drew = .ok (.pointer (some ⟨w.drew.heap.size, 0, none⟩)) (w.drew.alloc (.view ⟨g, p, none⟩ 5)) :=
    Lib.run_unsafeSliceData_zero w.drew _ _ 5 Tryz.underlying134 ⟨g, p, none⟩ 0 (5, cur.size) (by have hg' : w.drew.heap[g]? = some (.cells cur 5 (0, 0)) := hg; simp [World.shape?, hg'])
  have c2 : (w.drew.alloc (.view ⟨g, p, none⟩ 5)).cell? ⟨b, 1, none⟩ = some (.slice (some ⟨g, p, none⟩) 0 0) := by
    have : (w.drew.alloc (.view ⟨g, p, none⟩ 5)).heap[b]? = _ := (Lib.alloc_old w.drew _ b hlt).trans hbk
    rw [Lib.cell_of_heap this]; exact hc1
  have c3 : (w.alloc (.view ⟨g, p, none⟩ 5)).drew.cell? ⟨b, 1, none⟩ = some (.slice (some ⟨g, p, none⟩) 0 0) := c2
  have c0 : w.cell? ⟨b, 1, none⟩ = some (.slice (some ⟨g, p, none⟩) 0 0) := c1
  go_enter Tryz.func65, Tryz.ntmps65
  go_wp2
  go_region
  all_goals (go_wp2; go_ret; exact ⟨rfl, rfl⟩)

def strings_Builder_copyCheck (l : List Int) : Option (Unit × ((Unit × Unit × Unit) × List Int × Unit)) := some ((), (((), (), ()), l, ()))
def fc103 : FC := ⟨⟨[.one (.ptr 0 0)], bShape 97 5⟩, ⟨[], bShape 97 5⟩, fun x => strings_Builder_copyCheck x.2.2.1⟩
theorem con103 : Contract Tryz.prog 103 fc103 :=
  Contract.copyCheck (fn := Tryz.f103) (c := Tryz.f103.body.getD .skip) Tryz.func103 (by kernel_rfl) (by kernel_rfl) (fun b w h => cc_used b w h) (fun b w h h' h'' => cc_fresh b w h h' h'')

def strings_Builder_String (l : List Int) : Option ((ByteArray × Unit) × (Unit × Unit × Unit)) := if byteL l = true then some ((strOfBytes l, ()), ((), (), ())) else none
def fc65 : FC := ⟨⟨[.one (.ptr 0 0)], bShape 97 5⟩, ⟨[.one .str], [.dead, .dead]⟩, fun x => strings_Builder_String x.2.2.1⟩
theorem con65 : Contract Tryz.prog 65 fc65 :=
  Contract.bString (fn := Tryz.f65) (c := Tryz.f65.body.getD .skip) Tryz.func65 (by kernel_rfl) (by kernel_rfl) (fun b w cs h h' => st_nil b w cs h h') (fun b g p cap hc w cs h h' => st_room b g p cap hc w cs h h')
    (fun b g p w cs cur h h' h'' => st_noroom b g p w cs cur h h' h'') (fun b g p cap w cs cur l h1 h2 h3 h4 h5 h6 h7 h8 => st_row b g p cap w cs cur l h1 h2 h3 h4 h5 h6 h7 h8)

end
end Go.Proofs.YtejehchbflmofaaGreatDoor
end

section
/-
YtejehchbflmofaaGreatDoor: (*strings.Builder).WriteByte, as one plain function, its equations, its contract. No condition.
-/
set_option maxRecDepth 100000
set_option linter.unusedVariables false
set_option maxHeartbeats 4000000
open Go Go.AM
namespace Go.Proofs.YtejehchbflmofaaGreatDoor
noncomputable section
def strings_Builder_WriteByte_D : FD := ⟨T, lookC [(103, fc103)], [], (Tryz.f62.body.getD .skip), Tryz.f62.results.toList, ⟨[.one (.ptr 0 0), .one (.int .u8)], [.box 97 [(.oself 0), (.own 1)], .arr 5 (.int .u8) true]⟩, ⟨[.one .junk], [.box 97 [(.oself 0), (.own 2)], .dead, .arr 5 (.int .u8) true]⟩, []⟩
def strings_Builder_WriteByte (c : Int) (l1 : (List Int)) : (Option ((Unit × Unit) × ((Unit × Unit × Unit) × Unit × (List Int) × Unit))) :=
  (strings_Builder_copyCheck l1).bind fun y1 =>
    if (y1.2.2.1.length + 1) * 1 ≤ 140737488355328 ∧ 0 < 1 then
      some (((), ()), (((), (), ()), (), y1.2.2.1 ++ [c], ()))
    else
      none
def fc62 : FC := ⟨⟨[.one (.ptr 0 0), .one (.int .u8)], [.box 97 [(.oself 0), (.own 1)], .arr 5 (.int .u8) true]⟩, ⟨[.one .junk], [.box 97 [(.oself 0), (.own 2)], .dead, .arr 5 (.int .u8) true]⟩, fun x => strings_Builder_WriteByte x.1.2.1 x.2.2.1⟩
theorem con62 : Contract Tryz.prog 62 fc62 :=
  strings_Builder_WriteByte_D.contract tok (cok_of (l := [(103, fc103)]) ⟨con103, trivial⟩) mixed (fn' := Tryz.f62) (by kernel_rfl) (by kernel_rfl) rfl (by kernel_rfl) (fun x => (FD.fn_eq _ _).trans (by kernel_rfl))
end
end Go.Proofs.YtejehchbflmofaaGreatDoor
end

section
/-
YtejehchbflmofaaGreatDoor: (*strings.Builder).WriteString, as one plain function, its equations, its contract. No condition.
-/
set_option maxRecDepth 100000
set_option linter.unusedVariables false
set_option maxHeartbeats 4000000
open Go Go.AM
namespace Go.Proofs.YtejehchbflmofaaGreatDoor
noncomputable section
def strings_Builder_WriteString_D : FD := ⟨T, lookC [(103, fc103)], [], (Tryz.f63.body.getD .skip), Tryz.f63.results.toList, ⟨[.one (.ptr 0 0), .one .str], [.box 97 [(.oself 0), (.own 1)], .arr 5 (.int .u8) true]⟩, ⟨[.one (.int .i64), .one .junk], [.box 97 [(.oself 0), (.own 2)], .dead, .arr 5 (.int .u8) true]⟩, []⟩
def strings_Builder_WriteString (s : ByteArray) (l1 : (List Int)) : (Option ((Int × Unit × Unit) × ((Unit × Unit × Unit) × Unit × (List Int) × Unit))) :=
  (strings_Builder_copyCheck l1).bind fun y1 =>
    if (y1.2.2.1.length + (bytesOfStr s).length) * 1 ≤ 140737488355328 ∧ 0 < 1 then
      some (((s.size : Int), (), ()), (((), (), ()), (), y1.2.2.1 ++ (bytesOfStr s), ()))
    else
      none
def fc63 : FC := ⟨⟨[.one (.ptr 0 0), .one .str], [.box 97 [(.oself 0), (.own 1)], .arr 5 (.int .u8) true]⟩, ⟨[.one (.int .i64), .one .junk], [.box 97 [(.oself 0), (.own 2)], .dead, .arr 5 (.int .u8) true]⟩, fun x => strings_Builder_WriteString x.1.2.1 x.2.2.1⟩
theorem con63 : Contract Tryz.prog 63 fc63 :=
  strings_Builder_WriteString_D.contract tok (cok_of (l := [(103, fc103)]) ⟨con103, trivial⟩) mixed (fn' := Tryz.f63) (by kernel_rfl) (by kernel_rfl) rfl (by kernel_rfl) (fun x => (FD.fn_eq _ _).trans (by kernel_rfl))
end
end Go.Proofs.YtejehchbflmofaaGreatDoor
end

section
/-
YtejehchbflmofaaGreatDoor: signalbench.lex.Quote, as one plain function, its equations, its contract. No condition.
-/
set_option maxRecDepth 100000
set_option linter.unusedVariables false
set_option maxHeartbeats 4000000
open Go Go.AM
namespace Go.Proofs.YtejehchbflmofaaGreatDoor
noncomputable section
def lex_Quote_F5 : FSh := ⟨[(0, .one .str), (3, .one (.ptr 0 0)), (8, .one (.int .i64)), (9, .one (.int .i64))], [.box 97 [(.oself 0), (.own 1)], .arr 5 (.int .u8) true]⟩
def lex_Quote_D : FD := ⟨T, lookC [(62, fc62), (63, fc63), (65, fc65), (128, fc128)], [], (Tryz.f101.body.getD .skip), Tryz.f101.results.toList, ⟨[.one .str], []⟩, ⟨[.one .str], []⟩, [(5, lex_Quote_F5)]⟩
def lex_Quote_l5 (s : ByteArray) (t8 : Int) (t9 : Int) (l1 : (List Int)) : (Option ((ByteArray × Unit) × Unit)) := lex_Quote_D.lab 5 lex_Quote_F5 ((s, (), t8, t9, ()), (((), (), ()), l1, ()))
theorem lex_Quote_l5_eq (s : ByteArray) (t8 : Int) (t9 : Int) (l1 : (List Int)) : lex_Quote_l5 s t8 t9 l1 =
  if (decide (t9 < t8)) = true then
    if 0 ≤ t9 ∧ t9 < (s.size : Int) then
      (lex_plain (IntKind.i32.wrap (bt s t9))).bind fun y1 =>
        if y1.1.1 = true then
          (strings_Builder_WriteByte (bt s t9) l1).bind fun y2 =>
            lex_Quote_l5 s t8 (IntKind.i64.wrap (t9 + 1)) y2.2.2.2.1
        else
          if ((bt s t9) == 34) = true then
            (strings_Builder_WriteByte 92 l1).bind fun y3 =>
              (strings_Builder_WriteByte (bt s t9) y3.2.2.2.1).bind fun y4 =>
                lex_Quote_l5 s t8 (IntKind.i64.wrap (t9 + 1)) y4.2.2.2.1
          else
            if ((bt s t9) == 92) = true then
              (strings_Builder_WriteByte 92 l1).bind fun y5 =>
                (strings_Builder_WriteByte (bt s t9) y5.2.2.2.1).bind fun y6 =>
                  lex_Quote_l5 s t8 (IntKind.i64.wrap (t9 + 1)) y6.2.2.2.1
            else
              if ((bt s t9) == 10) = true then
                (strings_Builder_WriteString (strB [92, 110]) l1).bind fun y7 =>
                  lex_Quote_l5 s t8 (IntKind.i64.wrap (t9 + 1)) y7.2.2.2.1
              else
                (strings_Builder_WriteString (strB [92, 120]) l1).bind fun y8 =>
                  if 0 ≤ (bt s t9).fdiv 16 ∧ (bt s t9).fdiv 16 < ((strB [48, 49, 50, 51, 52, 53, 54, 55, 56, 57, 97, 98, 99, 100, 101, 102]).size : Int) then
                    (strings_Builder_WriteByte (bt (strB [48, 49, 50, 51, 52, 53, 54, 55, 56, 57, 97, 98, 99, 100, 101, 102]) ((bt s t9).fdiv 16)) y8.2.2.2.1).bind fun y9 =>
                      if 0 ≤ IntKind.u8.wrap (BitVec.ofInt 8 (bt s t9) &&& BitVec.ofInt 8 15).toNat ∧ IntKind.u8.wrap (BitVec.ofInt 8 (bt s t9) &&& BitVec.ofInt 8 15).toNat < ((strB [48, 49, 50, 51, 52, 53, 54, 55, 56, 57, 97, 98, 99, 100, 101, 102]).size : Int) then
                        (strings_Builder_WriteByte (bt (strB [48, 49, 50, 51, 52, 53, 54, 55, 56, 57, 97, 98, 99, 100, 101, 102]) (IntKind.u8.wrap (BitVec.ofInt 8 (bt s t9) &&& BitVec.ofInt 8 15).toNat)) y9.2.2.2.1).bind fun y10 =>
                          lex_Quote_l5 s t8 (IntKind.i64.wrap (t9 + 1)) y10.2.2.2.1
                      else
                        none
                  else
                    none
    else
      none
  else
    (strings_Builder_WriteByte 34 l1).bind fun y11 =>
      (strings_Builder_String y11.2.2.2.1).bind fun y12 =>
        some ((y12.1.1, ()), ()) := (FD.lab_eq _ _ _ _).trans (by kernel_rfl)
def lex_Quote (s : ByteArray) : (Option ((ByteArray × Unit) × Unit)) :=
  (strings_Builder_WriteByte 34 []).bind fun y1 =>
    lex_Quote_l5 s (s.size : Int) 0 y1.2.2.2.1
def fc101 : FC := ⟨⟨[.one .str], []⟩, ⟨[.one .str], []⟩, fun x => lex_Quote x.1.1⟩
theorem con101 : Contract Tryz.prog 101 fc101 :=
  lex_Quote_D.contract tok (cok_of (l := [(62, fc62), (63, fc63), (65, fc65), (128, fc128)]) ⟨con62, con63, con65, con128, trivial⟩) mixed (fn' := Tryz.f101) (by kernel_rfl) (by kernel_rfl) rfl (by kernel_rfl) (fun x => (FD.fn_eq _ _).trans (by kernel_rfl))
end
end Go.Proofs.YtejehchbflmofaaGreatDoor
end

section
/-
YtejehchbflmofaaGreatDoor: signalbench.lex.mark, as one plain function, its equations, its contract. No condition.
-/
set_option maxRecDepth 100000
set_option linter.unusedVariables false
set_option maxHeartbeats 4000000
open Go Go.AM
namespace Go.Proofs.YtejehchbflmofaaGreatDoor
noncomputable section
def lex_mark_D : FD := ⟨T, lookC [], [], (Tryz.f102.body.getD .skip), Tryz.f102.results.toList, ⟨[.one (.int .i32)], []⟩, ⟨[.one .bool], []⟩, []⟩
def lex_mark (c : Int) : (Option ((Bool × Unit) × Unit)) :=
  if (c == 40) = true then
    some ((true, ()), ())
  else
    if (c == 41) = true then
      some ((true, ()), ())
    else
      if (c == 91) = true then
        some ((true, ()), ())
      else
        if (c == 93) = true then
          some ((true, ()), ())
        else
          if (c == 123) = true then
            some ((true, ()), ())
          else
            if (c == 125) = true then
              some ((true, ()), ())
            else
              if (c == 60) = true then
                some ((true, ()), ())
              else
                if (c == 62) = true then
                  some ((true, ()), ())
                else
                  if (c == 61) = true then
                    some ((true, ()), ())
                  else
                    if (c == 44) = true then
                      some ((true, ()), ())
                    else
                      if (c == 59) = true then
                        some ((true, ()), ())
                      else
                        if (c == 58) = true then
                          some ((true, ()), ())
                        else
                          if (c == 46) = true then
                            some ((true, ()), ())
                          else
                            if (c == 47) = true then
                              some ((true, ()), ())
                            else
                              if (c == 42) = true then
                                some ((true, ()), ())
                              else
                                if (c == 43) = true then
                                  some ((true, ()), ())
                                else
                                  if (c == 33) = true then
                                    some ((true, ()), ())
                                  else
                                    if (c == 38) = true then
                                      some ((true, ()), ())
                                    else
                                      if (c == 124) = true then
                                        some ((true, ()), ())
                                      else
                                        some ((false, ()), ())
def fc102 : FC := ⟨⟨[.one (.int .i32)], []⟩, ⟨[.one .bool], []⟩, fun x => lex_mark x.1.1⟩
theorem con102 : Contract Tryz.prog 102 fc102 :=
  lex_mark_D.contract tok (cok_of (l := []) trivial) mixed (fn' := Tryz.f102) (by kernel_rfl) (by kernel_rfl) rfl (by kernel_rfl) (fun x => (FD.fn_eq _ _).trans (by kernel_rfl))
end
end Go.Proofs.YtejehchbflmofaaGreatDoor
end

section
/-
YtejehchbflmofaaGreatDoor: signalbench.signalbenchref05.letter, as one plain function, its equations, its contract. No condition.
-/
set_option maxRecDepth 100000
set_option linter.unusedVariables false
set_option maxHeartbeats 4000000
open Go Go.AM
namespace Go.Proofs.YtejehchbflmofaaGreatDoor
noncomputable section
def ref05_letter_D : FD := ⟨T, lookC [], [], (Tryz.f104.body.getD .skip), Tryz.f104.results.toList, ⟨[.one (.int .u8)], []⟩, ⟨[.one .bool], []⟩, []⟩
def ref05_letter (c : Int) : (Option ((Bool × Unit) × Unit)) :=
  if (decide (c ≥ 97)) = true then
    some ((decide (c ≤ 122), ()), ())
  else
    some ((false, ()), ())
def fc104 : FC := ⟨⟨[.one (.int .u8)], []⟩, ⟨[.one .bool], []⟩, fun x => ref05_letter x.1.1⟩
theorem con104 : Contract Tryz.prog 104 fc104 :=
  ref05_letter_D.contract tok (cok_of (l := []) trivial) mixed (fn' := Tryz.f104) (by kernel_rfl) (by kernel_rfl) rfl (by kernel_rfl) (fun x => (FD.fn_eq _ _).trans (by kernel_rfl))
end
end Go.Proofs.YtejehchbflmofaaGreatDoor
end

section
/-
YtejehchbflmofaaGreatDoor: signalbench.signalbenchref05.digit, as one plain function, its equations, its contract. No condition.
-/
set_option maxRecDepth 100000
set_option linter.unusedVariables false
set_option maxHeartbeats 4000000
open Go Go.AM
namespace Go.Proofs.YtejehchbflmofaaGreatDoor
noncomputable section
def ref05_digit_D : FD := ⟨T, lookC [], [], (Tryz.f116.body.getD .skip), Tryz.f116.results.toList, ⟨[.one (.int .u8)], []⟩, ⟨[.one .bool], []⟩, []⟩
def ref05_digit (c : Int) : (Option ((Bool × Unit) × Unit)) :=
  if (decide (c ≥ 48)) = true then
    some ((decide (c ≤ 57), ()), ())
  else
    some ((false, ()), ())
def fc116 : FC := ⟨⟨[.one (.int .u8)], []⟩, ⟨[.one .bool], []⟩, fun x => ref05_digit x.1.1⟩
theorem con116 : Contract Tryz.prog 116 fc116 :=
  ref05_digit_D.contract tok (cok_of (l := []) trivial) mixed (fn' := Tryz.f116) (by kernel_rfl) (by kernel_rfl) rfl (by kernel_rfl) (fun x => (FD.fn_eq _ _).trans (by kernel_rfl))
end
end Go.Proofs.YtejehchbflmofaaGreatDoor
end

section
/-
YtejehchbflmofaaGreatDoor: signalbench.signalbenchref05.inner, as one plain function, its equations, its contract. No condition.
-/
set_option maxRecDepth 100000
set_option linter.unusedVariables false
set_option maxHeartbeats 4000000
open Go Go.AM
namespace Go.Proofs.YtejehchbflmofaaGreatDoor
noncomputable section
def ref05_inner_D : FD := ⟨T, lookC [(104, fc104), (116, fc116)], [], (Tryz.f105.body.getD .skip), Tryz.f105.results.toList, ⟨[.one (.int .u8)], []⟩, ⟨[.one .bool], []⟩, []⟩
def ref05_inner (c : Int) : (Option ((Bool × Unit) × Unit)) :=
  (ref05_letter c).bind fun y1 =>
    if y1.1.1 = true then
      some ((true, ()), ())
    else
      (ref05_digit c).bind fun y2 =>
        if y2.1.1 = true then
          some ((true, ()), ())
        else
          some ((c == 95, ()), ())
def fc105 : FC := ⟨⟨[.one (.int .u8)], []⟩, ⟨[.one .bool], []⟩, fun x => ref05_inner x.1.1⟩
theorem con105 : Contract Tryz.prog 105 fc105 :=
  ref05_inner_D.contract tok (cok_of (l := [(104, fc104), (116, fc116)]) ⟨con104, con116, trivial⟩) mixed (fn' := Tryz.f105) (by kernel_rfl) (by kernel_rfl) rfl (by kernel_rfl) (fun x => (FD.fn_eq _ _).trans (by kernel_rfl))
end
end Go.Proofs.YtejehchbflmofaaGreatDoor
end

section
/-
YtejehchbflmofaaGreatDoor: signalbench.signalbenchref05.hexa, as one plain function, its equations, its contract. No condition.
-/
set_option maxRecDepth 100000
set_option linter.unusedVariables false
set_option maxHeartbeats 4000000
open Go Go.AM
namespace Go.Proofs.YtejehchbflmofaaGreatDoor
noncomputable section
def ref05_hexa_D : FD := ⟨T, lookC [(116, fc116)], [], (Tryz.f133.body.getD .skip), Tryz.f133.results.toList, ⟨[.one (.int .u8)], []⟩, ⟨[.one (.int .i64)], []⟩, []⟩
def ref05_hexa (c : Int) : (Option ((Int × Unit) × Unit)) :=
  (ref05_digit c).bind fun y1 =>
    if y1.1.1 = true then
      some ((IntKind.i64.wrap ((IntKind.i64.wrap c) - 48), ()), ())
    else
      if (decide (c ≥ 97)) = true then
        if (decide (c ≤ 102)) = true then
          some ((IntKind.i64.wrap ((IntKind.i64.wrap ((IntKind.i64.wrap c) - 97)) + 10), ()), ())
        else
          some (((-1), ()), ())
      else
        some (((-1), ()), ())
def fc133 : FC := ⟨⟨[.one (.int .u8)], []⟩, ⟨[.one (.int .i64)], []⟩, fun x => ref05_hexa x.1.1⟩
theorem con133 : Contract Tryz.prog 133 fc133 :=
  ref05_hexa_D.contract tok (cok_of (l := [(116, fc116)]) ⟨con116, trivial⟩) mixed (fn' := Tryz.f133) (by kernel_rfl) (by kernel_rfl) rfl (by kernel_rfl) (fun x => (FD.fn_eq _ _).trans (by kernel_rfl))
end
end Go.Proofs.YtejehchbflmofaaGreatDoor
end

section
/-
YtejehchbflmofaaGreatDoor: signalbench.signalbenchref05.plain, as one plain function, its equations, its contract. No condition.
-/
set_option maxRecDepth 100000
set_option linter.unusedVariables false
set_option maxHeartbeats 4000000
open Go Go.AM
namespace Go.Proofs.YtejehchbflmofaaGreatDoor
noncomputable section
def ref05_plain_F7 : FSh := ⟨[(0, .one .str), (1, .one (.int .i64)), (6, .one (.int .i64)), (7, .one (.int .i64))], []⟩
def ref05_plain_D : FD := ⟨T, lookC [(133, fc133)], [], (Tryz.f130.body.getD .skip), Tryz.f130.results.toList, ⟨[.one .str, .one (.int .i64)], []⟩, ⟨[.one (.int .i64), .one .bool], []⟩, [(7, ref05_plain_F7)]⟩
def ref05_plain_l7 (s : ByteArray) (base : Int) (n : Int) (i : Int) : (Option ((Int × Bool × Unit) × Unit)) := ref05_plain_D.lab 7 ref05_plain_F7 ((s, base, n, i, ()), ())
theorem ref05_plain_l7_eq (s : ByteArray) (base : Int) (n : Int) (i : Int) : ref05_plain_l7 s base n i =
  if (decide (i < (s.size : Int))) = true then
    if 0 ≤ i ∧ i < (s.size : Int) then
      (ref05_hexa (bt s i)).bind fun y1 =>
        if (decide (y1.1.1 < 0)) = true then
          some ((0, false, ()), ())
        else
          if (decide (y1.1.1 ≥ base)) = true then
            some ((0, false, ()), ())
          else
            if (decide ((IntKind.i64.wrap ((IntKind.i64.wrap (n * base)) + y1.1.1)) > 9007199254740992)) = true then
              ref05_plain_l7 s base 9007199254740993 (IntKind.i64.wrap (i + 1))
            else
              ref05_plain_l7 s base (IntKind.i64.wrap ((IntKind.i64.wrap (n * base)) + y1.1.1)) (IntKind.i64.wrap (i + 1))
    else
      none
  else
    some ((n, true, ()), ()) := (FD.lab_eq _ _ _ _).trans (by kernel_rfl)
def ref05_plain (s : ByteArray) (base : Int) : (Option ((Int × Bool × Unit) × Unit)) :=
  if ((s.size : Int) == 0) = true then
    some ((0, false, ()), ())
  else
    if (decide ((s.size : Int) > 1)) = true then
      if 0 ≤ (0 : Int) ∧ 0 < (s.size : Int) then
        if ((bt s 0) == 48) = true then
          some ((0, false, ()), ())
        else
          ref05_plain_l7 s base 0 0
      else
        none
    else
      ref05_plain_l7 s base 0 0
def fc130 : FC := ⟨⟨[.one .str, .one (.int .i64)], []⟩, ⟨[.one (.int .i64), .one .bool], []⟩, fun x => ref05_plain x.1.1 x.1.2.1⟩
theorem con130 : Contract Tryz.prog 130 fc130 :=
  ref05_plain_D.contract tok (cok_of (l := [(133, fc133)]) ⟨con133, trivial⟩) mixed (fn' := Tryz.f130) (by kernel_rfl) (by kernel_rfl) rfl (by kernel_rfl) (fun x => (FD.fn_eq _ _).trans (by kernel_rfl))
end
end Go.Proofs.YtejehchbflmofaaGreatDoor
end

section
/-
YtejehchbflmofaaGreatDoor: signalbench.signalbenchref05.Number, as one plain function, its equations, its contract. No condition.
-/
set_option maxRecDepth 100000
set_option linter.unusedVariables false
set_option maxHeartbeats 4000000
open Go Go.AM
namespace Go.Proofs.YtejehchbflmofaaGreatDoor
noncomputable section
def ref05_Number_F3 : FSh := ⟨[(4, .one .str), (5, .one (.int .i64))], []⟩
def ref05_Number_F7 : FSh := ⟨[(5, .one (.int .i64)), (6, .one (.int .i64)), (7, .one .bool)], []⟩
def ref05_Number_D : FD := ⟨T, lookC [(130, fc130)], [7, 3], (Tryz.f106.body.getD .skip), Tryz.f106.results.toList, ⟨[.one .str], []⟩, ⟨[.one (.int .i64), .one (.int .i64)], []⟩, [(3, ref05_Number_F3), (7, ref05_Number_F7)]⟩
def ref05_Number_l3 (body : ByteArray) (sign : Int) : (Option ((Int × Int × Unit) × Unit)) := ref05_Number_D.lab 3 ref05_Number_F3 ((body, sign, ()), ())
def ref05_Number_l7 (sign : Int) (n : Int) (ok : Bool) : (Option ((Int × Int × Unit) × Unit)) := ref05_Number_D.lab 7 ref05_Number_F7 ((sign, n, ok, ()), ())
theorem ref05_Number_l3_eq (body : ByteArray) (sign : Int) : ref05_Number_l3 body sign =
  if (decide ((body.size : Int) > 2)) = true then
    if 0 ≤ (0 : Int) ∧ (0 : Int) ≤ 2 ∧ 2 ≤ (body.size : Int) then
      if ((body.extract 0 2).toList == (strB [48, 120]).toList) = true then
        if 0 ≤ (2 : Int) ∧ 2 ≤ (body.size : Int) then
          (ref05_plain (body.extract 2 body.size) 16).bind fun y1 =>
            ref05_Number_l7 sign y1.1.1 y1.1.2.1
        else
          none
      else
        (ref05_plain body 10).bind fun y2 =>
          ref05_Number_l7 sign y2.1.1 y2.1.2.1
    else
      none
  else
    (ref05_plain body 10).bind fun y3 =>
      ref05_Number_l7 sign y3.1.1 y3.1.2.1 := (FD.lab_eq _ _ _ _).trans (by kernel_rfl)
theorem ref05_Number_l7_eq (sign : Int) (n : Int) (ok : Bool) : ref05_Number_l7 sign n ok =
  if (!ok) = true then
    some ((0, 4, ()), ())
  else
    if (decide (sign < 0)) = true then
      if (n == 0) = true then
        some ((0, 4, ()), ())
      else
        if (decide (n > 9007199254740992)) = true then
          some ((0, 2, ()), ())
        else
          some ((IntKind.i64.wrap (sign * n), 0, ()), ())
    else
      if (decide (n > 9007199254740992)) = true then
        some ((0, 2, ()), ())
      else
        some ((IntKind.i64.wrap (sign * n), 0, ()), ()) := (FD.lab_eq _ _ _ _).trans (by kernel_rfl)
def ref05_Number (s : ByteArray) : (Option ((Int × Int × Unit) × Unit)) :=
  if (decide ((s.size : Int) > 0)) = true then
    if 0 ≤ (0 : Int) ∧ 0 < (s.size : Int) then
      if ((bt s 0) == 45) = true then
        if 0 ≤ (1 : Int) ∧ 1 ≤ (s.size : Int) then
          ref05_Number_l3 (s.extract 1 s.size) (-1)
        else
          none
      else
        ref05_Number_l3 s 1
    else
      none
  else
    ref05_Number_l3 s 1
def fc106 : FC := ⟨⟨[.one .str], []⟩, ⟨[.one (.int .i64), .one (.int .i64)], []⟩, fun x => ref05_Number x.1.1⟩
theorem con106 : Contract Tryz.prog 106 fc106 :=
  ref05_Number_D.contract tok (cok_of (l := [(130, fc130)]) ⟨con130, trivial⟩) mixed (fn' := Tryz.f106) (by kernel_rfl) (by kernel_rfl) rfl (by kernel_rfl) (fun x => (FD.fn_eq _ _).trans (by kernel_rfl))
end
end Go.Proofs.YtejehchbflmofaaGreatDoor
end

section
/-
YtejehchbflmofaaGreatDoor: signalbench.signalbenchref05.Mark, as one plain function, its equations, its contract. No condition.
-/
set_option maxRecDepth 100000
set_option linter.unusedVariables false
set_option maxHeartbeats 4000000
open Go Go.AM
namespace Go.Proofs.YtejehchbflmofaaGreatDoor
noncomputable section
def ref05_Mark_F4 : FSh := ⟨[(0, .one (.int .u8)), (3, .one .str), (4, .one (.int .i64))], []⟩
def ref05_Mark_D : FD := ⟨T, lookC [], [], (Tryz.f107.body.getD .skip), Tryz.f107.results.toList, ⟨[.one (.int .u8)], []⟩, ⟨[.one .bool], []⟩, [(4, ref05_Mark_F4)]⟩
def ref05_Mark_l4 (c : Int) (marks : ByteArray) (i : Int) : (Option ((Bool × Unit) × Unit)) := ref05_Mark_D.lab 4 ref05_Mark_F4 ((c, marks, i, ()), ())
theorem ref05_Mark_l4_eq (c : Int) (marks : ByteArray) (i : Int) : ref05_Mark_l4 c marks i =
  if (decide (i < (marks.size : Int))) = true then
    if 0 ≤ i ∧ i < (marks.size : Int) then
      if ((bt marks i) == c) = true then
        some ((true, ()), ())
      else
        ref05_Mark_l4 c marks (IntKind.i64.wrap (i + 1))
    else
      none
  else
    some ((false, ()), ()) := (FD.lab_eq _ _ _ _).trans (by kernel_rfl)
def ref05_Mark (c : Int) : (Option ((Bool × Unit) × Unit)) :=
  ref05_Mark_l4 c (strB [40, 41, 91, 93, 123, 125, 60, 62, 61, 44, 59, 58, 46, 47, 42, 43, 33, 38, 124]) 0
def fc107 : FC := ⟨⟨[.one (.int .u8)], []⟩, ⟨[.one .bool], []⟩, fun x => ref05_Mark x.1.1⟩
theorem con107 : Contract Tryz.prog 107 fc107 :=
  ref05_Mark_D.contract tok (cok_of (l := []) trivial) mixed (fn' := Tryz.f107) (by kernel_rfl) (by kernel_rfl) rfl (by kernel_rfl) (fun x => (FD.fn_eq _ _).trans (by kernel_rfl))
end
end Go.Proofs.YtejehchbflmofaaGreatDoor
end

section
/-
YtejehchbflmofaaGreatDoor: signalbench.signalbenchref05.Decimal, as one plain function, its equations, its contract. No condition.
-/
set_option maxRecDepth 100000
set_option linter.unusedVariables false
set_option maxHeartbeats 4000000
open Go Go.AM
namespace Go.Proofs.YtejehchbflmofaaGreatDoor
noncomputable section
def ref05_Decimal_F8 : FSh := ⟨[(0, .one (.int .i64)), (3, .one .str), (4, .one (.int .i64)), (5, .one .str)], []⟩
def ref05_Decimal_F12 : FSh := ⟨[(0, .one (.int .i64)), (3, .one .str), (4, .one (.int .i64)), (5, .one .str), (6, .one (.int .i64))], []⟩
def ref05_Decimal_D : FD := ⟨T, lookC [], [12], (Tryz.f108.body.getD .skip), Tryz.f108.results.toList, ⟨[.one (.int .i64)], []⟩, ⟨[.one .str], []⟩, [(8, ref05_Decimal_F8), (12, ref05_Decimal_F12)]⟩
def ref05_Decimal_l8 (n : Int) (digits : ByteArray) (rest : Int) (out : ByteArray) : (Option ((ByteArray × Unit) × Unit)) := ref05_Decimal_D.lab 8 ref05_Decimal_F8 ((n, digits, rest, out, ()), ())
def ref05_Decimal_l12 (n : Int) (digits : ByteArray) (rest : Int) (out : ByteArray) (d : Int) : (Option ((ByteArray × Unit) × Unit)) := ref05_Decimal_D.lab 12 ref05_Decimal_F12 ((n, digits, rest, out, d, ()), ())
theorem ref05_Decimal_l8_eq (n : Int) (digits : ByteArray) (rest : Int) (out : ByteArray) : ref05_Decimal_l8 n digits rest out =
  if (rest != 0) = true then
    if (decide ((rest.tmod 10) < 0)) = true then
      ref05_Decimal_l12 n digits rest out (IntKind.i64.wrap (0 - (rest.tmod 10)))
    else
      ref05_Decimal_l12 n digits rest out (rest.tmod 10)
  else
    if (decide (n < 0)) = true then
      if (strB [45]).size + out.size ≤ 9223372036854775807 then
        some (((strB [45]) ++ out, ()), ())
      else
        none
    else
      some ((out, ()), ()) := (FD.lab_eq _ _ _ _).trans (by kernel_rfl)
theorem ref05_Decimal_l12_eq (n : Int) (digits : ByteArray) (rest : Int) (out : ByteArray) (d : Int) : ref05_Decimal_l12 n digits rest out d =
  if 0 ≤ d ∧ d ≤ IntKind.i64.wrap (d + 1) ∧ IntKind.i64.wrap (d + 1) ≤ (digits.size : Int) then
    if (digits.extract d.toNat (IntKind.i64.wrap (d + 1)).toNat).size + out.size ≤ 9223372036854775807 then
      ref05_Decimal_l8 n digits (IntKind.i64.wrap (rest.tdiv 10)) ((digits.extract d.toNat (IntKind.i64.wrap (d + 1)).toNat) ++ out)
    else
      none
  else
    none := (FD.lab_eq _ _ _ _).trans (by kernel_rfl)
def ref05_Decimal (n : Int) : (Option ((ByteArray × Unit) × Unit)) :=
  if (n == 0) = true then
    some (((strB [48]), ()), ())
  else
    ref05_Decimal_l8 n (strB [48, 49, 50, 51, 52, 53, 54, 55, 56, 57]) n (strB [])
def fc108 : FC := ⟨⟨[.one (.int .i64)], []⟩, ⟨[.one .str], []⟩, fun x => ref05_Decimal x.1.1⟩
theorem con108 : Contract Tryz.prog 108 fc108 :=
  ref05_Decimal_D.contract tok (cok_of (l := []) trivial) mixed (fn' := Tryz.f108) (by kernel_rfl) (by kernel_rfl) rfl (by kernel_rfl) (fun x => (FD.fn_eq _ _).trans (by kernel_rfl))
end
end Go.Proofs.YtejehchbflmofaaGreatDoor
end

section
/-
YtejehchbflmofaaGreatDoor: signalbench.signalbenchref05.Quote, as one plain function, its equations, its contract. No condition.
-/
set_option maxRecDepth 100000
set_option linter.unusedVariables false
set_option maxHeartbeats 4000000
open Go Go.AM
namespace Go.Proofs.YtejehchbflmofaaGreatDoor
noncomputable section
def ref05_Quote_F5 : FSh := ⟨[(0, .one .str), (3, .one .str), (4, .one (.own 0)), (5, .one (.int .i64))], [.arr 5 (.int .u8) true]⟩
def ref05_Quote_D : FD := ⟨T, lookC [], [], (Tryz.f109.body.getD .skip), Tryz.f109.results.toList, ⟨[.one .str], []⟩, ⟨[.one .str], []⟩, [(5, ref05_Quote_F5)]⟩
def ref05_Quote_l5 (s : ByteArray) (digits : ByteArray) (i : Int) (l0 : (List Int)) : (Option ((ByteArray × Unit) × Unit)) := ref05_Quote_D.lab 5 ref05_Quote_F5 ((s, digits, (), i, ()), (l0, ()))
theorem ref05_Quote_l5_eq (s : ByteArray) (digits : ByteArray) (i : Int) (l0 : (List Int)) : ref05_Quote_l5 s digits i l0 =
  if (decide (i < (s.size : Int))) = true then
    if 0 ≤ i ∧ i < (s.size : Int) then
      if ((bt s i) == 34) = true then
        if (l0.length + 2) * 1 ≤ 140737488355328 ∧ 0 < 1 then
          ref05_Quote_l5 s digits (IntKind.i64.wrap (i + 1)) (l0 ++ [92, bt s i])
        else
          none
      else
        if ((bt s i) == 92) = true then
          if (l0.length + 2) * 1 ≤ 140737488355328 ∧ 0 < 1 then
            ref05_Quote_l5 s digits (IntKind.i64.wrap (i + 1)) (l0 ++ [92, bt s i])
          else
            none
        else
          if ((bt s i) == 10) = true then
            if (l0.length + 2) * 1 ≤ 140737488355328 ∧ 0 < 1 then
              ref05_Quote_l5 s digits (IntKind.i64.wrap (i + 1)) (l0 ++ [92, 110])
            else
              none
          else
            if (decide ((bt s i) < 32)) = true then
              if 0 ≤ IntKind.u8.wrap ((bt s i).tdiv 16) ∧ IntKind.u8.wrap ((bt s i).tdiv 16) < (digits.size : Int) then
                if 0 ≤ (bt s i).tmod 16 ∧ (bt s i).tmod 16 < (digits.size : Int) then
                  if (l0.length + 4) * 1 ≤ 140737488355328 ∧ 0 < 1 then
                    ref05_Quote_l5 s digits (IntKind.i64.wrap (i + 1)) (l0 ++ [92, 120, bt digits (IntKind.u8.wrap ((bt s i).tdiv 16)), bt digits ((bt s i).tmod 16)])
                  else
                    none
                else
                  none
              else
                none
            else
              if (decide ((bt s i) > 126)) = true then
                if 0 ≤ IntKind.u8.wrap ((bt s i).tdiv 16) ∧ IntKind.u8.wrap ((bt s i).tdiv 16) < (digits.size : Int) then
                  if 0 ≤ (bt s i).tmod 16 ∧ (bt s i).tmod 16 < (digits.size : Int) then
                    if (l0.length + 4) * 1 ≤ 140737488355328 ∧ 0 < 1 then
                      ref05_Quote_l5 s digits (IntKind.i64.wrap (i + 1)) (l0 ++ [92, 120, bt digits (IntKind.u8.wrap ((bt s i).tdiv 16)), bt digits ((bt s i).tmod 16)])
                    else
                      none
                  else
                    none
                else
                  none
              else
                if (l0.length + 1) * 1 ≤ 140737488355328 ∧ 0 < 1 then
                  ref05_Quote_l5 s digits (IntKind.i64.wrap (i + 1)) (l0 ++ [bt s i])
                else
                  none
    else
      none
  else
    if (l0.length + 1) * 1 ≤ 140737488355328 ∧ 0 < 1 then
      some ((strOfBytes (l0 ++ [34]), ()), ())
    else
      none := (FD.lab_eq _ _ _ _).trans (by kernel_rfl)
def ref05_Quote (s : ByteArray) : (Option ((ByteArray × Unit) × Unit)) :=
  ref05_Quote_l5 s (strB [48, 49, 50, 51, 52, 53, 54, 55, 56, 57, 97, 98, 99, 100, 101, 102]) 0 [34]
def fc109 : FC := ⟨⟨[.one .str], []⟩, ⟨[.one .str], []⟩, fun x => ref05_Quote x.1.1⟩
theorem con109 : Contract Tryz.prog 109 fc109 :=
  ref05_Quote_D.contract tok (cok_of (l := []) trivial) mixed (fn' := Tryz.f109) (by kernel_rfl) (by kernel_rfl) rfl (by kernel_rfl) (fun x => (FD.fn_eq _ _).trans (by kernel_rfl))
end
end Go.Proofs.YtejehchbflmofaaGreatDoor
end

section
/-
YtejehchbflmofaaGreatDoor: signalbench.signalbenchref49.clocked, as one plain function, its equations, its contract. No condition.
-/
set_option maxRecDepth 100000
set_option linter.unusedVariables false
set_option maxHeartbeats 4000000
open Go Go.AM
namespace Go.Proofs.YtejehchbflmofaaGreatDoor
noncomputable section
def ref49_clocked_D : FD := ⟨T, lookC [], [], (Tryz.f43.body.getD .skip), Tryz.f43.results.toList, ⟨[.row (.cons (.int .i64) (.cons .str (.cons .str (.cons .bool (.cons (.int .i64) (.int .i64))))))], []⟩, ⟨[.one .bool], []⟩, []⟩
def ref49_clocked (x0 : TLimit) : (Option ((Bool × Unit) × Unit)) :=
  if (decide (x0.1 ≥ 4)) = true then
    some ((decide (x0.1 ≤ 6), ()), ())
  else
    some ((false, ()), ())
def fc43 : FC := ⟨⟨[.row (.cons (.int .i64) (.cons .str (.cons .str (.cons .bool (.cons (.int .i64) (.int .i64))))))], []⟩, ⟨[.one .bool], []⟩, fun x => ref49_clocked x.1.1⟩
theorem con43 : Contract Tryz.prog 43 fc43 :=
  ref49_clocked_D.contract tok (cok_of (l := []) trivial) mixed (fn' := Tryz.f43) (by kernel_rfl) (by kernel_rfl) rfl (by kernel_rfl) (fun x => (FD.fn_eq _ _).trans (by kernel_rfl))
end
end Go.Proofs.YtejehchbflmofaaGreatDoor
end

section
/-
YtejehchbflmofaaGreatDoor: signalbench.signalbenchref09.name, as one plain function, its equations, its contract. No condition.
-/
set_option maxRecDepth 100000
set_option linter.unusedVariables false
set_option maxHeartbeats 4000000
open Go Go.AM
namespace Go.Proofs.YtejehchbflmofaaGreatDoor
noncomputable section
def ref09_name_F6 : FSh := ⟨[(0, .one .str), (3, .one (.int .i64))], []⟩
def ref09_name_D : FD := ⟨T, lookC [], [], (Tryz.f124.body.getD .skip), Tryz.f124.results.toList, ⟨[.one .str], []⟩, ⟨[.one .bool], []⟩, [(6, ref09_name_F6)]⟩
def ref09_name_l6 (s : ByteArray) (i : Int) : (Option ((Bool × Unit) × Unit)) := ref09_name_D.lab 6 ref09_name_F6 ((s, i, ()), ())
theorem ref09_name_l6_eq (s : ByteArray) (i : Int) : ref09_name_l6 s i =
  if (decide (i < (s.size : Int))) = true then
    if 0 ≤ i ∧ i < (s.size : Int) then
      if (decide ((bt s i) ≥ 97)) = true then
        if 0 ≤ i ∧ i < (s.size : Int) then
          if 0 ≤ i ∧ i < (s.size : Int) then
            if (decide ((bt s i) ≥ 48)) = true then
              if 0 ≤ i ∧ i < (s.size : Int) then
                if (!(decide ((bt s i) ≤ 122))) = true then
                  if (!(decide ((bt s i) ≤ 57))) = true then
                    if 0 ≤ i ∧ i < (s.size : Int) then
                      if ((bt s i) != 95) = true then
                        some ((false, ()), ())
                      else
                        ref09_name_l6 s (IntKind.i64.wrap (i + 1))
                    else
                      none
                  else
                    ref09_name_l6 s (IntKind.i64.wrap (i + 1))
                else
                  ref09_name_l6 s (IntKind.i64.wrap (i + 1))
              else
                none
            else
              if (!(decide ((bt s i) ≤ 122))) = true then
                if 0 ≤ i ∧ i < (s.size : Int) then
                  if ((bt s i) != 95) = true then
                    some ((false, ()), ())
                  else
                    ref09_name_l6 s (IntKind.i64.wrap (i + 1))
                else
                  none
              else
                ref09_name_l6 s (IntKind.i64.wrap (i + 1))
          else
            none
        else
          none
      else
        if 0 ≤ i ∧ i < (s.size : Int) then
          if (decide ((bt s i) ≥ 48)) = true then
            if 0 ≤ i ∧ i < (s.size : Int) then
              if (!(decide ((bt s i) ≤ 57))) = true then
                if 0 ≤ i ∧ i < (s.size : Int) then
                  if ((bt s i) != 95) = true then
                    some ((false, ()), ())
                  else
                    ref09_name_l6 s (IntKind.i64.wrap (i + 1))
                else
                  none
              else
                ref09_name_l6 s (IntKind.i64.wrap (i + 1))
            else
              none
          else
            if 0 ≤ i ∧ i < (s.size : Int) then
              if ((bt s i) != 95) = true then
                some ((false, ()), ())
              else
                ref09_name_l6 s (IntKind.i64.wrap (i + 1))
            else
              none
        else
          none
    else
      none
  else
    some ((true, ()), ()) := (FD.lab_eq _ _ _ _).trans (by kernel_rfl)
def ref09_name (s : ByteArray) : (Option ((Bool × Unit) × Unit)) :=
  if (s.toList == (strB []).toList) = true then
    some ((false, ()), ())
  else
    if (decide ((s.size : Int) > 16)) = true then
      some ((false, ()), ())
    else
      if 0 ≤ (0 : Int) ∧ 0 < (s.size : Int) then
        if (decide ((bt s 0) < 97)) = true then
          some ((false, ()), ())
        else
          if 0 ≤ (0 : Int) ∧ 0 < (s.size : Int) then
            if (decide ((bt s 0) > 122)) = true then
              some ((false, ()), ())
            else
              ref09_name_l6 s 0
          else
            none
      else
        none
def fc124 : FC := ⟨⟨[.one .str], []⟩, ⟨[.one .bool], []⟩, fun x => ref09_name x.1.1⟩
theorem con124 : Contract Tryz.prog 124 fc124 :=
  ref09_name_D.contract tok (cok_of (l := []) trivial) mixed (fn' := Tryz.f124) (by kernel_rfl) (by kernel_rfl) rfl (by kernel_rfl) (fun x => (FD.fn_eq _ _).trans (by kernel_rfl))
end
end Go.Proofs.YtejehchbflmofaaGreatDoor
end

section
/-
YtejehchbflmofaaGreatDoor: signalbench.signalbenchref09.names, as one plain function, its equations, its contract. No condition.
-/
set_option maxRecDepth 100000
set_option linter.unusedVariables false
set_option maxHeartbeats 4000000
open Go Go.AM
namespace Go.Proofs.YtejehchbflmofaaGreatDoor
noncomputable section
def ref09_names_F9 : FSh := ⟨[(0, .one (.sl .str)), (3, .one (.int .i64))], []⟩
def ref09_names_F17 : FSh := ⟨[(0, .one (.sl .str)), (4, .one (.int .i64))], []⟩
def ref09_names_F22 : FSh := ⟨[(0, .one (.sl .str)), (4, .one (.int .i64)), (5, .one (.int .i64))], []⟩
def ref09_names_D : FD := ⟨T, lookC [(124, fc124)], [], (Tryz.f96.body.getD .skip), Tryz.f96.results.toList, ⟨[.one (.sl .str)], []⟩, ⟨[.one (.int .i64)], []⟩, [(9, ref09_names_F9), (17, ref09_names_F17), (22, ref09_names_F22)]⟩
def ref09_names_l9 (l : (List ByteArray)) (i : Int) : (Option ((Int × Unit) × Unit)) := ref09_names_D.lab 9 ref09_names_F9 ((l, i, ()), ())
def ref09_names_l17 (l : (List ByteArray)) (i : Int) : (Option ((Int × Unit) × Unit)) := ref09_names_D.lab 17 ref09_names_F17 ((l, i, ()), ())
def ref09_names_l22 (l : (List ByteArray)) (i : Int) (k0 : Int) : (Option ((Int × Unit) × Unit)) := ref09_names_D.lab 22 ref09_names_F22 ((l, i, k0, ()), ())
theorem ref09_names_l9_eq (l : (List ByteArray)) (i : Int) : ref09_names_l9 l i =
  if (decide (i < (l.length : Int))) = true then
    if 0 ≤ i ∧ i < (l.length : Int) then
      (ref09_name (l.getD i.toNat (strB []))).bind fun y1 =>
        if (!y1.1.1) = true then
          some ((4, ()), ())
        else
          ref09_names_l9 l (IntKind.i64.wrap (i + 1))
    else
      none
  else
    ref09_names_l17 l 0 := (FD.lab_eq _ _ _ _).trans (by kernel_rfl)
theorem ref09_names_l17_eq (l : (List ByteArray)) (i : Int) : ref09_names_l17 l i =
  if (decide (i < (l.length : Int))) = true then
    ref09_names_l22 l i 0
  else
    some ((0, ()), ()) := (FD.lab_eq _ _ _ _).trans (by kernel_rfl)
theorem ref09_names_l22_eq (l : (List ByteArray)) (i : Int) (k0 : Int) : ref09_names_l22 l i k0 =
  if (decide (k0 < i)) = true then
    if 0 ≤ i ∧ i < (l.length : Int) then
      if 0 ≤ k0 ∧ k0 < (l.length : Int) then
        if ((l.getD i.toNat (strB [])).toList == (l.getD k0.toNat (strB [])).toList) = true then
          some ((9, ()), ())
        else
          ref09_names_l22 l i (IntKind.i64.wrap (k0 + 1))
      else
        none
    else
      none
  else
    ref09_names_l17 l (IntKind.i64.wrap (i + 1)) := (FD.lab_eq _ _ _ _).trans (by kernel_rfl)
def ref09_names (l : (List ByteArray)) : (Option ((Int × Unit) × Unit)) :=
  if (decide ((l.length : Int) > 16)) = true then
    some ((6, ()), ())
  else
    if ((l.length : Int) == 0) = true then
      some ((1, ()), ())
    else
      ref09_names_l9 l 0
def fc96 : FC := ⟨⟨[.one (.sl .str)], []⟩, ⟨[.one (.int .i64)], []⟩, fun x => ref09_names x.1.1⟩
theorem con96 : Contract Tryz.prog 96 fc96 :=
  ref09_names_D.contract tok (cok_of (l := [(124, fc124)]) ⟨con124, trivial⟩) mixed (fn' := Tryz.f96) (by kernel_rfl) (by kernel_rfl) rfl (by kernel_rfl) (fun x => (FD.fn_eq _ _).trans (by kernel_rfl))
end
end Go.Proofs.YtejehchbflmofaaGreatDoor
end

section
/-
YtejehchbflmofaaGreatDoor: signalbench.signalbenchref09.runs, as one plain function, its equations, its contract. No condition.
-/
set_option maxRecDepth 100000
set_option linter.unusedVariables false
set_option maxHeartbeats 4000000
open Go Go.AM
namespace Go.Proofs.YtejehchbflmofaaGreatDoor
noncomputable section
def ref09_runs_F4 : FSh := ⟨[(0, .one (.sl (.cons (.int .i64) (.int .i64)))), (1, .one (.int .i64)), (5, .one (.int .i64)), (6, .one (.int .i64))], []⟩
def ref09_runs_D : FD := ⟨T, lookC [], [], (Tryz.f97.body.getD .skip), Tryz.f97.results.toList, ⟨[.one (.sl (.cons (.int .i64) (.int .i64))), .one (.int .i64)], []⟩, ⟨[.one .bool], []⟩, [(4, ref09_runs_F4)]⟩
def ref09_runs_l4 (l : (List TGap)) (mask : Int) (left : Int) (i : Int) : (Option ((Bool × Unit) × Unit)) := ref09_runs_D.lab 4 ref09_runs_F4 ((l, mask, left, i, ()), ())
theorem ref09_runs_l4_eq (l : (List TGap)) (mask : Int) (left : Int) (i : Int) : ref09_runs_l4 l mask left i =
  if (decide (i < (l.length : Int))) = true then
    if 0 ≤ i ∧ i < (l.length : Int) then
      if (decide ((l.getD i.toNat dGap).1 < 0)) = true then
        some ((false, ()), ())
      else
        if 0 ≤ i ∧ i < (l.length : Int) then
          if (decide ((l.getD i.toNat dGap).1 > mask)) = true then
            some ((false, ()), ())
          else
            if 0 ≤ i ∧ i < (l.length : Int) then
              if (decide ((l.getD i.toNat dGap).2 < 1)) = true then
                some ((false, ()), ())
              else
                if 0 ≤ i ∧ i < (l.length : Int) then
                  if (decide ((l.getD i.toNat dGap).2 > left)) = true then
                    some ((false, ()), ())
                  else
                    if 0 ≤ i ∧ i < (l.length : Int) then
                      ref09_runs_l4 l mask (IntKind.i64.wrap (left - (l.getD i.toNat dGap).2)) (IntKind.i64.wrap (i + 1))
                    else
                      none
                else
                  none
            else
              none
        else
          none
    else
      none
  else
    some ((true, ()), ()) := (FD.lab_eq _ _ _ _).trans (by kernel_rfl)
def ref09_runs (l : (List TGap)) (mask : Int) : (Option ((Bool × Unit) × Unit)) :=
  ref09_runs_l4 l mask 1099511627776 0
def fc97 : FC := ⟨⟨[.one (.sl (.cons (.int .i64) (.int .i64))), .one (.int .i64)], []⟩, ⟨[.one .bool], []⟩, fun x => ref09_runs x.1.1 x.1.2.1⟩
theorem con97 : Contract Tryz.prog 97 fc97 :=
  ref09_runs_D.contract tok (cok_of (l := []) trivial) mixed (fn' := Tryz.f97) (by kernel_rfl) (by kernel_rfl) rfl (by kernel_rfl) (fun x => (FD.fn_eq _ _).trans (by kernel_rfl))
end
end Go.Proofs.YtejehchbflmofaaGreatDoor
end

section
/-
YtejehchbflmofaaGreatDoor: signalbench.signalbenchref09.Check, as one plain function, its equations, its contract. No condition.
-/
set_option maxRecDepth 100000
set_option linter.unusedVariables false
set_option maxHeartbeats 4000000
open Go Go.AM
namespace Go.Proofs.YtejehchbflmofaaGreatDoor
noncomputable section
def ref09_Check_D : FD := ⟨T, lookC [(96, fc96), (97, fc97)], [], (Tryz.f55.body.getD .skip), Tryz.f55.results.toList, ⟨[.row (.cons (.sl .str) (.sl (.cons (.int .i64) (.int .i64))))], []⟩, ⟨[.one (.int .i64)], []⟩, []⟩
def ref09_Check (c : TCapture) : (Option ((Int × Unit) × Unit)) :=
  if (decide ((c.2.length : Int) > 262144)) = true then
    some ((6, ()), ())
  else
    (ref09_names c.1).bind fun y1 =>
      if (y1.1.1 != 0) = true then
        some ((y1.1.1, ()), ())
      else
        if 0 ≤ (c.1.length : Int) then
          (ref09_runs c.2 (IntKind.i64.wrap ((IntKind.i64.wrap (1 * 2 ^ (min (c.1.length : Int).toNat 64))) - 1))).bind fun y2 =>
            if (!y2.1.1) = true then
              some ((2, ()), ())
            else
              some ((0, ()), ())
        else
          none
def fc55 : FC := ⟨⟨[.row (.cons (.sl .str) (.sl (.cons (.int .i64) (.int .i64))))], []⟩, ⟨[.one (.int .i64)], []⟩, fun x => ref09_Check x.1.1⟩
theorem con55 : Contract Tryz.prog 55 fc55 :=
  ref09_Check_D.contract tok (cok_of (l := [(96, fc96), (97, fc97)]) ⟨con96, con97, trivial⟩) mixed (fn' := Tryz.f55) (by kernel_rfl) (by kernel_rfl) rfl (by kernel_rfl) (fun x => (FD.fn_eq _ _).trans (by kernel_rfl))
end
end Go.Proofs.YtejehchbflmofaaGreatDoor
end

section
/-
YtejehchbflmofaaGreatDoor: signalbench.signalbenchref49.bad, as one plain function, its equations, its contract. No condition.
-/
set_option maxRecDepth 100000
set_option linter.unusedVariables false
set_option maxHeartbeats 4000000
open Go Go.AM
namespace Go.Proofs.YtejehchbflmofaaGreatDoor
noncomputable section
def ref49_bad_D : FD := ⟨T, lookC [(43, fc43)], [], (Tryz.f56.body.getD .skip), Tryz.f56.results.toList, ⟨[.row (.cons (.int .i64) (.cons .str (.cons .str (.cons .bool (.cons (.int .i64) (.int .i64))))))], []⟩, ⟨[.one .bool], []⟩, []⟩
def ref49_bad (x0 : TLimit) : (Option ((Bool × Unit) × Unit)) :=
  if (decide (x0.1 < 1)) = true then
    some ((true, ()), ())
  else
    if (decide (x0.1 > 6)) = true then
      some ((true, ()), ())
    else
      if (decide (x0.2.2.2.2.1 < 0)) = true then
        some ((true, ()), ())
      else
        if (decide (x0.2.2.2.2.1 > x0.2.2.2.2.2)) = true then
          some ((true, ()), ())
        else
          if (decide (x0.2.2.2.2.2 > 1099511627776)) = true then
            some ((true, ()), ())
          else
            (ref49_clocked x0).bind fun y1 =>
              if (!y1.1.1) = true then
                if (!(x0.2.2.1.toList == (strB []).toList)) = true then
                  some ((true, ()), ())
                else
                  some ((x0.2.2.2.1, ()), ())
              else
                some ((false, ()), ())
def fc56 : FC := ⟨⟨[.row (.cons (.int .i64) (.cons .str (.cons .str (.cons .bool (.cons (.int .i64) (.int .i64))))))], []⟩, ⟨[.one .bool], []⟩, fun x => ref49_bad x.1.1⟩
theorem con56 : Contract Tryz.prog 56 fc56 :=
  ref49_bad_D.contract tok (cok_of (l := [(43, fc43)]) ⟨con43, trivial⟩) mixed (fn' := Tryz.f56) (by kernel_rfl) (by kernel_rfl) rfl (by kernel_rfl) (fun x => (FD.fn_eq _ _).trans (by kernel_rfl))
end
end Go.Proofs.YtejehchbflmofaaGreatDoor
end

section
/-
YtejehchbflmofaaGreatDoor: signalbench.signalbenchref49.has, as one plain function, its equations, its contract. No condition.
-/
set_option maxRecDepth 100000
set_option linter.unusedVariables false
set_option maxHeartbeats 4000000
open Go Go.AM
namespace Go.Proofs.YtejehchbflmofaaGreatDoor
noncomputable section
def ref49_has_F3 : FSh := ⟨[(0, .one (.sl .str)), (1, .one .str), (5, .one (.int .i64))], []⟩
def ref49_has_D : FD := ⟨T, lookC [], [], (Tryz.f57.body.getD .skip), Tryz.f57.results.toList, ⟨[.one (.sl .str), .one .str], []⟩, ⟨[.one .bool], []⟩, [(3, ref49_has_F3)]⟩
def ref49_has_l3 (l : (List ByteArray)) (s : ByteArray) (i : Int) : (Option ((Bool × Unit) × Unit)) := ref49_has_D.lab 3 ref49_has_F3 ((l, s, i, ()), ())
theorem ref49_has_l3_eq (l : (List ByteArray)) (s : ByteArray) (i : Int) : ref49_has_l3 l s i =
  if (decide (i < (l.length : Int))) = true then
    if 0 ≤ i ∧ i < (l.length : Int) then
      if ((l.getD i.toNat (strB [])).toList == s.toList) = true then
        some ((true, ()), ())
      else
        ref49_has_l3 l s (IntKind.i64.wrap (i + 1))
    else
      none
  else
    some ((false, ()), ()) := (FD.lab_eq _ _ _ _).trans (by kernel_rfl)
def ref49_has (l : (List ByteArray)) (s : ByteArray) : (Option ((Bool × Unit) × Unit)) :=
  ref49_has_l3 l s 0
def fc57 : FC := ⟨⟨[.one (.sl .str), .one .str], []⟩, ⟨[.one .bool], []⟩, fun x => ref49_has x.1.1 x.1.2.1⟩
theorem con57 : Contract Tryz.prog 57 fc57 :=
  ref49_has_D.contract tok (cok_of (l := []) trivial) mixed (fn' := Tryz.f57) (by kernel_rfl) (by kernel_rfl) rfl (by kernel_rfl) (fun x => (FD.fn_eq _ _).trans (by kernel_rfl))
end
end Go.Proofs.YtejehchbflmofaaGreatDoor
end

section
/-
YtejehchbflmofaaGreatDoor: signalbench.signalbenchref49.Check, as one plain function, its equations, its contract. No condition.
-/
set_option maxRecDepth 100000
set_option linter.unusedVariables false
set_option maxHeartbeats 4000000
open Go Go.AM
namespace Go.Proofs.YtejehchbflmofaaGreatDoor
noncomputable section
def ref49_Check_F10 : FSh := ⟨[(1, .one (.sl (.cons (.int .i64) (.cons .str (.cons .str (.cons .bool (.cons (.int .i64) (.int .i64)))))))), (2, .one (.ptr 0 0)), (7, .one (.int .i64))], [.boxr 25 (.cons (.sl .str) (.sl (.cons (.int .i64) (.int .i64))))]⟩
def ref49_Check_D : FD := ⟨T, lookC [(43, fc43), (55, fc55), (56, fc56), (57, fc57)], [], (Tryz.f25.body.getD .skip), Tryz.f25.results.toList, ⟨[.row (.cons (.sl .str) (.sl (.cons (.int .i64) (.int .i64)))), .one (.sl (.cons (.int .i64) (.cons .str (.cons .str (.cons .bool (.cons (.int .i64) (.int .i64)))))))], []⟩, ⟨[.one (.int .i64), .one (.int .i64)], []⟩, [(10, ref49_Check_F10)]⟩
def ref49_Check_l10 (l : (List TLimit)) (i : Int) (h0 : TCapture) : (Option ((Int × Int × Unit) × Unit)) := ref49_Check_D.lab 10 ref49_Check_F10 ((l, (), i, ()), (h0, ()))
theorem ref49_Check_l10_eq (l : (List TLimit)) (i : Int) (h0 : TCapture) : ref49_Check_l10 l i h0 =
  if (decide (i < (l.length : Int))) = true then
    if 0 ≤ i ∧ i < (l.length : Int) then
      (ref49_bad (l.getD i.toNat dLimit)).bind fun y1 =>
        if y1.1.1 = true then
          some ((i, 1, ()), ())
        else
          if 0 ≤ i ∧ i < (l.length : Int) then
            (ref49_has h0.1 (l.getD i.toNat dLimit).2.1).bind fun y2 =>
              if (!y2.1.1) = true then
                some ((i, 8, ()), ())
              else
                if 0 ≤ i ∧ i < (l.length : Int) then
                  (ref49_clocked (l.getD i.toNat dLimit)).bind fun y3 =>
                    if y3.1.1 = true then
                      if 0 ≤ i ∧ i < (l.length : Int) then
                        (ref49_has h0.1 (l.getD i.toNat dLimit).2.2.1).bind fun y4 =>
                          if (!y4.1.1) = true then
                            some ((i, 8, ()), ())
                          else
                            ref49_Check_l10 l (IntKind.i64.wrap (i + 1)) h0
                      else
                        none
                    else
                      ref49_Check_l10 l (IntKind.i64.wrap (i + 1)) h0
                else
                  none
          else
            none
    else
      none
  else
    some (((-1), 0, ()), ()) := (FD.lab_eq _ _ _ _).trans (by kernel_rfl)
def ref49_Check (c : TCapture) (l : (List TLimit)) : (Option ((Int × Int × Unit) × Unit)) :=
  (ref09_Check c).bind fun y1 =>
    if (y1.1.1 != 0) = true then
      some (((-1), y1.1.1, ()), ())
    else
      if (decide ((l.length : Int) > 64)) = true then
        some (((-1), 6, ()), ())
      else
        ref49_Check_l10 l 0 c
def fc25 : FC := ⟨⟨[.row (.cons (.sl .str) (.sl (.cons (.int .i64) (.int .i64)))), .one (.sl (.cons (.int .i64) (.cons .str (.cons .str (.cons .bool (.cons (.int .i64) (.int .i64)))))))], []⟩, ⟨[.one (.int .i64), .one (.int .i64)], []⟩, fun x => ref49_Check x.1.1 x.1.2.1⟩
theorem con25 : Contract Tryz.prog 25 fc25 :=
  ref49_Check_D.contract tok (cok_of (l := [(43, fc43), (55, fc55), (56, fc56), (57, fc57)]) ⟨con43, con55, con56, con57, trivial⟩) mixed (fn' := Tryz.f25) (by kernel_rfl) (by kernel_rfl) rfl (by kernel_rfl) (fun x => (FD.fn_eq _ _).trans (by kernel_rfl))
end
end Go.Proofs.YtejehchbflmofaaGreatDoor
end

section
/-
YtejehchbflmofaaGreatDoor: signalbench.signalbenchref09.place, as one plain function, its equations, its contract. No condition.
-/
set_option maxRecDepth 100000
set_option linter.unusedVariables false
set_option maxHeartbeats 4000000
open Go Go.AM
namespace Go.Proofs.YtejehchbflmofaaGreatDoor
noncomputable section
def ref09_place_F3 : FSh := ⟨[(0, .one (.sl .str)), (1, .one .str), (5, .one (.int .i64))], []⟩
def ref09_place_D : FD := ⟨T, lookC [], [], (Tryz.f80.body.getD .skip), Tryz.f80.results.toList, ⟨[.one (.sl .str), .one .str], []⟩, ⟨[.one (.int .i64)], []⟩, [(3, ref09_place_F3)]⟩
def ref09_place_l3 (l : (List ByteArray)) (s : ByteArray) (i : Int) : (Option ((Int × Unit) × Unit)) := ref09_place_D.lab 3 ref09_place_F3 ((l, s, i, ()), ())
theorem ref09_place_l3_eq (l : (List ByteArray)) (s : ByteArray) (i : Int) : ref09_place_l3 l s i =
  if (decide (i < (l.length : Int))) = true then
    if 0 ≤ i ∧ i < (l.length : Int) then
      if ((l.getD i.toNat (strB [])).toList == s.toList) = true then
        some ((i, ()), ())
      else
        ref09_place_l3 l s (IntKind.i64.wrap (i + 1))
    else
      none
  else
    some (((-1), ()), ()) := (FD.lab_eq _ _ _ _).trans (by kernel_rfl)
def ref09_place (l : (List ByteArray)) (s : ByteArray) : (Option ((Int × Unit) × Unit)) :=
  ref09_place_l3 l s 0
def fc80 : FC := ⟨⟨[.one (.sl .str), .one .str], []⟩, ⟨[.one (.int .i64)], []⟩, fun x => ref09_place x.1.1 x.1.2.1⟩
theorem con80 : Contract Tryz.prog 80 fc80 :=
  ref09_place_D.contract tok (cok_of (l := []) trivial) mixed (fn' := Tryz.f80) (by kernel_rfl) (by kernel_rfl) rfl (by kernel_rfl) (fun x => (FD.fn_eq _ _).trans (by kernel_rfl))
end
end Go.Proofs.YtejehchbflmofaaGreatDoor
end

section
/-
YtejehchbflmofaaGreatDoor: signalbench.signalbenchref09.put, as one plain function, its equations, its contract. No condition.
-/
set_option maxRecDepth 100000
set_option linter.unusedVariables false
set_option maxHeartbeats 4000000
open Go Go.AM
namespace Go.Proofs.YtejehchbflmofaaGreatDoor
noncomputable section
def ref09_put_D : FD := ⟨T, lookC [], [], (Tryz.f81.body.getD .skip), Tryz.f81.results.toList, ⟨[.one (.own 0), .row (.cons (.int .i64) (.int .i64))], [.arr 55 (.cons (.int .i64) (.int .i64)) true]⟩, ⟨[.one (.own 1)], [.dead, .arr 55 (.cons (.int .i64) (.int .i64)) true]⟩, []⟩
def ref09_put (x0 : TGap) (l0 : (List TGap)) : (Option ((Unit × Unit) × (Unit × (List TGap) × Unit))) :=
  if (decide (x0.2 < 1)) = true then
    some (((), ()), ((), l0, ()))
  else
    if (decide ((l0.length : Int) > 0)) = true then
      if 0 ≤ IntKind.i64.wrap ((l0.length : Int) - 1) ∧ IntKind.i64.wrap ((l0.length : Int) - 1) < (l0.length : Int) then
        if ((l0.getD (IntKind.i64.wrap ((l0.length : Int) - 1)).toNat dGap).1 == x0.1) = true then
          if 0 ≤ IntKind.i64.wrap ((l0.length : Int) - 1) ∧ IntKind.i64.wrap ((l0.length : Int) - 1) < (l0.length : Int) then
            if 0 ≤ IntKind.i64.wrap ((l0.length : Int) - 1) ∧ IntKind.i64.wrap ((l0.length : Int) - 1) < (l0.length : Int) then
              some (((), ()), ((), l0.set (IntKind.i64.wrap ((l0.length : Int) - 1)).toNat ((l0.getD (IntKind.i64.wrap ((l0.length : Int) - 1)).toNat dGap).1, IntKind.i64.wrap ((l0.getD (IntKind.i64.wrap ((l0.length : Int) - 1)).toNat dGap).2 + x0.2)), ()))
            else
              none
          else
            none
        else
          if (l0.length + 1) * 16 ≤ 140737488355328 ∧ 0 < 16 then
            some (((), ()), ((), l0 ++ [x0], ()))
          else
            none
      else
        none
    else
      if (l0.length + 1) * 16 ≤ 140737488355328 ∧ 0 < 16 then
        some (((), ()), ((), l0 ++ [x0], ()))
      else
        none
def fc81 : FC := ⟨⟨[.one (.own 0), .row (.cons (.int .i64) (.int .i64))], [.arr 55 (.cons (.int .i64) (.int .i64)) true]⟩, ⟨[.one (.own 1)], [.dead, .arr 55 (.cons (.int .i64) (.int .i64)) true]⟩, fun x => ref09_put x.1.2.1 x.2.1⟩
theorem con81 : Contract Tryz.prog 81 fc81 :=
  ref09_put_D.contract tok (cok_of (l := []) trivial) mixed (fn' := Tryz.f81) (by kernel_rfl) (by kernel_rfl) rfl (by kernel_rfl) (fun x => (FD.fn_eq _ _).trans (by kernel_rfl))
end
end Go.Proofs.YtejehchbflmofaaGreatDoor
end

section
/-
YtejehchbflmofaaGreatDoor: signalbench.signalbenchref09.Channel, as one plain function, its equations, its contract. No condition.
-/
set_option maxRecDepth 100000
set_option linter.unusedVariables false
set_option maxHeartbeats 4000000
open Go Go.AM
namespace Go.Proofs.YtejehchbflmofaaGreatDoor
noncomputable section
def ref09_Channel_F12 : FSh := ⟨[(2, .one (.ptr 0 0)), (7, .one (.int .i64)), (8, .one (.own 1)), (9, .one (.int .i64))], [.boxr 25 (.cons (.sl .str) (.sl (.cons (.int .i64) (.int .i64)))), .arr 55 (.cons (.int .i64) (.int .i64)) true]⟩
def ref09_Channel_D : FD := ⟨T, lookC [(55, fc55), (80, fc80), (81, fc81)], [], (Tryz.f42.body.getD .skip), Tryz.f42.results.toList, ⟨[.row (.cons (.sl .str) (.sl (.cons (.int .i64) (.int .i64)))), .one .str], []⟩, ⟨[.one (.sl (.cons (.int .i64) (.int .i64))), .one (.int .i64)], []⟩, [(12, ref09_Channel_F12)]⟩
def ref09_Channel_l12 (k0 : Int) (i : Int) (h0 : TCapture) (l1 : (List TGap)) : (Option (((List TGap) × Int × Unit) × Unit)) := ref09_Channel_D.lab 12 ref09_Channel_F12 (((), k0, (), i, ()), (h0, l1, ()))
theorem ref09_Channel_l12_eq (k0 : Int) (i : Int) (h0 : TCapture) (l1 : (List TGap)) : ref09_Channel_l12 k0 i h0 l1 =
  if (decide (i < (h0.2.length : Int))) = true then
    if 0 ≤ i ∧ i < (h0.2.length : Int) then
      if 0 ≤ k0 then
        if 0 ≤ i ∧ i < (h0.2.length : Int) then
          (ref09_put (IntKind.i64.wrap (BitVec.ofInt 64 ((h0.2.getD i.toNat dGap).1.fdiv (2 ^ (min k0.toNat 64))) &&& BitVec.ofInt 64 1).toNat, (h0.2.getD i.toNat dGap).2) l1).bind fun y1 =>
            ref09_Channel_l12 k0 (IntKind.i64.wrap (i + 1)) h0 y1.2.2.1
        else
          none
      else
        none
    else
      none
  else
    some ((l1, 0, ()), ()) := (FD.lab_eq _ _ _ _).trans (by kernel_rfl)
def ref09_Channel (c : TCapture) (s : ByteArray) : (Option (((List TGap) × Int × Unit) × Unit)) :=
  (ref09_Check c).bind fun y1 =>
    if (y1.1.1 != 0) = true then
      some (([], y1.1.1, ()), ())
    else
      (ref09_place c.1 s).bind fun y2 =>
        if (decide (y2.1.1 < 0)) = true then
          some (([], 8, ()), ())
        else
          ref09_Channel_l12 y2.1.1 0 c []
def fc42 : FC := ⟨⟨[.row (.cons (.sl .str) (.sl (.cons (.int .i64) (.int .i64)))), .one .str], []⟩, ⟨[.one (.sl (.cons (.int .i64) (.int .i64))), .one (.int .i64)], []⟩, fun x => ref09_Channel x.1.1 x.1.2.1⟩
theorem con42 : Contract Tryz.prog 42 fc42 :=
  ref09_Channel_D.contract tok (cok_of (l := [(55, fc55), (80, fc80), (81, fc81)]) ⟨con55, con80, con81, trivial⟩) mixed (fn' := Tryz.f42) (by kernel_rfl) (by kernel_rfl) rfl (by kernel_rfl) (fun x => (FD.fn_eq _ _).trans (by kernel_rfl))
end
end Go.Proofs.YtejehchbflmofaaGreatDoor
end

section
/-
YtejehchbflmofaaGreatDoor: signalbench.signalbenchref48.to, as one plain function, its equations, its contract. No condition.
-/
set_option maxRecDepth 100000
set_option linter.unusedVariables false
set_option maxHeartbeats 4000000
open Go Go.AM
namespace Go.Proofs.YtejehchbflmofaaGreatDoor
noncomputable section
def ref48_to_F4 : FSh := ⟨[(0, .one (.sl (.cons (.int .i64) (.int .i64)))), (1, .one (.int .i64)), (5, .one (.own 0)), (6, .one (.int .i64))], [.arr 124 (.cons (.int .i64) (.int .i64)) true]⟩
def ref48_to_D : FD := ⟨T, lookC [], [], (Tryz.f82.body.getD .skip), Tryz.f82.results.toList, ⟨[.one (.sl (.cons (.int .i64) (.int .i64))), .one (.int .i64)], []⟩, ⟨[.one (.sl (.cons (.int .i64) (.int .i64)))], []⟩, [(4, ref48_to_F4)]⟩
def ref48_to_l4 (l : (List TGap)) (level : Int) (i : Int) (l0 : (List TGap)) : (Option (((List TGap) × Unit) × Unit)) := ref48_to_D.lab 4 ref48_to_F4 ((l, level, (), i, ()), (l0, ()))
theorem ref48_to_l4_eq (l : (List TGap)) (level : Int) (i : Int) (l0 : (List TGap)) : ref48_to_l4 l level i l0 =
  if (decide (i < (l.length : Int))) = true then
    if 0 ≤ i ∧ i < (l.length : Int) then
      if ((l.getD i.toNat dGap).2 == level) = true then
        if 0 ≤ i ∧ i < (l.length : Int) then
          if (l0.length + 1) * 16 ≤ 140737488355328 ∧ 0 < 16 then
            ref48_to_l4 l level (IntKind.i64.wrap (i + 1)) (l0 ++ [(l.getD i.toNat dGap)])
          else
            none
        else
          none
      else
        ref48_to_l4 l level (IntKind.i64.wrap (i + 1)) l0
    else
      none
  else
    some ((l0, ()), ()) := (FD.lab_eq _ _ _ _).trans (by kernel_rfl)
def ref48_to (l : (List TGap)) (level : Int) : (Option (((List TGap) × Unit) × Unit)) :=
  ref48_to_l4 l level 0 []
def fc82 : FC := ⟨⟨[.one (.sl (.cons (.int .i64) (.int .i64))), .one (.int .i64)], []⟩, ⟨[.one (.sl (.cons (.int .i64) (.int .i64)))], []⟩, fun x => ref48_to x.1.1 x.1.2.1⟩
theorem con82 : Contract Tryz.prog 82 fc82 :=
  ref48_to_D.contract tok (cok_of (l := []) trivial) mixed (fn' := Tryz.f82) (by kernel_rfl) (by kernel_rfl) rfl (by kernel_rfl) (fun x => (FD.fn_eq _ _).trans (by kernel_rfl))
end
end Go.Proofs.YtejehchbflmofaaGreatDoor
end

section
/-
YtejehchbflmofaaGreatDoor: signalbench.signalbenchref08.Valid, as one plain function, its equations, its contract. No condition.
-/
set_option maxRecDepth 100000
set_option linter.unusedVariables false
set_option maxHeartbeats 4000000
open Go Go.AM
namespace Go.Proofs.YtejehchbflmofaaGreatDoor
noncomputable section
def ref08_Valid_F7 : FSh := ⟨[(0, .one (.sl (.cons (.int .i64) (.int .i64)))), (3, .one (.int .i64)), (4, .one (.int .i64))], []⟩
def ref08_Valid_D : FD := ⟨T, lookC [], [], (Tryz.f84.body.getD .skip), Tryz.f84.results.toList, ⟨[.one (.sl (.cons (.int .i64) (.int .i64)))], []⟩, ⟨[.one .bool], []⟩, [(7, ref08_Valid_F7)]⟩
def ref08_Valid_l7 (l : (List TGap)) (sum : Int) (i : Int) : (Option ((Bool × Unit) × Unit)) := ref08_Valid_D.lab 7 ref08_Valid_F7 ((l, sum, i, ()), ())
theorem ref08_Valid_l7_eq (l : (List TGap)) (sum : Int) (i : Int) : ref08_Valid_l7 l sum i =
  if (decide (i < (l.length : Int))) = true then
    if 0 ≤ i ∧ i < (l.length : Int) then
      if ((l.getD i.toNat dGap).1 != 0) = true then
        if 0 ≤ i ∧ i < (l.length : Int) then
          if ((l.getD i.toNat dGap).1 != 1) = true then
            some ((false, ()), ())
          else
            if 0 ≤ i ∧ i < (l.length : Int) then
              if (decide ((l.getD i.toNat dGap).2 < 1)) = true then
                some ((false, ()), ())
              else
                if 0 ≤ i ∧ i < (l.length : Int) then
                  if (decide ((l.getD i.toNat dGap).2 > (IntKind.i64.wrap (1099511627776 - sum)))) = true then
                    some ((false, ()), ())
                  else
                    if 0 ≤ i ∧ i < (l.length : Int) then
                      ref08_Valid_l7 l (IntKind.i64.wrap (sum + (l.getD i.toNat dGap).2)) (IntKind.i64.wrap (i + 1))
                    else
                      none
                else
                  none
            else
              none
        else
          none
      else
        if 0 ≤ i ∧ i < (l.length : Int) then
          if (decide ((l.getD i.toNat dGap).2 < 1)) = true then
            some ((false, ()), ())
          else
            if 0 ≤ i ∧ i < (l.length : Int) then
              if (decide ((l.getD i.toNat dGap).2 > (IntKind.i64.wrap (1099511627776 - sum)))) = true then
                some ((false, ()), ())
              else
                if 0 ≤ i ∧ i < (l.length : Int) then
                  ref08_Valid_l7 l (IntKind.i64.wrap (sum + (l.getD i.toNat dGap).2)) (IntKind.i64.wrap (i + 1))
                else
                  none
            else
              none
        else
          none
    else
      none
  else
    some ((true, ()), ()) := (FD.lab_eq _ _ _ _).trans (by kernel_rfl)
def ref08_Valid (l : (List TGap)) : (Option ((Bool × Unit) × Unit)) :=
  if (decide ((l.length : Int) > 262144)) = true then
    some ((false, ()), ())
  else
    ref08_Valid_l7 l 0 0
def fc84 : FC := ⟨⟨[.one (.sl (.cons (.int .i64) (.int .i64)))], []⟩, ⟨[.one .bool], []⟩, fun x => ref08_Valid x.1.1⟩
theorem con84 : Contract Tryz.prog 84 fc84 :=
  ref08_Valid_D.contract tok (cok_of (l := []) trivial) mixed (fn' := Tryz.f84) (by kernel_rfl) (by kernel_rfl) rfl (by kernel_rfl) (fun x => (FD.fn_eq _ _).trans (by kernel_rfl))
end
end Go.Proofs.YtejehchbflmofaaGreatDoor
end

section
/-
YtejehchbflmofaaGreatDoor: signalbench.signalbenchref48.changes, as one plain function, its equations, its contract. No condition.
-/
set_option maxRecDepth 100000
set_option linter.unusedVariables false
set_option maxHeartbeats 4000000
open Go Go.AM
namespace Go.Proofs.YtejehchbflmofaaGreatDoor
noncomputable section
def ref48_changes_F8 : FSh := ⟨[(0, .one (.sl (.cons (.int .i64) (.int .i64)))), (3, .one (.own 0)), (4, .one (.int .i64)), (5, .one (.int .i64))], [.arr 124 (.cons (.int .i64) (.int .i64)) true]⟩
def ref48_changes_F12 : FSh := ⟨[(0, .one (.sl (.cons (.int .i64) (.int .i64)))), (3, .one (.own 0)), (4, .one (.int .i64)), (5, .one (.int .i64))], [.arr 124 (.cons (.int .i64) (.int .i64)) true]⟩
def ref48_changes_D : FD := ⟨T, lookC [(84, fc84)], [12], (Tryz.f83.body.getD .skip), Tryz.f83.results.toList, ⟨[.one (.sl (.cons (.int .i64) (.int .i64)))], []⟩, ⟨[.one (.sl (.cons (.int .i64) (.int .i64)))], []⟩, [(8, ref48_changes_F8), (12, ref48_changes_F12)]⟩
def ref48_changes_l8 (l : (List TGap)) (at_ : Int) (i : Int) (l0 : (List TGap)) : (Option (((List TGap) × Unit) × Unit)) := ref48_changes_D.lab 8 ref48_changes_F8 ((l, (), at_, i, ()), (l0, ()))
def ref48_changes_l12 (l : (List TGap)) (at_ : Int) (i : Int) (l0 : (List TGap)) : (Option (((List TGap) × Unit) × Unit)) := ref48_changes_D.lab 12 ref48_changes_F12 ((l, (), at_, i, ()), (l0, ()))
theorem ref48_changes_l8_eq (l : (List TGap)) (at_ : Int) (i : Int) (l0 : (List TGap)) : ref48_changes_l8 l at_ i l0 =
  if (decide (i < (l.length : Int))) = true then
    if (decide (i > 0)) = true then
      if 0 ≤ i ∧ i < (l.length : Int) then
        if 0 ≤ IntKind.i64.wrap (i - 1) ∧ IntKind.i64.wrap (i - 1) < (l.length : Int) then
          if ((l.getD i.toNat dGap).1 != (l.getD (IntKind.i64.wrap (i - 1)).toNat dGap).1) = true then
            if 0 ≤ i ∧ i < (l.length : Int) then
              if (l0.length + 1) * 16 ≤ 140737488355328 ∧ 0 < 16 then
                ref48_changes_l12 l at_ i (l0 ++ [(at_, (l.getD i.toNat dGap).1)])
              else
                none
            else
              none
          else
            ref48_changes_l12 l at_ i l0
        else
          none
      else
        none
    else
      ref48_changes_l12 l at_ i l0
  else
    some ((l0, ()), ()) := (FD.lab_eq _ _ _ _).trans (by kernel_rfl)
theorem ref48_changes_l12_eq (l : (List TGap)) (at_ : Int) (i : Int) (l0 : (List TGap)) : ref48_changes_l12 l at_ i l0 =
  if 0 ≤ i ∧ i < (l.length : Int) then
    ref48_changes_l8 l (IntKind.i64.wrap (at_ + (l.getD i.toNat dGap).2)) (IntKind.i64.wrap (i + 1)) l0
  else
    none := (FD.lab_eq _ _ _ _).trans (by kernel_rfl)
def ref48_changes (l : (List TGap)) : (Option (((List TGap) × Unit) × Unit)) :=
  (ref08_Valid l).bind fun y1 =>
    if (!y1.1.1) = true then
      some (([], ()), ())
    else
      ref48_changes_l8 l 0 0 []
def fc83 : FC := ⟨⟨[.one (.sl (.cons (.int .i64) (.int .i64)))], []⟩, ⟨[.one (.sl (.cons (.int .i64) (.int .i64)))], []⟩, fun x => ref48_changes x.1.1⟩
theorem con83 : Contract Tryz.prog 83 fc83 :=
  ref48_changes_D.contract tok (cok_of (l := [(84, fc84)]) ⟨con84, trivial⟩) mixed (fn' := Tryz.f83) (by kernel_rfl) (by kernel_rfl) rfl (by kernel_rfl) (fun x => (FD.fn_eq _ _).trans (by kernel_rfl))
end
end Go.Proofs.YtejehchbflmofaaGreatDoor
end

section
/-
YtejehchbflmofaaGreatDoor: signalbench.signalbenchref48.Periods, as one plain function, its equations, its contract. No condition.
-/
set_option maxRecDepth 100000
set_option linter.unusedVariables false
set_option maxHeartbeats 4000000
open Go Go.AM
namespace Go.Proofs.YtejehchbflmofaaGreatDoor
noncomputable section
def ref48_Periods_F5 : FSh := ⟨[(3, .one (.own 0)), (4, .one (.sl (.cons (.int .i64) (.int .i64)))), (5, .one (.int .i64))], [.arr 35 (.cons (.int .i64) (.int .i64)) true]⟩
def ref48_Periods_D : FD := ⟨T, lookC [(82, fc82), (83, fc83)], [], (Tryz.f44.body.getD .skip), Tryz.f44.results.toList, ⟨[.one (.sl (.cons (.int .i64) (.int .i64)))], []⟩, ⟨[.one (.sl (.cons (.int .i64) (.int .i64)))], []⟩, [(5, ref48_Periods_F5)]⟩
def ref48_Periods_l5 (r : (List TGap)) (i : Int) (l0 : (List TGap)) : (Option (((List TGap) × Unit) × Unit)) := ref48_Periods_D.lab 5 ref48_Periods_F5 (((), r, i, ()), (l0, ()))
theorem ref48_Periods_l5_eq (r : (List TGap)) (i : Int) (l0 : (List TGap)) : ref48_Periods_l5 r i l0 =
  if (decide (i < (r.length : Int))) = true then
    if 0 ≤ IntKind.i64.wrap (i - 1) ∧ IntKind.i64.wrap (i - 1) < (r.length : Int) then
      if 0 ≤ i ∧ i < (r.length : Int) then
        if 0 ≤ IntKind.i64.wrap (i - 1) ∧ IntKind.i64.wrap (i - 1) < (r.length : Int) then
          if (l0.length + 1) * 16 ≤ 140737488355328 ∧ 0 < 16 then
            ref48_Periods_l5 r (IntKind.i64.wrap (i + 1)) (l0 ++ [((r.getD (IntKind.i64.wrap (i - 1)).toNat dGap).1, IntKind.i64.wrap ((r.getD i.toNat dGap).1 - (r.getD (IntKind.i64.wrap (i - 1)).toNat dGap).1))])
          else
            none
        else
          none
      else
        none
    else
      none
  else
    some ((l0, ()), ()) := (FD.lab_eq _ _ _ _).trans (by kernel_rfl)
def ref48_Periods (l : (List TGap)) : (Option (((List TGap) × Unit) × Unit)) :=
  (ref48_changes l).bind fun y1 =>
    (ref48_to y1.1.1 1).bind fun y2 =>
      ref48_Periods_l5 y2.1.1 1 []
def fc44 : FC := ⟨⟨[.one (.sl (.cons (.int .i64) (.int .i64)))], []⟩, ⟨[.one (.sl (.cons (.int .i64) (.int .i64)))], []⟩, fun x => ref48_Periods x.1.1⟩
theorem con44 : Contract Tryz.prog 44 fc44 :=
  ref48_Periods_D.contract tok (cok_of (l := [(82, fc82), (83, fc83)]) ⟨con82, con83, trivial⟩) mixed (fn' := Tryz.f44) (by kernel_rfl) (by kernel_rfl) rfl (by kernel_rfl) (fun x => (FD.fn_eq _ _).trans (by kernel_rfl))
end
end Go.Proofs.YtejehchbflmofaaGreatDoor
end

section
/-
YtejehchbflmofaaGreatDoor: signalbench.signalbenchref48.Pulses, as one plain function, its equations, its contract. No condition.
-/
set_option maxRecDepth 100000
set_option linter.unusedVariables false
set_option maxHeartbeats 4000000
open Go Go.AM
namespace Go.Proofs.YtejehchbflmofaaGreatDoor
noncomputable section
def ref48_Pulses_F5 : FSh := ⟨[(1, .one (.int .i64)), (5, .one (.own 0)), (6, .one (.sl (.cons (.int .i64) (.int .i64)))), (7, .one (.int .i64))], [.arr 35 (.cons (.int .i64) (.int .i64)) true]⟩
def ref48_Pulses_D : FD := ⟨T, lookC [(83, fc83)], [], (Tryz.f45.body.getD .skip), Tryz.f45.results.toList, ⟨[.one (.sl (.cons (.int .i64) (.int .i64))), .one (.int .i64)], []⟩, ⟨[.one (.sl (.cons (.int .i64) (.int .i64)))], []⟩, [(5, ref48_Pulses_F5)]⟩
def ref48_Pulses_l5 (level : Int) (c : (List TGap)) (i : Int) (l0 : (List TGap)) : (Option (((List TGap) × Unit) × Unit)) := ref48_Pulses_D.lab 5 ref48_Pulses_F5 ((level, (), c, i, ()), (l0, ()))
theorem ref48_Pulses_l5_eq (level : Int) (c : (List TGap)) (i : Int) (l0 : (List TGap)) : ref48_Pulses_l5 level c i l0 =
  if (decide (i < (c.length : Int))) = true then
    if 0 ≤ IntKind.i64.wrap (i - 1) ∧ IntKind.i64.wrap (i - 1) < (c.length : Int) then
      if ((c.getD (IntKind.i64.wrap (i - 1)).toNat dGap).2 == level) = true then
        if 0 ≤ IntKind.i64.wrap (i - 1) ∧ IntKind.i64.wrap (i - 1) < (c.length : Int) then
          if 0 ≤ i ∧ i < (c.length : Int) then
            if 0 ≤ IntKind.i64.wrap (i - 1) ∧ IntKind.i64.wrap (i - 1) < (c.length : Int) then
              if (l0.length + 1) * 16 ≤ 140737488355328 ∧ 0 < 16 then
                ref48_Pulses_l5 level c (IntKind.i64.wrap (i + 1)) (l0 ++ [((c.getD (IntKind.i64.wrap (i - 1)).toNat dGap).1, IntKind.i64.wrap ((c.getD i.toNat dGap).1 - (c.getD (IntKind.i64.wrap (i - 1)).toNat dGap).1))])
              else
                none
            else
              none
          else
            none
        else
          none
      else
        ref48_Pulses_l5 level c (IntKind.i64.wrap (i + 1)) l0
    else
      none
  else
    some ((l0, ()), ()) := (FD.lab_eq _ _ _ _).trans (by kernel_rfl)
def ref48_Pulses (l : (List TGap)) (level : Int) : (Option (((List TGap) × Unit) × Unit)) :=
  (ref48_changes l).bind fun y1 =>
    ref48_Pulses_l5 level y1.1.1 1 []
def fc45 : FC := ⟨⟨[.one (.sl (.cons (.int .i64) (.int .i64))), .one (.int .i64)], []⟩, ⟨[.one (.sl (.cons (.int .i64) (.int .i64)))], []⟩, fun x => ref48_Pulses x.1.1 x.1.2.1⟩
theorem con45 : Contract Tryz.prog 45 fc45 :=
  ref48_Pulses_D.contract tok (cok_of (l := [(83, fc83)]) ⟨con83, trivial⟩) mixed (fn' := Tryz.f45) (by kernel_rfl) (by kernel_rfl) rfl (by kernel_rfl) (fun x => (FD.fn_eq _ _).trans (by kernel_rfl))
end
end Go.Proofs.YtejehchbflmofaaGreatDoor
end

section
/-
YtejehchbflmofaaGreatDoor: signalbench.signalbenchref48.active, as one plain function, its equations, its contract. No condition.
-/
set_option maxRecDepth 100000
set_option linter.unusedVariables false
set_option maxHeartbeats 4000000
open Go Go.AM
namespace Go.Proofs.YtejehchbflmofaaGreatDoor
noncomputable section
def ref48_active_D : FD := ⟨T, lookC [(82, fc82), (83, fc83)], [], (Tryz.f85.body.getD .skip), Tryz.f85.results.toList, ⟨[.one (.sl (.cons (.int .i64) (.int .i64))), .one .bool], []⟩, ⟨[.one (.sl (.cons (.int .i64) (.int .i64)))], []⟩, []⟩
def ref48_active (clock : (List TGap)) (rising : Bool) : (Option (((List TGap) × Unit) × Unit)) :=
  if rising = true then
    (ref48_changes clock).bind fun y1 =>
      (ref48_to y1.1.1 1).bind fun y2 =>
        some ((y2.1.1, ()), ())
  else
    (ref48_changes clock).bind fun y3 =>
      (ref48_to y3.1.1 0).bind fun y4 =>
        some ((y4.1.1, ()), ())
def fc85 : FC := ⟨⟨[.one (.sl (.cons (.int .i64) (.int .i64))), .one .bool], []⟩, ⟨[.one (.sl (.cons (.int .i64) (.int .i64)))], []⟩, fun x => ref48_active x.1.1 x.1.2.1⟩
theorem con85 : Contract Tryz.prog 85 fc85 :=
  ref48_active_D.contract tok (cok_of (l := [(82, fc82), (83, fc83)]) ⟨con82, con83, trivial⟩) mixed (fn' := Tryz.f85) (by kernel_rfl) (by kernel_rfl) rfl (by kernel_rfl) (fun x => (FD.fn_eq _ _).trans (by kernel_rfl))
end
end Go.Proofs.YtejehchbflmofaaGreatDoor
end

section
/-
YtejehchbflmofaaGreatDoor: signalbench.signalbenchref48.Setup, as one plain function, its equations, its contract. No condition.
-/
set_option maxRecDepth 100000
set_option linter.unusedVariables false
set_option maxHeartbeats 4000000
open Go Go.AM
namespace Go.Proofs.YtejehchbflmofaaGreatDoor
noncomputable section
def ref48_Setup_F8 : FSh := ⟨[(7, .one (.own 0)), (8, .one (.sl (.cons (.int .i64) (.int .i64)))), (9, .one (.sl (.cons (.int .i64) (.int .i64)))), (10, .one (.int .i64))], [.arr 35 (.cons (.int .i64) (.int .i64)) true]⟩
def ref48_Setup_F15 : FSh := ⟨[(7, .one (.own 0)), (8, .one (.sl (.cons (.int .i64) (.int .i64)))), (9, .one (.sl (.cons (.int .i64) (.int .i64)))), (10, .one (.int .i64)), (11, .one (.int .i64)), (12, .one (.int .i64))], [.arr 35 (.cons (.int .i64) (.int .i64)) true]⟩
def ref48_Setup_D : FD := ⟨T, lookC [(83, fc83), (84, fc84), (85, fc85)], [], (Tryz.f46.body.getD .skip), Tryz.f46.results.toList, ⟨[.one (.sl (.cons (.int .i64) (.int .i64))), .one (.sl (.cons (.int .i64) (.int .i64))), .one .bool], []⟩, ⟨[.one (.sl (.cons (.int .i64) (.int .i64)))], []⟩, [(8, ref48_Setup_F8), (15, ref48_Setup_F15)]⟩
def ref48_Setup_l8 (d : (List TGap)) (a : (List TGap)) (i : Int) (l0 : (List TGap)) : (Option (((List TGap) × Unit) × Unit)) := ref48_Setup_D.lab 8 ref48_Setup_F8 (((), d, a, i, ()), (l0, ()))
def ref48_Setup_l15 (d : (List TGap)) (a : (List TGap)) (i : Int) (last : Int) (k0 : Int) (l0 : (List TGap)) : (Option (((List TGap) × Unit) × Unit)) := ref48_Setup_D.lab 15 ref48_Setup_F15 (((), d, a, i, last, k0, ()), (l0, ()))
theorem ref48_Setup_l8_eq (d : (List TGap)) (a : (List TGap)) (i : Int) (l0 : (List TGap)) : ref48_Setup_l8 d a i l0 =
  if (decide (i < (a.length : Int))) = true then
    ref48_Setup_l15 d a i (-1) 0 l0
  else
    some ((l0, ()), ()) := (FD.lab_eq _ _ _ _).trans (by kernel_rfl)
theorem ref48_Setup_l15_eq (d : (List TGap)) (a : (List TGap)) (i : Int) (last : Int) (k0 : Int) (l0 : (List TGap)) : ref48_Setup_l15 d a i last k0 l0 =
  if (decide (k0 < (d.length : Int))) = true then
    if 0 ≤ k0 ∧ k0 < (d.length : Int) then
      if 0 ≤ i ∧ i < (a.length : Int) then
        if (decide ((d.getD k0.toNat dGap).1 ≤ (a.getD i.toNat dGap).1)) = true then
          if 0 ≤ k0 ∧ k0 < (d.length : Int) then
            ref48_Setup_l15 d a i (d.getD k0.toNat dGap).1 (IntKind.i64.wrap (k0 + 1)) l0
          else
            none
        else
          if (decide (last ≥ 0)) = true then
            if 0 ≤ i ∧ i < (a.length : Int) then
              if (l0.length + 1) * 16 ≤ 140737488355328 ∧ 0 < 16 then
                ref48_Setup_l8 d a (IntKind.i64.wrap (i + 1)) (l0 ++ [(last, IntKind.i64.wrap ((a.getD i.toNat dGap).1 - last))])
              else
                none
            else
              none
          else
            ref48_Setup_l8 d a (IntKind.i64.wrap (i + 1)) l0
      else
        none
    else
      none
  else
    if (decide (last ≥ 0)) = true then
      if 0 ≤ i ∧ i < (a.length : Int) then
        if (l0.length + 1) * 16 ≤ 140737488355328 ∧ 0 < 16 then
          ref48_Setup_l8 d a (IntKind.i64.wrap (i + 1)) (l0 ++ [(last, IntKind.i64.wrap ((a.getD i.toNat dGap).1 - last))])
        else
          none
      else
        none
    else
      ref48_Setup_l8 d a (IntKind.i64.wrap (i + 1)) l0 := (FD.lab_eq _ _ _ _).trans (by kernel_rfl)
def ref48_Setup (data : (List TGap)) (clock : (List TGap)) (rising : Bool) : (Option (((List TGap) × Unit) × Unit)) :=
  (ref08_Valid data).bind fun y1 =>
    if (!y1.1.1) = true then
      some (([], ()), ())
    else
      (ref48_changes data).bind fun y2 =>
        (ref48_active clock rising).bind fun y3 =>
          ref48_Setup_l8 y2.1.1 y3.1.1 0 []
def fc46 : FC := ⟨⟨[.one (.sl (.cons (.int .i64) (.int .i64))), .one (.sl (.cons (.int .i64) (.int .i64))), .one .bool], []⟩, ⟨[.one (.sl (.cons (.int .i64) (.int .i64)))], []⟩, fun x => ref48_Setup x.1.1 x.1.2.1 x.1.2.2.1⟩
theorem con46 : Contract Tryz.prog 46 fc46 :=
  ref48_Setup_D.contract tok (cok_of (l := [(83, fc83), (84, fc84), (85, fc85)]) ⟨con83, con84, con85, trivial⟩) mixed (fn' := Tryz.f46) (by kernel_rfl) (by kernel_rfl) rfl (by kernel_rfl) (fun x => (FD.fn_eq _ _).trans (by kernel_rfl))
end
end Go.Proofs.YtejehchbflmofaaGreatDoor
end

section
/-
YtejehchbflmofaaGreatDoor: signalbench.signalbenchref48.after, as one plain function, its equations, its contract. No condition.
-/
set_option maxRecDepth 100000
set_option linter.unusedVariables false
set_option maxHeartbeats 4000000
open Go Go.AM
namespace Go.Proofs.YtejehchbflmofaaGreatDoor
noncomputable section
def ref48_after_F4 : FSh := ⟨[(0, .one (.sl (.cons (.int .i64) (.int .i64)))), (1, .one (.sl (.cons (.int .i64) (.int .i64)))), (5, .one (.own 0)), (6, .one (.int .i64))], [.arr 35 (.cons (.int .i64) (.int .i64)) true]⟩
def ref48_after_F10 : FSh := ⟨[(0, .one (.sl (.cons (.int .i64) (.int .i64)))), (1, .one (.sl (.cons (.int .i64) (.int .i64)))), (5, .one (.own 0)), (6, .one (.int .i64)), (7, .one (.int .i64))], [.arr 35 (.cons (.int .i64) (.int .i64)) true]⟩
def ref48_after_D : FD := ⟨T, lookC [], [], (Tryz.f86.body.getD .skip), Tryz.f86.results.toList, ⟨[.one (.sl (.cons (.int .i64) (.int .i64))), .one (.sl (.cons (.int .i64) (.int .i64)))], []⟩, ⟨[.one (.sl (.cons (.int .i64) (.int .i64)))], []⟩, [(4, ref48_after_F4), (10, ref48_after_F10)]⟩
def ref48_after_l4 (d : (List TGap)) (a : (List TGap)) (i : Int) (l0 : (List TGap)) : (Option (((List TGap) × Unit) × Unit)) := ref48_after_D.lab 4 ref48_after_F4 ((d, a, (), i, ()), (l0, ()))
def ref48_after_l10 (d : (List TGap)) (a : (List TGap)) (i : Int) (k0 : Int) (l0 : (List TGap)) : (Option (((List TGap) × Unit) × Unit)) := ref48_after_D.lab 10 ref48_after_F10 ((d, a, (), i, k0, ()), (l0, ()))
theorem ref48_after_l4_eq (d : (List TGap)) (a : (List TGap)) (i : Int) (l0 : (List TGap)) : ref48_after_l4 d a i l0 =
  if (decide (i < (a.length : Int))) = true then
    ref48_after_l10 d a i 0 l0
  else
    some ((l0, ()), ()) := (FD.lab_eq _ _ _ _).trans (by kernel_rfl)
theorem ref48_after_l10_eq (d : (List TGap)) (a : (List TGap)) (i : Int) (k0 : Int) (l0 : (List TGap)) : ref48_after_l10 d a i k0 l0 =
  if (decide (k0 < (d.length : Int))) = true then
    if 0 ≤ k0 ∧ k0 < (d.length : Int) then
      if 0 ≤ i ∧ i < (a.length : Int) then
        if (decide ((d.getD k0.toNat dGap).1 ≤ (a.getD i.toNat dGap).1)) = true then
          ref48_after_l10 d a i (IntKind.i64.wrap (k0 + 1)) l0
        else
          if (decide (k0 < (d.length : Int))) = true then
            if 0 ≤ i ∧ i < (a.length : Int) then
              if 0 ≤ k0 ∧ k0 < (d.length : Int) then
                if 0 ≤ i ∧ i < (a.length : Int) then
                  if (l0.length + 1) * 16 ≤ 140737488355328 ∧ 0 < 16 then
                    ref48_after_l4 d a (IntKind.i64.wrap (i + 1)) (l0 ++ [((a.getD i.toNat dGap).1, IntKind.i64.wrap ((d.getD k0.toNat dGap).1 - (a.getD i.toNat dGap).1))])
                  else
                    none
                else
                  none
              else
                none
            else
              none
          else
            ref48_after_l4 d a (IntKind.i64.wrap (i + 1)) l0
      else
        none
    else
      none
  else
    if (decide (k0 < (d.length : Int))) = true then
      if 0 ≤ i ∧ i < (a.length : Int) then
        if 0 ≤ k0 ∧ k0 < (d.length : Int) then
          if 0 ≤ i ∧ i < (a.length : Int) then
            if (l0.length + 1) * 16 ≤ 140737488355328 ∧ 0 < 16 then
              ref48_after_l4 d a (IntKind.i64.wrap (i + 1)) (l0 ++ [((a.getD i.toNat dGap).1, IntKind.i64.wrap ((d.getD k0.toNat dGap).1 - (a.getD i.toNat dGap).1))])
            else
              none
          else
            none
        else
          none
      else
        none
    else
      ref48_after_l4 d a (IntKind.i64.wrap (i + 1)) l0 := (FD.lab_eq _ _ _ _).trans (by kernel_rfl)
def ref48_after (d : (List TGap)) (a : (List TGap)) : (Option (((List TGap) × Unit) × Unit)) :=
  ref48_after_l4 d a 0 []
def fc86 : FC := ⟨⟨[.one (.sl (.cons (.int .i64) (.int .i64))), .one (.sl (.cons (.int .i64) (.int .i64)))], []⟩, ⟨[.one (.sl (.cons (.int .i64) (.int .i64)))], []⟩, fun x => ref48_after x.1.1 x.1.2.1⟩
theorem con86 : Contract Tryz.prog 86 fc86 :=
  ref48_after_D.contract tok (cok_of (l := []) trivial) mixed (fn' := Tryz.f86) (by kernel_rfl) (by kernel_rfl) rfl (by kernel_rfl) (fun x => (FD.fn_eq _ _).trans (by kernel_rfl))
end
end Go.Proofs.YtejehchbflmofaaGreatDoor
end

section
/-
YtejehchbflmofaaGreatDoor: signalbench.signalbenchref48.Hold, as one plain function, its equations, its contract. No condition.
-/
set_option maxRecDepth 100000
set_option linter.unusedVariables false
set_option maxHeartbeats 4000000
open Go Go.AM
namespace Go.Proofs.YtejehchbflmofaaGreatDoor
noncomputable section
def ref48_Hold_D : FD := ⟨T, lookC [(83, fc83), (85, fc85), (86, fc86)], [], (Tryz.f47.body.getD .skip), Tryz.f47.results.toList, ⟨[.one (.sl (.cons (.int .i64) (.int .i64))), .one (.sl (.cons (.int .i64) (.int .i64))), .one .bool], []⟩, ⟨[.one (.sl (.cons (.int .i64) (.int .i64)))], []⟩, []⟩
def ref48_Hold (data : (List TGap)) (clock : (List TGap)) (rising : Bool) : (Option (((List TGap) × Unit) × Unit)) :=
  (ref48_changes data).bind fun y1 =>
    (ref48_active clock rising).bind fun y2 =>
      (ref48_after y1.1.1 y2.1.1).bind fun y3 =>
        some ((y3.1.1, ()), ())
def fc47 : FC := ⟨⟨[.one (.sl (.cons (.int .i64) (.int .i64))), .one (.sl (.cons (.int .i64) (.int .i64))), .one .bool], []⟩, ⟨[.one (.sl (.cons (.int .i64) (.int .i64)))], []⟩, fun x => ref48_Hold x.1.1 x.1.2.1 x.1.2.2.1⟩
theorem con47 : Contract Tryz.prog 47 fc47 :=
  ref48_Hold_D.contract tok (cok_of (l := [(83, fc83), (85, fc85), (86, fc86)]) ⟨con83, con85, con86, trivial⟩) mixed (fn' := Tryz.f47) (by kernel_rfl) (by kernel_rfl) rfl (by kernel_rfl) (fun x => (FD.fn_eq _ _).trans (by kernel_rfl))
end
end Go.Proofs.YtejehchbflmofaaGreatDoor
end

section
/-
YtejehchbflmofaaGreatDoor: signalbench.signalbenchref48.Delay, as one plain function, its equations, its contract. No condition.
-/
set_option maxRecDepth 100000
set_option linter.unusedVariables false
set_option maxHeartbeats 4000000
open Go Go.AM
namespace Go.Proofs.YtejehchbflmofaaGreatDoor
noncomputable section
def ref48_Delay_D : FD := ⟨T, lookC [(82, fc82), (83, fc83), (85, fc85), (86, fc86)], [], (Tryz.f48.body.getD .skip), Tryz.f48.results.toList, ⟨[.one (.sl (.cons (.int .i64) (.int .i64))), .one (.sl (.cons (.int .i64) (.int .i64))), .one .bool], []⟩, ⟨[.one (.sl (.cons (.int .i64) (.int .i64)))], []⟩, []⟩
def ref48_Delay (data : (List TGap)) (clock : (List TGap)) (rising : Bool) : (Option (((List TGap) × Unit) × Unit)) :=
  (ref48_changes data).bind fun y1 =>
    (ref48_to y1.1.1 1).bind fun y2 =>
      (ref48_active clock rising).bind fun y3 =>
        (ref48_after y2.1.1 y3.1.1).bind fun y4 =>
          some ((y4.1.1, ()), ())
def fc48 : FC := ⟨⟨[.one (.sl (.cons (.int .i64) (.int .i64))), .one (.sl (.cons (.int .i64) (.int .i64))), .one .bool], []⟩, ⟨[.one (.sl (.cons (.int .i64) (.int .i64)))], []⟩, fun x => ref48_Delay x.1.1 x.1.2.1 x.1.2.2.1⟩
theorem con48 : Contract Tryz.prog 48 fc48 :=
  ref48_Delay_D.contract tok (cok_of (l := [(82, fc82), (83, fc83), (85, fc85), (86, fc86)]) ⟨con82, con83, con85, con86, trivial⟩) mixed (fn' := Tryz.f48) (by kernel_rfl) (by kernel_rfl) rfl (by kernel_rfl) (fun x => (FD.fn_eq _ _).trans (by kernel_rfl))
end
end Go.Proofs.YtejehchbflmofaaGreatDoor
end

section
/-
YtejehchbflmofaaGreatDoor: signalbench.signalbenchref49.Gaps, as one plain function, its equations, its contract. No condition.
-/
set_option maxRecDepth 100000
set_option linter.unusedVariables false
set_option maxHeartbeats 4000000
open Go Go.AM
namespace Go.Proofs.YtejehchbflmofaaGreatDoor
noncomputable section
def ref49_Gaps_F7 : FSh := ⟨[(3, .one (.ptr 0 0)), (8, .one (.sl (.cons (.int .i64) (.int .i64)))), (10, .one (.sl (.cons (.int .i64) (.int .i64))))], [.boxr 46 (.cons (.int .i64) (.cons .str (.cons .str (.cons .bool (.cons (.int .i64) (.int .i64))))))]⟩
def ref49_Gaps_D : FD := ⟨T, lookC [(25, fc25), (42, fc42), (43, fc43), (44, fc44), (45, fc45), (46, fc46), (47, fc47), (48, fc48)], [7], (Tryz.f19.body.getD .skip), Tryz.f19.results.toList, ⟨[.row (.cons (.sl .str) (.sl (.cons (.int .i64) (.int .i64)))), .row (.cons (.int .i64) (.cons .str (.cons .str (.cons .bool (.cons (.int .i64) (.int .i64))))))], []⟩, ⟨[.one (.sl (.cons (.int .i64) (.int .i64))), .one (.int .i64)], []⟩, [(7, ref49_Gaps_F7)]⟩
def ref49_Gaps_l7 (data : (List TGap)) (clock : (List TGap)) (h0 : TLimit) : (Option (((List TGap) × Int × Unit) × Unit)) := ref49_Gaps_D.lab 7 ref49_Gaps_F7 (((), data, clock, ()), (h0, ()))
theorem ref49_Gaps_l7_eq (data : (List TGap)) (clock : (List TGap)) (h0 : TLimit) : ref49_Gaps_l7 data clock h0 =
  if (h0.1 == 1) = true then
    (ref48_Periods data).bind fun y1 =>
      some ((y1.1.1, 0, ()), ())
  else
    if (h0.1 == 2) = true then
      (ref48_Pulses data 1).bind fun y2 =>
        some ((y2.1.1, 0, ()), ())
    else
      if (h0.1 == 3) = true then
        (ref48_Pulses data 0).bind fun y3 =>
          some ((y3.1.1, 0, ()), ())
      else
        if (h0.1 == 4) = true then
          (ref48_Setup data clock h0.2.2.2.1).bind fun y4 =>
            some ((y4.1.1, 0, ()), ())
        else
          if (h0.1 == 5) = true then
            (ref48_Hold data clock h0.2.2.2.1).bind fun y5 =>
              some ((y5.1.1, 0, ()), ())
          else
            (ref48_Delay data clock h0.2.2.2.1).bind fun y6 =>
              some ((y6.1.1, 0, ()), ()) := (FD.lab_eq _ _ _ _).trans (by kernel_rfl)
def ref49_Gaps (c : TCapture) (x0 : TLimit) : (Option (((List TGap) × Int × Unit) × Unit)) :=
  (ref49_Check c [x0]).bind fun y1 =>
    if (y1.1.2.1 != 0) = true then
      some (([], y1.1.2.1, ()), ())
    else
      (ref09_Channel c x0.2.1).bind fun y2 =>
        (ref49_clocked x0).bind fun y3 =>
          if y3.1.1 = true then
            (ref09_Channel c x0.2.2.1).bind fun y4 =>
              ref49_Gaps_l7 y2.1.1 y4.1.1 x0
          else
            ref49_Gaps_l7 y2.1.1 [] x0
def fc19 : FC := ⟨⟨[.row (.cons (.sl .str) (.sl (.cons (.int .i64) (.int .i64)))), .row (.cons (.int .i64) (.cons .str (.cons .str (.cons .bool (.cons (.int .i64) (.int .i64))))))], []⟩, ⟨[.one (.sl (.cons (.int .i64) (.int .i64))), .one (.int .i64)], []⟩, fun x => ref49_Gaps x.1.1 x.1.2.1⟩
theorem con19 : Contract Tryz.prog 19 fc19 :=
  ref49_Gaps_D.contract tok (cok_of (l := [(25, fc25), (42, fc42), (43, fc43), (44, fc44), (45, fc45), (46, fc46), (47, fc47), (48, fc48)]) ⟨con25, con42, con43, con44, con45, con46, con47, con48, trivial⟩) mixed (fn' := Tryz.f19) (by kernel_rfl) (by kernel_rfl) rfl (by kernel_rfl) (fun x => (FD.fn_eq _ _).trans (by kernel_rfl))
end
end Go.Proofs.YtejehchbflmofaaGreatDoor
end

section
/-
YtejehchbflmofaaGreatDoor: signalbench.signalbenchref49.Find, as one plain function, its equations, its contract. No condition.
-/
set_option maxRecDepth 100000
set_option linter.unusedVariables false
set_option maxHeartbeats 4000000
open Go Go.AM
namespace Go.Proofs.YtejehchbflmofaaGreatDoor
noncomputable section
def ref49_Find_F8 : FSh := ⟨[(1, .one (.sl (.cons (.int .i64) (.cons .str (.cons .str (.cons .bool (.cons (.int .i64) (.int .i64)))))))), (2, .one (.ptr 0 0)), (8, .one (.own 1)), (9, .one (.int .i64))], [.boxr 25 (.cons (.sl .str) (.sl (.cons (.int .i64) (.int .i64)))), .arr 37 (.cons (.int .i64) (.cons (.int .i64) (.int .i64))) true]⟩
def ref49_Find_F14 : FSh := ⟨[(1, .one (.sl (.cons (.int .i64) (.cons .str (.cons .str (.cons .bool (.cons (.int .i64) (.int .i64)))))))), (2, .one (.ptr 0 0)), (8, .one (.own 1)), (9, .one (.int .i64)), (10, .one (.sl (.cons (.int .i64) (.int .i64)))), (12, .one (.int .i64))], [.boxr 25 (.cons (.sl .str) (.sl (.cons (.int .i64) (.int .i64)))), .arr 37 (.cons (.int .i64) (.cons (.int .i64) (.int .i64))) true]⟩
def ref49_Find_D : FD := ⟨T, lookC [(19, fc19), (25, fc25)], [], (Tryz.f11.body.getD .skip), Tryz.f11.results.toList, ⟨[.row (.cons (.sl .str) (.sl (.cons (.int .i64) (.int .i64)))), .one (.sl (.cons (.int .i64) (.cons .str (.cons .str (.cons .bool (.cons (.int .i64) (.int .i64)))))))], []⟩, ⟨[.one (.sl (.cons (.int .i64) (.cons (.int .i64) (.int .i64)))), .one (.int .i64)], []⟩, [(8, ref49_Find_F8), (14, ref49_Find_F14)]⟩
def ref49_Find_l8 (l : (List TLimit)) (i : Int) (h0 : TCapture) (l1 : (List TViolation)) : (Option (((List TViolation) × Int × Unit) × Unit)) := ref49_Find_D.lab 8 ref49_Find_F8 ((l, (), (), i, ()), (h0, l1, ()))
def ref49_Find_l14 (l : (List TLimit)) (i : Int) (gaps : (List TGap)) (k0 : Int) (h0 : TCapture) (l1 : (List TViolation)) : (Option (((List TViolation) × Int × Unit) × Unit)) := ref49_Find_D.lab 14 ref49_Find_F14 ((l, (), (), i, gaps, k0, ()), (h0, l1, ()))
theorem ref49_Find_l8_eq (l : (List TLimit)) (i : Int) (h0 : TCapture) (l1 : (List TViolation)) : ref49_Find_l8 l i h0 l1 =
  if (decide (i < (l.length : Int))) = true then
    if 0 ≤ i ∧ i < (l.length : Int) then
      (ref49_Gaps h0 (l.getD i.toNat dLimit)).bind fun y1 =>
        ref49_Find_l14 l i y1.1.1 0 h0 l1
    else
      none
  else
    some ((l1, 0, ()), ()) := (FD.lab_eq _ _ _ _).trans (by kernel_rfl)
theorem ref49_Find_l14_eq (l : (List TLimit)) (i : Int) (gaps : (List TGap)) (k0 : Int) (h0 : TCapture) (l1 : (List TViolation)) : ref49_Find_l14 l i gaps k0 h0 l1 =
  if (decide (k0 < (gaps.length : Int))) = true then
    if 0 ≤ k0 ∧ k0 < (gaps.length : Int) then
      if 0 ≤ i ∧ i < (l.length : Int) then
        if (decide ((gaps.getD k0.toNat dGap).2 < (l.getD i.toNat dLimit).2.2.2.2.1)) = true then
          if 0 ≤ k0 ∧ k0 < (gaps.length : Int) then
            if (l1.length + 1) * 24 ≤ 140737488355328 ∧ 0 < 24 then
              ref49_Find_l14 l i gaps (IntKind.i64.wrap (k0 + 1)) h0 (l1 ++ [(i, (gaps.getD k0.toNat dGap))])
            else
              none
          else
            none
        else
          if 0 ≤ k0 ∧ k0 < (gaps.length : Int) then
            if 0 ≤ i ∧ i < (l.length : Int) then
              if (decide ((gaps.getD k0.toNat dGap).2 > (l.getD i.toNat dLimit).2.2.2.2.2)) = true then
                if 0 ≤ k0 ∧ k0 < (gaps.length : Int) then
                  if (l1.length + 1) * 24 ≤ 140737488355328 ∧ 0 < 24 then
                    ref49_Find_l14 l i gaps (IntKind.i64.wrap (k0 + 1)) h0 (l1 ++ [(i, (gaps.getD k0.toNat dGap))])
                  else
                    none
                else
                  none
              else
                ref49_Find_l14 l i gaps (IntKind.i64.wrap (k0 + 1)) h0 l1
            else
              none
          else
            none
      else
        none
    else
      none
  else
    ref49_Find_l8 l (IntKind.i64.wrap (i + 1)) h0 l1 := (FD.lab_eq _ _ _ _).trans (by kernel_rfl)
def ref49_Find (c : TCapture) (l : (List TLimit)) : (Option (((List TViolation) × Int × Unit) × Unit)) :=
  (ref49_Check c l).bind fun y1 =>
    if (y1.1.2.1 != 0) = true then
      some (([], y1.1.2.1, ()), ())
    else
      ref49_Find_l8 l 0 c []
def fc11 : FC := ⟨⟨[.row (.cons (.sl .str) (.sl (.cons (.int .i64) (.int .i64)))), .one (.sl (.cons (.int .i64) (.cons .str (.cons .str (.cons .bool (.cons (.int .i64) (.int .i64)))))))], []⟩, ⟨[.one (.sl (.cons (.int .i64) (.cons (.int .i64) (.int .i64)))), .one (.int .i64)], []⟩, fun x => ref49_Find x.1.1 x.1.2.1⟩
theorem con11 : Contract Tryz.prog 11 fc11 :=
  ref49_Find_D.contract tok (cok_of (l := [(19, fc19), (25, fc25)]) ⟨con19, con25, trivial⟩) mixed (fn' := Tryz.f11) (by kernel_rfl) (by kernel_rfl) rfl (by kernel_rfl) (fun x => (FD.fn_eq _ _).trans (by kernel_rfl))
end
end Go.Proofs.YtejehchbflmofaaGreatDoor
end

section
/-
YtejehchbflmofaaGreatDoor: signalbench.signalbenchref49.digits, as one plain function, its equations, its contract. No condition.
-/
set_option maxRecDepth 100000
set_option linter.unusedVariables false
set_option maxHeartbeats 4000000
open Go Go.AM
namespace Go.Proofs.YtejehchbflmofaaGreatDoor
noncomputable section
def ref49_digits_R : Nat → Int → (Option ((ByteArray × Unit) × Unit))
  | 0, _ => none
  | k + 1, n =>
    if (decide (n < 10)) = true then
      if 0 ≤ n ∧ n ≤ IntKind.i64.wrap (n + 1) ∧ IntKind.i64.wrap (n + 1) ≤ ((strB [48, 49, 50, 51, 52, 53, 54, 55, 56, 57]).size : Int) then
        some (((strB [48, 49, 50, 51, 52, 53, 54, 55, 56, 57]).extract n.toNat (IntKind.i64.wrap (n + 1)).toNat, ()), ())
      else
        none
    else
      (ref49_digits_R k (IntKind.i64.wrap (n.tdiv 10))).bind fun y1 =>
        if 0 ≤ n.tmod 10 ∧ n.tmod 10 ≤ IntKind.i64.wrap ((n.tmod 10) + 1) ∧ IntKind.i64.wrap ((n.tmod 10) + 1) ≤ ((strB [48, 49, 50, 51, 52, 53, 54, 55, 56, 57]).size : Int) then
          if y1.1.1.size + ((strB [48, 49, 50, 51, 52, 53, 54, 55, 56, 57]).extract (n.tmod 10).toNat (IntKind.i64.wrap ((n.tmod 10) + 1)).toNat).size ≤ 9223372036854775807 then
            some ((y1.1.1 ++ ((strB [48, 49, 50, 51, 52, 53, 54, 55, 56, 57]).extract (n.tmod 10).toNat (IntKind.i64.wrap ((n.tmod 10) + 1)).toNat), ()), ())
          else
            none
        else
          none
def ref49_digits_fc (k : Nat) : FC := ⟨⟨[.one (.int .i64)], []⟩, ⟨[.one .str], []⟩, fun x => ref49_digits_R k x.1.1⟩
def ref49_digits_D (k : Nat) : FD := ⟨T, lookC [(110, ref49_digits_fc k)], [], (Tryz.f110.body.getD .skip), Tryz.f110.results.toList, ⟨[.one (.int .i64)], []⟩, ⟨[.one .str], []⟩, []⟩
theorem ref49_digits_con : ∀ k, Contract Tryz.prog 110 (ref49_digits_fc k)
  | 0 => ⟨by decide, fun w M G x vals hI hv h1 h0 y hy => by cases hy⟩
  | k + 1 => (ref49_digits_D k).contract tok (cok_of (l := [(110, ref49_digits_fc k)]) ⟨ref49_digits_con k, trivial⟩) mixed (fn' := Tryz.f110) (by kernel_rfl) (by kernel_rfl) rfl (by kernel_rfl) (fun x => (FD.fn_eq _ _).trans (by kernel_rfl))
def ref49_digits (n : Int) : (Option ((ByteArray × Unit) × Unit)) := ref49_digits_R 20 n
def fc110 : FC := ⟨⟨[.one (.int .i64)], []⟩, ⟨[.one .str], []⟩, fun x => ref49_digits x.1.1⟩
theorem con110 : Contract Tryz.prog 110 fc110 := ref49_digits_con 20
end
end Go.Proofs.YtejehchbflmofaaGreatDoor
end

section
/-
YtejehchbflmofaaGreatDoor: signalbench.lex.words, as one plain function, its equations, its contract. No condition.
-/
set_option maxRecDepth 100000
set_option linter.unusedVariables false
set_option maxHeartbeats 4000000
open Go Go.AM
namespace Go.Proofs.YtejehchbflmofaaGreatDoor
noncomputable section
def lex_words_F3 : FSh := ⟨[(0, .one .str), (3, .one (.int .i64))], []⟩
def lex_words_D : FD := ⟨T, lookC [(59, fc59)], [], (Tryz.f112.body.getD .skip), Tryz.f112.results.toList, ⟨[.one .str], []⟩, ⟨[.one (.int .i64)], []⟩, [(3, lex_words_F3)]⟩
def lex_words_l3 (s : ByteArray) (n : Int) : (Option ((Int × Unit) × Unit)) := lex_words_D.lab 3 lex_words_F3 ((s, n, ()), ())
theorem lex_words_l3_eq (s : ByteArray) (n : Int) : lex_words_l3 s n =
  if (decide (n < (s.size : Int))) = true then
    if 0 ≤ n ∧ n < (s.size : Int) then
      (lex_word (IntKind.i32.wrap (bt s n))).bind fun y1 =>
        if y1.1.1 = true then
          lex_words_l3 s (IntKind.i64.wrap (n + 1))
        else
          some ((n, ()), ())
    else
      none
  else
    some ((n, ()), ()) := (FD.lab_eq _ _ _ _).trans (by kernel_rfl)
def lex_words (s : ByteArray) : (Option ((Int × Unit) × Unit)) :=
  lex_words_l3 s 0
def fc112 : FC := ⟨⟨[.one .str], []⟩, ⟨[.one (.int .i64)], []⟩, fun x => lex_words x.1.1⟩
theorem con112 : Contract Tryz.prog 112 fc112 :=
  lex_words_D.contract tok (cok_of (l := [(59, fc59)]) ⟨con59, trivial⟩) mixed (fn' := Tryz.f112) (by kernel_rfl) (by kernel_rfl) rfl (by kernel_rfl) (fun x => (FD.fn_eq _ _).trans (by kernel_rfl))
end
end Go.Proofs.YtejehchbflmofaaGreatDoor
end

section
/-
YtejehchbflmofaaGreatDoor: signalbench.lex.quoted, as one plain function, its equations, its contract. No condition.
-/
set_option maxRecDepth 100000
set_option linter.unusedVariables false
set_option maxHeartbeats 4000000
open Go Go.AM
namespace Go.Proofs.YtejehchbflmofaaGreatDoor
noncomputable section
def lex_quoted_F3 : FSh := ⟨[(0, .one .str), (3, .one (.int .i64))], []⟩
def lex_quoted_D : FD := ⟨T, lookC [], [], (Tryz.f113.body.getD .skip), Tryz.f113.results.toList, ⟨[.one .str], []⟩, ⟨[.one (.int .i64)], []⟩, [(3, lex_quoted_F3)]⟩
def lex_quoted_l3 (s : ByteArray) (i : Int) : (Option ((Int × Unit) × Unit)) := lex_quoted_D.lab 3 lex_quoted_F3 ((s, i, ()), ())
theorem lex_quoted_l3_eq (s : ByteArray) (i : Int) : lex_quoted_l3 s i =
  if (decide (i < (s.size : Int))) = true then
    if 0 ≤ i ∧ i < (s.size : Int) then
      if ((bt s i) == 34) = true then
        some ((IntKind.i64.wrap (i + 1), ()), ())
      else
        if ((bt s i) == 92) = true then
          lex_quoted_l3 s (IntKind.i64.wrap ((IntKind.i64.wrap (i + 1)) + 1))
        else
          lex_quoted_l3 s (IntKind.i64.wrap (i + 1))
    else
      none
  else
    some ((0, ()), ()) := (FD.lab_eq _ _ _ _).trans (by kernel_rfl)
def lex_quoted (s : ByteArray) : (Option ((Int × Unit) × Unit)) :=
  lex_quoted_l3 s 1
def fc113 : FC := ⟨⟨[.one .str], []⟩, ⟨[.one (.int .i64)], []⟩, fun x => lex_quoted x.1.1⟩
theorem con113 : Contract Tryz.prog 113 fc113 :=
  lex_quoted_D.contract tok (cok_of (l := []) trivial) mixed (fn' := Tryz.f113) (by kernel_rfl) (by kernel_rfl) rfl (by kernel_rfl) (fun x => (FD.fn_eq _ _).trans (by kernel_rfl))
end
end Go.Proofs.YtejehchbflmofaaGreatDoor
end

section
/-
YtejehchbflmofaaGreatDoor: signalbench.lex.escape, as one plain function, its equations, its contract. No condition.
-/
set_option maxRecDepth 100000
set_option linter.unusedVariables false
set_option maxHeartbeats 4000000
open Go Go.AM
namespace Go.Proofs.YtejehchbflmofaaGreatDoor
noncomputable section
def lex_escape_F6 : FSh := ⟨[(0, .one .str), (8, .one (.int .u8)), (9, .one .bool)], []⟩
def lex_escape_D : FD := ⟨T, lookC [(127, fc127)], [6], (Tryz.f132.body.getD .skip), Tryz.f132.results.toList, ⟨[.one .str], []⟩, ⟨[.one (.int .u8), .one (.int .i64)], []⟩, [(6, lex_escape_F6)]⟩
def lex_escape_l6 (s : ByteArray) (t8 : Int) (t9 : Bool) : (Option ((Int × Int × Unit) × Unit)) := lex_escape_D.lab 6 lex_escape_F6 ((s, t8, t9, ()), ())
theorem lex_escape_l6_eq (s : ByteArray) (t8 : Int) (t9 : Bool) : lex_escape_l6 s t8 t9 =
  if t9 = true then
    if 0 ≤ (1 : Int) ∧ 1 < (s.size : Int) then
      some ((bt s 1, 2, ()), ())
    else
      none
  else
    if (t8 == 110) = true then
      some ((10, 2, ()), ())
    else
      if (t8 == 120) = true then
        if (decide ((s.size : Int) < 4)) = true then
          some ((0, 0, ()), ())
        else
          if 0 ≤ (2 : Int) ∧ 2 < (s.size : Int) then
            (lex_hex (bt s 2)).bind fun y1 =>
              if (decide (y1.1.1 < 0)) = true then
                some ((0, 0, ()), ())
              else
                if 0 ≤ (3 : Int) ∧ 3 < (s.size : Int) then
                  (lex_hex (bt s 3)).bind fun y2 =>
                    if (decide (y2.1.1 < 0)) = true then
                      some ((0, 0, ()), ())
                    else
                      if 0 ≤ (2 : Int) ∧ 2 < (s.size : Int) then
                        (lex_hex (bt s 2)).bind fun y3 =>
                          if 0 ≤ (3 : Int) ∧ 3 < (s.size : Int) then
                            (lex_hex (bt s 3)).bind fun y4 =>
                              some ((IntKind.u8.wrap (IntKind.i64.wrap ((IntKind.i64.wrap (16 * y3.1.1)) + y4.1.1)), 4, ()), ())
                          else
                            none
                      else
                        none
                else
                  none
          else
            none
      else
        some ((0, 0, ()), ()) := (FD.lab_eq _ _ _ _).trans (by kernel_rfl)
def lex_escape (s : ByteArray) : (Option ((Int × Int × Unit) × Unit)) :=
  if (decide ((s.size : Int) < 2)) = true then
    some ((0, 0, ()), ())
  else
    if 0 ≤ (1 : Int) ∧ 1 < (s.size : Int) then
      if ((bt s 1) == 34) = true then
        lex_escape_l6 s (bt s 1) true
      else
        lex_escape_l6 s (bt s 1) ((bt s 1) == 92)
    else
      none
def fc132 : FC := ⟨⟨[.one .str], []⟩, ⟨[.one (.int .u8), .one (.int .i64)], []⟩, fun x => lex_escape x.1.1⟩
theorem con132 : Contract Tryz.prog 132 fc132 :=
  lex_escape_D.contract tok (cok_of (l := [(127, fc127)]) ⟨con127, trivial⟩) mixed (fn' := Tryz.f132) (by kernel_rfl) (by kernel_rfl) rfl (by kernel_rfl) (fun x => (FD.fn_eq _ _).trans (by kernel_rfl))
end
end Go.Proofs.YtejehchbflmofaaGreatDoor
end

section
/-
YtejehchbflmofaaGreatDoor: signalbench.lex.Unquote, as one plain function, its equations, its contract. No condition.
-/
set_option maxRecDepth 100000
set_option linter.unusedVariables false
set_option maxHeartbeats 4000000
open Go Go.AM
namespace Go.Proofs.YtejehchbflmofaaGreatDoor
noncomputable section
def lex_Unquote_F7 : FSh := ⟨[(0, .one .str), (4, .one (.own 0))], [.arr 5 (.int .u8) true]⟩
def lex_Unquote_F14 : FSh := ⟨[(0, .one .str), (4, .one (.own 0)), (5, .one (.int .u8)), (6, .one (.int .i64))], [.arr 5 (.int .u8) true]⟩
def lex_Unquote_D : FD := ⟨T, lookC [(128, fc128), (132, fc132)], [14], (Tryz.f114.body.getD .skip), Tryz.f114.results.toList, ⟨[.one .str], []⟩, ⟨[.one .str, .one (.int .i64)], []⟩, [(7, lex_Unquote_F7), (14, lex_Unquote_F14)]⟩
def lex_Unquote_l7 (s : ByteArray) (l0 : (List Int)) : (Option ((ByteArray × Int × Unit) × Unit)) := lex_Unquote_D.lab 7 lex_Unquote_F7 ((s, (), ()), (l0, ()))
def lex_Unquote_l14 (s : ByteArray) (c : Int) (n : Int) (l0 : (List Int)) : (Option ((ByteArray × Int × Unit) × Unit)) := lex_Unquote_D.lab 14 lex_Unquote_F14 ((s, (), c, n, ()), (l0, ()))
theorem lex_Unquote_l7_eq (s : ByteArray) (l0 : (List Int)) : lex_Unquote_l7 s l0 =
  if (!(s.toList == (strB []).toList)) = true then
    if 0 ≤ (0 : Int) ∧ 0 < (s.size : Int) then
      (lex_plain (IntKind.i32.wrap (bt s 0))).bind fun y1 =>
        if y1.1.1 = true then
          if 0 ≤ (0 : Int) ∧ 0 < (s.size : Int) then
            if (l0.length + 1) * 1 ≤ 140737488355328 ∧ 0 < 1 then
              if 0 ≤ (1 : Int) ∧ 1 ≤ (s.size : Int) then
                lex_Unquote_l7 (s.extract 1 s.size) (l0 ++ [bt s 0])
              else
                none
            else
              none
          else
            none
        else
          if 0 ≤ (0 : Int) ∧ 0 < (s.size : Int) then
            if ((bt s 0) == 92) = true then
              (lex_escape s).bind fun y2 =>
                lex_Unquote_l14 s y2.1.1 y2.1.2.1 l0
            else
              lex_Unquote_l14 s 0 0 l0
          else
            none
    else
      none
  else
    some ((strOfBytes l0, 0, ()), ()) := (FD.lab_eq _ _ _ _).trans (by kernel_rfl)
theorem lex_Unquote_l14_eq (s : ByteArray) (c : Int) (n : Int) (l0 : (List Int)) : lex_Unquote_l14 s c n l0 =
  if (n == 0) = true then
    some (((strB []), 4, ()), ())
  else
    if (l0.length + 1) * 1 ≤ 140737488355328 ∧ 0 < 1 then
      if 0 ≤ n ∧ n ≤ (s.size : Int) then
        lex_Unquote_l7 (s.extract n.toNat s.size) (l0 ++ [c])
      else
        none
    else
      none := (FD.lab_eq _ _ _ _).trans (by kernel_rfl)
def lex_Unquote (s : ByteArray) : (Option ((ByteArray × Int × Unit) × Unit)) :=
  if (decide ((s.size : Int) < 2)) = true then
    some (((strB []), 4, ()), ())
  else
    if 0 ≤ (0 : Int) ∧ 0 < (s.size : Int) then
      if ((bt s 0) != 34) = true then
        some (((strB []), 4, ()), ())
      else
        if 0 ≤ IntKind.i64.wrap ((s.size : Int) - 1) ∧ IntKind.i64.wrap ((s.size : Int) - 1) < (s.size : Int) then
          if ((bt s (IntKind.i64.wrap ((s.size : Int) - 1))) != 34) = true then
            some (((strB []), 4, ()), ())
          else
            if 0 ≤ (1 : Int) ∧ (1 : Int) ≤ IntKind.i64.wrap ((s.size : Int) - 1) ∧ IntKind.i64.wrap ((s.size : Int) - 1) ≤ (s.size : Int) then
              lex_Unquote_l7 (s.extract 1 (IntKind.i64.wrap ((s.size : Int) - 1)).toNat) []
            else
              none
        else
          none
    else
      none
def fc114 : FC := ⟨⟨[.one .str], []⟩, ⟨[.one .str, .one (.int .i64)], []⟩, fun x => lex_Unquote x.1.1⟩
theorem con114 : Contract Tryz.prog 114 fc114 :=
  lex_Unquote_D.contract tok (cok_of (l := [(128, fc128), (132, fc132)]) ⟨con128, con132, trivial⟩) mixed (fn' := Tryz.f114) (by kernel_rfl) (by kernel_rfl) rfl (by kernel_rfl) (fun x => (FD.fn_eq _ _).trans (by kernel_rfl))
end
end Go.Proofs.YtejehchbflmofaaGreatDoor
end

section
/-
YtejehchbflmofaaGreatDoor: signalbench.signalbenchref05.word, as one plain function, its equations, its contract. No condition.
-/
set_option maxRecDepth 100000
set_option linter.unusedVariables false
set_option maxHeartbeats 4000000
open Go Go.AM
namespace Go.Proofs.YtejehchbflmofaaGreatDoor
noncomputable section
def ref05_word_F3 : FSh := ⟨[(0, .one .str), (5, .one (.int .i64))], []⟩
def ref05_word_D : FD := ⟨T, lookC [(105, fc105)], [], (Tryz.f115.body.getD .skip), Tryz.f115.results.toList, ⟨[.one .str, .one (.int .i64)], []⟩, ⟨[.one (.int .i64)], []⟩, [(3, ref05_word_F3)]⟩
def ref05_word_l3 (s : ByteArray) (i : Int) : (Option ((Int × Unit) × Unit)) := ref05_word_D.lab 3 ref05_word_F3 ((s, i, ()), ())
theorem ref05_word_l3_eq (s : ByteArray) (i : Int) : ref05_word_l3 s i =
  if (decide (i < (s.size : Int))) = true then
    if 0 ≤ i ∧ i < (s.size : Int) then
      (ref05_inner (bt s i)).bind fun y1 =>
        if y1.1.1 = true then
          ref05_word_l3 s (IntKind.i64.wrap (i + 1))
        else
          some ((i, ()), ())
    else
      none
  else
    some ((i, ()), ()) := (FD.lab_eq _ _ _ _).trans (by kernel_rfl)
def ref05_word (s : ByteArray) (at_ : Int) : (Option ((Int × Unit) × Unit)) :=
  ref05_word_l3 s (IntKind.i64.wrap (at_ + 1))
def fc115 : FC := ⟨⟨[.one .str, .one (.int .i64)], []⟩, ⟨[.one (.int .i64)], []⟩, fun x => ref05_word x.1.1 x.1.2.1⟩
theorem con115 : Contract Tryz.prog 115 fc115 :=
  ref05_word_D.contract tok (cok_of (l := [(105, fc105)]) ⟨con105, trivial⟩) mixed (fn' := Tryz.f115) (by kernel_rfl) (by kernel_rfl) rfl (by kernel_rfl) (fun x => (FD.fn_eq _ _).trans (by kernel_rfl))
end
end Go.Proofs.YtejehchbflmofaaGreatDoor
end

section
/-
YtejehchbflmofaaGreatDoor: signalbench.signalbenchref05.quoted, as one plain function, its equations, its contract. No condition.
-/
set_option maxRecDepth 100000
set_option linter.unusedVariables false
set_option maxHeartbeats 4000000
open Go Go.AM
namespace Go.Proofs.YtejehchbflmofaaGreatDoor
noncomputable section
def ref05_quoted_F7 : FSh := ⟨[(0, .one .str), (7, .one (.own 0)), (8, .one (.int .i64))], [.arr 5 (.int .u8) true]⟩
def ref05_quoted_D : FD := ⟨T, lookC [(133, fc133)], [], (Tryz.f117.body.getD .skip), Tryz.f117.results.toList, ⟨[.one .str, .one (.int .i64)], []⟩, ⟨[.one .str, .one (.int .i64), .one .bool], []⟩, [(7, ref05_quoted_F7)]⟩
def ref05_quoted_l7 (s : ByteArray) (i : Int) (l0 : (List Int)) : (Option ((ByteArray × Int × Bool × Unit) × Unit)) := ref05_quoted_D.lab 7 ref05_quoted_F7 ((s, (), i, ()), (l0, ()))
theorem ref05_quoted_l7_eq (s : ByteArray) (i : Int) (l0 : (List Int)) : ref05_quoted_l7 s i l0 =
  if (decide (i < (s.size : Int))) = true then
    if 0 ≤ i ∧ i < (s.size : Int) then
      if ((bt s i) == 34) = true then
        some ((strOfBytes l0, IntKind.i64.wrap (i + 1), true, ()), ())
      else
        if (decide ((bt s i) < 32)) = true then
          some (((strB []), 0, false, ()), ())
        else
          if (decide ((bt s i) > 126)) = true then
            some (((strB []), 0, false, ()), ())
          else
            if ((bt s i) != 92) = true then
              if (l0.length + 1) * 1 ≤ 140737488355328 ∧ 0 < 1 then
                ref05_quoted_l7 s (IntKind.i64.wrap (i + 1)) (l0 ++ [bt s i])
              else
                none
            else
              if (decide ((IntKind.i64.wrap (i + 1)) ≥ (s.size : Int))) = true then
                some (((strB []), 0, false, ()), ())
              else
                if 0 ≤ IntKind.i64.wrap (i + 1) ∧ IntKind.i64.wrap (i + 1) < (s.size : Int) then
                  if ((bt s (IntKind.i64.wrap (i + 1))) == 34) = true then
                    if (l0.length + 1) * 1 ≤ 140737488355328 ∧ 0 < 1 then
                      ref05_quoted_l7 s (IntKind.i64.wrap (i + 2)) (l0 ++ [bt s (IntKind.i64.wrap (i + 1))])
                    else
                      none
                  else
                    if ((bt s (IntKind.i64.wrap (i + 1))) == 92) = true then
                      if (l0.length + 1) * 1 ≤ 140737488355328 ∧ 0 < 1 then
                        ref05_quoted_l7 s (IntKind.i64.wrap (i + 2)) (l0 ++ [bt s (IntKind.i64.wrap (i + 1))])
                      else
                        none
                    else
                      if ((bt s (IntKind.i64.wrap (i + 1))) == 110) = true then
                        if (l0.length + 1) * 1 ≤ 140737488355328 ∧ 0 < 1 then
                          ref05_quoted_l7 s (IntKind.i64.wrap (i + 2)) (l0 ++ [10])
                        else
                          none
                      else
                        if ((bt s (IntKind.i64.wrap (i + 1))) == 120) = true then
                          if (decide ((IntKind.i64.wrap (i + 3)) < (s.size : Int))) = true then
                            if 0 ≤ IntKind.i64.wrap (i + 2) ∧ IntKind.i64.wrap (i + 2) < (s.size : Int) then
                              (ref05_hexa (bt s (IntKind.i64.wrap (i + 2)))).bind fun y1 =>
                                if (decide (y1.1.1 ≥ 0)) = true then
                                  if 0 ≤ IntKind.i64.wrap (i + 3) ∧ IntKind.i64.wrap (i + 3) < (s.size : Int) then
                                    (ref05_hexa (bt s (IntKind.i64.wrap (i + 3)))).bind fun y2 =>
                                      if (decide (y2.1.1 ≥ 0)) = true then
                                        if 0 ≤ IntKind.i64.wrap (i + 2) ∧ IntKind.i64.wrap (i + 2) < (s.size : Int) then
                                          (ref05_hexa (bt s (IntKind.i64.wrap (i + 2)))).bind fun y3 =>
                                            if 0 ≤ IntKind.i64.wrap (i + 3) ∧ IntKind.i64.wrap (i + 3) < (s.size : Int) then
                                              (ref05_hexa (bt s (IntKind.i64.wrap (i + 3)))).bind fun y4 =>
                                                if (l0.length + 1) * 1 ≤ 140737488355328 ∧ 0 < 1 then
                                                  ref05_quoted_l7 s (IntKind.i64.wrap (i + 4)) (l0 ++ [IntKind.u8.wrap (IntKind.i64.wrap ((IntKind.i64.wrap (y3.1.1 * 16)) + y4.1.1))])
                                                else
                                                  none
                                            else
                                              none
                                        else
                                          none
                                      else
                                        some (((strB []), 0, false, ()), ())
                                  else
                                    none
                                else
                                  some (((strB []), 0, false, ()), ())
                            else
                              none
                          else
                            some (((strB []), 0, false, ()), ())
                        else
                          some (((strB []), 0, false, ()), ())
                else
                  none
    else
      none
  else
    some (((strB []), 0, false, ()), ()) := (FD.lab_eq _ _ _ _).trans (by kernel_rfl)
def ref05_quoted (s : ByteArray) (at_ : Int) : (Option ((ByteArray × Int × Bool × Unit) × Unit)) :=
  if (decide (at_ ≥ (s.size : Int))) = true then
    some (((strB []), 0, false, ()), ())
  else
    if 0 ≤ at_ ∧ at_ < (s.size : Int) then
      if ((bt s at_) != 34) = true then
        some (((strB []), 0, false, ()), ())
      else
        ref05_quoted_l7 s (IntKind.i64.wrap (at_ + 1)) []
    else
      none
def fc117 : FC := ⟨⟨[.one .str, .one (.int .i64)], []⟩, ⟨[.one .str, .one (.int .i64), .one .bool], []⟩, fun x => ref05_quoted x.1.1 x.1.2.1⟩
theorem con117 : Contract Tryz.prog 117 fc117 :=
  ref05_quoted_D.contract tok (cok_of (l := [(133, fc133)]) ⟨con133, trivial⟩) mixed (fn' := Tryz.f117) (by kernel_rfl) (by kernel_rfl) rfl (by kernel_rfl) (fun x => (FD.fn_eq _ _).trans (by kernel_rfl))
end
end Go.Proofs.YtejehchbflmofaaGreatDoor
end

section
/-
YtejehchbflmofaaGreatDoor: signalbench.limit.name, as one plain function, its equations, its contract. No condition.
-/
set_option maxRecDepth 100000
set_option linter.unusedVariables false
set_option maxHeartbeats 4000000
open Go Go.AM
namespace Go.Proofs.YtejehchbflmofaaGreatDoor
noncomputable section
def limit_name_D : FD := ⟨T, lookC [], [], (Tryz.f29.body.getD .skip), Tryz.f29.results.toList, ⟨[.one .str], []⟩, ⟨[.row (.cons (.int .i64) (.cons .str (.cons (.int .i64) (.int .i64))))], []⟩, []⟩
def limit_name (s : ByteArray) : (Option ((TToken × Unit) × Unit)) :=
  some (((1, s, 0, 0), ()), ())
def fc29 : FC := ⟨⟨[.one .str], []⟩, ⟨[.row (.cons (.int .i64) (.cons .str (.cons (.int .i64) (.int .i64))))], []⟩, fun x => limit_name x.1.1⟩
theorem con29 : Contract Tryz.prog 29 fc29 :=
  limit_name_D.contract tok (cok_of (l := []) trivial) mixed (fn' := Tryz.f29) (by kernel_rfl) (by kernel_rfl) rfl (by kernel_rfl) (fun x => (FD.fn_eq _ _).trans (by kernel_rfl))
end
end Go.Proofs.YtejehchbflmofaaGreatDoor
end

section
/-
YtejehchbflmofaaGreatDoor: signalbench.limit.word, as one plain function, its equations, its contract. No condition.
-/
set_option maxRecDepth 100000
set_option linter.unusedVariables false
set_option maxHeartbeats 4000000
open Go Go.AM
namespace Go.Proofs.YtejehchbflmofaaGreatDoor
noncomputable section
def limit_word_D : FD := ⟨T, lookC [], [], (Tryz.f30.body.getD .skip), Tryz.f30.results.toList, ⟨[.one (.int .i64)], []⟩, ⟨[.one .str], []⟩, []⟩
def limit_word (measure : Int) : (Option ((ByteArray × Unit) × Unit)) :=
  if 0 ≤ measure ∧ measure < (7 : Int) then
    some (([(strB []), (strB [112, 101, 114, 105, 111, 100]), (strB [104, 105, 103, 104]), (strB [108, 111, 119]), (strB [115, 101, 116, 117, 112]), (strB [104, 111, 108, 100]), (strB [100, 101, 108, 97, 121])].getD measure.toNat (strB []), ()), ())
  else
    none
def fc30 : FC := ⟨⟨[.one (.int .i64)], []⟩, ⟨[.one .str], []⟩, fun x => limit_word x.1.1⟩
theorem con30 : Contract Tryz.prog 30 fc30 :=
  limit_word_D.contract tok (cok_of (l := []) trivial) mixed (fn' := Tryz.f30) (by kernel_rfl) (by kernel_rfl) rfl (by kernel_rfl) (fun x => (FD.fn_eq _ _).trans (by kernel_rfl))
end
end Go.Proofs.YtejehchbflmofaaGreatDoor
end
