/-
The plain functions of the program that the law DecltabCells reaches, that the program computes them, and what they come to. No condition.
-/
import Derived.Test.YtgjimkgehbppbaaChecked
import Derived.WalkKit
import Derived.Laws.RangeString
import Derived.Laws.RangeAny
import Derived.LoopTactic
import Derived.Below
import Derived.Test.YtgjimkgehbppbaaAm1
import Derived.Test.YtgjimkgehbppbaaAm2
set_option linter.unusedVariables false
set_option linter.unusedSimpArgs false

section
/-
Ytgjimkgehbppbaa: the types that the functions use. No condition.
-/
set_option maxRecDepth 100000
open Go Go.AM
namespace Go.Proofs.Ytgjimkgehbppbaa
noncomputable section
abbrev TAct : Type := Int × Int
abbrev uAct : U := (.cons (.int .i64) (.int .i64))
def dAct : TAct := (0, 0)
abbrev TRule : Type := Int × Int × ByteArray × Bool × (List TAct)
abbrev uRule : U := (.cons (.int .i64) (.cons (.int .i64) (.cons .str (.cons .bool (.sl (.cons (.int .i64) (.int .i64)))))))
def dRule : TRule := (0, (0, ((strB []), (false, []))))
abbrev TDeclState : Type := ByteArray × (List TRule) × Bool × TRule
abbrev uDeclState : U := (.cons .str (.cons (.sl (.cons (.int .i64) (.cons (.int .i64) (.cons .str (.cons .bool (.sl (.cons (.int .i64) (.int .i64)))))))) (.cons .bool (.cons (.int .i64) (.cons (.int .i64) (.cons .str (.cons .bool (.sl (.cons (.int .i64) (.int .i64))))))))))
def dDeclState : TDeclState := ((strB []), ([], (false, dRule)))
abbrev TDecl : Type := ByteArray × Int × Int × (List TDeclState)
abbrev uDecl : U := (.cons .str (.cons (.int .i64) (.cons (.int .i64) (.sl (.cons .str (.cons (.sl (.cons (.int .i64) (.cons (.int .i64) (.cons .str (.cons .bool (.sl (.cons (.int .i64) (.int .i64)))))))) (.cons .bool (.cons (.int .i64) (.cons (.int .i64) (.cons .str (.cons .bool (.sl (.cons (.int .i64) (.int .i64))))))))))))))
def dDecl : TDecl := ((strB []), (0, (0, [])))
abbrev Tresult : Type := Int × (List TAct)
abbrev uresult : U := (.cons (.int .i64) (.sl (.cons (.int .i64) (.int .i64))))
def dresult : Tresult := (0, [])
abbrev TCell : Type := Int × Int × Tresult
abbrev uCell : U := (.cons (.int .i64) (.cons (.int .i64) (.cons (.int .i64) (.sl (.cons (.int .i64) (.int .i64))))))
def dCell : TCell := (0, (0, dresult))
abbrev TTable : Type := ByteArray × Int × Int × (List (List TCell))
abbrev uTable : U := (.cons .str (.cons (.int .i64) (.cons (.int .i64) (.sl (.sl (.cons (.int .i64) (.cons (.int .i64) (.cons (.int .i64) (.sl (.cons (.int .i64) (.int .i64)))))))))))
def dTable : TTable := ((strB []), (0, (0, [])))
def TL : List (Nat × TD) := [
  (3, ⟨.int .i64, 1, 8, [.val (.int .i64 0)], some (.int .i64), false, []⟩),
  (4, ⟨.bool, 1, 1, [.val (.bool false)], some .bool, false, []⟩),
  (5, ⟨.int .u8, 1, 1, [.val (.int .u8 0)], some (.int .u8), false, []⟩),
  (9, ⟨.string, 1, 16, [.val (.string ⟨#[]⟩)], some .str, false, []⟩),
  (21, ⟨.int .i32, 1, 4, [.val (.int .i32 0)], some (.int .i32), false, []⟩),
  (22, ⟨.slice 38, 1, 24, [.val (.slice none 0 0)], some (.sl (.cons .str (.cons (.sl (.cons (.int .i64) (.cons (.int .i64) (.cons .str (.cons .bool (.sl (.cons (.int .i64) (.int .i64)))))))) (.cons .bool (.cons (.int .i64) (.cons (.int .i64) (.cons .str (.cons .bool (.sl (.cons (.int .i64) (.int .i64))))))))))), false, []⟩),
  (24, ⟨(Try.t23.desc), 4, 56, [.val (.string ⟨#[]⟩), .val (.int .i64 0), .val (.int .i64 0), .val (.slice none 0 0)], some (.cons .str (.cons (.int .i64) (.cons (.int .i64) (.sl (.cons .str (.cons (.sl (.cons (.int .i64) (.cons (.int .i64) (.cons .str (.cons .bool (.sl (.cons (.int .i64) (.int .i64)))))))) (.cons .bool (.cons (.int .i64) (.cons (.int .i64) (.cons .str (.cons .bool (.sl (.cons (.int .i64) (.int .i64)))))))))))))), false, [(0, 1), (1, 1), (2, 1), (3, 1)]⟩),
  (29, ⟨.slice 4, 1, 24, [.val (.slice none 0 0)], some (.sl .bool), false, []⟩),
  (31, ⟨.int .i64, 1, 8, [.val (.int .i64 0)], some (.int .i64), false, []⟩),
  (33, ⟨.slice 36, 1, 24, [.val (.slice none 0 0)], some (.sl (.cons (.int .i64) (.cons (.int .i64) (.cons .str (.cons .bool (.sl (.cons (.int .i64) (.int .i64)))))))), false, []⟩),
  (34, ⟨.slice 60, 1, 24, [.val (.slice none 0 0)], some (.sl (.cons (.int .i64) (.int .i64))), false, []⟩),
  (36, ⟨(Try.t35.desc), 5, 64, [.val (.int .i64 0), .val (.int .i64 0), .val (.string ⟨#[]⟩), .val (.bool false), .val (.slice none 0 0)], some (.cons (.int .i64) (.cons (.int .i64) (.cons .str (.cons .bool (.sl (.cons (.int .i64) (.int .i64))))))), false, [(0, 1), (1, 1), (2, 1), (3, 1), (4, 1)]⟩),
  (38, ⟨(Try.t37.desc), 8, 112, [.val (.string ⟨#[]⟩), .val (.slice none 0 0), .val (.bool false), .val (.int .i64 0), .val (.int .i64 0), .val (.string ⟨#[]⟩), .val (.bool false), .val (.slice none 0 0)], some (.cons .str (.cons (.sl (.cons (.int .i64) (.cons (.int .i64) (.cons .str (.cons .bool (.sl (.cons (.int .i64) (.int .i64)))))))) (.cons .bool (.cons (.int .i64) (.cons (.int .i64) (.cons .str (.cons .bool (.sl (.cons (.int .i64) (.int .i64)))))))))), false, [(0, 1), (1, 1), (2, 1), (3, 5)]⟩),
  (44, ⟨.slice 50, 1, 24, [.val (.slice none 0 0)], some (.sl (.sl (.cons (.int .i64) (.cons (.int .i64) (.cons (.int .i64) (.sl (.cons (.int .i64) (.int .i64)))))))), false, []⟩),
  (46, ⟨(Try.t45.desc), 4, 56, [.val (.string ⟨#[]⟩), .val (.int .i64 0), .val (.int .i64 0), .val (.slice none 0 0)], some (.cons .str (.cons (.int .i64) (.cons (.int .i64) (.sl (.sl (.cons (.int .i64) (.cons (.int .i64) (.cons (.int .i64) (.sl (.cons (.int .i64) (.int .i64))))))))))), false, [(0, 1), (1, 1), (2, 1), (3, 1)]⟩),
  (50, ⟨.slice 52, 1, 24, [.val (.slice none 0 0)], some (.sl (.cons (.int .i64) (.cons (.int .i64) (.cons (.int .i64) (.sl (.cons (.int .i64) (.int .i64))))))), false, []⟩),
  (52, ⟨(Try.t51.desc), 4, 48, [.val (.int .i64 0), .val (.int .i64 0), .val (.int .i64 0), .val (.slice none 0 0)], some (.cons (.int .i64) (.cons (.int .i64) (.cons (.int .i64) (.sl (.cons (.int .i64) (.int .i64)))))), false, [(0, 1), (1, 1), (2, 1), (3, 1)]⟩),
  (60, ⟨(Try.t59.desc), 2, 16, [.val (.int .i64 0), .val (.int .i64 0)], some (.cons (.int .i64) (.int .i64)), true, [(0, 1), (1, 1)]⟩),
  (71, ⟨(Try.t71.desc), 1, 8, [.val (.nilFunc)], none, false, []⟩),
  (72, ⟨.slice 3, 1, 24, [.val (.slice none 0 0)], some (.sl (.int .i64)), false, []⟩),
  (76, ⟨.pointer 81, 1, 8, [.val (.pointer none)], none, false, []⟩),
  (77, ⟨(Try.t77.desc), 1, 8, [.val (.nilFunc)], none, false, []⟩),
  (79, ⟨(Try.t78.desc), 2, 32, [.val (.int .i64 0), .val (.slice none 0 0)], some (.cons (.int .i64) (.sl (.cons (.int .i64) (.int .i64)))), false, [(0, 1), (1, 1)]⟩),
  (81, ⟨(Try.t80.desc), 4, 64, [.val (.slice none 0 0), .val (.int .i64 0), .val (.slice none 0 0), .val (.nilFunc)], none, false, [(0, 1), (1, 2), (3, 1)]⟩)]
def T : TT := lookT TL
theorem tokAll : AllT Try.prog TL := ⟨
  TOk.of Try.t3 (.int .i64 0) (by kernel_rfl) (by kernel_rfl) (by kernel_rfl) (by kernel_rfl) (by kernel_rfl) (by kernel_rfl) (fun fs h => nomatch h) (fun h => nomatch h),
  TOk.of Try.t4 (.bool false) (by kernel_rfl) (by kernel_rfl) (by kernel_rfl) (by kernel_rfl) (by kernel_rfl) (by kernel_rfl) (fun fs h => nomatch h) (fun h => nomatch h),
  TOk.of Try.t5 (.int .u8 0) (by kernel_rfl) (by kernel_rfl) (by kernel_rfl) (by kernel_rfl) (by kernel_rfl) (by kernel_rfl) (fun fs h => nomatch h) (fun h => nomatch h),
  TOk.of Try.t9 (.string ⟨#[]⟩) (by kernel_rfl) (by kernel_rfl) (by kernel_rfl) (by kernel_rfl) (by kernel_rfl) (by kernel_rfl) (fun fs h => nomatch h) (fun h => nomatch h),
  TOk.of Try.t21 (.int .i32 0) (by kernel_rfl) (by kernel_rfl) (by kernel_rfl) (by kernel_rfl) (by kernel_rfl) (by kernel_rfl) (fun fs h => nomatch h) (fun h => nomatch h),
  TOk.of Try.t22 (.slice none 0 0) (by kernel_rfl) (by kernel_rfl) (by kernel_rfl) (by kernel_rfl) (by kernel_rfl) (by kernel_rfl) (fun fs h => nomatch h) (fun h => nomatch h),
  TOk.of Try.t24 (.agg #[.string ⟨#[]⟩, .int .i64 0, .int .i64 0, .slice none 0 0]) (by kernel_rfl) (by kernel_rfl) (by kernel_rfl) (by kernel_rfl) (by kernel_rfl) (by kernel_rfl) (fun fs h => by cases h; kernel_rfl) (fun h => nomatch h),
  TOk.of Try.t29 (.slice none 0 0) (by kernel_rfl) (by kernel_rfl) (by kernel_rfl) (by kernel_rfl) (by kernel_rfl) (by kernel_rfl) (fun fs h => nomatch h) (fun h => nomatch h),
  TOk.of Try.t31 (.int .i64 0) (by kernel_rfl) (by kernel_rfl) (by kernel_rfl) (by kernel_rfl) (by kernel_rfl) (by kernel_rfl) (fun fs h => nomatch h) (fun h => nomatch h),
  TOk.of Try.t33 (.slice none 0 0) (by kernel_rfl) (by kernel_rfl) (by kernel_rfl) (by kernel_rfl) (by kernel_rfl) (by kernel_rfl) (fun fs h => nomatch h) (fun h => nomatch h),
  TOk.of Try.t34 (.slice none 0 0) (by kernel_rfl) (by kernel_rfl) (by kernel_rfl) (by kernel_rfl) (by kernel_rfl) (by kernel_rfl) (fun fs h => nomatch h) (fun h => nomatch h),
  TOk.of Try.t36 (.agg #[.int .i64 0, .int .i64 0, .string ⟨#[]⟩, .bool false, .slice none 0 0]) (by kernel_rfl) (by kernel_rfl) (by kernel_rfl) (by kernel_rfl) (by kernel_rfl) (by kernel_rfl) (fun fs h => by cases h; kernel_rfl) (fun h => nomatch h),
  TOk.of Try.t38 (.agg #[.string ⟨#[]⟩, .slice none 0 0, .bool false, .int .i64 0, .int .i64 0, .string ⟨#[]⟩, .bool false, .slice none 0 0]) (by kernel_rfl) (by kernel_rfl) (by kernel_rfl) (by kernel_rfl) (by kernel_rfl) (by kernel_rfl) (fun fs h => by cases h; kernel_rfl) (fun h => nomatch h),
  TOk.of Try.t44 (.slice none 0 0) (by kernel_rfl) (by kernel_rfl) (by kernel_rfl) (by kernel_rfl) (by kernel_rfl) (by kernel_rfl) (fun fs h => nomatch h) (fun h => nomatch h),
  TOk.of Try.t46 (.agg #[.string ⟨#[]⟩, .int .i64 0, .int .i64 0, .slice none 0 0]) (by kernel_rfl) (by kernel_rfl) (by kernel_rfl) (by kernel_rfl) (by kernel_rfl) (by kernel_rfl) (fun fs h => by cases h; kernel_rfl) (fun h => nomatch h),
  TOk.of Try.t50 (.slice none 0 0) (by kernel_rfl) (by kernel_rfl) (by kernel_rfl) (by kernel_rfl) (by kernel_rfl) (by kernel_rfl) (fun fs h => nomatch h) (fun h => nomatch h),
  TOk.of Try.t52 (.agg #[.int .i64 0, .int .i64 0, .int .i64 0, .slice none 0 0]) (by kernel_rfl) (by kernel_rfl) (by kernel_rfl) (by kernel_rfl) (by kernel_rfl) (by kernel_rfl) (fun fs h => by cases h; kernel_rfl) (fun h => nomatch h),
  TOk.of Try.t60 (.agg #[.int .i64 0, .int .i64 0]) (by kernel_rfl) (by kernel_rfl) (by kernel_rfl) (by kernel_rfl) (by kernel_rfl) (by kernel_rfl) (fun fs h => by cases h; kernel_rfl) (eq_ok (fs := (Try.prog.fieldsOf 60)) rfl (by kernel_rfl) (by kernel_rfl) (by kernel_rfl) (by kernel_rfl)),
  TOk.of Try.t71 (.nilFunc) (by kernel_rfl) (by kernel_rfl) (by kernel_rfl) (by kernel_rfl) (by kernel_rfl) (by kernel_rfl) (fun fs h => nomatch h) (fun h => nomatch h),
  TOk.of Try.t72 (.slice none 0 0) (by kernel_rfl) (by kernel_rfl) (by kernel_rfl) (by kernel_rfl) (by kernel_rfl) (by kernel_rfl) (fun fs h => nomatch h) (fun h => nomatch h),
  TOk.of Try.t76 (.pointer none) (by kernel_rfl) (by kernel_rfl) (by kernel_rfl) (by kernel_rfl) (by kernel_rfl) (by kernel_rfl) (fun fs h => nomatch h) (fun h => nomatch h),
  TOk.of Try.t77 (.nilFunc) (by kernel_rfl) (by kernel_rfl) (by kernel_rfl) (by kernel_rfl) (by kernel_rfl) (by kernel_rfl) (fun fs h => nomatch h) (fun h => nomatch h),
  TOk.of Try.t79 (.agg #[.int .i64 0, .slice none 0 0]) (by kernel_rfl) (by kernel_rfl) (by kernel_rfl) (by kernel_rfl) (by kernel_rfl) (by kernel_rfl) (fun fs h => by cases h; kernel_rfl) (fun h => nomatch h),
  TOk.of Try.t81 (.agg #[.slice none 0 0, .int .i64 0, .slice none 0 0, .nilFunc]) (by kernel_rfl) (by kernel_rfl) (by kernel_rfl) (by kernel_rfl) (by kernel_rfl) (by kernel_rfl) (fun fs h => by cases h; kernel_rfl) (fun h => nomatch h),
  trivial⟩
theorem tok : TOK Try.prog T := tok_of tokAll
theorem mixed : Try.prog.follows .mixedOrders = true := by kernel_rfl
end
end Go.Proofs.Ytgjimkgehbppbaa
end

section
/-
Ytgjimkgehbppbaa: signalbench.decltab.Next, as one plain function, its equations, its contract. No condition.
-/
set_option maxRecDepth 100000
set_option linter.unusedVariables false
set_option maxHeartbeats 4000000
open Go Go.AM
namespace Go.Proofs.Ytgjimkgehbppbaa
noncomputable section
def decltab_Next_F6 : FSh := ⟨[(2, .one (.int .i64)), (24, .one (.sl (.cons (.int .i64) (.cons (.int .i64) (.cons (.int .i64) (.sl (.cons (.int .i64) (.int .i64)))))))), (25, .one (.int .i64)), (26, .one (.int .i64))], []⟩
def decltab_Next_D : FD := ⟨T, lookC [], [], (Try.f34.body.getD .skip), Try.f34.results.toList, ⟨[.row (.cons .str (.cons (.int .i64) (.cons (.int .i64) (.sl (.sl (.cons (.int .i64) (.cons (.int .i64) (.cons (.int .i64) (.sl (.cons (.int .i64) (.int .i64))))))))))), .one (.int .i64), .one (.int .i64)], []⟩, ⟨[.one (.int .i64), .one (.sl (.cons (.int .i64) (.int .i64))), .one .bool], []⟩, [(6, decltab_Next_F6)]⟩
def decltab_Next_l6 (symbol : Int) (t24 : (List TCell)) (t25 : Int) (t26 : Int) : (Option ((Int × (List TAct) × Bool × Unit) × Unit)) := decltab_Next_D.lab 6 decltab_Next_F6 ((symbol, t24, t25, t26, ()), ())
theorem decltab_Next_l6_eq (symbol : Int) (t24 : (List TCell)) (t25 : Int) (t26 : Int) : decltab_Next_l6 symbol t24 t25 t26 =
  if (decide (t26 < t25)) = true then
    if 0 ≤ t26 ∧ t26 < (t24.length : Int) then
      if (decide ((t24.getD t26.toNat dCell).1 ≤ symbol)) = true then
        if (decide (symbol ≤ (t24.getD t26.toNat dCell).2.1)) = true then
          if (t24.getD t26.toNat dCell).2.2.2.length * 16 ≤ 140737488355328 ∧ 0 < 16 then
            some (((t24.getD t26.toNat dCell).2.2.1, (t24.getD t26.toNat dCell).2.2.2, true, ()), ())
          else
            none
        else
          decltab_Next_l6 symbol t24 t25 (IntKind.i64.wrap (t26 + 1))
      else
        decltab_Next_l6 symbol t24 t25 (IntKind.i64.wrap (t26 + 1))
    else
      none
  else
    some ((0, [], false, ()), ()) := (FD.lab_eq _ _ _ _).trans (by kernel_rfl)
def decltab_Next (t : TTable) (state : Int) (symbol : Int) : (Option ((Int × (List TAct) × Bool × Unit) × Unit)) :=
  if (decide (state < 0)) = true then
    some ((0, [], false, ()), ())
  else
    if (decide (state ≥ (t.2.2.2.length : Int))) = true then
      some ((0, [], false, ()), ())
    else
      if 0 ≤ state ∧ state < (t.2.2.2.length : Int) then
        decltab_Next_l6 symbol (t.2.2.2.getD state.toNat []) ((t.2.2.2.getD state.toNat []).length : Int) 0
      else
        none
def fc34 : FC := ⟨⟨[.row (.cons .str (.cons (.int .i64) (.cons (.int .i64) (.sl (.sl (.cons (.int .i64) (.cons (.int .i64) (.cons (.int .i64) (.sl (.cons (.int .i64) (.int .i64))))))))))), .one (.int .i64), .one (.int .i64)], []⟩, ⟨[.one (.int .i64), .one (.sl (.cons (.int .i64) (.int .i64))), .one .bool], []⟩, fun x => decltab_Next x.1.1 x.1.2.1 x.1.2.2.1⟩
theorem con34 : Contract Try.prog 34 fc34 :=
  decltab_Next_D.contract tok (cok_of (l := []) trivial) mixed (fn' := Try.f34) (by kernel_rfl) (by kernel_rfl) rfl (by kernel_rfl) (fun x => (FD.fn_eq _ _).trans (by kernel_rfl))
end
end Go.Proofs.Ytgjimkgehbppbaa
end

section
/-
Ytgjimkgehbppbaa: signalbench.signalbenchref36.Next, as one plain function, its equations, its contract. No condition.
-/
set_option maxRecDepth 100000
set_option linter.unusedVariables false
set_option maxHeartbeats 4000000
open Go Go.AM
namespace Go.Proofs.Ytgjimkgehbppbaa
noncomputable section
def ref36_Next_F6 : FSh := ⟨[(1, .one (.int .i64)), (2, .one (.int .i64)), (3, .one (.ptr 0 0)), (9, .one (.int .i64))], [.boxr (.cons .str (.cons (.int .i64) (.cons (.int .i64) (.sl (.sl (.cons (.int .i64) (.cons (.int .i64) (.cons (.int .i64) (.sl (.cons (.int .i64) (.int .i64)))))))))))]⟩
def ref36_Next_D : FD := ⟨T, lookC [], [], (Try.f35.body.getD .skip), Try.f35.results.toList, ⟨[.row (.cons .str (.cons (.int .i64) (.cons (.int .i64) (.sl (.sl (.cons (.int .i64) (.cons (.int .i64) (.cons (.int .i64) (.sl (.cons (.int .i64) (.int .i64))))))))))), .one (.int .i64), .one (.int .i64)], []⟩, ⟨[.one (.int .i64), .one (.sl (.cons (.int .i64) (.int .i64))), .one .bool], []⟩, [(6, ref36_Next_F6)]⟩
def ref36_Next_l6 (state : Int) (symbol : Int) (i : Int) (h0 : TTable) : (Option ((Int × (List TAct) × Bool × Unit) × Unit)) := ref36_Next_D.lab 6 ref36_Next_F6 ((state, symbol, (), i, ()), (h0, ()))
theorem ref36_Next_l6_eq (state : Int) (symbol : Int) (i : Int) (h0 : TTable) : ref36_Next_l6 state symbol i h0 =
  if 0 ≤ state ∧ state < (h0.2.2.2.length : Int) then
    if (decide (i < ((h0.2.2.2.getD state.toNat []).length : Int))) = true then
      if 0 ≤ state ∧ state < (h0.2.2.2.length : Int) then
        if 0 ≤ i ∧ i < ((h0.2.2.2.getD state.toNat []).length : Int) then
          if (decide (((h0.2.2.2.getD state.toNat []).getD i.toNat dCell).1 ≤ symbol)) = true then
            if (decide (symbol ≤ ((h0.2.2.2.getD state.toNat []).getD i.toNat dCell).2.1)) = true then
              if (0 + ((h0.2.2.2.getD state.toNat []).getD i.toNat dCell).2.2.2.length) * 16 ≤ 140737488355328 ∧ 0 < 16 then
                some ((((h0.2.2.2.getD state.toNat []).getD i.toNat dCell).2.2.1, ((h0.2.2.2.getD state.toNat []).getD i.toNat dCell).2.2.2, true, ()), ())
              else
                none
            else
              ref36_Next_l6 state symbol (IntKind.i64.wrap (i + 1)) h0
          else
            ref36_Next_l6 state symbol (IntKind.i64.wrap (i + 1)) h0
        else
          none
      else
        none
    else
      some ((0, [], false, ()), ())
  else
    none := (FD.lab_eq _ _ _ _).trans (by kernel_rfl)
def ref36_Next (t : TTable) (state : Int) (symbol : Int) : (Option ((Int × (List TAct) × Bool × Unit) × Unit)) :=
  if (decide (state < 0)) = true then
    some ((0, [], false, ()), ())
  else
    if (decide (state ≥ (t.2.2.2.length : Int))) = true then
      some ((0, [], false, ()), ())
    else
      ref36_Next_l6 state symbol 0 t
def fc35 : FC := ⟨⟨[.row (.cons .str (.cons (.int .i64) (.cons (.int .i64) (.sl (.sl (.cons (.int .i64) (.cons (.int .i64) (.cons (.int .i64) (.sl (.cons (.int .i64) (.int .i64))))))))))), .one (.int .i64), .one (.int .i64)], []⟩, ⟨[.one (.int .i64), .one (.sl (.cons (.int .i64) (.int .i64))), .one .bool], []⟩, fun x => ref36_Next x.1.1 x.1.2.1 x.1.2.2.1⟩
theorem con35 : Contract Try.prog 35 fc35 :=
  ref36_Next_D.contract tok (cok_of (l := []) trivial) mixed (fn' := Try.f35) (by kernel_rfl) (by kernel_rfl) rfl (by kernel_rfl) (fun x => (FD.fn_eq _ _).trans (by kernel_rfl))
end
end Go.Proofs.Ytgjimkgehbppbaa
end

section
/-
Ytgjimkgehbppbaa: signalbench.decltab.Size, as one plain function, its equations, its contract. No condition.
-/
set_option maxRecDepth 100000
set_option linter.unusedVariables false
set_option maxHeartbeats 4000000
open Go Go.AM
namespace Go.Proofs.Ytgjimkgehbppbaa
noncomputable section
def decltab_Size_F4 : FSh := ⟨[(3, .one (.int .i64)), (7, .one (.sl (.sl (.cons (.int .i64) (.cons (.int .i64) (.cons (.int .i64) (.sl (.cons (.int .i64) (.int .i64))))))))), (8, .one (.int .i64)), (9, .one (.int .i64))], []⟩
def decltab_Size_D : FD := ⟨T, lookC [], [], (Try.f38.body.getD .skip), Try.f38.results.toList, ⟨[.row (.cons .str (.cons (.int .i64) (.cons (.int .i64) (.sl (.sl (.cons (.int .i64) (.cons (.int .i64) (.cons (.int .i64) (.sl (.cons (.int .i64) (.int .i64)))))))))))], []⟩, ⟨[.one (.int .i64)], []⟩, [(4, decltab_Size_F4)]⟩
def decltab_Size_l4 (n : Int) (t7 : (List (List TCell))) (t8 : Int) (t9 : Int) : (Option ((Int × Unit) × Unit)) := decltab_Size_D.lab 4 decltab_Size_F4 ((n, t7, t8, t9, ()), ())
theorem decltab_Size_l4_eq (n : Int) (t7 : (List (List TCell))) (t8 : Int) (t9 : Int) : decltab_Size_l4 n t7 t8 t9 =
  if (decide (t9 < t8)) = true then
    if 0 ≤ t9 ∧ t9 < (t7.length : Int) then
      decltab_Size_l4 (IntKind.i64.wrap (n + ((t7.getD t9.toNat []).length : Int))) t7 t8 (IntKind.i64.wrap (t9 + 1))
    else
      none
  else
    some ((n, ()), ()) := (FD.lab_eq _ _ _ _).trans (by kernel_rfl)
def decltab_Size (t : TTable) : (Option ((Int × Unit) × Unit)) :=
  decltab_Size_l4 0 t.2.2.2 (t.2.2.2.length : Int) 0
def fc38 : FC := ⟨⟨[.row (.cons .str (.cons (.int .i64) (.cons (.int .i64) (.sl (.sl (.cons (.int .i64) (.cons (.int .i64) (.cons (.int .i64) (.sl (.cons (.int .i64) (.int .i64)))))))))))], []⟩, ⟨[.one (.int .i64)], []⟩, fun x => decltab_Size x.1.1⟩
theorem con38 : Contract Try.prog 38 fc38 :=
  decltab_Size_D.contract tok (cok_of (l := []) trivial) mixed (fn' := Try.f38) (by kernel_rfl) (by kernel_rfl) rfl (by kernel_rfl) (fun x => (FD.fn_eq _ _).trans (by kernel_rfl))
end
end Go.Proofs.Ytgjimkgehbppbaa
end

section
/-
Ytgjimkgehbppbaa: signalbench.signalbenchref36.Size, as one plain function, its equations, its contract. No condition.
-/
set_option maxRecDepth 100000
set_option linter.unusedVariables false
set_option maxHeartbeats 4000000
open Go Go.AM
namespace Go.Proofs.Ytgjimkgehbppbaa
noncomputable section
def ref36_Size_F4 : FSh := ⟨[(1, .one (.ptr 0 0)), (3, .one (.int .i64)), (4, .one (.int .i64))], [.boxr (.cons .str (.cons (.int .i64) (.cons (.int .i64) (.sl (.sl (.cons (.int .i64) (.cons (.int .i64) (.cons (.int .i64) (.sl (.cons (.int .i64) (.int .i64)))))))))))]⟩
def ref36_Size_D : FD := ⟨T, lookC [], [], (Try.f39.body.getD .skip), Try.f39.results.toList, ⟨[.row (.cons .str (.cons (.int .i64) (.cons (.int .i64) (.sl (.sl (.cons (.int .i64) (.cons (.int .i64) (.cons (.int .i64) (.sl (.cons (.int .i64) (.int .i64)))))))))))], []⟩, ⟨[.one (.int .i64)], []⟩, [(4, ref36_Size_F4)]⟩
def ref36_Size_l4 (n : Int) (i : Int) (h0 : TTable) : (Option ((Int × Unit) × Unit)) := ref36_Size_D.lab 4 ref36_Size_F4 (((), n, i, ()), (h0, ()))
theorem ref36_Size_l4_eq (n : Int) (i : Int) (h0 : TTable) : ref36_Size_l4 n i h0 =
  if (decide (i < (h0.2.2.2.length : Int))) = true then
    if 0 ≤ i ∧ i < (h0.2.2.2.length : Int) then
      ref36_Size_l4 (IntKind.i64.wrap (n + ((h0.2.2.2.getD i.toNat []).length : Int))) (IntKind.i64.wrap (i + 1)) h0
    else
      none
  else
    some ((n, ()), ()) := (FD.lab_eq _ _ _ _).trans (by kernel_rfl)
def ref36_Size (t : TTable) : (Option ((Int × Unit) × Unit)) :=
  ref36_Size_l4 0 0 t
def fc39 : FC := ⟨⟨[.row (.cons .str (.cons (.int .i64) (.cons (.int .i64) (.sl (.sl (.cons (.int .i64) (.cons (.int .i64) (.cons (.int .i64) (.sl (.cons (.int .i64) (.int .i64)))))))))))], []⟩, ⟨[.one (.int .i64)], []⟩, fun x => ref36_Size x.1.1⟩
theorem con39 : Contract Try.prog 39 fc39 :=
  ref36_Size_D.contract tok (cok_of (l := []) trivial) mixed (fn' := Try.f39) (by kernel_rfl) (by kernel_rfl) rfl (by kernel_rfl) (fun x => (FD.fn_eq _ _).trans (by kernel_rfl))
end
end Go.Proofs.Ytgjimkgehbppbaa
end

section
/-
Ytgjimkgehbppbaa: signalbench.signalbenchlaw36.sameActs, as one plain function, its equations, its contract. No condition.
-/
set_option maxRecDepth 100000
set_option linter.unusedVariables false
set_option maxHeartbeats 4000000
open Go Go.AM
namespace Go.Proofs.Ytgjimkgehbppbaa
noncomputable section
def law36_sameActs_F6 : FSh := ⟨[(0, .one (.sl (.cons (.int .i64) (.int .i64)))), (1, .one (.sl (.cons (.int .i64) (.int .i64)))), (5, .one (.int .i64))], []⟩
def law36_sameActs_D : FD := ⟨T, lookC [], [], (Try.f40.body.getD .skip), Try.f40.results.toList, ⟨[.one (.sl (.cons (.int .i64) (.int .i64))), .one (.sl (.cons (.int .i64) (.int .i64)))], []⟩, ⟨[.one .bool], []⟩, [(6, law36_sameActs_F6)]⟩
def law36_sameActs_l6 (a : (List TAct)) (b : (List TAct)) (i : Int) : (Option ((Bool × Unit) × Unit)) := law36_sameActs_D.lab 6 law36_sameActs_F6 ((a, b, i, ()), ())
theorem law36_sameActs_l6_eq (a : (List TAct)) (b : (List TAct)) (i : Int) : law36_sameActs_l6 a b i =
  if (decide (i < (a.length : Int))) = true then
    if 0 ≤ i ∧ i < (a.length : Int) then
      if 0 ≤ i ∧ i < (b.length : Int) then
        if (!(eqU uAct (a.getD i.toNat dAct) (b.getD i.toNat dAct))) = true then
          some ((false, ()), ())
        else
          law36_sameActs_l6 a b (IntKind.i64.wrap (i + 1))
      else
        none
    else
      none
  else
    some ((true, ()), ()) := (FD.lab_eq _ _ _ _).trans (by kernel_rfl)
def law36_sameActs (a : (List TAct)) (b : (List TAct)) : (Option ((Bool × Unit) × Unit)) :=
  if ((a.length : Int) != (b.length : Int)) = true then
    some ((false, ()), ())
  else
    law36_sameActs_l6 a b 0
def fc40 : FC := ⟨⟨[.one (.sl (.cons (.int .i64) (.int .i64))), .one (.sl (.cons (.int .i64) (.int .i64)))], []⟩, ⟨[.one .bool], []⟩, fun x => law36_sameActs x.1.1 x.1.2.1⟩
theorem con40 : Contract Try.prog 40 fc40 :=
  law36_sameActs_D.contract tok (cok_of (l := []) trivial) mixed (fn' := Try.f40) (by kernel_rfl) (by kernel_rfl) rfl (by kernel_rfl) (fun x => (FD.fn_eq _ _).trans (by kernel_rfl))
end
end Go.Proofs.Ytgjimkgehbppbaa
end

section
/-
Ytgjimkgehbppbaa: tables: the cell for a symbol, the size, the error. No condition.
-/
set_option maxRecDepth 100000
open Go Go.AM
namespace Go.Proofs.Ytgjimkgehbppbaa

theorem next_loop (x : Int) (cs : List TCell) (h : okRow cs) : ∀ (r : List TCell) (k : Nat), cs.drop k = r →
    decltab_Next_l6 x cs (cs.length : Int) k = some (((cellAt x r).1, (cellAt x r).2.1, (cellAt x r).2.2, ()), ()) := by
  obtain ⟨hl, ho⟩ := h
  intro r
  induction r with
  | nil =>
    intro k hk
    have := drop_nil hk
    rw [decltab_Next_l6_eq, if_neg (dF (by omega))]
    rfl
  | cons c r ih =>
    intro k hk
    have h1 := drop_lt hk
    have hr : cs.getD (k : Int).toNat dCell = c := getD_drop hk
    have hc := ho c (mem_drop hk)
    unfold okCell at hc
    rw [decltab_Next_l6_eq, if_pos (dT (by omega)), if_pos ⟨by omega, by omega⟩, hr, w64a k (by omega), ih (k + 1) (dropS hk)]
    unfold cellAt
    rw [List.find?_cons]
    by_cases ha : c.1 ≤ x
    · rw [if_pos (dT ha)]
      by_cases hb : x ≤ c.2.1
      · rw [if_pos (dT hb), hitC_iff.2 ⟨ha, hb⟩, if_pos ⟨by omega, by omega⟩]
      · rw [if_neg (dF hb), show hitC x c = false from Bool.eq_false_iff.2 fun q => hb (hitC_iff.1 q).2]
    · rw [if_neg (dF ha), show hitC x c = false from Bool.eq_false_iff.2 fun q => ha (hitC_iff.1 q).1]

theorem next_eq (t : TTable) (i x : Int) (h : okTable t) : decltab_Next t i x = some (((nextV t.2.2.2 i x).1, (nextV t.2.2.2 i x).2.1, (nextV t.2.2.2 i x).2.2, ()), ()) := by
  unfold decltab_Next nextV
  by_cases h0 : i < 0
  · rw [if_pos (dT h0), if_pos h0]
  · rw [if_neg (dF h0), if_neg h0]
    by_cases h1 : i < (t.2.2.2.length : Int)
    · have h2 : i.toNat < t.2.2.2.length := by omega
      rw [if_neg (dF (by omega)), if_pos ⟨by omega, h1⟩, getD_in _ h2, List.getElem?_eq_getElem h2]
      exact next_loop x _ (h.2 _ (List.getElem_mem h2)) _ 0 rfl
    · rw [if_pos (dT (by omega)), List.getElem?_eq_none (by omega)]

theorem rnext_loop (t : TTable) (i : Nat) (x : Int) (hi : i < t.2.2.2.length) (h : okRow t.2.2.2[i]) : ∀ (r : List TCell) (k : Nat), t.2.2.2[i].drop k = r →
    ref36_Next_l6 i x k t = some (((cellAt x r).1, (cellAt x r).2.1, (cellAt x r).2.2, ()), ()) := by
  obtain ⟨hl, ho⟩ := h
  have hin : (0 : Int) ≤ i ∧ (i : Int) < (t.2.2.2.length : Int) := ⟨by omega, by omega⟩
  have hg : t.2.2.2.getD (i : Int).toNat [] = t.2.2.2[i] := getD_in _ hi
  intro r
  induction r with
  | nil =>
    intro k hk
    have := drop_nil hk
    rw [ref36_Next_l6_eq, if_pos hin, hg, if_neg (dF (by omega))]
    rfl
  | cons c r ih =>
    intro k hk
    have h1 := drop_lt hk
    have hr : t.2.2.2[i].getD (k : Int).toNat dCell = c := getD_drop hk
    have hc := ho c (mem_drop hk)
    unfold okCell at hc
    rw [ref36_Next_l6_eq, if_pos hin, hg, if_pos (dT (by omega)), if_pos hin, if_pos ⟨by omega, by omega⟩, hr, w64a k (by omega), ih (k + 1) (dropS hk)]
    unfold cellAt
    rw [List.find?_cons]
    by_cases ha : c.1 ≤ x
    · rw [if_pos (dT ha)]
      by_cases hb : x ≤ c.2.1
      · rw [if_pos (dT hb), hitC_iff.2 ⟨ha, hb⟩, if_pos ⟨by omega, by omega⟩]
      · rw [if_neg (dF hb), show hitC x c = false from Bool.eq_false_iff.2 fun q => hb (hitC_iff.1 q).2]
    · rw [if_neg (dF ha), show hitC x c = false from Bool.eq_false_iff.2 fun q => ha (hitC_iff.1 q).1]

theorem rnext_eq (t : TTable) (i x : Int) (h : okTable t) : ref36_Next t i x = some (((nextV t.2.2.2 i x).1, (nextV t.2.2.2 i x).2.1, (nextV t.2.2.2 i x).2.2, ()), ()) := by
  unfold ref36_Next nextV
  by_cases h0 : i < 0
  · rw [if_pos (dT h0), if_pos h0]
  · rw [if_neg (dF h0), if_neg h0]
    by_cases h1 : i < (t.2.2.2.length : Int)
    · obtain ⟨j, rfl⟩ : ∃ j : Nat, i = j := ⟨i.toNat, by omega⟩
      have h2 : j < t.2.2.2.length := by omega
      rw [if_neg (dF (by omega)), show t.2.2.2[(j : Int).toNat]? = some t.2.2.2[j] from List.getElem?_eq_getElem h2]
      exact rnext_loop t j x h2 (h.2 _ (List.getElem_mem h2)) _ 0 rfl
    · rw [if_pos (dT (by omega)), List.getElem?_eq_none (by omega)]

theorem size_bound (rows : List (List TCell)) (h : ∀ cs ∈ rows, cs.length ≤ 1048576) : (rows.map List.length).sum ≤ rows.length * 1048576 := by
  induction rows with
  | nil => simp
  | cons cs r ih =>
    have h1 := h cs (by simp)
    have h2 := ih (fun c hc => h c (by simp [hc]))
    simp only [List.map_cons, List.sum_cons, List.length_cons]
    omega

theorem size_loop (rows : List (List TCell)) (hl : rows.length ≤ 1048576) (h : ∀ cs ∈ rows, cs.length ≤ 1048576) : ∀ (r : List (List TCell)) (k n : Nat), rows.drop k = r → n ≤ k * 1048576 →
    decltab_Size_l4 n rows (rows.length : Int) k = some ((((n + (r.map List.length).sum : Nat) : Int), ()), ()) := by
  intro r
  induction r with
  | nil =>
    intro k n hk hn
    have := drop_nil hk
    rw [decltab_Size_l4_eq, if_neg (dF (by omega))]
    simp
  | cons c r ih =>
    intro k n hk hn
    have h1 := drop_lt hk
    have hr : rows.getD (k : Int).toNat [] = c := getD_drop hk
    have hc := h c (mem_drop hk)
    rw [decltab_Size_l4_eq, if_pos (dT (by omega)), if_pos ⟨by omega, by omega⟩, hr, w64a k (by omega), w64n n c.length (by omega), ih (k + 1) (n + c.length) (dropS hk) (by omega)]
    simp only [List.map_cons, List.sum_cons, Nat.add_assoc]

theorem rsize_loop (t : TTable) (hl : t.2.2.2.length ≤ 1048576) (h : ∀ cs ∈ t.2.2.2, cs.length ≤ 1048576) : ∀ (r : List (List TCell)) (k n : Nat), t.2.2.2.drop k = r → n ≤ k * 1048576 →
    ref36_Size_l4 n k t = some ((((n + (r.map List.length).sum : Nat) : Int), ()), ()) := by
  intro r
  induction r with
  | nil =>
    intro k n hk hn
    have := drop_nil hk
    rw [ref36_Size_l4_eq, if_neg (dF (by omega))]
    simp
  | cons c r ih =>
    intro k n hk hn
    have h1 := drop_lt hk
    have hr : t.2.2.2.getD (k : Int).toNat [] = c := getD_drop hk
    have hc := h c (mem_drop hk)
    rw [ref36_Size_l4_eq, if_pos (dT (by omega)), if_pos ⟨by omega, by omega⟩, hr, w64a k (by omega), w64n n c.length (by omega), ih (k + 1) (n + c.length) (dropS hk) (by omega)]
    simp only [List.map_cons, List.sum_cons, Nat.add_assoc]

theorem size_eq (t : TTable) (h : okTable t) : decltab_Size t = some (((sizeV t.2.2.2 : Int), ()), ()) := by
  have := size_loop t.2.2.2 h.1 (fun cs hc => (h.2 cs hc).1) _ 0 0 rfl (by omega)
  rw [Nat.zero_add] at this
  exact this

theorem rsize_eq (t : TTable) (h : okTable t) : ref36_Size t = some (((sizeV t.2.2.2 : Int), ()), ()) := by
  have := rsize_loop t h.1 (fun cs hc => (h.2 cs hc).1) _ 0 0 rfl (by omega)
  rw [Nat.zero_add] at this
  exact this

theorem acts_same (a : List TAct) (ha : a.length ≤ 1099511627776) : ∀ (c k : Nat), c = a.length - k → k ≤ a.length → law36_sameActs_l6 a a k = some ((true, ()), ()) := by
  intro c
  induction c with
  | zero => intro k hc hk; rw [law36_sameActs_l6_eq, if_neg (dF (by omega))]
  | succ c ih =>
    intro k hc hk
    rw [law36_sameActs_l6_eq, if_pos (dT (by omega)), if_pos ⟨by omega, by omega⟩, if_pos ⟨by omega, by omega⟩, (eqU_iff uAct rfl _ _).2 rfl, if_neg (by simp), w64a k (by omega)]
    exact ih (k + 1) (by omega) (by omega)

theorem sameActs_refl (a : List TAct) (ha : a.length ≤ 1099511627776) : law36_sameActs a a = some ((true, ()), ()) := by
  unfold law36_sameActs
  rw [if_neg (nF rfl)]
  exact acts_same a ha _ 0 rfl (Nat.zero_le _)

end Go.Proofs.Ytgjimkgehbppbaa
end

section
/-
Ytgjimkgehbppbaa: signalbench.signalbenchref05.letter, as one plain function, its equations, its contract. No condition.
-/
set_option maxRecDepth 100000
set_option linter.unusedVariables false
set_option maxHeartbeats 4000000
open Go Go.AM
namespace Go.Proofs.Ytgjimkgehbppbaa
noncomputable section
def ref05_letter_D : FD := ⟨T, lookC [], [], (Try.f92.body.getD .skip), Try.f92.results.toList, ⟨[.one (.int .u8)], []⟩, ⟨[.one .bool], []⟩, []⟩
def ref05_letter (c : Int) : (Option ((Bool × Unit) × Unit)) :=
  if (decide (c ≥ 97)) = true then
    some ((decide (c ≤ 122), ()), ())
  else
    some ((false, ()), ())
def fc92 : FC := ⟨⟨[.one (.int .u8)], []⟩, ⟨[.one .bool], []⟩, fun x => ref05_letter x.1.1⟩
theorem con92 : Contract Try.prog 92 fc92 :=
  ref05_letter_D.contract tok (cok_of (l := []) trivial) mixed (fn' := Try.f92) (by kernel_rfl) (by kernel_rfl) rfl (by kernel_rfl) (fun x => (FD.fn_eq _ _).trans (by kernel_rfl))
end
end Go.Proofs.Ytgjimkgehbppbaa
end

section
/-
Ytgjimkgehbppbaa: signalbench.signalbenchref05.digit, as one plain function, its equations, its contract. No condition.
-/
set_option maxRecDepth 100000
set_option linter.unusedVariables false
set_option maxHeartbeats 4000000
open Go Go.AM
namespace Go.Proofs.Ytgjimkgehbppbaa
noncomputable section
def ref05_digit_D : FD := ⟨T, lookC [], [], (Try.f106.body.getD .skip), Try.f106.results.toList, ⟨[.one (.int .u8)], []⟩, ⟨[.one .bool], []⟩, []⟩
def ref05_digit (c : Int) : (Option ((Bool × Unit) × Unit)) :=
  if (decide (c ≥ 48)) = true then
    some ((decide (c ≤ 57), ()), ())
  else
    some ((false, ()), ())
def fc106 : FC := ⟨⟨[.one (.int .u8)], []⟩, ⟨[.one .bool], []⟩, fun x => ref05_digit x.1.1⟩
theorem con106 : Contract Try.prog 106 fc106 :=
  ref05_digit_D.contract tok (cok_of (l := []) trivial) mixed (fn' := Try.f106) (by kernel_rfl) (by kernel_rfl) rfl (by kernel_rfl) (fun x => (FD.fn_eq _ _).trans (by kernel_rfl))
end
end Go.Proofs.Ytgjimkgehbppbaa
end

section
/-
Ytgjimkgehbppbaa: signalbench.signalbenchref05.inner, as one plain function, its equations, its contract. No condition.
-/
set_option maxRecDepth 100000
set_option linter.unusedVariables false
set_option maxHeartbeats 4000000
open Go Go.AM
namespace Go.Proofs.Ytgjimkgehbppbaa
noncomputable section
def ref05_inner_D : FD := ⟨T, lookC [(92, fc92), (106, fc106)], [], (Try.f93.body.getD .skip), Try.f93.results.toList, ⟨[.one (.int .u8)], []⟩, ⟨[.one .bool], []⟩, []⟩
def ref05_inner (c : Int) : (Option ((Bool × Unit) × Unit)) :=
  (ref05_letter c).bind fun y1 =>
    if y1.1.1 = true then
      some ((true, ()), ())
    else
      (ref05_digit c).bind fun y2 =>
        if y2.1.1 = true then
          some ((true, ()), ())
        else
          some ((c == 95, ()), ())
def fc93 : FC := ⟨⟨[.one (.int .u8)], []⟩, ⟨[.one .bool], []⟩, fun x => ref05_inner x.1.1⟩
theorem con93 : Contract Try.prog 93 fc93 :=
  ref05_inner_D.contract tok (cok_of (l := [(92, fc92), (106, fc106)]) ⟨con92, con106, trivial⟩) mixed (fn' := Try.f93) (by kernel_rfl) (by kernel_rfl) rfl (by kernel_rfl) (fun x => (FD.fn_eq _ _).trans (by kernel_rfl))
end
end Go.Proofs.Ytgjimkgehbppbaa
end

section
/-
Ytgjimkgehbppbaa: signalbench.signalbenchref05.Name, as one plain function, its equations, its contract. No condition.
-/
set_option maxRecDepth 100000
set_option linter.unusedVariables false
set_option maxHeartbeats 4000000
open Go Go.AM
namespace Go.Proofs.Ytgjimkgehbppbaa
noncomputable section
def ref05_Name_F6 : FSh := ⟨[(0, .one .str), (3, .one (.int .i64))], []⟩
def ref05_Name_D : FD := ⟨T, lookC [(92, fc92), (93, fc93)], [], (Try.f72.body.getD .skip), Try.f72.results.toList, ⟨[.one .str], []⟩, ⟨[.one .bool], []⟩, [(6, ref05_Name_F6)]⟩
def ref05_Name_l6 (s : ByteArray) (i : Int) : (Option ((Bool × Unit) × Unit)) := ref05_Name_D.lab 6 ref05_Name_F6 ((s, i, ()), ())
theorem ref05_Name_l6_eq (s : ByteArray) (i : Int) : ref05_Name_l6 s i =
  if (decide (i < (s.size : Int))) = true then
    if 0 ≤ i ∧ i < (s.size : Int) then
      (ref05_inner (bt s i)).bind fun y1 =>
        if (!y1.1.1) = true then
          some ((false, ()), ())
        else
          ref05_Name_l6 s (IntKind.i64.wrap (i + 1))
    else
      none
  else
    some ((true, ()), ()) := (FD.lab_eq _ _ _ _).trans (by kernel_rfl)
def ref05_Name (s : ByteArray) : (Option ((Bool × Unit) × Unit)) :=
  if (decide ((s.size : Int) < 1)) = true then
    some ((false, ()), ())
  else
    if (decide ((s.size : Int) > 16)) = true then
      some ((false, ()), ())
    else
      if 0 ≤ (0 : Int) ∧ 0 < (s.size : Int) then
        (ref05_letter (bt s 0)).bind fun y1 =>
          if (!y1.1.1) = true then
            some ((false, ()), ())
          else
            ref05_Name_l6 s 0
      else
        none
def fc72 : FC := ⟨⟨[.one .str], []⟩, ⟨[.one .bool], []⟩, fun x => ref05_Name x.1.1⟩
theorem con72 : Contract Try.prog 72 fc72 :=
  ref05_Name_D.contract tok (cok_of (l := [(92, fc92), (93, fc93)]) ⟨con92, con93, trivial⟩) mixed (fn' := Try.f72) (by kernel_rfl) (by kernel_rfl) rfl (by kernel_rfl) (fun x => (FD.fn_eq _ _).trans (by kernel_rfl))
end
end Go.Proofs.Ytgjimkgehbppbaa
end

section
/-
Ytgjimkgehbppbaa: names. No condition.
-/
set_option maxRecDepth 100000
open Go Go.AM
namespace Go.Proofs.Ytgjimkgehbppbaa

theorem ref05_letter_b (c : UInt8) : ref05_letter c.toNat = some ((letterB c, ()), ()) := by
  unfold ref05_letter letterB
  by_cases h : 97 ≤ c.toNat
  · rw [if_pos (decide_eq_true (by omega)), decide_eq_true h, Bool.true_and]
    by_cases h2 : c.toNat ≤ 122
    · rw [decide_eq_true h2, decide_eq_true (by omega)]
    · rw [decide_eq_false h2, decide_eq_false (by omega)]
  · rw [if_neg (dF (by omega)), decide_eq_false h, Bool.false_and]

theorem ref05_digit_b (c : UInt8) : ref05_digit c.toNat = some ((digitB c, ()), ()) := by
  unfold ref05_digit digitB
  by_cases h : 48 ≤ c.toNat
  · rw [if_pos (decide_eq_true (by omega)), decide_eq_true h, Bool.true_and]
    by_cases h2 : c.toNat ≤ 57
    · rw [decide_eq_true h2, decide_eq_true (by omega)]
    · rw [decide_eq_false h2, decide_eq_false (by omega)]
  · rw [if_neg (dF (by omega)), decide_eq_false h, Bool.false_and]

theorem int_beq (c d : UInt8) : ((c.toNat : Int) == (d.toNat : Int)) = (c == d) := by
  rw [Bool.eq_iff_iff, beq_iff_eq, beq_iff_eq, u8_eq]

theorem ref05_inner_b (c : UInt8) : ref05_inner c.toNat = some ((wordB c, ()), ()) := by
  unfold ref05_inner wordB
  rw [ref05_letter_b, ref05_digit_b]
  have := int_beq c 95
  cases letterB c <;> cases digitB c <;> simp <;> exact this

theorem ref05_Name_loop (s : ByteArray) (hs : s.size ≤ 4611686018427387904) : ∀ (r : List UInt8) (n : Nat), (L s).drop n = r → ref05_Name_l6 s n = some ((r.all wordB, ()), ())
  | [], n, h => by
    have := drop_nil h
    rw [L_len] at this
    rw [ref05_Name_l6_eq, if_neg (dF (by omega))]
    rfl
  | c :: r, n, h => by
    have h1 := drop_lt h
    rw [L_len] at h1
    rw [ref05_Name_l6_eq, if_pos (decide_eq_true (by omega)), if_pos ⟨by omega, by omega⟩, bt_drop h, ref05_inner_b]
    simp only [Option.bind_some, List.all_cons]
    cases hw : wordB c
    · rfl
    · simp only [Bool.not_true, Bool.false_eq_true, if_false, Bool.true_and]
      rw [w64 (by omega) (by omega)]
      exact ref05_Name_loop s hs r (n + 1) (drop_succ h)

theorem ref05_Name_b (s : ByteArray) : ref05_Name s = some ((nameB (L s), ()), ()) := by
  unfold ref05_Name
  have hl := L_len s
  cases hL : L s with
  | nil =>
    rw [hL] at hl
    simp only [List.length_nil] at hl
    rw [if_pos (decide_eq_true (by omega))]; rfl
  | cons c r =>
    rw [hL] at hl
    simp only [List.length_cons] at hl
    rw [if_neg (dF (by omega))]
    rw [nameB_cons]
    by_cases h : s.size ≤ 16
    · rw [if_neg (dF (by omega)), if_pos ⟨by omega, by omega⟩, bt_cons hL, ref05_letter_b, decide_eq_true (by omega : r.length + 1 ≤ 16)]
      simp only [Option.bind_some, Bool.true_and]
      cases letterB c
      · rfl
      · simp only [Bool.not_true, Bool.false_eq_true, if_false, Bool.true_and]
        exact ref05_Name_loop s (by omega) (c :: r) 0 (by rw [hL]; rfl)
    · rw [if_pos (decide_eq_true (by omega)), decide_eq_false (by omega : ¬ r.length + 1 ≤ 16)]
      rfl

end Go.Proofs.Ytgjimkgehbppbaa
end

section
/-
Ytgjimkgehbppbaa: signalbench.lex.letter, as one plain function, its equations, its contract. No condition.
-/
set_option maxRecDepth 100000
set_option linter.unusedVariables false
set_option maxHeartbeats 4000000
open Go Go.AM
namespace Go.Proofs.Ytgjimkgehbppbaa
noncomputable section
def lex_letter_D : FD := ⟨T, lookC [], [], (Try.f89.body.getD .skip), Try.f89.results.toList, ⟨[.one (.int .i32)], []⟩, ⟨[.one .bool], []⟩, []⟩
def lex_letter (c : Int) : (Option ((Bool × Unit) × Unit)) :=
  if (decide ((97 : Int) ≤ c)) = true then
    some ((decide (c ≤ 122), ()), ())
  else
    some ((false, ()), ())
def fc89 : FC := ⟨⟨[.one (.int .i32)], []⟩, ⟨[.one .bool], []⟩, fun x => lex_letter x.1.1⟩
theorem con89 : Contract Try.prog 89 fc89 :=
  lex_letter_D.contract tok (cok_of (l := []) trivial) mixed (fn' := Try.f89) (by kernel_rfl) (by kernel_rfl) rfl (by kernel_rfl) (fun x => (FD.fn_eq _ _).trans (by kernel_rfl))
end
end Go.Proofs.Ytgjimkgehbppbaa
end

section
/-
Ytgjimkgehbppbaa: signalbench.lex.digit, as one plain function, its equations, its contract. No condition.
-/
set_option maxRecDepth 100000
set_option linter.unusedVariables false
set_option maxHeartbeats 4000000
open Go Go.AM
namespace Go.Proofs.Ytgjimkgehbppbaa
noncomputable section
def lex_digit_D : FD := ⟨T, lookC [], [], (Try.f105.body.getD .skip), Try.f105.results.toList, ⟨[.one (.int .i32)], []⟩, ⟨[.one .bool], []⟩, []⟩
def lex_digit (c : Int) : (Option ((Bool × Unit) × Unit)) :=
  if (decide ((48 : Int) ≤ c)) = true then
    some ((decide (c ≤ 57), ()), ())
  else
    some ((false, ()), ())
def fc105 : FC := ⟨⟨[.one (.int .i32)], []⟩, ⟨[.one .bool], []⟩, fun x => lex_digit x.1.1⟩
theorem con105 : Contract Try.prog 105 fc105 :=
  lex_digit_D.contract tok (cok_of (l := []) trivial) mixed (fn' := Try.f105) (by kernel_rfl) (by kernel_rfl) rfl (by kernel_rfl) (fun x => (FD.fn_eq _ _).trans (by kernel_rfl))
end
end Go.Proofs.Ytgjimkgehbppbaa
end

section
/-
Ytgjimkgehbppbaa: signalbench.lex.word, as one plain function, its equations, its contract. No condition.
-/
set_option maxRecDepth 100000
set_option linter.unusedVariables false
set_option maxHeartbeats 4000000
open Go Go.AM
namespace Go.Proofs.Ytgjimkgehbppbaa
noncomputable section
def lex_word_D : FD := ⟨T, lookC [(89, fc89), (105, fc105)], [], (Try.f90.body.getD .skip), Try.f90.results.toList, ⟨[.one (.int .i32)], []⟩, ⟨[.one .bool], []⟩, []⟩
def lex_word (c : Int) : (Option ((Bool × Unit) × Unit)) :=
  (lex_letter c).bind fun y1 =>
    if y1.1.1 = true then
      some ((true, ()), ())
    else
      (lex_digit c).bind fun y2 =>
        if y2.1.1 = true then
          some ((true, ()), ())
        else
          some ((c == 95, ()), ())
def fc90 : FC := ⟨⟨[.one (.int .i32)], []⟩, ⟨[.one .bool], []⟩, fun x => lex_word x.1.1⟩
theorem con90 : Contract Try.prog 90 fc90 :=
  lex_word_D.contract tok (cok_of (l := [(89, fc89), (105, fc105)]) ⟨con89, con105, trivial⟩) mixed (fn' := Try.f90) (by kernel_rfl) (by kernel_rfl) rfl (by kernel_rfl) (fun x => (FD.fn_eq _ _).trans (by kernel_rfl))
end
end Go.Proofs.Ytgjimkgehbppbaa
end

section
/-
Ytgjimkgehbppbaa: signalbench.lex.Name, as one plain function, its equations, its contract. No condition.
-/
set_option maxRecDepth 100000
set_option linter.unusedVariables false
set_option maxHeartbeats 4000000
open Go Go.AM
namespace Go.Proofs.Ytgjimkgehbppbaa
noncomputable section
def lex_Name_F6 : FSh := ⟨[(0, .one .str), (19, .one (.int .i64)), (20, .one (.int .i64))], []⟩
def lex_Name_D : FD := ⟨T, lookC [(89, fc89), (90, fc90)], [], (Try.f70.body.getD .skip), Try.f70.results.toList, ⟨[.one .str], []⟩, ⟨[.one .bool], []⟩, [(6, lex_Name_F6)]⟩
def lex_Name_l6 (s : ByteArray) (t19 : Int) (t20 : Int) : (Option ((Bool × Unit) × Unit)) := lex_Name_D.lab 6 lex_Name_F6 ((s, t19, t20, ()), ())
theorem lex_Name_l6_eq (s : ByteArray) (t19 : Int) (t20 : Int) : lex_Name_l6 s t19 t20 =
  if (decide (t20 < t19)) = true then
    if 0 ≤ t20 ∧ t20 < (s.size : Int) then
      (lex_word (IntKind.i32.wrap (bt s t20))).bind fun y1 =>
        if (!y1.1.1) = true then
          some ((false, ()), ())
        else
          lex_Name_l6 s t19 (IntKind.i64.wrap (t20 + 1))
    else
      none
  else
    some ((true, ()), ()) := (FD.lab_eq _ _ _ _).trans (by kernel_rfl)
def lex_Name (s : ByteArray) : (Option ((Bool × Unit) × Unit)) :=
  if (s.toList == (strB []).toList) = true then
    some ((false, ()), ())
  else
    if (decide ((s.size : Int) > 16)) = true then
      some ((false, ()), ())
    else
      if 0 ≤ (0 : Int) ∧ 0 < (s.size : Int) then
        (lex_letter (IntKind.i32.wrap (bt s 0))).bind fun y1 =>
          if (!y1.1.1) = true then
            some ((false, ()), ())
          else
            lex_Name_l6 s (s.size : Int) 0
      else
        none
def fc70 : FC := ⟨⟨[.one .str], []⟩, ⟨[.one .bool], []⟩, fun x => lex_Name x.1.1⟩
theorem con70 : Contract Try.prog 70 fc70 :=
  lex_Name_D.contract tok (cok_of (l := [(89, fc89), (90, fc90)]) ⟨con89, con90, trivial⟩) mixed (fn' := Try.f70) (by kernel_rfl) (by kernel_rfl) rfl (by kernel_rfl) (fun x => (FD.fn_eq _ _).trans (by kernel_rfl))
end
end Go.Proofs.Ytgjimkgehbppbaa
end

section
/-
Ytgjimkgehbppbaa: names, as the program reads them. No condition.
-/
set_option maxRecDepth 100000
open Go Go.AM
namespace Go.Proofs.Ytgjimkgehbppbaa

theorem lex_letter_b (c : UInt8) : lex_letter c.toNat = some ((letterB c, ()), ()) := by
  unfold lex_letter letterB
  by_cases h : 97 ≤ c.toNat
  · rw [if_pos (decide_eq_true (by omega)), decide_eq_true h, Bool.true_and]
    by_cases h2 : c.toNat ≤ 122
    · rw [decide_eq_true h2, decide_eq_true (by omega)]
    · rw [decide_eq_false h2, decide_eq_false (by omega)]
  · rw [if_neg (dF (by omega)), decide_eq_false h, Bool.false_and]

theorem lex_digit_b (c : UInt8) : lex_digit c.toNat = some ((digitB c, ()), ()) := by
  unfold lex_digit digitB
  by_cases h : 48 ≤ c.toNat
  · rw [if_pos (decide_eq_true (by omega)), decide_eq_true h, Bool.true_and]
    by_cases h2 : c.toNat ≤ 57
    · rw [decide_eq_true h2, decide_eq_true (by omega)]
    · rw [decide_eq_false h2, decide_eq_false (by omega)]
  · rw [if_neg (dF (by omega)), decide_eq_false h, Bool.false_and]

theorem lex_word_b (c : UInt8) : lex_word c.toNat = some ((wordB c, ()), ()) := by
  unfold lex_word wordB
  rw [lex_letter_b, lex_digit_b]
  have := int_beq c 95
  cases letterB c <;> cases digitB c <;> simp <;> exact this

theorem lex_Name_loop (s : ByteArray) (hs : s.size ≤ 4611686018427387904) : ∀ (r : List UInt8) (n : Nat), (L s).drop n = r → lex_Name_l6 s s.size n = some ((r.all wordB, ()), ())
  | [], n, h => by
    have := drop_nil h
    rw [L_len] at this
    rw [lex_Name_l6_eq, if_neg (dF (by omega))]
    rfl
  | c :: r, n, h => by
    have h1 := drop_lt h
    rw [L_len] at h1
    rw [lex_Name_l6_eq, if_pos (decide_eq_true (by omega)), if_pos ⟨by omega, by omega⟩, bt_drop h, w32c, lex_word_b]
    simp only [Option.bind_some, List.all_cons]
    cases hw : wordB c
    · rfl
    · simp only [Bool.not_true, Bool.false_eq_true, if_false, Bool.true_and]
      rw [w64 (by omega) (by omega)]
      exact lex_Name_loop s hs r (n + 1) (drop_succ h)

theorem lex_Name_b (s : ByteArray) : lex_Name s = some ((nameB (L s), ()), ()) := by
  unfold lex_Name
  have hl := L_len s
  cases hL : L s with
  | nil => rw [if_pos (by rw [toL, toL, hL, L_strB]; rfl)]; rfl
  | cons c r =>
    rw [hL] at hl
    simp only [List.length_cons] at hl
    rw [if_neg (by rw [toL, toL, hL, L_strB]; simp)]
    rw [nameB_cons]
    by_cases h : s.size ≤ 16
    · rw [if_neg (dF (by omega)), if_pos ⟨by omega, by omega⟩, bt_cons hL, w32c, lex_letter_b, decide_eq_true (by omega : r.length + 1 ≤ 16)]
      simp only [Option.bind_some, Bool.true_and]
      cases letterB c
      · rfl
      · simp only [Bool.not_true, Bool.false_eq_true, if_false, Bool.true_and]
        exact lex_Name_loop s (by omega) (c :: r) 0 (by rw [hL]; rfl)
    · rw [if_pos (decide_eq_true (by omega)), decide_eq_false (by omega : ¬ r.length + 1 ≤ 16)]
      rfl


end Go.Proofs.Ytgjimkgehbppbaa
end

section
/-
Ytgjimkgehbppbaa: signalbench.decltab.top, as one plain function, its equations, its contract. No condition.
-/
set_option maxRecDepth 100000
set_option linter.unusedVariables false
set_option maxHeartbeats 4000000
open Go Go.AM
namespace Go.Proofs.Ytgjimkgehbppbaa
noncomputable section
def decltab_top_D : FD := ⟨T, lookC [], [], (Try.f65.body.getD .skip), Try.f65.results.toList, ⟨[.one (.int .i64)], []⟩, ⟨[.one (.int .i64)], []⟩, []⟩
def decltab_top (input : Int) : (Option ((Int × Unit) × Unit)) :=
  if (input == 2) = true then
    some ((1, ()), ())
  else
    some ((255, ()), ())
def fc65 : FC := ⟨⟨[.one (.int .i64)], []⟩, ⟨[.one (.int .i64)], []⟩, fun x => decltab_top x.1.1⟩
theorem con65 : Contract Try.prog 65 fc65 :=
  decltab_top_D.contract tok (cok_of (l := []) trivial) mixed (fn' := Try.f65) (by kernel_rfl) (by kernel_rfl) rfl (by kernel_rfl) (fun x => (FD.fn_eq _ _).trans (by kernel_rfl))
end
end Go.Proofs.Ytgjimkgehbppbaa
end

section
/-
Ytgjimkgehbppbaa: signalbench.decltab.act, as one plain function, its equations, its contract. No condition.
-/
set_option maxRecDepth 100000
set_option linter.unusedVariables false
set_option maxHeartbeats 4000000
open Go Go.AM
namespace Go.Proofs.Ytgjimkgehbppbaa
noncomputable section
def decltab_act_D : FD := ⟨T, lookC [], [], (Try.f91.body.getD .skip), Try.f91.results.toList, ⟨[.row (.cons (.int .i64) (.int .i64))], []⟩, ⟨[.one .bool], []⟩, []⟩
def decltab_act (a : TAct) : (Option ((Bool × Unit) × Unit)) :=
  if (decide (a.1 < 1)) = true then
    some ((false, ()), ())
  else
    if (decide (a.1 > 6)) = true then
      some ((false, ()), ())
    else
      if (decide (a.2 < 0)) = true then
        some ((false, ()), ())
      else
        if (decide (a.2 > 255)) = true then
          some ((false, ()), ())
        else
          if (decide (a.1 ≤ 2)) = true then
            if (a.2 != 0) = true then
              some ((false, ()), ())
            else
              if (a.1 != 6) = true then
                some ((true, ()), ())
              else
                if (decide (a.2 ≥ 1)) = true then
                  some ((decide (a.2 ≤ 12), ()), ())
                else
                  some ((false, ()), ())
          else
            if (a.1 != 6) = true then
              some ((true, ()), ())
            else
              if (decide (a.2 ≥ 1)) = true then
                some ((decide (a.2 ≤ 12), ()), ())
              else
                some ((false, ()), ())
def fc91 : FC := ⟨⟨[.row (.cons (.int .i64) (.int .i64))], []⟩, ⟨[.one .bool], []⟩, fun x => decltab_act x.1.1⟩
theorem con91 : Contract Try.prog 91 fc91 :=
  decltab_act_D.contract tok (cok_of (l := []) trivial) mixed (fn' := Try.f91) (by kernel_rfl) (by kernel_rfl) rfl (by kernel_rfl) (fun x => (FD.fn_eq _ _).trans (by kernel_rfl))
end
end Go.Proofs.Ytgjimkgehbppbaa
end

section
/-
Ytgjimkgehbppbaa: signalbench.decltab.cell, as one plain function, its equations, its contract. No condition.
-/
set_option maxRecDepth 100000
set_option linter.unusedVariables false
set_option maxHeartbeats 4000000
open Go Go.AM
namespace Go.Proofs.Ytgjimkgehbppbaa
noncomputable section
def decltab_cell_F4 : FSh := ⟨[(3, .one (.ptr 0 0)), (4, .one (.ptr 1 0)), (14, .one .bool)], [.boxr (.cons .str (.cons (.int .i64) (.cons (.int .i64) (.sl (.sl (.cons (.int .i64) (.cons (.int .i64) (.cons (.int .i64) (.sl (.cons (.int .i64) (.int .i64))))))))))), .boxr (.cons (.int .i64) (.cons (.int .i64) (.cons (.int .i64) (.sl (.cons (.int .i64) (.int .i64))))))]⟩
def decltab_cell_F12 : FSh := ⟨[(43, .one (.sl (.cons (.int .i64) (.int .i64)))), (44, .one (.int .i64)), (45, .one (.int .i64))], []⟩
def decltab_cell_D : FD := ⟨T, lookC [(65, fc65), (91, fc91)], [4], (Try.f71.body.getD .skip), Try.f71.results.toList, ⟨[.row (.cons .str (.cons (.int .i64) (.cons (.int .i64) (.sl (.sl (.cons (.int .i64) (.cons (.int .i64) (.cons (.int .i64) (.sl (.cons (.int .i64) (.int .i64))))))))))), .row (.cons (.int .i64) (.cons (.int .i64) (.cons (.int .i64) (.sl (.cons (.int .i64) (.int .i64)))))), .one (.int .i64)], []⟩, ⟨[.one (.int .i64)], []⟩, [(4, decltab_cell_F4), (12, decltab_cell_F12)]⟩
def decltab_cell_l4 (t14 : Bool) (h0 : TTable) (h1 : TCell) : (Option ((Int × Unit) × Unit)) := decltab_cell_D.lab 4 decltab_cell_F4 (((), (), t14, ()), (h0, h1, ()))
def decltab_cell_l12 (t43 : (List TAct)) (t44 : Int) (t45 : Int) : (Option ((Int × Unit) × Unit)) := decltab_cell_D.lab 12 decltab_cell_F12 ((t43, t44, t45, ()), ())
theorem decltab_cell_l4_eq (t14 : Bool) (h0 : TTable) (h1 : TCell) : decltab_cell_l4 t14 h0 h1 =
  if t14 = true then
    some ((7, ()), ())
  else
    if (decide (h1.2.2.1 < 0)) = true then
      some ((8, ()), ())
    else
      if (decide (h1.2.2.1 ≥ (h0.2.2.2.length : Int))) = true then
        some ((8, ()), ())
      else
        decltab_cell_l12 h1.2.2.2 (h1.2.2.2.length : Int) 0 := (FD.lab_eq _ _ _ _).trans (by kernel_rfl)
theorem decltab_cell_l12_eq (t43 : (List TAct)) (t44 : Int) (t45 : Int) : decltab_cell_l12 t43 t44 t45 =
  if (decide (t45 < t44)) = true then
    if 0 ≤ t45 ∧ t45 < (t43.length : Int) then
      (decltab_act (t43.getD t45.toNat dAct)).bind fun y1 =>
        if (!y1.1.1) = true then
          some ((2, ()), ())
        else
          decltab_cell_l12 t43 t44 (IntKind.i64.wrap (t45 + 1))
    else
      none
  else
    some ((0, ()), ()) := (FD.lab_eq _ _ _ _).trans (by kernel_rfl)
def decltab_cell (t : TTable) (c : TCell) (first : Int) : (Option ((Int × Unit) × Unit)) :=
  if (decide ((c.2.2.2.length : Int) > 64)) = true then
    some ((6, ()), ())
  else
    if (c.1 != first) = true then
      decltab_cell_l4 true t c
    else
      if (decide (c.2.1 < c.1)) = true then
        decltab_cell_l4 true t c
      else
        (decltab_top t.2.1).bind fun y1 =>
          decltab_cell_l4 (decide (c.2.1 > y1.1.1)) t c
def fc71 : FC := ⟨⟨[.row (.cons .str (.cons (.int .i64) (.cons (.int .i64) (.sl (.sl (.cons (.int .i64) (.cons (.int .i64) (.cons (.int .i64) (.sl (.cons (.int .i64) (.int .i64))))))))))), .row (.cons (.int .i64) (.cons (.int .i64) (.cons (.int .i64) (.sl (.cons (.int .i64) (.int .i64)))))), .one (.int .i64)], []⟩, ⟨[.one (.int .i64)], []⟩, fun x => decltab_cell x.1.1 x.1.2.1 x.1.2.2.1⟩
theorem con71 : Contract Try.prog 71 fc71 :=
  decltab_cell_D.contract tok (cok_of (l := [(65, fc65), (91, fc91)]) ⟨con65, con91, trivial⟩) mixed (fn' := Try.f71) (by kernel_rfl) (by kernel_rfl) rfl (by kernel_rfl) (fun x => (FD.fn_eq _ _).trans (by kernel_rfl))
end
end Go.Proofs.Ytgjimkgehbppbaa
end

section
/-
Ytgjimkgehbppbaa: signalbench.decltab.Check, as one plain function, its equations, its contract. No condition.
-/
set_option maxRecDepth 100000
set_option linter.unusedVariables false
set_option maxHeartbeats 4000000
open Go Go.AM
namespace Go.Proofs.Ytgjimkgehbppbaa
noncomputable section
def decltab_Check_F4 : FSh := ⟨[(1, .one (.ptr 0 0)), (14, .one .bool)], [.boxr (.cons .str (.cons (.int .i64) (.cons (.int .i64) (.sl (.sl (.cons (.int .i64) (.cons (.int .i64) (.cons (.int .i64) (.sl (.cons (.int .i64) (.int .i64)))))))))))]⟩
def decltab_Check_F11 : FSh := ⟨[(1, .one (.ptr 0 0)), (43, .one (.sl (.sl (.cons (.int .i64) (.cons (.int .i64) (.cons (.int .i64) (.sl (.cons (.int .i64) (.int .i64))))))))), (44, .one (.int .i64)), (45, .one (.int .i64))], [.boxr (.cons .str (.cons (.int .i64) (.cons (.int .i64) (.sl (.sl (.cons (.int .i64) (.cons (.int .i64) (.cons (.int .i64) (.sl (.cons (.int .i64) (.int .i64)))))))))))]⟩
def decltab_Check_F19 : FSh := ⟨[(1, .one (.ptr 0 0)), (5, .one (.int .i64)), (43, .one (.sl (.sl (.cons (.int .i64) (.cons (.int .i64) (.cons (.int .i64) (.sl (.cons (.int .i64) (.int .i64))))))))), (44, .one (.int .i64)), (45, .one (.int .i64)), (49, .one (.sl (.cons (.int .i64) (.cons (.int .i64) (.cons (.int .i64) (.sl (.cons (.int .i64) (.int .i64)))))))), (50, .one (.int .i64)), (51, .one (.int .i64))], [.boxr (.cons .str (.cons (.int .i64) (.cons (.int .i64) (.sl (.sl (.cons (.int .i64) (.cons (.int .i64) (.cons (.int .i64) (.sl (.cons (.int .i64) (.int .i64)))))))))))]⟩
def decltab_Check_D : FD := ⟨T, lookC [(65, fc65), (70, fc70), (71, fc71)], [4], (Try.f36.body.getD .skip), Try.f36.results.toList, ⟨[.row (.cons .str (.cons (.int .i64) (.cons (.int .i64) (.sl (.sl (.cons (.int .i64) (.cons (.int .i64) (.cons (.int .i64) (.sl (.cons (.int .i64) (.int .i64)))))))))))], []⟩, ⟨[.one (.int .i64)], []⟩, [(4, decltab_Check_F4), (11, decltab_Check_F11), (19, decltab_Check_F19)]⟩
def decltab_Check_l4 (t14 : Bool) (h0 : TTable) : (Option ((Int × Unit) × Unit)) := decltab_Check_D.lab 4 decltab_Check_F4 (((), t14, ()), (h0, ()))
def decltab_Check_l11 (t43 : (List (List TCell))) (t44 : Int) (t45 : Int) (h0 : TTable) : (Option ((Int × Unit) × Unit)) := decltab_Check_D.lab 11 decltab_Check_F11 (((), t43, t44, t45, ()), (h0, ()))
def decltab_Check_l19 (first : Int) (t43 : (List (List TCell))) (t44 : Int) (t45 : Int) (t49 : (List TCell)) (t50 : Int) (t51 : Int) (h0 : TTable) : (Option ((Int × Unit) × Unit)) := decltab_Check_D.lab 19 decltab_Check_F19 (((), first, t43, t44, t45, t49, t50, t51, ()), (h0, ()))
theorem decltab_Check_l4_eq (t14 : Bool) (h0 : TTable) : decltab_Check_l4 t14 h0 =
  if t14 = true then
    some ((1, ()), ())
  else
    if ((h0.2.2.2.length : Int) == 0) = true then
      some ((6, ()), ())
    else
      if (decide ((h0.2.2.2.length : Int) > 32)) = true then
        some ((6, ()), ())
      else
        decltab_Check_l11 h0.2.2.2 (h0.2.2.2.length : Int) 0 h0 := (FD.lab_eq _ _ _ _).trans (by kernel_rfl)
theorem decltab_Check_l11_eq (t43 : (List (List TCell))) (t44 : Int) (t45 : Int) (h0 : TTable) : decltab_Check_l11 t43 t44 t45 h0 =
  if (decide (t45 < t44)) = true then
    if 0 ≤ t45 ∧ t45 < (t43.length : Int) then
      decltab_Check_l19 0 t43 t44 t45 (t43.getD t45.toNat []) ((t43.getD t45.toNat []).length : Int) 0 h0
    else
      none
  else
    some ((0, ()), ()) := (FD.lab_eq _ _ _ _).trans (by kernel_rfl)
theorem decltab_Check_l19_eq (first : Int) (t43 : (List (List TCell))) (t44 : Int) (t45 : Int) (t49 : (List TCell)) (t50 : Int) (t51 : Int) (h0 : TTable) : decltab_Check_l19 first t43 t44 t45 t49 t50 t51 h0 =
  if (decide (t51 < t50)) = true then
    if 0 ≤ t51 ∧ t51 < (t49.length : Int) then
      (decltab_cell h0 (t49.getD t51.toNat dCell) first).bind fun y1 =>
        if (y1.1.1 != 0) = true then
          some ((y1.1.1, ()), ())
        else
          decltab_Check_l19 (IntKind.i64.wrap ((t49.getD t51.toNat dCell).2.1 + 1)) t43 t44 t45 t49 t50 (IntKind.i64.wrap (t51 + 1)) h0
    else
      none
  else
    (decltab_top h0.2.1).bind fun y2 =>
      if (first != (IntKind.i64.wrap (y2.1.1 + 1))) = true then
        some ((14, ()), ())
      else
        decltab_Check_l11 t43 t44 (IntKind.i64.wrap (t45 + 1)) h0 := (FD.lab_eq _ _ _ _).trans (by kernel_rfl)
def decltab_Check (t : TTable) : (Option ((Int × Unit) × Unit)) :=
  (lex_Name t.1).bind fun y1 =>
    if (!y1.1.1) = true then
      some ((4, ()), ())
    else
      if (t.2.1 != 2) = true then
        if (t.2.1 != 3) = true then
          decltab_Check_l4 true t
        else
          if (t.2.2.1 != 5) = true then
            decltab_Check_l4 (t.2.2.1 != 6) t
          else
            decltab_Check_l4 false t
      else
        if (t.2.2.1 != 5) = true then
          decltab_Check_l4 (t.2.2.1 != 6) t
        else
          decltab_Check_l4 false t
def fc36 : FC := ⟨⟨[.row (.cons .str (.cons (.int .i64) (.cons (.int .i64) (.sl (.sl (.cons (.int .i64) (.cons (.int .i64) (.cons (.int .i64) (.sl (.cons (.int .i64) (.int .i64)))))))))))], []⟩, ⟨[.one (.int .i64)], []⟩, fun x => decltab_Check x.1.1⟩
theorem con36 : Contract Try.prog 36 fc36 :=
  decltab_Check_D.contract tok (cok_of (l := [(65, fc65), (70, fc70), (71, fc71)]) ⟨con65, con70, con71, trivial⟩) mixed (fn' := Try.f36) (by kernel_rfl) (by kernel_rfl) rfl (by kernel_rfl) (fun x => (FD.fn_eq _ _).trans (by kernel_rfl))
end
end Go.Proofs.Ytgjimkgehbppbaa
end

section
/-
Ytgjimkgehbppbaa: signalbench.signalbenchref36.top, as one plain function, its equations, its contract. No condition.
-/
set_option maxRecDepth 100000
set_option linter.unusedVariables false
set_option maxHeartbeats 4000000
open Go Go.AM
namespace Go.Proofs.Ytgjimkgehbppbaa
noncomputable section
def ref36_top_D : FD := ⟨T, lookC [], [], (Try.f74.body.getD .skip), Try.f74.results.toList, ⟨[.one (.int .i64)], []⟩, ⟨[.one (.int .i64)], []⟩, []⟩
def ref36_top (port : Int) : (Option ((Int × Unit) × Unit)) :=
  if (port == 2) = true then
    some ((1, ()), ())
  else
    some ((255, ()), ())
def fc74 : FC := ⟨⟨[.one (.int .i64)], []⟩, ⟨[.one (.int .i64)], []⟩, fun x => ref36_top x.1.1⟩
theorem con74 : Contract Try.prog 74 fc74 :=
  ref36_top_D.contract tok (cok_of (l := []) trivial) mixed (fn' := Try.f74) (by kernel_rfl) (by kernel_rfl) rfl (by kernel_rfl) (fun x => (FD.fn_eq _ _).trans (by kernel_rfl))
end
end Go.Proofs.Ytgjimkgehbppbaa
end

section
/-
Ytgjimkgehbppbaa: signalbench.signalbenchref36.act, as one plain function, its equations, its contract. No condition.
-/
set_option maxRecDepth 100000
set_option linter.unusedVariables false
set_option maxHeartbeats 4000000
open Go Go.AM
namespace Go.Proofs.Ytgjimkgehbppbaa
noncomputable section
def ref36_act_F3 : FSh := ⟨[(1, .one (.ptr 0 0)), (4, .one (.int .i64)), (5, .one .bool)], [.boxr (.cons (.int .i64) (.int .i64))]⟩
def ref36_act_F6 : FSh := ⟨[(1, .one (.ptr 0 0)), (4, .one (.int .i64)), (11, .one .bool)], [.boxr (.cons (.int .i64) (.int .i64))]⟩
def ref36_act_D : FD := ⟨T, lookC [], [6, 3], (Try.f94.body.getD .skip), Try.f94.results.toList, ⟨[.row (.cons (.int .i64) (.int .i64))], []⟩, ⟨[.one .bool], []⟩, [(3, ref36_act_F3), (6, ref36_act_F6)]⟩
def ref36_act_l3 (t4 : Int) (t5 : Bool) (h0 : TAct) : (Option ((Bool × Unit) × Unit)) := ref36_act_D.lab 3 ref36_act_F3 (((), t4, t5, ()), (h0, ()))
def ref36_act_l6 (t4 : Int) (t11 : Bool) (h0 : TAct) : (Option ((Bool × Unit) × Unit)) := ref36_act_D.lab 6 ref36_act_F6 (((), t4, t11, ()), (h0, ()))
theorem ref36_act_l3_eq (t4 : Int) (t5 : Bool) (h0 : TAct) : ref36_act_l3 t4 t5 h0 =
  if t5 = true then
    some ((h0.2 == 0, ()), ())
  else
    if (t4 == 3) = true then
      ref36_act_l6 t4 true h0
    else
      if (t4 == 4) = true then
        ref36_act_l6 t4 true h0
      else
        ref36_act_l6 t4 (t4 == 5) h0 := (FD.lab_eq _ _ _ _).trans (by kernel_rfl)
theorem ref36_act_l6_eq (t4 : Int) (t11 : Bool) (h0 : TAct) : ref36_act_l6 t4 t11 h0 =
  if t11 = true then
    if (decide (h0.2 ≥ 0)) = true then
      some ((decide (h0.2 ≤ 255), ()), ())
    else
      some ((false, ()), ())
  else
    if (t4 == 6) = true then
      if (decide (h0.2 ≥ 1)) = true then
        some ((decide (h0.2 ≤ 12), ()), ())
      else
        some ((false, ()), ())
    else
      some ((false, ()), ()) := (FD.lab_eq _ _ _ _).trans (by kernel_rfl)
def ref36_act (a : TAct) : (Option ((Bool × Unit) × Unit)) :=
  if (a.1 == 1) = true then
    ref36_act_l3 a.1 true a
  else
    ref36_act_l3 a.1 (a.1 == 2) a
def fc94 : FC := ⟨⟨[.row (.cons (.int .i64) (.int .i64))], []⟩, ⟨[.one .bool], []⟩, fun x => ref36_act x.1.1⟩
theorem con94 : Contract Try.prog 94 fc94 :=
  ref36_act_D.contract tok (cok_of (l := []) trivial) mixed (fn' := Try.f94) (by kernel_rfl) (by kernel_rfl) rfl (by kernel_rfl) (fun x => (FD.fn_eq _ _).trans (by kernel_rfl))
end
end Go.Proofs.Ytgjimkgehbppbaa
end

section
/-
Ytgjimkgehbppbaa: signalbench.signalbenchref36.cell, as one plain function, its equations, its contract. No condition.
-/
set_option maxRecDepth 100000
set_option linter.unusedVariables false
set_option maxHeartbeats 4000000
open Go Go.AM
namespace Go.Proofs.Ytgjimkgehbppbaa
noncomputable section
def ref36_cell_F12 : FSh := ⟨[(4, .one (.ptr 0 0)), (7, .one (.int .i64))], [.boxr (.cons (.int .i64) (.cons (.int .i64) (.cons (.int .i64) (.sl (.cons (.int .i64) (.int .i64))))))]⟩
def ref36_cell_D : FD := ⟨T, lookC [(74, fc74), (94, fc94)], [], (Try.f73.body.getD .skip), Try.f73.results.toList, ⟨[.row (.cons .str (.cons (.int .i64) (.cons (.int .i64) (.sl (.sl (.cons (.int .i64) (.cons (.int .i64) (.cons (.int .i64) (.sl (.cons (.int .i64) (.int .i64))))))))))), .row (.cons (.int .i64) (.cons (.int .i64) (.cons (.int .i64) (.sl (.cons (.int .i64) (.int .i64)))))), .one (.int .i64)], []⟩, ⟨[.one (.int .i64)], []⟩, [(12, ref36_cell_F12)]⟩
def ref36_cell_l12 (i : Int) (h0 : TCell) : (Option ((Int × Unit) × Unit)) := ref36_cell_D.lab 12 ref36_cell_F12 (((), i, ()), (h0, ()))
theorem ref36_cell_l12_eq (i : Int) (h0 : TCell) : ref36_cell_l12 i h0 =
  if (decide (i < (h0.2.2.2.length : Int))) = true then
    if 0 ≤ i ∧ i < (h0.2.2.2.length : Int) then
      (ref36_act (h0.2.2.2.getD i.toNat dAct)).bind fun y1 =>
        if (!y1.1.1) = true then
          some ((2, ()), ())
        else
          ref36_cell_l12 (IntKind.i64.wrap (i + 1)) h0
    else
      none
  else
    some ((0, ()), ()) := (FD.lab_eq _ _ _ _).trans (by kernel_rfl)
def ref36_cell (t : TTable) (c : TCell) (before : Int) : (Option ((Int × Unit) × Unit)) :=
  if (decide ((c.2.2.2.length : Int) > 64)) = true then
    some ((6, ()), ())
  else
    if (c.1 != (IntKind.i64.wrap (before + 1))) = true then
      some ((7, ()), ())
    else
      if (decide (c.2.1 < c.1)) = true then
        some ((7, ()), ())
      else
        (ref36_top t.2.1).bind fun y1 =>
          if (decide (c.2.1 > y1.1.1)) = true then
            some ((7, ()), ())
          else
            if (decide (c.2.2.1 < 0)) = true then
              some ((8, ()), ())
            else
              if (decide (c.2.2.1 ≥ (t.2.2.2.length : Int))) = true then
                some ((8, ()), ())
              else
                ref36_cell_l12 0 c
def fc73 : FC := ⟨⟨[.row (.cons .str (.cons (.int .i64) (.cons (.int .i64) (.sl (.sl (.cons (.int .i64) (.cons (.int .i64) (.cons (.int .i64) (.sl (.cons (.int .i64) (.int .i64))))))))))), .row (.cons (.int .i64) (.cons (.int .i64) (.cons (.int .i64) (.sl (.cons (.int .i64) (.int .i64)))))), .one (.int .i64)], []⟩, ⟨[.one (.int .i64)], []⟩, fun x => ref36_cell x.1.1 x.1.2.1 x.1.2.2.1⟩
theorem con73 : Contract Try.prog 73 fc73 :=
  ref36_cell_D.contract tok (cok_of (l := [(74, fc74), (94, fc94)]) ⟨con74, con94, trivial⟩) mixed (fn' := Try.f73) (by kernel_rfl) (by kernel_rfl) rfl (by kernel_rfl) (fun x => (FD.fn_eq _ _).trans (by kernel_rfl))
end
end Go.Proofs.Ytgjimkgehbppbaa
end

section
/-
Ytgjimkgehbppbaa: signalbench.signalbenchref36.Check, as one plain function, its equations, its contract. No condition.
-/
set_option maxRecDepth 100000
set_option linter.unusedVariables false
set_option maxHeartbeats 4000000
open Go Go.AM
namespace Go.Proofs.Ytgjimkgehbppbaa
noncomputable section
def ref36_Check_F12 : FSh := ⟨[(1, .one (.ptr 0 0)), (3, .one (.int .i64))], [.boxr (.cons .str (.cons (.int .i64) (.cons (.int .i64) (.sl (.sl (.cons (.int .i64) (.cons (.int .i64) (.cons (.int .i64) (.sl (.cons (.int .i64) (.int .i64)))))))))))]⟩
def ref36_Check_F19 : FSh := ⟨[(1, .one (.ptr 0 0)), (3, .one (.int .i64)), (4, .one (.int .i64)), (5, .one (.int .i64))], [.boxr (.cons .str (.cons (.int .i64) (.cons (.int .i64) (.sl (.sl (.cons (.int .i64) (.cons (.int .i64) (.cons (.int .i64) (.sl (.cons (.int .i64) (.int .i64)))))))))))]⟩
def ref36_Check_D : FD := ⟨T, lookC [(72, fc72), (73, fc73), (74, fc74)], [], (Try.f37.body.getD .skip), Try.f37.results.toList, ⟨[.row (.cons .str (.cons (.int .i64) (.cons (.int .i64) (.sl (.sl (.cons (.int .i64) (.cons (.int .i64) (.cons (.int .i64) (.sl (.cons (.int .i64) (.int .i64)))))))))))], []⟩, ⟨[.one (.int .i64)], []⟩, [(12, ref36_Check_F12), (19, ref36_Check_F19)]⟩
def ref36_Check_l12 (i : Int) (h0 : TTable) : (Option ((Int × Unit) × Unit)) := ref36_Check_D.lab 12 ref36_Check_F12 (((), i, ()), (h0, ()))
def ref36_Check_l19 (i : Int) (before : Int) (k0 : Int) (h0 : TTable) : (Option ((Int × Unit) × Unit)) := ref36_Check_D.lab 19 ref36_Check_F19 (((), i, before, k0, ()), (h0, ()))
theorem ref36_Check_l12_eq (i : Int) (h0 : TTable) : ref36_Check_l12 i h0 =
  if (decide (i < (h0.2.2.2.length : Int))) = true then
    ref36_Check_l19 i (-1) 0 h0
  else
    some ((0, ()), ()) := (FD.lab_eq _ _ _ _).trans (by kernel_rfl)
theorem ref36_Check_l19_eq (i : Int) (before : Int) (k0 : Int) (h0 : TTable) : ref36_Check_l19 i before k0 h0 =
  if 0 ≤ i ∧ i < (h0.2.2.2.length : Int) then
    if (decide (k0 < ((h0.2.2.2.getD i.toNat []).length : Int))) = true then
      if 0 ≤ i ∧ i < (h0.2.2.2.length : Int) then
        if 0 ≤ k0 ∧ k0 < ((h0.2.2.2.getD i.toNat []).length : Int) then
          (ref36_cell h0 ((h0.2.2.2.getD i.toNat []).getD k0.toNat dCell) before).bind fun y1 =>
            if (y1.1.1 != 0) = true then
              some ((y1.1.1, ()), ())
            else
              if 0 ≤ i ∧ i < (h0.2.2.2.length : Int) then
                if 0 ≤ k0 ∧ k0 < ((h0.2.2.2.getD i.toNat []).length : Int) then
                  ref36_Check_l19 i ((h0.2.2.2.getD i.toNat []).getD k0.toNat dCell).2.1 (IntKind.i64.wrap (k0 + 1)) h0
                else
                  none
              else
                none
        else
          none
      else
        none
    else
      (ref36_top h0.2.1).bind fun y2 =>
        if (before != y2.1.1) = true then
          some ((14, ()), ())
        else
          ref36_Check_l12 (IntKind.i64.wrap (i + 1)) h0
  else
    none := (FD.lab_eq _ _ _ _).trans (by kernel_rfl)
def ref36_Check (t : TTable) : (Option ((Int × Unit) × Unit)) :=
  (ref05_Name t.1).bind fun y1 =>
    if (!y1.1.1) = true then
      some ((4, ()), ())
    else
      if (t.2.1 != 2) = true then
        if (t.2.1 != 3) = true then
          some ((1, ()), ())
        else
          if (t.2.2.1 != 5) = true then
            if (t.2.2.1 != 6) = true then
              some ((1, ()), ())
            else
              if (decide ((t.2.2.2.length : Int) < 1)) = true then
                some ((6, ()), ())
              else
                if (decide ((t.2.2.2.length : Int) > 32)) = true then
                  some ((6, ()), ())
                else
                  ref36_Check_l12 0 t
          else
            if (decide ((t.2.2.2.length : Int) < 1)) = true then
              some ((6, ()), ())
            else
              if (decide ((t.2.2.2.length : Int) > 32)) = true then
                some ((6, ()), ())
              else
                ref36_Check_l12 0 t
      else
        if (t.2.2.1 != 5) = true then
          if (t.2.2.1 != 6) = true then
            some ((1, ()), ())
          else
            if (decide ((t.2.2.2.length : Int) < 1)) = true then
              some ((6, ()), ())
            else
              if (decide ((t.2.2.2.length : Int) > 32)) = true then
                some ((6, ()), ())
              else
                ref36_Check_l12 0 t
        else
          if (decide ((t.2.2.2.length : Int) < 1)) = true then
            some ((6, ()), ())
          else
            if (decide ((t.2.2.2.length : Int) > 32)) = true then
              some ((6, ()), ())
            else
              ref36_Check_l12 0 t
def fc37 : FC := ⟨⟨[.row (.cons .str (.cons (.int .i64) (.cons (.int .i64) (.sl (.sl (.cons (.int .i64) (.cons (.int .i64) (.cons (.int .i64) (.sl (.cons (.int .i64) (.int .i64)))))))))))], []⟩, ⟨[.one (.int .i64)], []⟩, fun x => ref36_Check x.1.1⟩
theorem con37 : Contract Try.prog 37 fc37 :=
  ref36_Check_D.contract tok (cok_of (l := [(72, fc72), (73, fc73), (74, fc74)]) ⟨con72, con73, con74, trivial⟩) mixed (fn' := Try.f37) (by kernel_rfl) (by kernel_rfl) rfl (by kernel_rfl) (fun x => (FD.fn_eq _ _).trans (by kernel_rfl))
end
end Go.Proofs.Ytgjimkgehbppbaa
end

section
/-
Ytgjimkgehbppbaa: the error of a table. No condition.
-/
set_option maxRecDepth 100000
open Go Go.AM
namespace Go.Proofs.Ytgjimkgehbppbaa

theorem topI_le (p : Int) : topI p ≤ 255 := by unfold topI; split <;> omega
theorem ttop_eq (p : Int) : decltab_top p = some (((topI p : Int), ()), ()) := by
  unfold decltab_top topI
  by_cases h : p = 2
  · rw [if_pos (eT h), if_pos h]; rfl
  · rw [if_neg (eF h), if_neg h]; rfl
theorem rttop_eq (p : Int) : ref36_top p = some (((topI p : Int), ()), ()) := by
  unfold ref36_top topI
  by_cases h : p = 2
  · rw [if_pos (eT h), if_pos h]; rfl
  · rw [if_neg (eF h), if_neg h]; rfl

theorem tact_eq (a : TAct) : decltab_act a = some ((decide (actV a = 0), ()), ()) := by
  obtain ⟨p, q⟩ := a
  unfold decltab_act actV
  simp only [decide_eq_true_eq, bne_iff_ne, ne_eq]
  by_cases l1 : p < 1
  · rw [if_pos l1, if_neg (by omega), if_neg (by omega), if_neg (by omega)]; rfl
  rw [if_neg l1]
  by_cases l2 : p > 6
  · rw [if_pos l2, if_neg (by omega), if_neg (by omega), if_neg (by omega)]; rfl
  rw [if_neg l2]
  by_cases m1 : q < 0
  · rw [if_pos m1]
    split
    · rw [if_neg (by omega)]; rfl
    · split
      · rw [if_neg (by omega)]; rfl
      · split
        · rw [if_neg (by omega)]; rfl
        · rfl
  rw [if_neg m1]
  by_cases m2 : q > 255
  · rw [if_pos m2]
    split
    · rw [if_neg (by omega)]; rfl
    · split
      · rw [if_neg (by omega)]; rfl
      · split
        · rw [if_neg (by omega)]; rfl
        · rfl
  rw [if_neg m2]
  by_cases l3 : p ≤ 2
  · rw [if_pos l3, if_pos (show p = 1 ∨ p = 2 by omega)]
    by_cases hq : q = 0
    · rw [if_neg (by simpa using hq), if_pos (by omega), if_pos hq]; rfl
    · rw [if_pos hq, if_neg hq]; rfl
  · rw [if_neg l3, if_neg (show ¬ (p = 1 ∨ p = 2) by omega)]
    by_cases l5 : p = 6
    · rw [if_neg (by omega), if_neg (show ¬ (p = 3 ∨ p = 4 ∨ p = 5) by omega), if_pos l5]
      by_cases a1 : q ≥ 1
      · rw [if_pos a1]
        by_cases a2 : q ≤ 12
        · rw [if_pos ⟨a1, a2⟩, decide_eq_true a2]; rfl
        · rw [if_neg (by omega), decide_eq_false a2]; rfl
      · rw [if_neg a1, if_neg (by omega)]; rfl
    · rw [if_pos l5, if_pos (show p = 3 ∨ p = 4 ∨ p = 5 by omega), if_pos (by omega)]; rfl

theorem rtact_eq (a : TAct) : ref36_act a = some ((decide (actV a = 0), ()), ()) := by
  obtain ⟨p, q⟩ := a
  unfold ref36_act actV
  simp only [ref36_act_l3_eq, ref36_act_l6_eq]
  have big : (if q ≥ 0 then some ((decide (q ≤ 255), ()), ()) else some ((false, ()), ())) = some ((decide ((if 0 ≤ q ∧ q ≤ 255 then (0 : Int) else 2) = 0), ()), ()) := by
    by_cases a1 : q ≥ 0
    · rw [if_pos a1]
      by_cases a2 : q ≤ 255
      · rw [if_pos ⟨a1, a2⟩, decide_eq_true a2]; rfl
      · rw [if_neg (by omega), decide_eq_false a2]; rfl
    · rw [if_neg a1, if_neg (by omega)]; rfl
  have six : (if q ≥ 1 then some ((decide (q ≤ 12), ()), ()) else some ((false, ()), ())) = some ((decide ((if 1 ≤ q ∧ q ≤ 12 then (0 : Int) else 2) = 0), ()), ()) := by
    by_cases a1 : q ≥ 1
    · rw [if_pos a1]
      by_cases a2 : q ≤ 12
      · rw [if_pos ⟨a1, a2⟩, decide_eq_true a2]; rfl
      · rw [if_neg (by omega), decide_eq_false a2]; rfl
    · rw [if_neg a1, if_neg (by omega)]; rfl
  have zero : (q == 0) = decide ((if q = 0 then (0 : Int) else 1) = 0) := by
    by_cases hq : q = 0 <;> simp [hq]
  by_cases h1 : p = 1
  · subst h1; simp [zero]
  by_cases h2 : p = 2
  · subst h2; simp [zero]
  by_cases h3 : p = 3
  · subst h3; simpa using big
  by_cases h4 : p = 4
  · subst h4; simpa using big
  by_cases h5 : p = 5
  · subst h5; simpa using big
  by_cases h6 : p = 6
  · subst h6; simpa using six
  · simp [h1, h2, h3, h4, h5, h6]

theorem tacts_loop (l : List TAct) (hl : l.length ≤ 1048576) : ∀ (r : List TAct) (k : Nat), l.drop k = r → decltab_cell_l12 l (l.length : Int) k = some ((if r.all (fun a => decide (actV a = 0)) = true then 0 else 2, ()), ())
  | [], k, h => by
    have := drop_nil h
    rw [decltab_cell_l12_eq, if_neg (dF (by omega))]
    rfl
  | a :: r, k, h => by
    have h1 := drop_lt h
    have hr : l.getD (k : Int).toNat dAct = a := getD_drop h
    rw [decltab_cell_l12_eq, if_pos (dT (by omega)), if_pos ⟨by omega, by omega⟩, hr, tact_eq, w64a k (by omega), tacts_loop l hl r (k + 1) (dropS h)]
    simp only [Option.bind_some]
    rw [List.all_cons]
    by_cases q : actV a = 0
    · rw [decide_eq_true q, Bool.true_and]; rfl
    · rw [decide_eq_false q, Bool.false_and]; rfl

theorem rtacts_loop (z : TCell) (hl : z.2.2.2.length ≤ 1048576) : ∀ (r : List TAct) (k : Nat), z.2.2.2.drop k = r → ref36_cell_l12 k z = some ((if r.all (fun a => decide (actV a = 0)) = true then 0 else 2, ()), ())
  | [], k, h => by
    have := drop_nil h
    rw [ref36_cell_l12_eq, if_neg (dF (by omega))]
    rfl
  | a :: r, k, h => by
    have h1 := drop_lt h
    have hr : z.2.2.2.getD (k : Int).toNat dAct = a := getD_drop h
    rw [ref36_cell_l12_eq, if_pos (dT (by omega)), if_pos ⟨by omega, by omega⟩, hr, rtact_eq, w64a k (by omega), rtacts_loop z hl r (k + 1) (dropS h)]
    simp only [Option.bind_some]
    rw [List.all_cons]
    by_cases q : actV a = 0
    · rw [decide_eq_true q, Bool.true_and]; rfl
    · rw [decide_eq_false q, Bool.false_and]; rfl

theorem cell_eq (t : TTable) (c : TCell) (first : Int) (hc : okCell c) : decltab_cell t c first = some ((cellE (topI t.2.1) t.2.2.2.length first c, ()), ()) := by
  unfold okCell at hc
  have hlp : decltab_cell_l12 c.2.2.2 (c.2.2.2.length : Int) 0 = _ := tacts_loop c.2.2.2 hc _ 0 rfl
  unfold decltab_cell cellE
  simp only [decltab_cell_l4_eq, ttop_eq, Option.bind_some, hlp]
  by_cases h0 : 64 < c.2.2.2.length
  · rw [if_pos (dT (by omega)), if_pos h0]
  rw [if_neg (dF (by omega)), if_neg h0]
  by_cases h1 : c.1 = first
  · rw [if_neg (nF h1)]
    by_cases h2 : c.2.1 < c.1
    · rw [if_pos (dT h2), if_pos trivial, if_neg (by omega)]
    rw [if_neg (dF h2)]
    by_cases h3 : c.2.1 > (topI t.2.1 : Int)
    · rw [if_pos (dT h3), if_neg (by omega)]
    rw [if_neg (dF h3), if_pos (show c.1 = first ∧ c.1 ≤ c.2.1 ∧ c.2.1 ≤ (topI t.2.1 : Int) from ⟨h1, by omega, by omega⟩)]
    by_cases h4 : c.2.2.1 < 0
    · rw [if_pos (dT h4), if_neg (by omega)]
    rw [if_neg (dF h4)]
    by_cases h5 : c.2.2.1 ≥ (t.2.2.2.length : Int)
    · rw [if_pos (dT h5), if_neg (by omega)]
    rw [if_neg (dF h5), if_pos (show 0 ≤ c.2.2.1 ∧ c.2.2.1 < (t.2.2.2.length : Int) by omega)]
    rfl
  · rw [if_pos (nT h1), if_pos trivial, if_neg (fun q => h1 q.1)]

theorem rcell_eq (t : TTable) (c : TCell) (before : Int) (hc : okCell c) (hb : -1 ≤ before) (hb2 : before ≤ 255) : ref36_cell t c before = some ((cellE (topI t.2.1) t.2.2.2.length (before + 1) c, ()), ()) := by
  unfold okCell at hc
  have hlp : ref36_cell_l12 0 c = _ := rtacts_loop c hc _ 0 rfl
  unfold ref36_cell cellE
  simp only [rttop_eq, Option.bind_some, hlp]
  rw [w64 (by omega) (by omega)]
  by_cases h0 : 64 < c.2.2.2.length
  · rw [if_pos (dT (by omega)), if_pos h0]
  rw [if_neg (dF (by omega)), if_neg h0]
  by_cases h1 : c.1 = before + 1
  · rw [if_neg (nF h1)]
    by_cases h2 : c.2.1 < c.1
    · rw [if_pos (dT h2), if_neg (by omega)]
    rw [if_neg (dF h2)]
    by_cases h3 : c.2.1 > (topI t.2.1 : Int)
    · rw [if_pos (dT h3), if_neg (by omega)]
    rw [if_neg (dF h3), if_pos (show c.1 = before + 1 ∧ c.1 ≤ c.2.1 ∧ c.2.1 ≤ (topI t.2.1 : Int) from ⟨h1, by omega, by omega⟩)]
    by_cases h4 : c.2.2.1 < 0
    · rw [if_pos (dT h4), if_neg (by omega)]
    rw [if_neg (dF h4)]
    by_cases h5 : c.2.2.1 ≥ (t.2.2.2.length : Int)
    · rw [if_pos (dT h5), if_neg (by omega)]
    rw [if_neg (dF h5), if_pos (show 0 ≤ c.2.2.1 ∧ c.2.2.1 < (t.2.2.2.length : Int) by omega)]
    rfl
  · rw [if_pos (nT h1), if_neg (fun q => h1 q.1)]

/-- A cell without an error ends within the symbols. -/
theorem cellE_hi {top n first : Int} {c : TCell} (h : cellE top n first c = 0) : first ≤ c.2.1 ∧ c.2.1 ≤ top := by
  unfold cellE at h
  split at h
  · cases h
  · split at h
    · rename_i q; omega
    · cases h

theorem row_loop (t : TTable) (h : okTable t) (i : Nat) (hi : i < t.2.2.2.length) (G : Option ((Int × Unit) × Unit)) (hG : decltab_Check_l11 t.2.2.2 (t.2.2.2.length : Int) ((i + 1 : Nat) : Int) t = G) : ∀ (r : List TCell) (k : Nat) (first : Int), t.2.2.2[i].drop k = r → 0 ≤ first → first ≤ 256 →
    decltab_Check_l19 first t.2.2.2 (t.2.2.2.length : Int) i t.2.2.2[i] (t.2.2.2[i].length : Int) k t = if rowE (topI t.2.1) t.2.2.2.length first r = 0 then G else some ((rowE (topI t.2.1) t.2.2.2.length first r, ()), ()) := by
  obtain ⟨hl, ho⟩ := h.2 _ (List.getElem_mem hi)
  have hn := h.1
  have htop := topI_le t.2.1
  intro r
  induction r with
  | nil =>
    intro k first hk h0 h1
    have := drop_nil hk
    rw [decltab_Check_l19_eq, if_neg (dF (by omega)), ttop_eq]
    simp only [Option.bind_some]
    rw [w64 (by omega) (by omega), w64a i (by omega), hG]
    by_cases q : first = (topI t.2.1 : Int) + 1
    · have e : rowE (topI t.2.1) t.2.2.2.length first [] = 0 := if_pos q
      rw [if_neg (nF q), if_pos e]
    · have e : rowE (topI t.2.1) t.2.2.2.length first [] = 14 := if_neg q
      rw [if_pos (nT q), if_neg (show ¬ rowE (topI t.2.1) t.2.2.2.length first [] = 0 by rw [e]; decide), e]
  | cons c r ih =>
    intro k first hk h0 h1
    have h2 := drop_lt hk
    have hr : t.2.2.2[i].getD (k : Int).toNat dCell = c := getD_drop hk
    rw [decltab_Check_l19_eq, if_pos (dT (by omega)), if_pos ⟨by omega, by omega⟩, hr, cell_eq t c first (ho c (mem_drop hk)), w64a k (by omega)]
    simp only [Option.bind_some]
    by_cases q : cellE (topI t.2.1) t.2.2.2.length first c = 0
    · obtain ⟨q1, q2⟩ := cellE_hi q
      have e : rowE (topI t.2.1) t.2.2.2.length first (c :: r) = rowE (topI t.2.1) t.2.2.2.length (c.2.1 + 1) r := if_pos q
      rw [if_neg (nF q), w64 (by omega) (by omega)]
      simp only [e]
      exact ih (k + 1) (c.2.1 + 1) (dropS hk) (by omega) (by omega)
    · have e : rowE (topI t.2.1) t.2.2.2.length first (c :: r) = cellE (topI t.2.1) t.2.2.2.length first c := if_neg q
      rw [if_pos (nT q)]
      simp only [e]
      rw [if_neg q]

theorem rrow_loop (t : TTable) (h : okTable t) (i : Nat) (hi : i < t.2.2.2.length) (G : Option ((Int × Unit) × Unit)) (hG : ref36_Check_l12 ((i + 1 : Nat) : Int) t = G) : ∀ (r : List TCell) (k : Nat) (before : Int), t.2.2.2[i].drop k = r → -1 ≤ before → before ≤ 255 →
    ref36_Check_l19 i before k t = if rowE (topI t.2.1) t.2.2.2.length (before + 1) r = 0 then G else some ((rowE (topI t.2.1) t.2.2.2.length (before + 1) r, ()), ()) := by
  obtain ⟨hl, ho⟩ := h.2 _ (List.getElem_mem hi)
  have hn := h.1
  have htop := topI_le t.2.1
  have hin : (0 : Int) ≤ i ∧ (i : Int) < (t.2.2.2.length : Int) := ⟨by omega, by omega⟩
  have hg : t.2.2.2.getD (i : Int).toNat [] = t.2.2.2[i] := getD_in _ hi
  intro r
  induction r with
  | nil =>
    intro k before hk h0 h1
    have := drop_nil hk
    rw [ref36_Check_l19_eq, if_pos hin, hg, if_neg (dF (by omega)), rttop_eq]
    simp only [Option.bind_some]
    rw [w64a i (by omega), hG]
    by_cases q : before = (topI t.2.1 : Int)
    · have e : rowE (topI t.2.1) t.2.2.2.length (before + 1) [] = 0 := if_pos (by omega)
      rw [if_neg (nF q), if_pos e]
    · have e : rowE (topI t.2.1) t.2.2.2.length (before + 1) [] = 14 := if_neg (by omega)
      rw [if_pos (nT q), if_neg (show ¬ rowE (topI t.2.1) t.2.2.2.length (before + 1) [] = 0 by rw [e]; decide), e]
  | cons c r ih =>
    intro k before hk h0 h1
    have h2 := drop_lt hk
    have hr : t.2.2.2[i].getD (k : Int).toNat dCell = c := getD_drop hk
    have hin2 : (0 : Int) ≤ k ∧ (k : Int) < (t.2.2.2[i].length : Int) := ⟨by omega, by omega⟩
    rw [ref36_Check_l19_eq, if_pos hin, hg, if_pos (dT (by omega)), if_pos hin, if_pos hin2, hr, rcell_eq t c before (ho c (mem_drop hk)) h0 h1, w64a k (by omega)]
    simp only [Option.bind_some]
    by_cases q : cellE (topI t.2.1) t.2.2.2.length (before + 1) c = 0
    · obtain ⟨q1, q2⟩ := cellE_hi q
      have e : rowE (topI t.2.1) t.2.2.2.length (before + 1) (c :: r) = rowE (topI t.2.1) t.2.2.2.length (c.2.1 + 1) r := if_pos q
      rw [if_neg (nF q), if_pos hin, if_pos hin2]
      simp only [e]
      exact ih (k + 1) c.2.1 (dropS hk) (by omega) (by omega)
    · have e : rowE (topI t.2.1) t.2.2.2.length (before + 1) (c :: r) = cellE (topI t.2.1) t.2.2.2.length (before + 1) c := if_neg q
      rw [if_pos (nT q)]
      simp only [e]
      rw [if_neg q]

theorem table_loop (t : TTable) (h : okTable t) : ∀ (r : List (List TCell)) (k : Nat), t.2.2.2.drop k = r → decltab_Check_l11 t.2.2.2 (t.2.2.2.length : Int) k t = some ((tableE (topI t.2.1) t.2.2.2.length r, ()), ()) := by
  have hn := h.1
  intro r
  induction r with
  | nil =>
    intro k hk
    have := drop_nil hk
    rw [decltab_Check_l11_eq, if_neg (dF (by omega))]
    rfl
  | cons cs r ih =>
    intro k hk
    have h1 := drop_lt hk
    have hr : t.2.2.2.getD (k : Int).toNat [] = cs := getD_drop hk
    have e : t.2.2.2[k] = cs := by rw [List.drop_eq_getElem_cons h1] at hk; injection hk
    have := row_loop t h k h1 _ (ih (k + 1) (dropS hk)) _ 0 0 rfl (by omega) (by omega)
    rw [e] at this
    rw [decltab_Check_l11_eq, if_pos (dT (by omega)), if_pos ⟨by omega, by omega⟩, hr]
    refine this.trans ?_
    simp only [tableE, List.drop_zero]
    split <;> rfl

theorem rtable_loop (t : TTable) (h : okTable t) : ∀ (r : List (List TCell)) (k : Nat), t.2.2.2.drop k = r → ref36_Check_l12 k t = some ((tableE (topI t.2.1) t.2.2.2.length r, ()), ()) := by
  have hn := h.1
  intro r
  induction r with
  | nil =>
    intro k hk
    have := drop_nil hk
    rw [ref36_Check_l12_eq, if_neg (dF (by omega))]
    rfl
  | cons cs r ih =>
    intro k hk
    have h1 := drop_lt hk
    have e : t.2.2.2[k] = cs := by rw [List.drop_eq_getElem_cons h1] at hk; injection hk
    have := rrow_loop t h k h1 _ (ih (k + 1) (dropS hk)) _ 0 (-1) rfl (by omega) (by omega)
    rw [e] at this
    rw [ref36_Check_l12_eq, if_pos (dT (by omega))]
    refine this.trans ?_
    simp only [tableE, List.drop_zero, show (-1 : Int) + 1 = 0 from rfl]
    split <;> rfl

theorem tcheck_eq (t : TTable) (h : okTable t) : decltab_Check t = some ((checkT t, ()), ()) := by
  have hl : decltab_Check_l11 t.2.2.2 (t.2.2.2.length : Int) 0 t = _ := table_loop t h _ 0 rfl
  unfold decltab_Check checkT
  rw [lex_Name_b]
  simp only [Option.bind_some, decltab_Check_l4_eq, hl]
  by_cases q1 : nameB (L t.1) = true
  · rw [if_neg (by rw [q1]; simp), if_pos q1]
    have fin : (if ((t.2.2.2.length : Int) == 0) = true then some (((6 : Int), ()), ()) else if (decide ((t.2.2.2.length : Int) > 32)) = true then some ((6, ()), ()) else some ((tableE (topI t.2.1) t.2.2.2.length t.2.2.2, ()), ())) =
        some ((if t.2.2.2.length = 0 ∨ 32 < t.2.2.2.length then (6 : Int) else tableE (topI t.2.1) t.2.2.2.length t.2.2.2, ()), ()) := by
      by_cases a : t.2.2.2.length = 0
      · rw [if_pos (eT (by omega)), if_pos (.inl a)]
      · rw [if_neg (eF (by omega))]
        by_cases b : 32 < t.2.2.2.length
        · rw [if_pos (dT (by omega)), if_pos (.inr b)]
        · rw [if_neg (dF (by omega)), if_neg (by omega)]
    rw [List.drop_zero, fin]
    by_cases a2 : t.2.1 = 2 <;> by_cases a3 : t.2.1 = 3 <;> by_cases a5 : t.2.2.1 = 5 <;> by_cases a6 : t.2.2.1 = 6 <;> first | omega | (simp [a2, a3, a5, a6]; done)
  · rw [if_pos (by simpa using q1), if_neg q1]

theorem rtcheck_eq (t : TTable) (h : okTable t) : ref36_Check t = some ((checkT t, ()), ()) := by
  have hl : ref36_Check_l12 0 t = _ := rtable_loop t h _ 0 rfl
  unfold ref36_Check checkT
  rw [ref05_Name_b]
  simp only [Option.bind_some, hl]
  by_cases q1 : nameB (L t.1) = true
  · rw [if_neg (by rw [q1]; simp), if_pos q1]
    have fin : (if (decide ((t.2.2.2.length : Int) < 1)) = true then some (((6 : Int), ()), ()) else if (decide ((t.2.2.2.length : Int) > 32)) = true then some ((6, ()), ()) else some ((tableE (topI t.2.1) t.2.2.2.length t.2.2.2, ()), ())) =
        some ((if t.2.2.2.length = 0 ∨ 32 < t.2.2.2.length then (6 : Int) else tableE (topI t.2.1) t.2.2.2.length t.2.2.2, ()), ()) := by
      by_cases a : t.2.2.2.length = 0
      · rw [if_pos (dT (by omega)), if_pos (.inl a)]
      · rw [if_neg (dF (by omega))]
        by_cases b : 32 < t.2.2.2.length
        · rw [if_pos (dT (by omega)), if_pos (.inr b)]
        · rw [if_neg (dF (by omega)), if_neg (by omega)]
    rw [List.drop_zero, fin]
    by_cases a2 : t.2.1 = 2 <;> by_cases a3 : t.2.1 = 3 <;> by_cases a5 : t.2.2.1 = 5 <;> by_cases a6 : t.2.2.1 = 6 <;> first | omega | (simp [a2, a3, a5, a6]; done)
  · rw [if_pos (by simpa using q1), if_neg q1]

end Go.Proofs.Ytgjimkgehbppbaa
end

section
/-
Ytgjimkgehbppbaa: signalbench.decl.own, as one plain function, its equations, its contract. No condition.
-/
set_option maxRecDepth 100000
set_option linter.unusedVariables false
set_option maxHeartbeats 4000000
open Go Go.AM
namespace Go.Proofs.Ytgjimkgehbppbaa
noncomputable section
def decl_own_D : FD := ⟨T, lookC [], [], (Try.f63.body.getD .skip), Try.f63.results.toList, ⟨[.row (.cons (.int .i64) (.cons (.int .i64) (.cons .str (.cons .bool (.sl (.cons (.int .i64) (.int .i64)))))))], []⟩, ⟨[.row (.cons (.int .i64) (.cons (.int .i64) (.cons .str (.cons .bool (.sl (.cons (.int .i64) (.int .i64)))))))], []⟩, []⟩
def decl_own (r : TRule) : (Option ((TRule × Unit) × Unit)) :=
  if r.2.2.2.2.length * 16 ≤ 140737488355328 ∧ 0 < 16 then
    some ((r, ()), ())
  else
    none
def fc63 : FC := ⟨⟨[.row (.cons (.int .i64) (.cons (.int .i64) (.cons .str (.cons .bool (.sl (.cons (.int .i64) (.int .i64)))))))], []⟩, ⟨[.row (.cons (.int .i64) (.cons (.int .i64) (.cons .str (.cons .bool (.sl (.cons (.int .i64) (.int .i64)))))))], []⟩, fun x => decl_own x.1.1⟩
theorem con63 : Contract Try.prog 63 fc63 :=
  decl_own_D.contract tok (cok_of (l := []) trivial) mixed (fn' := Try.f63) (by kernel_rfl) (by kernel_rfl) rfl (by kernel_rfl) (fun x => (FD.fn_eq _ _).trans (by kernel_rfl))
end
end Go.Proofs.Ytgjimkgehbppbaa
end

section
/-
Ytgjimkgehbppbaa: signalbench.decl.Match, as one plain function, its equations, its contract. No condition.
-/
set_option maxRecDepth 100000
set_option linter.unusedVariables false
set_option maxHeartbeats 4000000
open Go Go.AM
namespace Go.Proofs.Ytgjimkgehbppbaa
noncomputable section
def decl_Match_F7 : FSh := ⟨[(2, .one (.int .i64)), (6, .one (.ptr 0 0)), (8, .one (.ptr 1 0)), (27, .one (.sl (.cons (.int .i64) (.cons (.int .i64) (.cons .str (.cons .bool (.sl (.cons (.int .i64) (.int .i64))))))))), (28, .one (.int .i64)), (29, .one (.int .i64))], [.boxr (.cons (.int .i64) (.cons (.int .i64) (.cons .str (.cons .bool (.sl (.cons (.int .i64) (.int .i64))))))), .boxr (.cons .str (.cons (.sl (.cons (.int .i64) (.cons (.int .i64) (.cons .str (.cons .bool (.sl (.cons (.int .i64) (.int .i64)))))))) (.cons .bool (.cons (.int .i64) (.cons (.int .i64) (.cons .str (.cons .bool (.sl (.cons (.int .i64) (.int .i64))))))))))]⟩
def decl_Match_D : FD := ⟨T, lookC [(63, fc63)], [], (Try.f27.body.getD .skip), Try.f27.results.toList, ⟨[.row (.cons .str (.cons (.int .i64) (.cons (.int .i64) (.sl (.cons .str (.cons (.sl (.cons (.int .i64) (.cons (.int .i64) (.cons .str (.cons .bool (.sl (.cons (.int .i64) (.int .i64)))))))) (.cons .bool (.cons (.int .i64) (.cons (.int .i64) (.cons .str (.cons .bool (.sl (.cons (.int .i64) (.int .i64)))))))))))))), .one (.int .i64), .one (.int .i64)], []⟩, ⟨[.row (.cons (.int .i64) (.cons (.int .i64) (.cons .str (.cons .bool (.sl (.cons (.int .i64) (.int .i64))))))), .one .bool], []⟩, [(7, decl_Match_F7)]⟩
def decl_Match_l7 (symbol : Int) (t27 : (List TRule)) (t28 : Int) (t29 : Int) (h0 : TRule) (h1 : TDeclState) : (Option ((TRule × Bool × Unit) × Unit)) := decl_Match_D.lab 7 decl_Match_F7 ((symbol, (), (), t27, t28, t29, ()), (h0, h1, ()))
theorem decl_Match_l7_eq (symbol : Int) (t27 : (List TRule)) (t28 : Int) (t29 : Int) (h0 : TRule) (h1 : TDeclState) : decl_Match_l7 symbol t27 t28 t29 h0 h1 =
  if (decide (t29 < t28)) = true then
    if 0 ≤ t29 ∧ t29 < (t27.length : Int) then
      if (decide ((t27.getD t29.toNat dRule).1 ≤ symbol)) = true then
        if (decide (symbol ≤ (t27.getD t29.toNat dRule).2.1)) = true then
          (decl_own (t27.getD t29.toNat dRule)).bind fun y1 =>
            some ((y1.1.1, true, ()), ())
        else
          decl_Match_l7 symbol t27 t28 (IntKind.i64.wrap (t29 + 1)) h0 h1
      else
        decl_Match_l7 symbol t27 t28 (IntKind.i64.wrap (t29 + 1)) h0 h1
    else
      none
  else
    if h1.2.2.1 = true then
      (decl_own h1.2.2.2).bind fun y2 =>
        some ((y2.1.1, true, ()), ())
    else
      some (((0, 0, (strB []), false, []), false, ()), ()) := (FD.lab_eq _ _ _ _).trans (by kernel_rfl)
def decl_Match (d : TDecl) (state : Int) (symbol : Int) : (Option ((TRule × Bool × Unit) × Unit)) :=
  if (decide (state < 0)) = true then
    some (((0, 0, (strB []), false, []), false, ()), ())
  else
    if (decide (state ≥ (d.2.2.2.length : Int))) = true then
      some (((0, 0, (strB []), false, []), false, ()), ())
    else
      if 0 ≤ state ∧ state < (d.2.2.2.length : Int) then
        decl_Match_l7 symbol (d.2.2.2.getD state.toNat dDeclState).2.1 ((d.2.2.2.getD state.toNat dDeclState).2.1.length : Int) 0 (0, 0, (strB []), false, []) (d.2.2.2.getD state.toNat dDeclState)
      else
        none
def fc27 : FC := ⟨⟨[.row (.cons .str (.cons (.int .i64) (.cons (.int .i64) (.sl (.cons .str (.cons (.sl (.cons (.int .i64) (.cons (.int .i64) (.cons .str (.cons .bool (.sl (.cons (.int .i64) (.int .i64)))))))) (.cons .bool (.cons (.int .i64) (.cons (.int .i64) (.cons .str (.cons .bool (.sl (.cons (.int .i64) (.int .i64)))))))))))))), .one (.int .i64), .one (.int .i64)], []⟩, ⟨[.row (.cons (.int .i64) (.cons (.int .i64) (.cons .str (.cons .bool (.sl (.cons (.int .i64) (.int .i64))))))), .one .bool], []⟩, fun x => decl_Match x.1.1 x.1.2.1 x.1.2.2.1⟩
theorem con27 : Contract Try.prog 27 fc27 :=
  decl_Match_D.contract tok (cok_of (l := [(63, fc63)]) ⟨con63, trivial⟩) mixed (fn' := Try.f27) (by kernel_rfl) (by kernel_rfl) rfl (by kernel_rfl) (fun x => (FD.fn_eq _ _).trans (by kernel_rfl))
end
end Go.Proofs.Ytgjimkgehbppbaa
end

section
/-
Ytgjimkgehbppbaa: signalbench.decl.Find, as one plain function, its equations, its contract. No condition.
-/
set_option maxRecDepth 100000
set_option linter.unusedVariables false
set_option maxHeartbeats 4000000
open Go Go.AM
namespace Go.Proofs.Ytgjimkgehbppbaa
noncomputable section
def decl_Find_F3 : FSh := ⟨[(1, .one .str), (8, .one (.sl (.cons .str (.cons (.sl (.cons (.int .i64) (.cons (.int .i64) (.cons .str (.cons .bool (.sl (.cons (.int .i64) (.int .i64)))))))) (.cons .bool (.cons (.int .i64) (.cons (.int .i64) (.cons .str (.cons .bool (.sl (.cons (.int .i64) (.int .i64)))))))))))), (9, .one (.int .i64)), (10, .one (.int .i64))], []⟩
def decl_Find_D : FD := ⟨T, lookC [], [], (Try.f28.body.getD .skip), Try.f28.results.toList, ⟨[.row (.cons .str (.cons (.int .i64) (.cons (.int .i64) (.sl (.cons .str (.cons (.sl (.cons (.int .i64) (.cons (.int .i64) (.cons .str (.cons .bool (.sl (.cons (.int .i64) (.int .i64)))))))) (.cons .bool (.cons (.int .i64) (.cons (.int .i64) (.cons .str (.cons .bool (.sl (.cons (.int .i64) (.int .i64)))))))))))))), .one .str], []⟩, ⟨[.one (.int .i64)], []⟩, [(3, decl_Find_F3)]⟩
def decl_Find_l3 (name : ByteArray) (t8 : (List TDeclState)) (t9 : Int) (t10 : Int) : (Option ((Int × Unit) × Unit)) := decl_Find_D.lab 3 decl_Find_F3 ((name, t8, t9, t10, ()), ())
theorem decl_Find_l3_eq (name : ByteArray) (t8 : (List TDeclState)) (t9 : Int) (t10 : Int) : decl_Find_l3 name t8 t9 t10 =
  if (decide (t10 < t9)) = true then
    if 0 ≤ t10 ∧ t10 < (t8.length : Int) then
      if ((t8.getD t10.toNat dDeclState).1.toList == name.toList) = true then
        some ((t10, ()), ())
      else
        decl_Find_l3 name t8 t9 (IntKind.i64.wrap (t10 + 1))
    else
      none
  else
    some (((-1), ()), ()) := (FD.lab_eq _ _ _ _).trans (by kernel_rfl)
def decl_Find (d : TDecl) (name : ByteArray) : (Option ((Int × Unit) × Unit)) :=
  decl_Find_l3 name d.2.2.2 (d.2.2.2.length : Int) 0
def fc28 : FC := ⟨⟨[.row (.cons .str (.cons (.int .i64) (.cons (.int .i64) (.sl (.cons .str (.cons (.sl (.cons (.int .i64) (.cons (.int .i64) (.cons .str (.cons .bool (.sl (.cons (.int .i64) (.int .i64)))))))) (.cons .bool (.cons (.int .i64) (.cons (.int .i64) (.cons .str (.cons .bool (.sl (.cons (.int .i64) (.int .i64)))))))))))))), .one .str], []⟩, ⟨[.one (.int .i64)], []⟩, fun x => decl_Find x.1.1 x.1.2.1⟩
theorem con28 : Contract Try.prog 28 fc28 :=
  decl_Find_D.contract tok (cok_of (l := []) trivial) mixed (fn' := Try.f28) (by kernel_rfl) (by kernel_rfl) rfl (by kernel_rfl) (fun x => (FD.fn_eq _ _).trans (by kernel_rfl))
end
end Go.Proofs.Ytgjimkgehbppbaa
end

section
/-
Ytgjimkgehbppbaa: signalbench.signalbenchref34.Match, as one plain function, its equations, its contract. No condition.
-/
set_option maxRecDepth 100000
set_option linter.unusedVariables false
set_option maxHeartbeats 4000000
open Go Go.AM
namespace Go.Proofs.Ytgjimkgehbppbaa
noncomputable section
def ref34_Match_F7 : FSh := ⟨[(2, .one (.int .i64)), (6, .one (.ptr 0 0)), (8, .one (.ptr 1 0)), (9, .one (.int .i64))], [.boxr (.cons (.int .i64) (.cons (.int .i64) (.cons .str (.cons .bool (.sl (.cons (.int .i64) (.int .i64))))))), .boxr (.cons .str (.cons (.sl (.cons (.int .i64) (.cons (.int .i64) (.cons .str (.cons .bool (.sl (.cons (.int .i64) (.int .i64)))))))) (.cons .bool (.cons (.int .i64) (.cons (.int .i64) (.cons .str (.cons .bool (.sl (.cons (.int .i64) (.int .i64))))))))))]⟩
def ref34_Match_D : FD := ⟨T, lookC [], [], (Try.f41.body.getD .skip), Try.f41.results.toList, ⟨[.row (.cons .str (.cons (.int .i64) (.cons (.int .i64) (.sl (.cons .str (.cons (.sl (.cons (.int .i64) (.cons (.int .i64) (.cons .str (.cons .bool (.sl (.cons (.int .i64) (.int .i64)))))))) (.cons .bool (.cons (.int .i64) (.cons (.int .i64) (.cons .str (.cons .bool (.sl (.cons (.int .i64) (.int .i64)))))))))))))), .one (.int .i64), .one (.int .i64)], []⟩, ⟨[.row (.cons (.int .i64) (.cons (.int .i64) (.cons .str (.cons .bool (.sl (.cons (.int .i64) (.int .i64))))))), .one .bool], []⟩, [(7, ref34_Match_F7)]⟩
def ref34_Match_l7 (symbol : Int) (i : Int) (h0 : TRule) (h1 : TDeclState) : (Option ((TRule × Bool × Unit) × Unit)) := ref34_Match_D.lab 7 ref34_Match_F7 ((symbol, (), (), i, ()), (h0, h1, ()))
theorem ref34_Match_l7_eq (symbol : Int) (i : Int) (h0 : TRule) (h1 : TDeclState) : ref34_Match_l7 symbol i h0 h1 =
  if (decide (i < (h1.2.1.length : Int))) = true then
    if 0 ≤ i ∧ i < (h1.2.1.length : Int) then
      if (decide ((h1.2.1.getD i.toNat dRule).1 ≤ symbol)) = true then
        if 0 ≤ i ∧ i < (h1.2.1.length : Int) then
          if (decide (symbol ≤ (h1.2.1.getD i.toNat dRule).2.1)) = true then
            if 0 ≤ i ∧ i < (h1.2.1.length : Int) then
              some (((h1.2.1.getD i.toNat dRule), true, ()), ())
            else
              none
          else
            ref34_Match_l7 symbol (IntKind.i64.wrap (i + 1)) h0 h1
        else
          none
      else
        ref34_Match_l7 symbol (IntKind.i64.wrap (i + 1)) h0 h1
    else
      none
  else
    if h1.2.2.1 = true then
      some ((h1.2.2.2, true, ()), ())
    else
      some (((0, 0, (strB []), false, []), false, ()), ()) := (FD.lab_eq _ _ _ _).trans (by kernel_rfl)
def ref34_Match (d : TDecl) (state : Int) (symbol : Int) : (Option ((TRule × Bool × Unit) × Unit)) :=
  if (decide (state < 0)) = true then
    some (((0, 0, (strB []), false, []), false, ()), ())
  else
    if (decide (state ≥ (d.2.2.2.length : Int))) = true then
      some (((0, 0, (strB []), false, []), false, ()), ())
    else
      if 0 ≤ state ∧ state < (d.2.2.2.length : Int) then
        ref34_Match_l7 symbol 0 (0, 0, (strB []), false, []) (d.2.2.2.getD state.toNat dDeclState)
      else
        none
def fc41 : FC := ⟨⟨[.row (.cons .str (.cons (.int .i64) (.cons (.int .i64) (.sl (.cons .str (.cons (.sl (.cons (.int .i64) (.cons (.int .i64) (.cons .str (.cons .bool (.sl (.cons (.int .i64) (.int .i64)))))))) (.cons .bool (.cons (.int .i64) (.cons (.int .i64) (.cons .str (.cons .bool (.sl (.cons (.int .i64) (.int .i64)))))))))))))), .one (.int .i64), .one (.int .i64)], []⟩, ⟨[.row (.cons (.int .i64) (.cons (.int .i64) (.cons .str (.cons .bool (.sl (.cons (.int .i64) (.int .i64))))))), .one .bool], []⟩, fun x => ref34_Match x.1.1 x.1.2.1 x.1.2.2.1⟩
theorem con41 : Contract Try.prog 41 fc41 :=
  ref34_Match_D.contract tok (cok_of (l := []) trivial) mixed (fn' := Try.f41) (by kernel_rfl) (by kernel_rfl) rfl (by kernel_rfl) (fun x => (FD.fn_eq _ _).trans (by kernel_rfl))
end
end Go.Proofs.Ytgjimkgehbppbaa
end

section
/-
Ytgjimkgehbppbaa: signalbench.signalbenchref34.Find, as one plain function, its equations, its contract. No condition.
-/
set_option maxRecDepth 100000
set_option linter.unusedVariables false
set_option maxHeartbeats 4000000
open Go Go.AM
namespace Go.Proofs.Ytgjimkgehbppbaa
noncomputable section
def ref34_Find_F3 : FSh := ⟨[(1, .one .str), (2, .one (.ptr 0 0)), (5, .one (.int .i64))], [.boxr (.cons .str (.cons (.int .i64) (.cons (.int .i64) (.sl (.cons .str (.cons (.sl (.cons (.int .i64) (.cons (.int .i64) (.cons .str (.cons .bool (.sl (.cons (.int .i64) (.int .i64)))))))) (.cons .bool (.cons (.int .i64) (.cons (.int .i64) (.cons .str (.cons .bool (.sl (.cons (.int .i64) (.int .i64))))))))))))))]⟩
def ref34_Find_D : FD := ⟨T, lookC [], [], (Try.f42.body.getD .skip), Try.f42.results.toList, ⟨[.row (.cons .str (.cons (.int .i64) (.cons (.int .i64) (.sl (.cons .str (.cons (.sl (.cons (.int .i64) (.cons (.int .i64) (.cons .str (.cons .bool (.sl (.cons (.int .i64) (.int .i64)))))))) (.cons .bool (.cons (.int .i64) (.cons (.int .i64) (.cons .str (.cons .bool (.sl (.cons (.int .i64) (.int .i64)))))))))))))), .one .str], []⟩, ⟨[.one (.int .i64)], []⟩, [(3, ref34_Find_F3)]⟩
def ref34_Find_l3 (name : ByteArray) (k0 : Int) (h0 : TDecl) : (Option ((Int × Unit) × Unit)) := ref34_Find_D.lab 3 ref34_Find_F3 ((name, (), k0, ()), (h0, ()))
theorem ref34_Find_l3_eq (name : ByteArray) (k0 : Int) (h0 : TDecl) : ref34_Find_l3 name k0 h0 =
  if (decide (k0 < (h0.2.2.2.length : Int))) = true then
    if 0 ≤ k0 ∧ k0 < (h0.2.2.2.length : Int) then
      if ((h0.2.2.2.getD k0.toNat dDeclState).1.toList == name.toList) = true then
        some ((k0, ()), ())
      else
        ref34_Find_l3 name (IntKind.i64.wrap (k0 + 1)) h0
    else
      none
  else
    some (((-1), ()), ()) := (FD.lab_eq _ _ _ _).trans (by kernel_rfl)
def ref34_Find (d : TDecl) (name : ByteArray) : (Option ((Int × Unit) × Unit)) :=
  ref34_Find_l3 name 0 d
def fc42 : FC := ⟨⟨[.row (.cons .str (.cons (.int .i64) (.cons (.int .i64) (.sl (.cons .str (.cons (.sl (.cons (.int .i64) (.cons (.int .i64) (.cons .str (.cons .bool (.sl (.cons (.int .i64) (.int .i64)))))))) (.cons .bool (.cons (.int .i64) (.cons (.int .i64) (.cons .str (.cons .bool (.sl (.cons (.int .i64) (.int .i64)))))))))))))), .one .str], []⟩, ⟨[.one (.int .i64)], []⟩, fun x => ref34_Find x.1.1 x.1.2.1⟩
theorem con42 : Contract Try.prog 42 fc42 :=
  ref34_Find_D.contract tok (cok_of (l := []) trivial) mixed (fn' := Try.f42) (by kernel_rfl) (by kernel_rfl) rfl (by kernel_rfl) (fun x => (FD.fn_eq _ _).trans (by kernel_rfl))
end
end Go.Proofs.Ytgjimkgehbppbaa
end

section
/-
Ytgjimkgehbppbaa: which rule a symbol has, which state a name has. No condition.
-/
set_option maxRecDepth 100000
open Go Go.AM
namespace Go.Proofs.Ytgjimkgehbppbaa

theorem own_eq (r : TRule) (h : okRule r) : decl_own r = some ((r, ()), ()) := by
  unfold decl_own
  unfold okRule at h
  exact if_pos ⟨by omega, by omega⟩

theorem hit_iff {x : Int} {r : RuleT} : hitB x r = true ↔ r.1 ≤ x ∧ x ≤ r.2.1 := by
  unfold hitB; simp

theorem match_loop (x : Int) (s : TDeclState) (z : TRule) (hl : s.2.1.length ≤ 1048576) (ho : ∀ r ∈ s.2.1, okRule r) (he : okRule s.2.2.2) : ∀ (rs : List TRule) (k : Nat), s.2.1.drop k = rs →
    decl_Match_l7 x s.2.1 (s.2.1.length : Int) k z s = some (((ruleR s x rs).1, (ruleR s x rs).2, ()), ()) := by
  intro rs
  induction rs with
  | nil =>
    intro k hk
    have := drop_nil hk
    rw [decl_Match_l7_eq, if_neg (dF (by omega))]
    unfold ruleR
    by_cases h : s.2.2.1 = true
    · rw [if_pos h, own_eq _ he]
      simp [h]
    · rw [if_neg h]
      simp [h, noRule]
  | cons r rs ih =>
    intro k hk
    have h1 := drop_lt hk
    have ih' := ih (k + 1) (dropS hk)
    have hr : s.2.1.getD (k : Int).toNat dRule = r := getD_drop hk
    rw [decl_Match_l7_eq, if_pos (dT (by omega)), if_pos ⟨by omega, by omega⟩, hr, w64a k (by omega), ih']
    unfold ruleR
    rw [List.find?_cons]
    by_cases ha : r.1 ≤ x
    · rw [if_pos (dT ha)]
      by_cases hb : x ≤ r.2.1
      · rw [if_pos (dT hb), own_eq _ (ho r (mem_drop hk)), hit_iff.2 ⟨ha, hb⟩]
        rfl
      · rw [if_neg (dF hb), show hitB x r = false from Bool.eq_false_iff.2 fun q => hb (hit_iff.1 q).2]
    · rw [if_neg (dF ha), show hitB x r = false from Bool.eq_false_iff.2 fun q => ha (hit_iff.1 q).1]

theorem match_eq (d : TDecl) (i x : Int) (h : okDecl d) : decl_Match d i x = some (((matchV d.2.2.2 i x).1, (matchV d.2.2.2 i x).2, ()), ()) := by
  unfold decl_Match matchV
  by_cases h0 : i < 0
  · rw [if_pos (dT h0), if_pos h0]; rfl
  · rw [if_neg (dF h0), if_neg h0]
    by_cases h1 : i < (d.2.2.2.length : Int)
    · have h2 : i.toNat < d.2.2.2.length := by omega
      obtain ⟨a, b, c⟩ := h.2 _ (List.getElem_mem h2)
      rw [if_neg (dF (by omega)), if_pos ⟨by omega, h1⟩, getD_in _ h2, List.getElem?_eq_getElem h2]
      exact match_loop x _ _ a b c _ 0 rfl
    · rw [if_pos (dT (by omega)), List.getElem?_eq_none (by omega)]; rfl

theorem rmatch_loop (x : Int) (s : TDeclState) (z : TRule) (hl : s.2.1.length ≤ 1048576) : ∀ (rs : List TRule) (k : Nat), s.2.1.drop k = rs →
    ref34_Match_l7 x k z s = some (((ruleR s x rs).1, (ruleR s x rs).2, ()), ()) := by
  intro rs
  induction rs with
  | nil =>
    intro k hk
    have := drop_nil hk
    rw [ref34_Match_l7_eq, if_neg (dF (by omega))]
    unfold ruleR
    by_cases h : s.2.2.1 = true
    · rw [if_pos h]
      simp [h]
    · rw [if_neg h]
      simp [h, noRule]
  | cons r rs ih =>
    intro k hk
    have h1 := drop_lt hk
    have ih' := ih (k + 1) (dropS hk)
    have hr : s.2.1.getD (k : Int).toNat dRule = r := getD_drop hk
    have hin : (0 : Int) ≤ k ∧ (k : Int) < (s.2.1.length : Int) := ⟨by omega, by omega⟩
    rw [ref34_Match_l7_eq, if_pos (dT (by omega)), if_pos hin, hr, w64a k (by omega), ih']
    unfold ruleR
    rw [List.find?_cons]
    by_cases ha : r.1 ≤ x
    · rw [if_pos (dT ha), if_pos hin]
      by_cases hb : x ≤ r.2.1
      · rw [if_pos (dT hb), if_pos hin, hit_iff.2 ⟨ha, hb⟩]
      · rw [if_neg (dF hb), show hitB x r = false from Bool.eq_false_iff.2 fun q => hb (hit_iff.1 q).2]
    · rw [if_neg (dF ha), show hitB x r = false from Bool.eq_false_iff.2 fun q => ha (hit_iff.1 q).1]

theorem rmatch_eq (d : TDecl) (i x : Int) (h : okDecl d) : ref34_Match d i x = some (((matchV d.2.2.2 i x).1, (matchV d.2.2.2 i x).2, ()), ()) := by
  unfold ref34_Match matchV
  by_cases h0 : i < 0
  · rw [if_pos (dT h0), if_pos h0]; rfl
  · rw [if_neg (dF h0), if_neg h0]
    by_cases h1 : i < (d.2.2.2.length : Int)
    · have h2 : i.toNat < d.2.2.2.length := by omega
      obtain ⟨a, b, c⟩ := h.2 _ (List.getElem_mem h2)
      rw [if_neg (dF (by omega)), if_pos ⟨by omega, h1⟩, getD_in _ h2, List.getElem?_eq_getElem h2]
      exact rmatch_loop x _ _ a _ 0 rfl
    · rw [if_pos (dT (by omega)), List.getElem?_eq_none (by omega)]; rfl

theorem find_go (b : ByteArray) (ss : List TDeclState) (F : Int → Option ((Int × Unit) × Unit)) (hF : ∀ (k : Nat) (s : TDeclState) (r : List TDeclState), ss.drop k = s :: r → F k = if L s.1 = L b then some (((k : Int), ()), ()) else F ((k + 1 : Nat) : Int))
    (hE : F ss.length = some ((-1, ()), ())) : F 0 = some ((optI (findN ss b), ()), ()) := by
  have key : ∀ (rs : List TDeclState) (k : Nat), ss.drop k = rs → k ≤ ss.length → F k = some ((optI ((rs.findIdx? fun s => L s.1 == L b).map (· + k)), ()), ()) := by
    intro rs
    induction rs with
    | nil =>
      intro k hk hkl
      have h1 := drop_nil hk
      have : k = ss.length := by omega
      subst this
      rw [hE]; rfl
    | cons s rs ih =>
      intro k hk _
      have h1 := drop_lt hk
      rw [hF k s rs hk, List.findIdx?_cons]
      by_cases h : L s.1 = L b
      · rw [if_pos h, beq_iff_eq.2 h]; simp [optI]
      · rw [if_neg h, ih (k + 1) (dropS hk) (by omega), show (L s.1 == L b) = false from beq_eq_false_iff_ne.2 h]
        simp only [Option.map_map, Bool.false_eq_true, if_false]
        congr 4
        cases rs.findIdx? (fun s => L s.1 == L b) with
        | none => rfl
        | some i => simp; omega
  have := key ss 0 (by simp) (by omega)
  simpa [findN] using this

theorem find_eq (d : TDecl) (b : ByteArray) (h : d.2.2.2.length ≤ 1048576) : decl_Find d b = some ((optI (findN d.2.2.2 b), ()), ()) := by
  unfold decl_Find
  refine find_go b d.2.2.2 (fun k => decl_Find_l3 b d.2.2.2 (d.2.2.2.length : Int) k) (fun k s r hk => ?_) ?_
  · have h1 := drop_lt hk
    have hr : d.2.2.2.getD (k : Int).toNat dDeclState = s := getD_drop hk
    show decl_Find_l3 b d.2.2.2 (d.2.2.2.length : Int) k = _
    rw [decl_Find_l3_eq, if_pos (dT (by omega)), if_pos ⟨by omega, by omega⟩, hr, w64a k (by omega), toL, toL]
    by_cases q : L s.1 = L b
    · rw [if_pos q, if_pos (beq_iff_eq.2 q)]
    · rw [if_neg q, if_neg (fun z => q (beq_iff_eq.1 z))]
  · show decl_Find_l3 b d.2.2.2 (d.2.2.2.length : Int) (d.2.2.2.length : Int) = _
    rw [decl_Find_l3_eq, if_neg (dF (by omega))]

theorem rfind_eq (d : TDecl) (b : ByteArray) (h : d.2.2.2.length ≤ 1048576) : ref34_Find d b = some ((optI (findN d.2.2.2 b), ()), ()) := by
  unfold ref34_Find
  refine find_go b d.2.2.2 (fun k => ref34_Find_l3 b k d) (fun k s r hk => ?_) ?_
  · have h1 := drop_lt hk
    have hr : d.2.2.2.getD (k : Int).toNat dDeclState = s := getD_drop hk
    show ref34_Find_l3 b k d = _
    rw [ref34_Find_l3_eq, if_pos (dT (by omega)), if_pos ⟨by omega, by omega⟩, hr, w64a k (by omega), toL, toL]
    by_cases q : L s.1 = L b
    · rw [if_pos q, if_pos (beq_iff_eq.2 q)]
    · rw [if_neg q, if_neg (fun z => q (beq_iff_eq.1 z))]
  · show ref34_Find_l3 b (d.2.2.2.length : Int) d = _
    rw [ref34_Find_l3_eq, if_neg (dF (by omega))]

end Go.Proofs.Ytgjimkgehbppbaa
end

section
/-
Ytgjimkgehbppbaa: signalbench.decltab.same, as one plain function, its equations, its contract. No condition.
-/
set_option maxRecDepth 100000
set_option linter.unusedVariables false
set_option maxHeartbeats 4000000
open Go Go.AM
namespace Go.Proofs.Ytgjimkgehbppbaa
noncomputable section
def decltab_same_F6 : FSh := ⟨[(2, .one (.ptr 0 0)), (3, .one (.ptr 1 0)), (22, .one (.int .i64)), (23, .one (.int .i64))], [.boxr (.cons (.int .i64) (.sl (.cons (.int .i64) (.int .i64)))), .boxr (.cons (.int .i64) (.sl (.cons (.int .i64) (.int .i64))))]⟩
def decltab_same_D : FD := ⟨T, lookC [], [], (Try.f64.body.getD .skip), Try.f64.results.toList, ⟨[.row (.cons (.int .i64) (.sl (.cons (.int .i64) (.int .i64)))), .row (.cons (.int .i64) (.sl (.cons (.int .i64) (.int .i64))))], []⟩, ⟨[.one .bool], []⟩, [(6, decltab_same_F6)]⟩
def decltab_same_l6 (t22 : Int) (t23 : Int) (h0 : Tresult) (h1 : Tresult) : (Option ((Bool × Unit) × Unit)) := decltab_same_D.lab 6 decltab_same_F6 (((), (), t22, t23, ()), (h0, h1, ()))
theorem decltab_same_l6_eq (t22 : Int) (t23 : Int) (h0 : Tresult) (h1 : Tresult) : decltab_same_l6 t22 t23 h0 h1 =
  if (decide (t23 < t22)) = true then
    if 0 ≤ t23 ∧ t23 < (h0.2.length : Int) then
      if 0 ≤ t23 ∧ t23 < (h1.2.length : Int) then
        if (!(eqU uAct (h0.2.getD t23.toNat dAct) (h1.2.getD t23.toNat dAct))) = true then
          some ((false, ()), ())
        else
          decltab_same_l6 t22 (IntKind.i64.wrap (t23 + 1)) h0 h1
      else
        none
    else
      none
  else
    some ((true, ()), ()) := (FD.lab_eq _ _ _ _).trans (by kernel_rfl)
def decltab_same (a : Tresult) (b : Tresult) : (Option ((Bool × Unit) × Unit)) :=
  if (a.1 != b.1) = true then
    some ((false, ()), ())
  else
    if ((a.2.length : Int) != (b.2.length : Int)) = true then
      some ((false, ()), ())
    else
      decltab_same_l6 (a.2.length : Int) 0 a b
def fc64 : FC := ⟨⟨[.row (.cons (.int .i64) (.sl (.cons (.int .i64) (.int .i64)))), .row (.cons (.int .i64) (.sl (.cons (.int .i64) (.int .i64))))], []⟩, ⟨[.one .bool], []⟩, fun x => decltab_same x.1.1 x.1.2.1⟩
theorem con64 : Contract Try.prog 64 fc64 :=
  decltab_same_D.contract tok (cok_of (l := []) trivial) mixed (fn' := Try.f64) (by kernel_rfl) (by kernel_rfl) rfl (by kernel_rfl) (fun x => (FD.fn_eq _ _).trans (by kernel_rfl))
end
end Go.Proofs.Ytgjimkgehbppbaa
end

section
/-
Ytgjimkgehbppbaa: signalbench.decltab.follow, as one plain function, its equations, its contract. No condition.
-/
set_option maxRecDepth 100000
set_option linter.unusedVariables false
set_option maxHeartbeats 4000000
open Go Go.AM
namespace Go.Proofs.Ytgjimkgehbppbaa
noncomputable section
def decltab_follow_F3 : FSh := ⟨[(6, .one (.ptr 0 0)), (8, .one (.ptr 1 0))], [.box [(.int .i64), (.own 2)], .box [(.int .i64), (.own 3)], .arr 60 (.cons (.int .i64) (.int .i64)) true, .arr 60 (.cons (.int .i64) (.int .i64)) true]⟩
def decltab_follow_F5 : FSh := ⟨[(2, .one (.int .i64)), (3, .one (.ptr 0 0)), (6, .one (.ptr 1 0)), (8, .one (.ptr 2 0)), (16, .one (.int .i64)), (17, .one (.int .i64))], [.boxr (.cons .str (.cons (.int .i64) (.cons (.int .i64) (.sl (.cons .str (.cons (.sl (.cons (.int .i64) (.cons (.int .i64) (.cons .str (.cons .bool (.sl (.cons (.int .i64) (.int .i64)))))))) (.cons .bool (.cons (.int .i64) (.cons (.int .i64) (.cons .str (.cons .bool (.sl (.cons (.int .i64) (.int .i64)))))))))))))), .box [(.int .i64), (.own 3)], .box [(.int .i64), (.own 4)], .arr 60 (.cons (.int .i64) (.int .i64)) true, .arr 60 (.cons (.int .i64) (.int .i64)) true]⟩
def decltab_follow_D : FD := ⟨T, lookC [(27, fc27), (28, fc28)], [3], (Try.f66.body.getD .skip), Try.f66.results.toList, ⟨[.row (.cons .str (.cons (.int .i64) (.cons (.int .i64) (.sl (.cons .str (.cons (.sl (.cons (.int .i64) (.cons (.int .i64) (.cons .str (.cons .bool (.sl (.cons (.int .i64) (.int .i64)))))))) (.cons .bool (.cons (.int .i64) (.cons (.int .i64) (.cons .str (.cons .bool (.sl (.cons (.int .i64) (.int .i64)))))))))))))), .one (.int .i64), .one (.int .i64)], []⟩, ⟨[.row (.cons (.int .i64) (.sl (.cons (.int .i64) (.int .i64)))), .one .bool], []⟩, [(3, decltab_follow_F3), (5, decltab_follow_F5)]⟩
def decltab_follow_l3 (h0_0 : Int) (h1_0 : Int) (l2 : (List TAct)) (l3 : (List TAct)) : (Option ((Tresult × Bool × Unit) × Unit)) := decltab_follow_D.lab 3 decltab_follow_F3 (((), (), ()), ((h0_0, (), ()), (h1_0, (), ()), l2, l3, ()))
def decltab_follow_l5 (symbol : Int) (t16 : Int) (t17 : Int) (h0 : TDecl) (h1_0 : Int) (h2_0 : Int) (l3 : (List TAct)) (l4 : (List TAct)) : (Option ((Tresult × Bool × Unit) × Unit)) := decltab_follow_D.lab 5 decltab_follow_F5 ((symbol, (), (), (), t16, t17, ()), (h0, (h1_0, (), ()), (h2_0, (), ()), l3, l4, ()))
theorem decltab_follow_l3_eq (h0_0 : Int) (h1_0 : Int) (l2 : (List TAct)) (l3 : (List TAct)) : decltab_follow_l3 h0_0 h1_0 l2 l3 =
  some (((h1_0, l3), decide ((l3.length : Int) ≤ 64), ()), ()) := (FD.lab_eq _ _ _ _).trans (by kernel_rfl)
theorem decltab_follow_l5_eq (symbol : Int) (t16 : Int) (t17 : Int) (h0 : TDecl) (h1_0 : Int) (h2_0 : Int) (l3 : (List TAct)) (l4 : (List TAct)) : decltab_follow_l5 symbol t16 t17 h0 h1_0 h2_0 l3 l4 =
  if (decide (t17 < t16)) = true then
    (decl_Match h0 h2_0 symbol).bind fun y1 =>
      if (l4.length + y1.1.1.2.2.2.2.length) * 16 ≤ 140737488355328 ∧ 0 < 16 then
        (decl_Find h0 y1.1.1.2.2.1).bind fun y2 =>
          if (!y1.1.1.2.2.2.1) = true then
            decltab_follow_l3 h1_0 y2.1.1 l3 (l4 ++ y1.1.1.2.2.2.2)
          else
            decltab_follow_l5 symbol t16 (IntKind.i64.wrap (t17 + 1)) h0 h1_0 y2.1.1 l3 (l4 ++ y1.1.1.2.2.2.2)
      else
        none
  else
    decltab_follow_l3 h1_0 h2_0 l3 l4 := (FD.lab_eq _ _ _ _).trans (by kernel_rfl)
def decltab_follow (d : TDecl) (state : Int) (symbol : Int) : (Option ((Tresult × Bool × Unit) × Unit)) :=
  decltab_follow_l5 symbol (IntKind.i64.wrap ((d.2.2.2.length : Int) + 1)) 0 d 0 state [] []
def fc66 : FC := ⟨⟨[.row (.cons .str (.cons (.int .i64) (.cons (.int .i64) (.sl (.cons .str (.cons (.sl (.cons (.int .i64) (.cons (.int .i64) (.cons .str (.cons .bool (.sl (.cons (.int .i64) (.int .i64)))))))) (.cons .bool (.cons (.int .i64) (.cons (.int .i64) (.cons .str (.cons .bool (.sl (.cons (.int .i64) (.int .i64)))))))))))))), .one (.int .i64), .one (.int .i64)], []⟩, ⟨[.row (.cons (.int .i64) (.sl (.cons (.int .i64) (.int .i64)))), .one .bool], []⟩, fun x => decltab_follow x.1.1 x.1.2.1 x.1.2.2.1⟩
theorem con66 : Contract Try.prog 66 fc66 :=
  decltab_follow_D.contract tok (cok_of (l := [(27, fc27), (28, fc28)]) ⟨con27, con28, trivial⟩) mixed (fn' := Try.f66) (by kernel_rfl) (by kernel_rfl) rfl (by kernel_rfl) (fun x => (FD.fn_eq _ _).trans (by kernel_rfl))
end
end Go.Proofs.Ytgjimkgehbppbaa
end

section
/-
Ytgjimkgehbppbaa: signalbench.signalbenchref36.Follow, as one plain function, its equations, its contract. No condition.
-/
set_option maxRecDepth 100000
set_option linter.unusedVariables false
set_option maxHeartbeats 4000000
open Go Go.AM
namespace Go.Proofs.Ytgjimkgehbppbaa
noncomputable section
def ref36_Follow_F4 : FSh := ⟨[(1, .one (.int .i64)), (2, .one (.int .i64)), (3, .one (.ptr 0 0)), (8, .one (.own 1)), (9, .one (.int .i64))], [.boxr (.cons .str (.cons (.int .i64) (.cons (.int .i64) (.sl (.cons .str (.cons (.sl (.cons (.int .i64) (.cons (.int .i64) (.cons .str (.cons .bool (.sl (.cons (.int .i64) (.int .i64)))))))) (.cons .bool (.cons (.int .i64) (.cons (.int .i64) (.cons .str (.cons .bool (.sl (.cons (.int .i64) (.int .i64)))))))))))))), .arr 60 (.cons (.int .i64) (.int .i64)) true]⟩
def ref36_Follow_D : FD := ⟨T, lookC [(41, fc41), (42, fc42)], [], (Try.f87.body.getD .skip), Try.f87.results.toList, ⟨[.row (.cons .str (.cons (.int .i64) (.cons (.int .i64) (.sl (.cons .str (.cons (.sl (.cons (.int .i64) (.cons (.int .i64) (.cons .str (.cons .bool (.sl (.cons (.int .i64) (.int .i64)))))))) (.cons .bool (.cons (.int .i64) (.cons (.int .i64) (.cons .str (.cons .bool (.sl (.cons (.int .i64) (.int .i64)))))))))))))), .one (.int .i64), .one (.int .i64)], []⟩, ⟨[.one (.int .i64), .one (.sl (.cons (.int .i64) (.int .i64)))], []⟩, [(4, ref36_Follow_F4)]⟩
def ref36_Follow_l4 (state : Int) (symbol : Int) (i : Int) (h0 : TDecl) (l1 : (List TAct)) : (Option ((Int × (List TAct) × Unit) × Unit)) := ref36_Follow_D.lab 4 ref36_Follow_F4 ((state, symbol, (), (), i, ()), (h0, l1, ()))
theorem ref36_Follow_l4_eq (state : Int) (symbol : Int) (i : Int) (h0 : TDecl) (l1 : (List TAct)) : ref36_Follow_l4 state symbol i h0 l1 =
  if (decide (i ≤ (h0.2.2.2.length : Int))) = true then
    (ref34_Match h0 state symbol).bind fun y1 =>
      if (!y1.1.2.1) = true then
        some ((state, l1, ()), ())
      else
        if (l1.length + y1.1.1.2.2.2.2.length) * 16 ≤ 140737488355328 ∧ 0 < 16 then
          (ref34_Find h0 y1.1.1.2.2.1).bind fun y2 =>
            if (!y1.1.1.2.2.2.1) = true then
              some ((y2.1.1, l1 ++ y1.1.1.2.2.2.2, ()), ())
            else
              ref36_Follow_l4 y2.1.1 symbol (IntKind.i64.wrap (i + 1)) h0 (l1 ++ y1.1.1.2.2.2.2)
        else
          none
  else
    some ((state, l1, ()), ()) := (FD.lab_eq _ _ _ _).trans (by kernel_rfl)
def ref36_Follow (d : TDecl) (state : Int) (symbol : Int) : (Option ((Int × (List TAct) × Unit) × Unit)) :=
  ref36_Follow_l4 state symbol 0 d []
def fc87 : FC := ⟨⟨[.row (.cons .str (.cons (.int .i64) (.cons (.int .i64) (.sl (.cons .str (.cons (.sl (.cons (.int .i64) (.cons (.int .i64) (.cons .str (.cons .bool (.sl (.cons (.int .i64) (.int .i64)))))))) (.cons .bool (.cons (.int .i64) (.cons (.int .i64) (.cons .str (.cons .bool (.sl (.cons (.int .i64) (.int .i64)))))))))))))), .one (.int .i64), .one (.int .i64)], []⟩, ⟨[.one (.int .i64), .one (.sl (.cons (.int .i64) (.int .i64)))], []⟩, fun x => ref36_Follow x.1.1 x.1.2.1 x.1.2.2.1⟩
theorem con87 : Contract Try.prog 87 fc87 :=
  ref36_Follow_D.contract tok (cok_of (l := [(41, fc41), (42, fc42)]) ⟨con41, con42, trivial⟩) mixed (fn' := Try.f87) (by kernel_rfl) (by kernel_rfl) rfl (by kernel_rfl) (fun x => (FD.fn_eq _ _).trans (by kernel_rfl))
end
end Go.Proofs.Ytgjimkgehbppbaa
end

section
/-
Ytgjimkgehbppbaa: signalbench.signalbenchref36.sameActs, as one plain function, its equations, its contract. No condition.
-/
set_option maxRecDepth 100000
set_option linter.unusedVariables false
set_option maxHeartbeats 4000000
open Go Go.AM
namespace Go.Proofs.Ytgjimkgehbppbaa
noncomputable section
def ref36_sameActs_F6 : FSh := ⟨[(0, .one (.sl (.cons (.int .i64) (.int .i64)))), (1, .one (.sl (.cons (.int .i64) (.int .i64)))), (5, .one (.int .i64))], []⟩
def ref36_sameActs_D : FD := ⟨T, lookC [], [], (Try.f88.body.getD .skip), Try.f88.results.toList, ⟨[.one (.sl (.cons (.int .i64) (.int .i64))), .one (.sl (.cons (.int .i64) (.int .i64)))], []⟩, ⟨[.one .bool], []⟩, [(6, ref36_sameActs_F6)]⟩
def ref36_sameActs_l6 (a : (List TAct)) (b : (List TAct)) (i : Int) : (Option ((Bool × Unit) × Unit)) := ref36_sameActs_D.lab 6 ref36_sameActs_F6 ((a, b, i, ()), ())
theorem ref36_sameActs_l6_eq (a : (List TAct)) (b : (List TAct)) (i : Int) : ref36_sameActs_l6 a b i =
  if (decide (i < (a.length : Int))) = true then
    if 0 ≤ i ∧ i < (a.length : Int) then
      if 0 ≤ i ∧ i < (b.length : Int) then
        if (!(eqU uAct (a.getD i.toNat dAct) (b.getD i.toNat dAct))) = true then
          some ((false, ()), ())
        else
          ref36_sameActs_l6 a b (IntKind.i64.wrap (i + 1))
      else
        none
    else
      none
  else
    some ((true, ()), ()) := (FD.lab_eq _ _ _ _).trans (by kernel_rfl)
def ref36_sameActs (a : (List TAct)) (b : (List TAct)) : (Option ((Bool × Unit) × Unit)) :=
  if ((a.length : Int) != (b.length : Int)) = true then
    some ((false, ()), ())
  else
    ref36_sameActs_l6 a b 0
def fc88 : FC := ⟨⟨[.one (.sl (.cons (.int .i64) (.int .i64))), .one (.sl (.cons (.int .i64) (.int .i64)))], []⟩, ⟨[.one .bool], []⟩, fun x => ref36_sameActs x.1.1 x.1.2.1⟩
theorem con88 : Contract Try.prog 88 fc88 :=
  ref36_sameActs_D.contract tok (cok_of (l := []) trivial) mixed (fn' := Try.f88) (by kernel_rfl) (by kernel_rfl) rfl (by kernel_rfl) (fun x => (FD.fn_eq _ _).trans (by kernel_rfl))
end
end Go.Proofs.Ytgjimkgehbppbaa
end

section
/-
Ytgjimkgehbppbaa: where rules lead, the cells of a state. No condition.
-/
set_option maxRecDepth 100000
open Go Go.AM
namespace Go.Proofs.Ytgjimkgehbppbaa

theorem act_beq (p q : TAct) : eqU uAct p q = decide (p = q) := by
  rw [Bool.eq_iff_iff, eqU_iff uAct rfl, decide_eq_true_eq]

theorem tsame_loop (a b : Tresult) (ha : a.2.length ≤ 1099511627776) (hab : a.2.length = b.2.length) : ∀ (r q : List TAct) (k : Nat), a.2.drop k = r → b.2.drop k = q → decltab_same_l6 (a.2.length : Int) k a b = some ((decide (r = q), ()), ())
  | [], q, k, h, hq => by
    have h1 := drop_nil h
    have : q = [] := by rw [← hq]; exact List.drop_of_length_le (by omega)
    subst this
    rw [decltab_same_l6_eq, if_neg (dF (by omega))]
    rfl
  | x :: r, q, k, h, hq => by
    have h1 := drop_lt h
    cases q with
    | nil => have := drop_nil hq; omega
    | cons y q =>
      have e1 : a.2.getD (k : Int).toNat dAct = x := getD_drop h
      have e2 : b.2.getD (k : Int).toNat dAct = y := getD_drop hq
      rw [decltab_same_l6_eq, if_pos (dT (by omega)), if_pos ⟨by omega, by omega⟩, if_pos ⟨by omega, by omega⟩, e1, e2, act_beq, w64a k (by omega), tsame_loop a b ha hab r q (k + 1) (dropS h) (dropS hq)]
      by_cases p : x = y
      · subst p; simp
      · simp [p]

theorem tsame_eq (a b : Tresult) (ha : a.2.length ≤ 1099511627776) : decltab_same a b = some ((decide (a = b), ()), ()) := by
  unfold decltab_same
  obtain ⟨p, l⟩ := a
  obtain ⟨q, m⟩ := b
  by_cases h1 : p = q
  · rw [if_neg (nF h1)]
    by_cases h2 : l.length = m.length
    · rw [if_neg (nF (by simp only; omega))]
      refine (tsame_loop (p, l) (q, m) ha h2 _ _ 0 rfl rfl).trans ?_
      simp [h1]
    · rw [if_pos (nT (by simp only; omega)), decide_eq_false]
      intro e
      exact h2 (by injection e with _ e; rw [e])
  · rw [if_pos (nT h1), decide_eq_false]
    intro e
    exact h1 (by injection e)

theorem rsame_loop (a b : List TAct) (ha : a.length ≤ 1099511627776) (hab : a.length = b.length) : ∀ (r q : List TAct) (k : Nat), a.drop k = r → b.drop k = q → ref36_sameActs_l6 a b k = some ((decide (r = q), ()), ())
  | [], q, k, h, hq => by
    have h1 := drop_nil h
    have : q = [] := by rw [← hq]; exact List.drop_of_length_le (by omega)
    subst this
    rw [ref36_sameActs_l6_eq, if_neg (dF (by omega))]
    rfl
  | x :: r, q, k, h, hq => by
    have h1 := drop_lt h
    cases q with
    | nil => have := drop_nil hq; omega
    | cons y q =>
      have e1 : a.getD (k : Int).toNat dAct = x := getD_drop h
      have e2 : b.getD (k : Int).toNat dAct = y := getD_drop hq
      rw [ref36_sameActs_l6_eq, if_pos (dT (by omega)), if_pos ⟨by omega, by omega⟩, if_pos ⟨by omega, by omega⟩, e1, e2, act_beq, w64a k (by omega), rsame_loop a b ha hab r q (k + 1) (dropS h) (dropS hq)]
      by_cases p : x = y
      · subst p; simp
      · simp [p]

theorem rsame_eq (l m : List TAct) (ha : l.length ≤ 1099511627776) : ref36_sameActs l m = some ((decide (l = m), ()), ()) := by
  unfold ref36_sameActs
  by_cases h2 : l.length = m.length
  · rw [if_neg (nF (by omega))]
    exact rsame_loop l m ha h2 _ _ 0 rfl rfl
  · rw [if_pos (nT (by omega)), decide_eq_false]
    intro e
    exact h2 (by rw [e])

theorem match_ok (d : TDecl) (h : okDecl d) (s x : Int) : (matchV d.2.2.2 s x).1.2.2.2.2.length ≤ 1048576 := by
  unfold matchV
  split
  · simp [noRule]
  · split
    · rename_i t ht
      obtain ⟨_, h1, h2⟩ := h.2 t (List.mem_of_getElem? ht)
      unfold ruleR
      split
      · rename_i r hr
        exact h1 r (List.mem_of_find?_eq_some hr)
      · split
        · exact h2
        · simp [noRule]
    · simp [noRule]

theorem follow_loop (d : TDecl) (h : okDecl d) (x : Int) : ∀ (c k : Nat) (s : Int) (l : List TAct), c = d.2.2.2.length + 1 - k → k ≤ d.2.2.2.length + 1 → l.length ≤ k * 1048576 →
    decltab_follow_l5 x ((d.2.2.2.length + 1 : Nat) : Int) k d 0 s [] l = some ((followV d.2.2.2 x c s l, decide (((followV d.2.2.2 x c s l).2.length : Int) ≤ 64), ()), ()) := by
  have hd := h.1
  intro c
  induction c with
  | zero =>
    intro k s l hc hk hl
    rw [decltab_follow_l5_eq, if_neg (dF (by omega)), decltab_follow_l3_eq]
    rfl
  | succ c ih =>
    intro k s l hc hk hl
    have hm := match_ok d h s x
    rw [decltab_follow_l5_eq, if_pos (dT (by omega)), match_eq d s x h]
    simp only [Option.bind_some]
    rw [if_pos ⟨by omega, by omega⟩, find_eq d _ hd]
    simp only [Option.bind_some]
    rw [w64a k (by omega)]
    by_cases ha : (matchV d.2.2.2 s x).1.2.2.2.1 = true
    · have e : followV d.2.2.2 x (c + 1) s l = followV d.2.2.2 x c (optI (findN d.2.2.2 (matchV d.2.2.2 s x).1.2.2.1)) (l ++ (matchV d.2.2.2 s x).1.2.2.2.2) := if_pos ha
      rw [if_neg (show ¬ (!(matchV d.2.2.2 s x).1.2.2.2.1) = true by rw [ha]; simp), ih (k + 1) _ _ (by omega) (by omega) (by rw [List.length_append]; omega), e]
    · have e : followV d.2.2.2 x (c + 1) s l = (optI (findN d.2.2.2 (matchV d.2.2.2 s x).1.2.2.1), l ++ (matchV d.2.2.2 s x).1.2.2.2.2) := if_neg ha
      rw [if_pos (show (!(matchV d.2.2.2 s x).1.2.2.2.1) = true by simpa using ha), decltab_follow_l3_eq, e]

theorem follow_eq (d : TDecl) (h : okDecl d) (i x : Nat) : decltab_follow d i x = some ((resF d.2.2.2 i x, decide (((resF d.2.2.2 i x).2.length : Int) ≤ 64), ()), ()) := by
  unfold decltab_follow
  have hd := h.1
  rw [w64a d.2.2.2.length (by omega)]
  exact follow_loop d h x _ 0 i [] rfl (by omega) (by simp)

theorem rfollow_loop (d : TDecl) (h : okDecl d) (g : GoodD d) (x : Nat) (hx : x ≤ topV d) : ∀ (c k s : Nat) (l : List TAct), c = d.2.2.2.length + 1 - k → k ≤ d.2.2.2.length + 1 → s < d.2.2.2.length → l.length ≤ k * 1048576 →
    ref36_Follow_l4 s x k d l = some (((followV d.2.2.2 x c s l).1, (followV d.2.2.2 x c s l).2, ()), ()) := by
  have hd := h.1
  intro c
  induction c with
  | zero =>
    intro k s l hc hk hs hl
    rw [ref36_Follow_l4_eq, if_neg (dF (by omega))]
    rfl
  | succ c ih =>
    intro k s l hc hk hs hl
    have hm := match_ok d h s x
    have hok : (matchV d.2.2.2 s x).2 = true := by
      have := g.mis s x hs hx
      unfold misP at this
      simpa using this
    obtain ⟨j, hj⟩ := match_found g.check hok
    rw [ref36_Follow_l4_eq, if_pos (dT (by omega)), rmatch_eq d s x h]
    simp only [Option.bind_some]
    rw [if_neg (show ¬ (!(matchV d.2.2.2 s x).2) = true by rw [hok]; simp), if_pos ⟨by omega, by omega⟩, rfind_eq d _ hd]
    simp only [Option.bind_some]
    rw [w64a k (by omega)]
    by_cases ha : (matchV d.2.2.2 s x).1.2.2.2.1 = true
    · have e : followV d.2.2.2 x (c + 1) s l = followV d.2.2.2 x c (optI (findN d.2.2.2 (matchV d.2.2.2 s x).1.2.2.1)) (l ++ (matchV d.2.2.2 s x).1.2.2.2.2) := if_pos ha
      rw [if_neg (show ¬ (!(matchV d.2.2.2 s x).1.2.2.2.1) = true by rw [ha]; simp), e, hj]
      exact ih (k + 1) j _ (by omega) (by omega) (findN_lt hj) (by rw [List.length_append]; omega)
    · have e : followV d.2.2.2 x (c + 1) s l = (optI (findN d.2.2.2 (matchV d.2.2.2 s x).1.2.2.1), l ++ (matchV d.2.2.2 s x).1.2.2.2.2) := if_neg ha
      rw [if_pos (show (!(matchV d.2.2.2 s x).1.2.2.2.1) = true by simpa using ha), e]

theorem rfollow_eq (d : TDecl) (h : okDecl d) (g : GoodD d) (i x : Nat) (hi : i < d.2.2.2.length) (hx : x ≤ topV d) : ref36_Follow d i x = some (((resF d.2.2.2 i x).1, (resF d.2.2.2 i x).2, ()), ()) := by
  unfold ref36_Follow
  exact rfollow_loop d h g x hx _ 0 i [] rfl (by omega) hi (by simp)

end Go.Proofs.Ytgjimkgehbppbaa
end

section
/-
Ytgjimkgehbppbaa: signalbench.declcheck.top, as one plain function, its equations, its contract. No condition.
-/
set_option maxRecDepth 100000
set_option linter.unusedVariables false
set_option maxHeartbeats 4000000
open Go Go.AM
namespace Go.Proofs.Ytgjimkgehbppbaa
noncomputable section
def declcheck_top_D : FD := ⟨T, lookC [], [], (Try.f51.body.getD .skip), Try.f51.results.toList, ⟨[.row (.cons .str (.cons (.int .i64) (.cons (.int .i64) (.sl (.cons .str (.cons (.sl (.cons (.int .i64) (.cons (.int .i64) (.cons .str (.cons .bool (.sl (.cons (.int .i64) (.int .i64)))))))) (.cons .bool (.cons (.int .i64) (.cons (.int .i64) (.cons .str (.cons .bool (.sl (.cons (.int .i64) (.int .i64))))))))))))))], []⟩, ⟨[.one (.int .i64)], []⟩, []⟩
def declcheck_top (d : TDecl) : (Option ((Int × Unit) × Unit)) :=
  if (d.2.1 == 2) = true then
    some ((1, ()), ())
  else
    some ((255, ()), ())
def fc51 : FC := ⟨⟨[.row (.cons .str (.cons (.int .i64) (.cons (.int .i64) (.sl (.cons .str (.cons (.sl (.cons (.int .i64) (.cons (.int .i64) (.cons .str (.cons .bool (.sl (.cons (.int .i64) (.int .i64)))))))) (.cons .bool (.cons (.int .i64) (.cons (.int .i64) (.cons .str (.cons .bool (.sl (.cons (.int .i64) (.int .i64))))))))))))))], []⟩, ⟨[.one (.int .i64)], []⟩, fun x => declcheck_top x.1.1⟩
theorem con51 : Contract Try.prog 51 fc51 :=
  declcheck_top_D.contract tok (cok_of (l := []) trivial) mixed (fn' := Try.f51) (by kernel_rfl) (by kernel_rfl) rfl (by kernel_rfl) (fun x => (FD.fn_eq _ _).trans (by kernel_rfl))
end
end Go.Proofs.Ytgjimkgehbppbaa
end

section
/-
Ytgjimkgehbppbaa: signalbench.declcheck.Ambiguous, as one plain function, its equations, its contract. No condition.
-/
set_option maxRecDepth 100000
set_option linter.unusedVariables false
set_option maxHeartbeats 4000000
open Go Go.AM
namespace Go.Proofs.Ytgjimkgehbppbaa
noncomputable section
def declcheck_Ambiguous_F4 : FSh := ⟨[(1, .one (.ptr 0 0)), (2, .one (.int .i64)), (3, .one (.int .i64)), (4, .one .bool), (12, .one (.sl (.cons .str (.cons (.sl (.cons (.int .i64) (.cons (.int .i64) (.cons .str (.cons .bool (.sl (.cons (.int .i64) (.int .i64)))))))) (.cons .bool (.cons (.int .i64) (.cons (.int .i64) (.cons .str (.cons .bool (.sl (.cons (.int .i64) (.int .i64)))))))))))), (13, .one (.int .i64)), (14, .one (.int .i64))], [.boxr (.cons .str (.cons (.int .i64) (.cons (.int .i64) (.sl (.cons .str (.cons (.sl (.cons (.int .i64) (.cons (.int .i64) (.cons .str (.cons .bool (.sl (.cons (.int .i64) (.int .i64)))))))) (.cons .bool (.cons (.int .i64) (.cons (.int .i64) (.cons .str (.cons .bool (.sl (.cons (.int .i64) (.int .i64))))))))))))))]⟩
def declcheck_Ambiguous_F10 : FSh := ⟨[(1, .one (.ptr 0 0)), (2, .one (.int .i64)), (3, .one (.int .i64)), (4, .one .bool), (5, .one (.int .i64)), (6, .one (.ptr 1 0)), (7, .one (.int .i64)), (12, .one (.sl (.cons .str (.cons (.sl (.cons (.int .i64) (.cons (.int .i64) (.cons .str (.cons .bool (.sl (.cons (.int .i64) (.int .i64)))))))) (.cons .bool (.cons (.int .i64) (.cons (.int .i64) (.cons .str (.cons .bool (.sl (.cons (.int .i64) (.int .i64)))))))))))), (13, .one (.int .i64)), (14, .one (.int .i64))], [.boxr (.cons .str (.cons (.int .i64) (.cons (.int .i64) (.sl (.cons .str (.cons (.sl (.cons (.int .i64) (.cons (.int .i64) (.cons .str (.cons .bool (.sl (.cons (.int .i64) (.int .i64)))))))) (.cons .bool (.cons (.int .i64) (.cons (.int .i64) (.cons .str (.cons .bool (.sl (.cons (.int .i64) (.int .i64)))))))))))))), .boxr (.cons .str (.cons (.sl (.cons (.int .i64) (.cons (.int .i64) (.cons .str (.cons .bool (.sl (.cons (.int .i64) (.int .i64)))))))) (.cons .bool (.cons (.int .i64) (.cons (.int .i64) (.cons .str (.cons .bool (.sl (.cons (.int .i64) (.int .i64))))))))))]⟩
def declcheck_Ambiguous_F16 : FSh := ⟨[(1, .one (.ptr 0 0)), (2, .one (.int .i64)), (3, .one (.int .i64)), (4, .one .bool), (5, .one (.int .i64)), (6, .one (.ptr 1 0)), (7, .one (.int .i64)), (8, .one .bool), (12, .one (.sl (.cons .str (.cons (.sl (.cons (.int .i64) (.cons (.int .i64) (.cons .str (.cons .bool (.sl (.cons (.int .i64) (.int .i64)))))))) (.cons .bool (.cons (.int .i64) (.cons (.int .i64) (.cons .str (.cons .bool (.sl (.cons (.int .i64) (.int .i64)))))))))))), (13, .one (.int .i64)), (14, .one (.int .i64)), (26, .one (.sl (.cons (.int .i64) (.cons (.int .i64) (.cons .str (.cons .bool (.sl (.cons (.int .i64) (.int .i64))))))))), (27, .one (.int .i64)), (28, .one (.int .i64))], [.boxr (.cons .str (.cons (.int .i64) (.cons (.int .i64) (.sl (.cons .str (.cons (.sl (.cons (.int .i64) (.cons (.int .i64) (.cons .str (.cons .bool (.sl (.cons (.int .i64) (.int .i64)))))))) (.cons .bool (.cons (.int .i64) (.cons (.int .i64) (.cons .str (.cons .bool (.sl (.cons (.int .i64) (.int .i64)))))))))))))), .boxr (.cons .str (.cons (.sl (.cons (.int .i64) (.cons (.int .i64) (.cons .str (.cons .bool (.sl (.cons (.int .i64) (.int .i64)))))))) (.cons .bool (.cons (.int .i64) (.cons (.int .i64) (.cons .str (.cons .bool (.sl (.cons (.int .i64) (.int .i64))))))))))]⟩
def declcheck_Ambiguous_D : FD := ⟨T, lookC [(51, fc51)], [], (Try.f17.body.getD .skip), Try.f17.results.toList, ⟨[.row (.cons .str (.cons (.int .i64) (.cons (.int .i64) (.sl (.cons .str (.cons (.sl (.cons (.int .i64) (.cons (.int .i64) (.cons .str (.cons .bool (.sl (.cons (.int .i64) (.int .i64)))))))) (.cons .bool (.cons (.int .i64) (.cons (.int .i64) (.cons .str (.cons .bool (.sl (.cons (.int .i64) (.int .i64))))))))))))))], []⟩, ⟨[.one (.int .i64), .one (.int .i64), .one .bool], []⟩, [(4, declcheck_Ambiguous_F4), (10, declcheck_Ambiguous_F10), (16, declcheck_Ambiguous_F16)]⟩
def declcheck_Ambiguous_l4 (state : Int) (symbol : Int) (found : Bool) (t12 : (List TDeclState)) (t13 : Int) (t14 : Int) (h0 : TDecl) : (Option ((Int × Int × Bool × Unit) × Unit)) := declcheck_Ambiguous_D.lab 4 declcheck_Ambiguous_F4 (((), state, symbol, found, t12, t13, t14, ()), (h0, ()))
def declcheck_Ambiguous_l10 (state : Int) (symbol : Int) (found : Bool) (i : Int) (x0 : Int) (t12 : (List TDeclState)) (t13 : Int) (t14 : Int) (h0 : TDecl) (h1 : TDeclState) : (Option ((Int × Int × Bool × Unit) × Unit)) := declcheck_Ambiguous_D.lab 10 declcheck_Ambiguous_F10 (((), state, symbol, found, i, (), x0, t12, t13, t14, ()), (h0, h1, ()))
def declcheck_Ambiguous_l16 (state : Int) (symbol : Int) (found : Bool) (i : Int) (x0 : Int) (seen : Bool) (t12 : (List TDeclState)) (t13 : Int) (t14 : Int) (t26 : (List TRule)) (t27 : Int) (t28 : Int) (h0 : TDecl) (h1 : TDeclState) : (Option ((Int × Int × Bool × Unit) × Unit)) := declcheck_Ambiguous_D.lab 16 declcheck_Ambiguous_F16 (((), state, symbol, found, i, (), x0, seen, t12, t13, t14, t26, t27, t28, ()), (h0, h1, ()))
theorem declcheck_Ambiguous_l4_eq (state : Int) (symbol : Int) (found : Bool) (t12 : (List TDeclState)) (t13 : Int) (t14 : Int) (h0 : TDecl) : declcheck_Ambiguous_l4 state symbol found t12 t13 t14 h0 =
  if (decide (t14 < t13)) = true then
    if 0 ≤ t14 ∧ t14 < (t12.length : Int) then
      declcheck_Ambiguous_l10 state symbol found t14 0 t12 t13 t14 h0 (t12.getD t14.toNat dDeclState)
    else
      none
  else
    some ((state, symbol, found, ()), ()) := (FD.lab_eq _ _ _ _).trans (by kernel_rfl)
theorem declcheck_Ambiguous_l10_eq (state : Int) (symbol : Int) (found : Bool) (i : Int) (x0 : Int) (t12 : (List TDeclState)) (t13 : Int) (t14 : Int) (h0 : TDecl) (h1 : TDeclState) : declcheck_Ambiguous_l10 state symbol found i x0 t12 t13 t14 h0 h1 =
  (declcheck_top h0).bind fun y1 =>
    if (decide (x0 ≤ y1.1.1)) = true then
      declcheck_Ambiguous_l16 state symbol found i x0 false t12 t13 t14 h1.2.1 (h1.2.1.length : Int) 0 h0 h1
    else
      declcheck_Ambiguous_l4 state symbol found t12 t13 (IntKind.i64.wrap (t14 + 1)) h0 := (FD.lab_eq _ _ _ _).trans (by kernel_rfl)
theorem declcheck_Ambiguous_l16_eq (state : Int) (symbol : Int) (found : Bool) (i : Int) (x0 : Int) (seen : Bool) (t12 : (List TDeclState)) (t13 : Int) (t14 : Int) (t26 : (List TRule)) (t27 : Int) (t28 : Int) (h0 : TDecl) (h1 : TDeclState) : declcheck_Ambiguous_l16 state symbol found i x0 seen t12 t13 t14 t26 t27 t28 h0 h1 =
  if (decide (t28 < t27)) = true then
    if 0 ≤ t28 ∧ t28 < (t26.length : Int) then
      if (decide (x0 < (t26.getD t28.toNat dRule).1)) = true then
        declcheck_Ambiguous_l16 state symbol found i x0 seen t12 t13 t14 t26 t27 (IntKind.i64.wrap (t28 + 1)) h0 h1
      else
        if (decide (x0 > (t26.getD t28.toNat dRule).2.1)) = true then
          declcheck_Ambiguous_l16 state symbol found i x0 seen t12 t13 t14 t26 t27 (IntKind.i64.wrap (t28 + 1)) h0 h1
        else
          if seen = true then
            some ((i, x0, true, ()), ())
          else
            declcheck_Ambiguous_l16 state symbol found i x0 true t12 t13 t14 t26 t27 (IntKind.i64.wrap (t28 + 1)) h0 h1
    else
      none
  else
    declcheck_Ambiguous_l10 state symbol found i (IntKind.i64.wrap (x0 + 1)) t12 t13 t14 h0 h1 := (FD.lab_eq _ _ _ _).trans (by kernel_rfl)
def declcheck_Ambiguous (d : TDecl) : (Option ((Int × Int × Bool × Unit) × Unit)) :=
  declcheck_Ambiguous_l4 0 0 false d.2.2.2 (d.2.2.2.length : Int) 0 d
def fc17 : FC := ⟨⟨[.row (.cons .str (.cons (.int .i64) (.cons (.int .i64) (.sl (.cons .str (.cons (.sl (.cons (.int .i64) (.cons (.int .i64) (.cons .str (.cons .bool (.sl (.cons (.int .i64) (.int .i64)))))))) (.cons .bool (.cons (.int .i64) (.cons (.int .i64) (.cons .str (.cons .bool (.sl (.cons (.int .i64) (.int .i64))))))))))))))], []⟩, ⟨[.one (.int .i64), .one (.int .i64), .one .bool], []⟩, fun x => declcheck_Ambiguous x.1.1⟩
theorem con17 : Contract Try.prog 17 fc17 :=
  declcheck_Ambiguous_D.contract tok (cok_of (l := [(51, fc51)]) ⟨con51, trivial⟩) mixed (fn' := Try.f17) (by kernel_rfl) (by kernel_rfl) rfl (by kernel_rfl) (fun x => (FD.fn_eq _ _).trans (by kernel_rfl))
end
end Go.Proofs.Ytgjimkgehbppbaa
end

section
/-
Ytgjimkgehbppbaa: signalbench.signalbenchref35.Most, as one plain function, its equations, its contract. No condition.
-/
set_option maxRecDepth 100000
set_option linter.unusedVariables false
set_option maxHeartbeats 4000000
open Go Go.AM
namespace Go.Proofs.Ytgjimkgehbppbaa
noncomputable section
def ref35_Most_D : FD := ⟨T, lookC [], [], (Try.f52.body.getD .skip), Try.f52.results.toList, ⟨[.row (.cons .str (.cons (.int .i64) (.cons (.int .i64) (.sl (.cons .str (.cons (.sl (.cons (.int .i64) (.cons (.int .i64) (.cons .str (.cons .bool (.sl (.cons (.int .i64) (.int .i64)))))))) (.cons .bool (.cons (.int .i64) (.cons (.int .i64) (.cons .str (.cons .bool (.sl (.cons (.int .i64) (.int .i64))))))))))))))], []⟩, ⟨[.one (.int .i64)], []⟩, []⟩
def ref35_Most (d : TDecl) : (Option ((Int × Unit) × Unit)) :=
  if (d.2.1 == 2) = true then
    some ((1, ()), ())
  else
    some ((255, ()), ())
def fc52 : FC := ⟨⟨[.row (.cons .str (.cons (.int .i64) (.cons (.int .i64) (.sl (.cons .str (.cons (.sl (.cons (.int .i64) (.cons (.int .i64) (.cons .str (.cons .bool (.sl (.cons (.int .i64) (.int .i64)))))))) (.cons .bool (.cons (.int .i64) (.cons (.int .i64) (.cons .str (.cons .bool (.sl (.cons (.int .i64) (.int .i64))))))))))))))], []⟩, ⟨[.one (.int .i64)], []⟩, fun x => ref35_Most x.1.1⟩
theorem con52 : Contract Try.prog 52 fc52 :=
  ref35_Most_D.contract tok (cok_of (l := []) trivial) mixed (fn' := Try.f52) (by kernel_rfl) (by kernel_rfl) rfl (by kernel_rfl) (fun x => (FD.fn_eq _ _).trans (by kernel_rfl))
end
end Go.Proofs.Ytgjimkgehbppbaa
end

section
/-
Ytgjimkgehbppbaa: signalbench.signalbenchref35.Rules, as one plain function, its equations, its contract. No condition.
-/
set_option maxRecDepth 100000
set_option linter.unusedVariables false
set_option maxHeartbeats 4000000
open Go Go.AM
namespace Go.Proofs.Ytgjimkgehbppbaa
noncomputable section
def ref35_Rules_F5 : FSh := ⟨[(2, .one (.int .i64)), (7, .one (.int .i64)), (8, .one (.sl (.cons (.int .i64) (.cons (.int .i64) (.cons .str (.cons .bool (.sl (.cons (.int .i64) (.int .i64))))))))), (9, .one (.int .i64))], []⟩
def ref35_Rules_D : FD := ⟨T, lookC [], [], (Try.f53.body.getD .skip), Try.f53.results.toList, ⟨[.row (.cons .str (.cons (.int .i64) (.cons (.int .i64) (.sl (.cons .str (.cons (.sl (.cons (.int .i64) (.cons (.int .i64) (.cons .str (.cons .bool (.sl (.cons (.int .i64) (.int .i64)))))))) (.cons .bool (.cons (.int .i64) (.cons (.int .i64) (.cons .str (.cons .bool (.sl (.cons (.int .i64) (.int .i64)))))))))))))), .one (.int .i64), .one (.int .i64)], []⟩, ⟨[.one (.int .i64)], []⟩, [(5, ref35_Rules_F5)]⟩
def ref35_Rules_l5 (symbol : Int) (n : Int) (l : (List TRule)) (i : Int) : (Option ((Int × Unit) × Unit)) := ref35_Rules_D.lab 5 ref35_Rules_F5 ((symbol, n, l, i, ()), ())
theorem ref35_Rules_l5_eq (symbol : Int) (n : Int) (l : (List TRule)) (i : Int) : ref35_Rules_l5 symbol n l i =
  if (decide (i < (l.length : Int))) = true then
    if 0 ≤ i ∧ i < (l.length : Int) then
      if (decide ((l.getD i.toNat dRule).1 ≤ symbol)) = true then
        if 0 ≤ i ∧ i < (l.length : Int) then
          if (decide (symbol ≤ (l.getD i.toNat dRule).2.1)) = true then
            ref35_Rules_l5 symbol (IntKind.i64.wrap (n + 1)) l (IntKind.i64.wrap (i + 1))
          else
            ref35_Rules_l5 symbol n l (IntKind.i64.wrap (i + 1))
        else
          none
      else
        ref35_Rules_l5 symbol n l (IntKind.i64.wrap (i + 1))
    else
      none
  else
    some ((n, ()), ()) := (FD.lab_eq _ _ _ _).trans (by kernel_rfl)
def ref35_Rules (d : TDecl) (state : Int) (symbol : Int) : (Option ((Int × Unit) × Unit)) :=
  if 0 ≤ state ∧ state < (d.2.2.2.length : Int) then
    ref35_Rules_l5 symbol 0 (d.2.2.2.getD state.toNat dDeclState).2.1 0
  else
    none
def fc53 : FC := ⟨⟨[.row (.cons .str (.cons (.int .i64) (.cons (.int .i64) (.sl (.cons .str (.cons (.sl (.cons (.int .i64) (.cons (.int .i64) (.cons .str (.cons .bool (.sl (.cons (.int .i64) (.int .i64)))))))) (.cons .bool (.cons (.int .i64) (.cons (.int .i64) (.cons .str (.cons .bool (.sl (.cons (.int .i64) (.int .i64)))))))))))))), .one (.int .i64), .one (.int .i64)], []⟩, ⟨[.one (.int .i64)], []⟩, fun x => ref35_Rules x.1.1 x.1.2.1 x.1.2.2.1⟩
theorem con53 : Contract Try.prog 53 fc53 :=
  ref35_Rules_D.contract tok (cok_of (l := []) trivial) mixed (fn' := Try.f53) (by kernel_rfl) (by kernel_rfl) rfl (by kernel_rfl) (fun x => (FD.fn_eq _ _).trans (by kernel_rfl))
end
end Go.Proofs.Ytgjimkgehbppbaa
end

section
/-
Ytgjimkgehbppbaa: signalbench.signalbenchref35.Ambiguous, as one plain function, its equations, its contract. No condition.
-/
set_option maxRecDepth 100000
set_option linter.unusedVariables false
set_option maxHeartbeats 4000000
open Go Go.AM
namespace Go.Proofs.Ytgjimkgehbppbaa
noncomputable section
def ref35_Ambiguous_F3 : FSh := ⟨[(1, .one (.ptr 0 0)), (5, .one (.int .i64))], [.boxr (.cons .str (.cons (.int .i64) (.cons (.int .i64) (.sl (.cons .str (.cons (.sl (.cons (.int .i64) (.cons (.int .i64) (.cons .str (.cons .bool (.sl (.cons (.int .i64) (.int .i64)))))))) (.cons .bool (.cons (.int .i64) (.cons (.int .i64) (.cons .str (.cons .bool (.sl (.cons (.int .i64) (.int .i64))))))))))))))]⟩
def ref35_Ambiguous_F8 : FSh := ⟨[(1, .one (.ptr 0 0)), (5, .one (.int .i64)), (6, .one (.int .i64))], [.boxr (.cons .str (.cons (.int .i64) (.cons (.int .i64) (.sl (.cons .str (.cons (.sl (.cons (.int .i64) (.cons (.int .i64) (.cons .str (.cons .bool (.sl (.cons (.int .i64) (.int .i64)))))))) (.cons .bool (.cons (.int .i64) (.cons (.int .i64) (.cons .str (.cons .bool (.sl (.cons (.int .i64) (.int .i64))))))))))))))]⟩
def ref35_Ambiguous_D : FD := ⟨T, lookC [(52, fc52), (53, fc53)], [], (Try.f18.body.getD .skip), Try.f18.results.toList, ⟨[.row (.cons .str (.cons (.int .i64) (.cons (.int .i64) (.sl (.cons .str (.cons (.sl (.cons (.int .i64) (.cons (.int .i64) (.cons .str (.cons .bool (.sl (.cons (.int .i64) (.int .i64)))))))) (.cons .bool (.cons (.int .i64) (.cons (.int .i64) (.cons .str (.cons .bool (.sl (.cons (.int .i64) (.int .i64))))))))))))))], []⟩, ⟨[.one (.int .i64), .one (.int .i64), .one .bool], []⟩, [(3, ref35_Ambiguous_F3), (8, ref35_Ambiguous_F8)]⟩
def ref35_Ambiguous_l3 (state : Int) (h0 : TDecl) : (Option ((Int × Int × Bool × Unit) × Unit)) := ref35_Ambiguous_D.lab 3 ref35_Ambiguous_F3 (((), state, ()), (h0, ()))
def ref35_Ambiguous_l8 (state : Int) (symbol : Int) (h0 : TDecl) : (Option ((Int × Int × Bool × Unit) × Unit)) := ref35_Ambiguous_D.lab 8 ref35_Ambiguous_F8 (((), state, symbol, ()), (h0, ()))
theorem ref35_Ambiguous_l3_eq (state : Int) (h0 : TDecl) : ref35_Ambiguous_l3 state h0 =
  if (decide (state < (h0.2.2.2.length : Int))) = true then
    ref35_Ambiguous_l8 state 0 h0
  else
    some ((0, 0, false, ()), ()) := (FD.lab_eq _ _ _ _).trans (by kernel_rfl)
theorem ref35_Ambiguous_l8_eq (state : Int) (symbol : Int) (h0 : TDecl) : ref35_Ambiguous_l8 state symbol h0 =
  (ref35_Most h0).bind fun y1 =>
    if (decide (symbol ≤ y1.1.1)) = true then
      (ref35_Rules h0 state symbol).bind fun y2 =>
        if (decide (y2.1.1 > 1)) = true then
          some ((state, symbol, true, ()), ())
        else
          ref35_Ambiguous_l8 state (IntKind.i64.wrap (symbol + 1)) h0
    else
      ref35_Ambiguous_l3 (IntKind.i64.wrap (state + 1)) h0 := (FD.lab_eq _ _ _ _).trans (by kernel_rfl)
def ref35_Ambiguous (d : TDecl) : (Option ((Int × Int × Bool × Unit) × Unit)) :=
  ref35_Ambiguous_l3 0 d
def fc18 : FC := ⟨⟨[.row (.cons .str (.cons (.int .i64) (.cons (.int .i64) (.sl (.cons .str (.cons (.sl (.cons (.int .i64) (.cons (.int .i64) (.cons .str (.cons .bool (.sl (.cons (.int .i64) (.int .i64)))))))) (.cons .bool (.cons (.int .i64) (.cons (.int .i64) (.cons .str (.cons .bool (.sl (.cons (.int .i64) (.int .i64))))))))))))))], []⟩, ⟨[.one (.int .i64), .one (.int .i64), .one .bool], []⟩, fun x => ref35_Ambiguous x.1.1⟩
theorem con18 : Contract Try.prog 18 fc18 :=
  ref35_Ambiguous_D.contract tok (cok_of (l := [(52, fc52), (53, fc53)]) ⟨con52, con53, trivial⟩) mixed (fn' := Try.f18) (by kernel_rfl) (by kernel_rfl) rfl (by kernel_rfl) (fun x => (FD.fn_eq _ _).trans (by kernel_rfl))
end
end Go.Proofs.Ytgjimkgehbppbaa
end

section
/-
Ytgjimkgehbppbaa: signalbench.declcheck.endless, as one plain function, its equations, its contract. No condition.
-/
set_option maxRecDepth 100000
set_option linter.unusedVariables false
set_option maxHeartbeats 4000000
open Go Go.AM
namespace Go.Proofs.Ytgjimkgehbppbaa
noncomputable section
def declcheck_endless_F3 : FSh := ⟨[(1, .one (.int .i64)), (2, .one (.int .i64)), (3, .one (.ptr 0 0)), (7, .one (.own 1))], [.boxr (.cons .str (.cons (.int .i64) (.cons (.int .i64) (.sl (.cons .str (.cons (.sl (.cons (.int .i64) (.cons (.int .i64) (.cons .str (.cons .bool (.sl (.cons (.int .i64) (.int .i64)))))))) (.cons .bool (.cons (.int .i64) (.cons (.int .i64) (.cons .str (.cons .bool (.sl (.cons (.int .i64) (.int .i64)))))))))))))), .arr 4 .bool true]⟩
def declcheck_endless_D : FD := ⟨T, lookC [(27, fc27), (28, fc28)], [], (Try.f57.body.getD .skip), Try.f57.results.toList, ⟨[.row (.cons .str (.cons (.int .i64) (.cons (.int .i64) (.sl (.cons .str (.cons (.sl (.cons (.int .i64) (.cons (.int .i64) (.cons .str (.cons .bool (.sl (.cons (.int .i64) (.int .i64)))))))) (.cons .bool (.cons (.int .i64) (.cons (.int .i64) (.cons .str (.cons .bool (.sl (.cons (.int .i64) (.int .i64)))))))))))))), .one (.int .i64), .one (.int .i64)], []⟩, ⟨[.one .bool], []⟩, [(3, declcheck_endless_F3)]⟩
def declcheck_endless_l3 (state : Int) (symbol : Int) (h0 : TDecl) (l1 : (List Bool)) : (Option ((Bool × Unit) × Unit)) := declcheck_endless_D.lab 3 declcheck_endless_F3 ((state, symbol, (), (), ()), (h0, l1, ()))
theorem declcheck_endless_l3_eq (state : Int) (symbol : Int) (h0 : TDecl) (l1 : (List Bool)) : declcheck_endless_l3 state symbol h0 l1 =
  if (decide (state ≥ 0)) = true then
    if 0 ≤ state ∧ state < (l1.length : Int) then
      if (!(l1.getD state.toNat false)) = true then
        if 0 ≤ state ∧ state < (l1.length : Int) then
          (decl_Match h0 state symbol).bind fun y1 =>
            if (!y1.1.2.1) = true then
              some ((false, ()), ())
            else
              if (!y1.1.1.2.2.2.1) = true then
                some ((false, ()), ())
              else
                (decl_Find h0 y1.1.1.2.2.1).bind fun y2 =>
                  declcheck_endless_l3 y2.1.1 symbol h0 (l1.set state.toNat true)
        else
          none
      else
        some ((decide (state ≥ 0), ()), ())
    else
      none
  else
    some ((decide (state ≥ 0), ()), ()) := (FD.lab_eq _ _ _ _).trans (by kernel_rfl)
def declcheck_endless (d : TDecl) (state : Int) (symbol : Int) : (Option ((Bool × Unit) × Unit)) :=
  if ((d.2.2.2.length : Int) = 0 ∨ (d.2.2.2.length : Int) = (d.2.2.2.length : Int)) ∧ 0 ≤ (d.2.2.2.length : Int) ∧ (d.2.2.2.length : Int) * 1 ≤ 140737488355328 ∧ 0 < 1 then
    declcheck_endless_l3 state symbol d (List.replicate (d.2.2.2.length : Int).toNat false)
  else
    none
def fc57 : FC := ⟨⟨[.row (.cons .str (.cons (.int .i64) (.cons (.int .i64) (.sl (.cons .str (.cons (.sl (.cons (.int .i64) (.cons (.int .i64) (.cons .str (.cons .bool (.sl (.cons (.int .i64) (.int .i64)))))))) (.cons .bool (.cons (.int .i64) (.cons (.int .i64) (.cons .str (.cons .bool (.sl (.cons (.int .i64) (.int .i64)))))))))))))), .one (.int .i64), .one (.int .i64)], []⟩, ⟨[.one .bool], []⟩, fun x => declcheck_endless x.1.1 x.1.2.1 x.1.2.2.1⟩
theorem con57 : Contract Try.prog 57 fc57 :=
  declcheck_endless_D.contract tok (cok_of (l := [(27, fc27), (28, fc28)]) ⟨con27, con28, trivial⟩) mixed (fn' := Try.f57) (by kernel_rfl) (by kernel_rfl) rfl (by kernel_rfl) (fun x => (FD.fn_eq _ _).trans (by kernel_rfl))
end
end Go.Proofs.Ytgjimkgehbppbaa
end

section
/-
Ytgjimkgehbppbaa: signalbench.declcheck.Cycle$1, as one plain function, its equations, its contract. No condition.
-/
set_option maxRecDepth 100000
set_option linter.unusedVariables false
set_option maxHeartbeats 4000000
open Go Go.AM
namespace Go.Proofs.Ytgjimkgehbppbaa
noncomputable section
def declcheck_Cycle_1_D : FD := ⟨T, lookC [(57, fc57)], [], (Try.f56.body.getD .skip), Try.f56.results.toList, ⟨[.one (.int .i64), .one (.int .i64), .one (.ptr 0 0)], [.boxr (.cons .str (.cons (.int .i64) (.cons (.int .i64) (.sl (.cons .str (.cons (.sl (.cons (.int .i64) (.cons (.int .i64) (.cons .str (.cons .bool (.sl (.cons (.int .i64) (.int .i64)))))))) (.cons .bool (.cons (.int .i64) (.cons (.int .i64) (.cons .str (.cons .bool (.sl (.cons (.int .i64) (.int .i64))))))))))))))]⟩, ⟨[.one .bool], [.boxr (.cons .str (.cons (.int .i64) (.cons (.int .i64) (.sl (.cons .str (.cons (.sl (.cons (.int .i64) (.cons (.int .i64) (.cons .str (.cons .bool (.sl (.cons (.int .i64) (.int .i64)))))))) (.cons .bool (.cons (.int .i64) (.cons (.int .i64) (.cons .str (.cons .bool (.sl (.cons (.int .i64) (.int .i64))))))))))))))]⟩, []⟩
def declcheck_Cycle_1 (state : Int) (symbol : Int) (h0 : TDecl) : (Option ((Bool × Unit) × (TDecl × Unit))) :=
  (declcheck_endless h0 state symbol).bind fun y1 =>
    some ((y1.1.1, ()), (h0, ()))
def fc56 : FC := ⟨⟨[.one (.int .i64), .one (.int .i64), .one (.ptr 0 0)], [.boxr (.cons .str (.cons (.int .i64) (.cons (.int .i64) (.sl (.cons .str (.cons (.sl (.cons (.int .i64) (.cons (.int .i64) (.cons .str (.cons .bool (.sl (.cons (.int .i64) (.int .i64)))))))) (.cons .bool (.cons (.int .i64) (.cons (.int .i64) (.cons .str (.cons .bool (.sl (.cons (.int .i64) (.int .i64))))))))))))))]⟩, ⟨[.one .bool], [.boxr (.cons .str (.cons (.int .i64) (.cons (.int .i64) (.sl (.cons .str (.cons (.sl (.cons (.int .i64) (.cons (.int .i64) (.cons .str (.cons .bool (.sl (.cons (.int .i64) (.int .i64)))))))) (.cons .bool (.cons (.int .i64) (.cons (.int .i64) (.cons .str (.cons .bool (.sl (.cons (.int .i64) (.int .i64))))))))))))))]⟩, fun x => declcheck_Cycle_1 x.1.1 x.1.2.1 x.2.1⟩
theorem con56 : Contract Try.prog 56 fc56 :=
  declcheck_Cycle_1_D.contract tok (cok_of (l := [(57, fc57)]) ⟨con57, trivial⟩) mixed (fn' := Try.f56) (by kernel_rfl) (by kernel_rfl) rfl (by kernel_rfl) (fun x => (FD.fn_eq _ _).trans (by kernel_rfl))
end
end Go.Proofs.Ytgjimkgehbppbaa
end

section
/-
Ytgjimkgehbppbaa: signalbench.declcheck.first, as one plain function, its equations, its contract. No condition.
-/
set_option maxRecDepth 100000
set_option linter.unusedVariables false
set_option maxHeartbeats 4000000
open Go Go.AM
namespace Go.Proofs.Ytgjimkgehbppbaa
noncomputable section
def declcheck_firstC_F3 : FSh := ⟨[(1, .one (.fn 56 [0])), (2, .one (.ptr 1 0)), (11, .one (.int .i64)), (12, .one (.int .i64))], [.boxr (.cons .str (.cons (.int .i64) (.cons (.int .i64) (.sl (.cons .str (.cons (.sl (.cons (.int .i64) (.cons (.int .i64) (.cons .str (.cons .bool (.sl (.cons (.int .i64) (.int .i64)))))))) (.cons .bool (.cons (.int .i64) (.cons (.int .i64) (.cons .str (.cons .bool (.sl (.cons (.int .i64) (.int .i64)))))))))))))), .boxr (.cons .str (.cons (.int .i64) (.cons (.int .i64) (.sl (.cons .str (.cons (.sl (.cons (.int .i64) (.cons (.int .i64) (.cons .str (.cons .bool (.sl (.cons (.int .i64) (.int .i64)))))))) (.cons .bool (.cons (.int .i64) (.cons (.int .i64) (.cons .str (.cons .bool (.sl (.cons (.int .i64) (.int .i64))))))))))))))]⟩
def declcheck_firstC_F9 : FSh := ⟨[(1, .one (.fn 56 [0])), (2, .one (.ptr 1 0)), (7, .one (.int .i64)), (8, .one (.int .i64)), (11, .one (.int .i64)), (12, .one (.int .i64))], [.boxr (.cons .str (.cons (.int .i64) (.cons (.int .i64) (.sl (.cons .str (.cons (.sl (.cons (.int .i64) (.cons (.int .i64) (.cons .str (.cons .bool (.sl (.cons (.int .i64) (.int .i64)))))))) (.cons .bool (.cons (.int .i64) (.cons (.int .i64) (.cons .str (.cons .bool (.sl (.cons (.int .i64) (.int .i64)))))))))))))), .boxr (.cons .str (.cons (.int .i64) (.cons (.int .i64) (.sl (.cons .str (.cons (.sl (.cons (.int .i64) (.cons (.int .i64) (.cons .str (.cons .bool (.sl (.cons (.int .i64) (.int .i64)))))))) (.cons .bool (.cons (.int .i64) (.cons (.int .i64) (.cons .str (.cons .bool (.sl (.cons (.int .i64) (.int .i64))))))))))))))]⟩
def declcheck_firstC_D : FD := ⟨T, lookC [(51, fc51), (56, fc56)], [], (Try.f54.body.getD .skip), Try.f54.results.toList, ⟨[.row (.cons .str (.cons (.int .i64) (.cons (.int .i64) (.sl (.cons .str (.cons (.sl (.cons (.int .i64) (.cons (.int .i64) (.cons .str (.cons .bool (.sl (.cons (.int .i64) (.int .i64)))))))) (.cons .bool (.cons (.int .i64) (.cons (.int .i64) (.cons .str (.cons .bool (.sl (.cons (.int .i64) (.int .i64)))))))))))))), .one (.fn 56 [0])], [.boxr (.cons .str (.cons (.int .i64) (.cons (.int .i64) (.sl (.cons .str (.cons (.sl (.cons (.int .i64) (.cons (.int .i64) (.cons .str (.cons .bool (.sl (.cons (.int .i64) (.int .i64)))))))) (.cons .bool (.cons (.int .i64) (.cons (.int .i64) (.cons .str (.cons .bool (.sl (.cons (.int .i64) (.int .i64))))))))))))))]⟩, ⟨[.one (.int .i64), .one (.int .i64), .one .bool], [.boxr (.cons .str (.cons (.int .i64) (.cons (.int .i64) (.sl (.cons .str (.cons (.sl (.cons (.int .i64) (.cons (.int .i64) (.cons .str (.cons .bool (.sl (.cons (.int .i64) (.int .i64)))))))) (.cons .bool (.cons (.int .i64) (.cons (.int .i64) (.cons .str (.cons .bool (.sl (.cons (.int .i64) (.int .i64))))))))))))))]⟩, [(3, declcheck_firstC_F3), (9, declcheck_firstC_F9)]⟩
def declcheck_firstC_l3 (t11 : Int) (t12 : Int) (h0 : TDecl) (h1 : TDecl) : (Option ((Int × Int × Bool × Unit) × (TDecl × Unit))) := declcheck_firstC_D.lab 3 declcheck_firstC_F3 (((), (), t11, t12, ()), (h0, h1, ()))
def declcheck_firstC_l9 (i : Int) (x0 : Int) (t11 : Int) (t12 : Int) (h0 : TDecl) (h1 : TDecl) : (Option ((Int × Int × Bool × Unit) × (TDecl × Unit))) := declcheck_firstC_D.lab 9 declcheck_firstC_F9 (((), (), i, x0, t11, t12, ()), (h0, h1, ()))
theorem declcheck_firstC_l3_eq (t11 : Int) (t12 : Int) (h0 : TDecl) (h1 : TDecl) : declcheck_firstC_l3 t11 t12 h0 h1 =
  if (decide (t12 < t11)) = true then
    declcheck_firstC_l9 t12 0 t11 t12 h0 h1
  else
    some ((0, 0, false, ()), (h0, ())) := (FD.lab_eq _ _ _ _).trans (by kernel_rfl)
theorem declcheck_firstC_l9_eq (i : Int) (x0 : Int) (t11 : Int) (t12 : Int) (h0 : TDecl) (h1 : TDecl) : declcheck_firstC_l9 i x0 t11 t12 h0 h1 =
  (declcheck_top h1).bind fun y1 =>
    if (decide (x0 ≤ y1.1.1)) = true then
      (declcheck_Cycle_1 i x0 h0).bind fun y2 =>
        if y2.1.1 = true then
          some ((i, x0, true, ()), (y2.2.1, ()))
        else
          declcheck_firstC_l9 i (IntKind.i64.wrap (x0 + 1)) t11 t12 y2.2.1 h1
    else
      declcheck_firstC_l3 t11 (IntKind.i64.wrap (t12 + 1)) h0 h1 := (FD.lab_eq _ _ _ _).trans (by kernel_rfl)
def declcheck_firstC (d : TDecl) (h0 : TDecl) : (Option ((Int × Int × Bool × Unit) × (TDecl × Unit))) :=
  declcheck_firstC_l3 (d.2.2.2.length : Int) 0 h0 d
def fc54C : FC := ⟨⟨[.row (.cons .str (.cons (.int .i64) (.cons (.int .i64) (.sl (.cons .str (.cons (.sl (.cons (.int .i64) (.cons (.int .i64) (.cons .str (.cons .bool (.sl (.cons (.int .i64) (.int .i64)))))))) (.cons .bool (.cons (.int .i64) (.cons (.int .i64) (.cons .str (.cons .bool (.sl (.cons (.int .i64) (.int .i64)))))))))))))), .one (.fn 56 [0])], [.boxr (.cons .str (.cons (.int .i64) (.cons (.int .i64) (.sl (.cons .str (.cons (.sl (.cons (.int .i64) (.cons (.int .i64) (.cons .str (.cons .bool (.sl (.cons (.int .i64) (.int .i64)))))))) (.cons .bool (.cons (.int .i64) (.cons (.int .i64) (.cons .str (.cons .bool (.sl (.cons (.int .i64) (.int .i64))))))))))))))]⟩, ⟨[.one (.int .i64), .one (.int .i64), .one .bool], [.boxr (.cons .str (.cons (.int .i64) (.cons (.int .i64) (.sl (.cons .str (.cons (.sl (.cons (.int .i64) (.cons (.int .i64) (.cons .str (.cons .bool (.sl (.cons (.int .i64) (.int .i64)))))))) (.cons .bool (.cons (.int .i64) (.cons (.int .i64) (.cons .str (.cons .bool (.sl (.cons (.int .i64) (.int .i64))))))))))))))]⟩, fun x => declcheck_firstC x.1.1 x.2.1⟩
theorem con54C : Contract Try.prog 54 fc54C :=
  declcheck_firstC_D.contract tok (cok_of (l := [(51, fc51), (56, fc56)]) ⟨con51, con56, trivial⟩) mixed (fn' := Try.f54) (by kernel_rfl) (by kernel_rfl) rfl (by kernel_rfl) (fun x => (FD.fn_eq _ _).trans (by kernel_rfl))
end
end Go.Proofs.Ytgjimkgehbppbaa
end

section
/-
Ytgjimkgehbppbaa: signalbench.declcheck.Missing$1, as one plain function, its equations, its contract. No condition.
-/
set_option maxRecDepth 100000
set_option linter.unusedVariables false
set_option maxHeartbeats 4000000
open Go Go.AM
namespace Go.Proofs.Ytgjimkgehbppbaa
noncomputable section
def declcheck_Missing_1_D : FD := ⟨T, lookC [(27, fc27)], [], (Try.f55.body.getD .skip), Try.f55.results.toList, ⟨[.one (.int .i64), .one (.int .i64), .one (.ptr 0 0)], [.boxr (.cons .str (.cons (.int .i64) (.cons (.int .i64) (.sl (.cons .str (.cons (.sl (.cons (.int .i64) (.cons (.int .i64) (.cons .str (.cons .bool (.sl (.cons (.int .i64) (.int .i64)))))))) (.cons .bool (.cons (.int .i64) (.cons (.int .i64) (.cons .str (.cons .bool (.sl (.cons (.int .i64) (.int .i64))))))))))))))]⟩, ⟨[.one .bool], [.boxr (.cons .str (.cons (.int .i64) (.cons (.int .i64) (.sl (.cons .str (.cons (.sl (.cons (.int .i64) (.cons (.int .i64) (.cons .str (.cons .bool (.sl (.cons (.int .i64) (.int .i64)))))))) (.cons .bool (.cons (.int .i64) (.cons (.int .i64) (.cons .str (.cons .bool (.sl (.cons (.int .i64) (.int .i64))))))))))))))]⟩, []⟩
def declcheck_Missing_1 (state : Int) (symbol : Int) (h0 : TDecl) : (Option ((Bool × Unit) × (TDecl × Unit))) :=
  (decl_Match h0 state symbol).bind fun y1 =>
    some ((!y1.1.2.1, ()), (h0, ()))
def fc55 : FC := ⟨⟨[.one (.int .i64), .one (.int .i64), .one (.ptr 0 0)], [.boxr (.cons .str (.cons (.int .i64) (.cons (.int .i64) (.sl (.cons .str (.cons (.sl (.cons (.int .i64) (.cons (.int .i64) (.cons .str (.cons .bool (.sl (.cons (.int .i64) (.int .i64)))))))) (.cons .bool (.cons (.int .i64) (.cons (.int .i64) (.cons .str (.cons .bool (.sl (.cons (.int .i64) (.int .i64))))))))))))))]⟩, ⟨[.one .bool], [.boxr (.cons .str (.cons (.int .i64) (.cons (.int .i64) (.sl (.cons .str (.cons (.sl (.cons (.int .i64) (.cons (.int .i64) (.cons .str (.cons .bool (.sl (.cons (.int .i64) (.int .i64)))))))) (.cons .bool (.cons (.int .i64) (.cons (.int .i64) (.cons .str (.cons .bool (.sl (.cons (.int .i64) (.int .i64))))))))))))))]⟩, fun x => declcheck_Missing_1 x.1.1 x.1.2.1 x.2.1⟩
theorem con55 : Contract Try.prog 55 fc55 :=
  declcheck_Missing_1_D.contract tok (cok_of (l := [(27, fc27)]) ⟨con27, trivial⟩) mixed (fn' := Try.f55) (by kernel_rfl) (by kernel_rfl) rfl (by kernel_rfl) (fun x => (FD.fn_eq _ _).trans (by kernel_rfl))
end
end Go.Proofs.Ytgjimkgehbppbaa
end

section
/-
Ytgjimkgehbppbaa: signalbench.declcheck.first, as one plain function, its equations, its contract. No condition.
-/
set_option maxRecDepth 100000
set_option linter.unusedVariables false
set_option maxHeartbeats 4000000
open Go Go.AM
namespace Go.Proofs.Ytgjimkgehbppbaa
noncomputable section
def declcheck_firstM_F3 : FSh := ⟨[(1, .one (.fn 55 [0])), (2, .one (.ptr 1 0)), (11, .one (.int .i64)), (12, .one (.int .i64))], [.boxr (.cons .str (.cons (.int .i64) (.cons (.int .i64) (.sl (.cons .str (.cons (.sl (.cons (.int .i64) (.cons (.int .i64) (.cons .str (.cons .bool (.sl (.cons (.int .i64) (.int .i64)))))))) (.cons .bool (.cons (.int .i64) (.cons (.int .i64) (.cons .str (.cons .bool (.sl (.cons (.int .i64) (.int .i64)))))))))))))), .boxr (.cons .str (.cons (.int .i64) (.cons (.int .i64) (.sl (.cons .str (.cons (.sl (.cons (.int .i64) (.cons (.int .i64) (.cons .str (.cons .bool (.sl (.cons (.int .i64) (.int .i64)))))))) (.cons .bool (.cons (.int .i64) (.cons (.int .i64) (.cons .str (.cons .bool (.sl (.cons (.int .i64) (.int .i64))))))))))))))]⟩
def declcheck_firstM_F9 : FSh := ⟨[(1, .one (.fn 55 [0])), (2, .one (.ptr 1 0)), (7, .one (.int .i64)), (8, .one (.int .i64)), (11, .one (.int .i64)), (12, .one (.int .i64))], [.boxr (.cons .str (.cons (.int .i64) (.cons (.int .i64) (.sl (.cons .str (.cons (.sl (.cons (.int .i64) (.cons (.int .i64) (.cons .str (.cons .bool (.sl (.cons (.int .i64) (.int .i64)))))))) (.cons .bool (.cons (.int .i64) (.cons (.int .i64) (.cons .str (.cons .bool (.sl (.cons (.int .i64) (.int .i64)))))))))))))), .boxr (.cons .str (.cons (.int .i64) (.cons (.int .i64) (.sl (.cons .str (.cons (.sl (.cons (.int .i64) (.cons (.int .i64) (.cons .str (.cons .bool (.sl (.cons (.int .i64) (.int .i64)))))))) (.cons .bool (.cons (.int .i64) (.cons (.int .i64) (.cons .str (.cons .bool (.sl (.cons (.int .i64) (.int .i64))))))))))))))]⟩
def declcheck_firstM_D : FD := ⟨T, lookC [(51, fc51), (55, fc55)], [], (Try.f54.body.getD .skip), Try.f54.results.toList, ⟨[.row (.cons .str (.cons (.int .i64) (.cons (.int .i64) (.sl (.cons .str (.cons (.sl (.cons (.int .i64) (.cons (.int .i64) (.cons .str (.cons .bool (.sl (.cons (.int .i64) (.int .i64)))))))) (.cons .bool (.cons (.int .i64) (.cons (.int .i64) (.cons .str (.cons .bool (.sl (.cons (.int .i64) (.int .i64)))))))))))))), .one (.fn 55 [0])], [.boxr (.cons .str (.cons (.int .i64) (.cons (.int .i64) (.sl (.cons .str (.cons (.sl (.cons (.int .i64) (.cons (.int .i64) (.cons .str (.cons .bool (.sl (.cons (.int .i64) (.int .i64)))))))) (.cons .bool (.cons (.int .i64) (.cons (.int .i64) (.cons .str (.cons .bool (.sl (.cons (.int .i64) (.int .i64))))))))))))))]⟩, ⟨[.one (.int .i64), .one (.int .i64), .one .bool], [.boxr (.cons .str (.cons (.int .i64) (.cons (.int .i64) (.sl (.cons .str (.cons (.sl (.cons (.int .i64) (.cons (.int .i64) (.cons .str (.cons .bool (.sl (.cons (.int .i64) (.int .i64)))))))) (.cons .bool (.cons (.int .i64) (.cons (.int .i64) (.cons .str (.cons .bool (.sl (.cons (.int .i64) (.int .i64))))))))))))))]⟩, [(3, declcheck_firstM_F3), (9, declcheck_firstM_F9)]⟩
def declcheck_firstM_l3 (t11 : Int) (t12 : Int) (h0 : TDecl) (h1 : TDecl) : (Option ((Int × Int × Bool × Unit) × (TDecl × Unit))) := declcheck_firstM_D.lab 3 declcheck_firstM_F3 (((), (), t11, t12, ()), (h0, h1, ()))
def declcheck_firstM_l9 (i : Int) (x0 : Int) (t11 : Int) (t12 : Int) (h0 : TDecl) (h1 : TDecl) : (Option ((Int × Int × Bool × Unit) × (TDecl × Unit))) := declcheck_firstM_D.lab 9 declcheck_firstM_F9 (((), (), i, x0, t11, t12, ()), (h0, h1, ()))
theorem declcheck_firstM_l3_eq (t11 : Int) (t12 : Int) (h0 : TDecl) (h1 : TDecl) : declcheck_firstM_l3 t11 t12 h0 h1 =
  if (decide (t12 < t11)) = true then
    declcheck_firstM_l9 t12 0 t11 t12 h0 h1
  else
    some ((0, 0, false, ()), (h0, ())) := (FD.lab_eq _ _ _ _).trans (by kernel_rfl)
theorem declcheck_firstM_l9_eq (i : Int) (x0 : Int) (t11 : Int) (t12 : Int) (h0 : TDecl) (h1 : TDecl) : declcheck_firstM_l9 i x0 t11 t12 h0 h1 =
  (declcheck_top h1).bind fun y1 =>
    if (decide (x0 ≤ y1.1.1)) = true then
      (declcheck_Missing_1 i x0 h0).bind fun y2 =>
        if y2.1.1 = true then
          some ((i, x0, true, ()), (y2.2.1, ()))
        else
          declcheck_firstM_l9 i (IntKind.i64.wrap (x0 + 1)) t11 t12 y2.2.1 h1
    else
      declcheck_firstM_l3 t11 (IntKind.i64.wrap (t12 + 1)) h0 h1 := (FD.lab_eq _ _ _ _).trans (by kernel_rfl)
def declcheck_firstM (d : TDecl) (h0 : TDecl) : (Option ((Int × Int × Bool × Unit) × (TDecl × Unit))) :=
  declcheck_firstM_l3 (d.2.2.2.length : Int) 0 h0 d
def fc54M : FC := ⟨⟨[.row (.cons .str (.cons (.int .i64) (.cons (.int .i64) (.sl (.cons .str (.cons (.sl (.cons (.int .i64) (.cons (.int .i64) (.cons .str (.cons .bool (.sl (.cons (.int .i64) (.int .i64)))))))) (.cons .bool (.cons (.int .i64) (.cons (.int .i64) (.cons .str (.cons .bool (.sl (.cons (.int .i64) (.int .i64)))))))))))))), .one (.fn 55 [0])], [.boxr (.cons .str (.cons (.int .i64) (.cons (.int .i64) (.sl (.cons .str (.cons (.sl (.cons (.int .i64) (.cons (.int .i64) (.cons .str (.cons .bool (.sl (.cons (.int .i64) (.int .i64)))))))) (.cons .bool (.cons (.int .i64) (.cons (.int .i64) (.cons .str (.cons .bool (.sl (.cons (.int .i64) (.int .i64))))))))))))))]⟩, ⟨[.one (.int .i64), .one (.int .i64), .one .bool], [.boxr (.cons .str (.cons (.int .i64) (.cons (.int .i64) (.sl (.cons .str (.cons (.sl (.cons (.int .i64) (.cons (.int .i64) (.cons .str (.cons .bool (.sl (.cons (.int .i64) (.int .i64)))))))) (.cons .bool (.cons (.int .i64) (.cons (.int .i64) (.cons .str (.cons .bool (.sl (.cons (.int .i64) (.int .i64))))))))))))))]⟩, fun x => declcheck_firstM x.1.1 x.2.1⟩
theorem con54M : Contract Try.prog 54 fc54M :=
  declcheck_firstM_D.contract tok (cok_of (l := [(51, fc51), (55, fc55)]) ⟨con51, con55, trivial⟩) mixed (fn' := Try.f54) (by kernel_rfl) (by kernel_rfl) rfl (by kernel_rfl) (fun x => (FD.fn_eq _ _).trans (by kernel_rfl))
end
end Go.Proofs.Ytgjimkgehbppbaa
end

section
/-
Ytgjimkgehbppbaa: signalbench.declcheck.Missing, as one plain function, its equations, its contract. No condition.
-/
set_option maxRecDepth 100000
set_option linter.unusedVariables false
set_option maxHeartbeats 4000000
open Go Go.AM
namespace Go.Proofs.Ytgjimkgehbppbaa
noncomputable section
def declcheck_Missing_D : FD := ⟨T, lookC [(54, fc54M), (54, fc54C), (55, fc55)], [], (Try.f19.body.getD .skip), Try.f19.results.toList, ⟨[.row (.cons .str (.cons (.int .i64) (.cons (.int .i64) (.sl (.cons .str (.cons (.sl (.cons (.int .i64) (.cons (.int .i64) (.cons .str (.cons .bool (.sl (.cons (.int .i64) (.int .i64)))))))) (.cons .bool (.cons (.int .i64) (.cons (.int .i64) (.cons .str (.cons .bool (.sl (.cons (.int .i64) (.int .i64))))))))))))))], []⟩, ⟨[.one (.int .i64), .one (.int .i64), .one .bool], []⟩, []⟩
def declcheck_Missing (d : TDecl) : (Option ((Int × Int × Bool × Unit) × Unit)) :=
  (declcheck_firstM d d).bind fun y1 =>
    some ((y1.1.1, y1.1.2.1, y1.1.2.2.1, ()), ())
def fc19 : FC := ⟨⟨[.row (.cons .str (.cons (.int .i64) (.cons (.int .i64) (.sl (.cons .str (.cons (.sl (.cons (.int .i64) (.cons (.int .i64) (.cons .str (.cons .bool (.sl (.cons (.int .i64) (.int .i64)))))))) (.cons .bool (.cons (.int .i64) (.cons (.int .i64) (.cons .str (.cons .bool (.sl (.cons (.int .i64) (.int .i64))))))))))))))], []⟩, ⟨[.one (.int .i64), .one (.int .i64), .one .bool], []⟩, fun x => declcheck_Missing x.1.1⟩
theorem con19 : Contract Try.prog 19 fc19 :=
  declcheck_Missing_D.contract tok (cok_of (l := [(54, fc54M), (54, fc54C), (55, fc55)]) ⟨con54M, con54C, con55, trivial⟩) mixed (fn' := Try.f19) (by kernel_rfl) (by kernel_rfl) rfl (by kernel_rfl) (fun x => (FD.fn_eq _ _).trans (by kernel_rfl))
end
end Go.Proofs.Ytgjimkgehbppbaa
end

section
/-
Ytgjimkgehbppbaa: signalbench.signalbenchref35.Missing, as one plain function, its equations, its contract. No condition.
-/
set_option maxRecDepth 100000
set_option linter.unusedVariables false
set_option maxHeartbeats 4000000
open Go Go.AM
namespace Go.Proofs.Ytgjimkgehbppbaa
noncomputable section
def ref35_Missing_F3 : FSh := ⟨[(1, .one (.ptr 0 0)), (5, .one (.int .i64))], [.boxr (.cons .str (.cons (.int .i64) (.cons (.int .i64) (.sl (.cons .str (.cons (.sl (.cons (.int .i64) (.cons (.int .i64) (.cons .str (.cons .bool (.sl (.cons (.int .i64) (.int .i64)))))))) (.cons .bool (.cons (.int .i64) (.cons (.int .i64) (.cons .str (.cons .bool (.sl (.cons (.int .i64) (.int .i64))))))))))))))]⟩
def ref35_Missing_F8 : FSh := ⟨[(1, .one (.ptr 0 0)), (5, .one (.int .i64)), (6, .one (.int .i64))], [.boxr (.cons .str (.cons (.int .i64) (.cons (.int .i64) (.sl (.cons .str (.cons (.sl (.cons (.int .i64) (.cons (.int .i64) (.cons .str (.cons .bool (.sl (.cons (.int .i64) (.int .i64)))))))) (.cons .bool (.cons (.int .i64) (.cons (.int .i64) (.cons .str (.cons .bool (.sl (.cons (.int .i64) (.int .i64))))))))))))))]⟩
def ref35_Missing_D : FD := ⟨T, lookC [(41, fc41), (52, fc52)], [], (Try.f20.body.getD .skip), Try.f20.results.toList, ⟨[.row (.cons .str (.cons (.int .i64) (.cons (.int .i64) (.sl (.cons .str (.cons (.sl (.cons (.int .i64) (.cons (.int .i64) (.cons .str (.cons .bool (.sl (.cons (.int .i64) (.int .i64)))))))) (.cons .bool (.cons (.int .i64) (.cons (.int .i64) (.cons .str (.cons .bool (.sl (.cons (.int .i64) (.int .i64))))))))))))))], []⟩, ⟨[.one (.int .i64), .one (.int .i64), .one .bool], []⟩, [(3, ref35_Missing_F3), (8, ref35_Missing_F8)]⟩
def ref35_Missing_l3 (state : Int) (h0 : TDecl) : (Option ((Int × Int × Bool × Unit) × Unit)) := ref35_Missing_D.lab 3 ref35_Missing_F3 (((), state, ()), (h0, ()))
def ref35_Missing_l8 (state : Int) (symbol : Int) (h0 : TDecl) : (Option ((Int × Int × Bool × Unit) × Unit)) := ref35_Missing_D.lab 8 ref35_Missing_F8 (((), state, symbol, ()), (h0, ()))
theorem ref35_Missing_l3_eq (state : Int) (h0 : TDecl) : ref35_Missing_l3 state h0 =
  if (decide (state < (h0.2.2.2.length : Int))) = true then
    ref35_Missing_l8 state 0 h0
  else
    some ((0, 0, false, ()), ()) := (FD.lab_eq _ _ _ _).trans (by kernel_rfl)
theorem ref35_Missing_l8_eq (state : Int) (symbol : Int) (h0 : TDecl) : ref35_Missing_l8 state symbol h0 =
  (ref35_Most h0).bind fun y1 =>
    if (decide (symbol ≤ y1.1.1)) = true then
      (ref34_Match h0 state symbol).bind fun y2 =>
        if (!y2.1.2.1) = true then
          some ((state, symbol, true, ()), ())
        else
          ref35_Missing_l8 state (IntKind.i64.wrap (symbol + 1)) h0
    else
      ref35_Missing_l3 (IntKind.i64.wrap (state + 1)) h0 := (FD.lab_eq _ _ _ _).trans (by kernel_rfl)
def ref35_Missing (d : TDecl) : (Option ((Int × Int × Bool × Unit) × Unit)) :=
  ref35_Missing_l3 0 d
def fc20 : FC := ⟨⟨[.row (.cons .str (.cons (.int .i64) (.cons (.int .i64) (.sl (.cons .str (.cons (.sl (.cons (.int .i64) (.cons (.int .i64) (.cons .str (.cons .bool (.sl (.cons (.int .i64) (.int .i64)))))))) (.cons .bool (.cons (.int .i64) (.cons (.int .i64) (.cons .str (.cons .bool (.sl (.cons (.int .i64) (.int .i64))))))))))))))], []⟩, ⟨[.one (.int .i64), .one (.int .i64), .one .bool], []⟩, fun x => ref35_Missing x.1.1⟩
theorem con20 : Contract Try.prog 20 fc20 :=
  ref35_Missing_D.contract tok (cok_of (l := [(41, fc41), (52, fc52)]) ⟨con41, con52, trivial⟩) mixed (fn' := Try.f20) (by kernel_rfl) (by kernel_rfl) rfl (by kernel_rfl) (fun x => (FD.fn_eq _ _).trans (by kernel_rfl))
end
end Go.Proofs.Ytgjimkgehbppbaa
end

section
/-
Ytgjimkgehbppbaa: signalbench.declcheck.Cycle, as one plain function, its equations, its contract. No condition.
-/
set_option maxRecDepth 100000
set_option linter.unusedVariables false
set_option maxHeartbeats 4000000
open Go Go.AM
namespace Go.Proofs.Ytgjimkgehbppbaa
noncomputable section
def declcheck_Cycle_D : FD := ⟨T, lookC [(54, fc54M), (54, fc54C), (56, fc56)], [], (Try.f21.body.getD .skip), Try.f21.results.toList, ⟨[.row (.cons .str (.cons (.int .i64) (.cons (.int .i64) (.sl (.cons .str (.cons (.sl (.cons (.int .i64) (.cons (.int .i64) (.cons .str (.cons .bool (.sl (.cons (.int .i64) (.int .i64)))))))) (.cons .bool (.cons (.int .i64) (.cons (.int .i64) (.cons .str (.cons .bool (.sl (.cons (.int .i64) (.int .i64))))))))))))))], []⟩, ⟨[.one (.int .i64), .one (.int .i64), .one .bool], []⟩, []⟩
def declcheck_Cycle (d : TDecl) : (Option ((Int × Int × Bool × Unit) × Unit)) :=
  (declcheck_firstC d d).bind fun y1 =>
    some ((y1.1.1, y1.1.2.1, y1.1.2.2.1, ()), ())
def fc21 : FC := ⟨⟨[.row (.cons .str (.cons (.int .i64) (.cons (.int .i64) (.sl (.cons .str (.cons (.sl (.cons (.int .i64) (.cons (.int .i64) (.cons .str (.cons .bool (.sl (.cons (.int .i64) (.int .i64)))))))) (.cons .bool (.cons (.int .i64) (.cons (.int .i64) (.cons .str (.cons .bool (.sl (.cons (.int .i64) (.int .i64))))))))))))))], []⟩, ⟨[.one (.int .i64), .one (.int .i64), .one .bool], []⟩, fun x => declcheck_Cycle x.1.1⟩
theorem con21 : Contract Try.prog 21 fc21 :=
  declcheck_Cycle_D.contract tok (cok_of (l := [(54, fc54M), (54, fc54C), (56, fc56)]) ⟨con54M, con54C, con56, trivial⟩) mixed (fn' := Try.f21) (by kernel_rfl) (by kernel_rfl) rfl (by kernel_rfl) (fun x => (FD.fn_eq _ _).trans (by kernel_rfl))
end
end Go.Proofs.Ytgjimkgehbppbaa
end

section
/-
Ytgjimkgehbppbaa: signalbench.signalbenchref35.Steps, as one plain function, its equations, its contract. No condition.
-/
set_option maxRecDepth 100000
set_option linter.unusedVariables false
set_option maxHeartbeats 4000000
open Go Go.AM
namespace Go.Proofs.Ytgjimkgehbppbaa
noncomputable section
def ref35_Steps_F4 : FSh := ⟨[(2, .one (.int .i64)), (3, .one (.ptr 0 0)), (7, .one (.int .i64)), (8, .one (.int .i64))], [.boxr (.cons .str (.cons (.int .i64) (.cons (.int .i64) (.sl (.cons .str (.cons (.sl (.cons (.int .i64) (.cons (.int .i64) (.cons .str (.cons .bool (.sl (.cons (.int .i64) (.int .i64)))))))) (.cons .bool (.cons (.int .i64) (.cons (.int .i64) (.cons .str (.cons .bool (.sl (.cons (.int .i64) (.int .i64))))))))))))))]⟩
def ref35_Steps_D : FD := ⟨T, lookC [(41, fc41), (42, fc42)], [], (Try.f58.body.getD .skip), Try.f58.results.toList, ⟨[.row (.cons .str (.cons (.int .i64) (.cons (.int .i64) (.sl (.cons .str (.cons (.sl (.cons (.int .i64) (.cons (.int .i64) (.cons .str (.cons .bool (.sl (.cons (.int .i64) (.int .i64)))))))) (.cons .bool (.cons (.int .i64) (.cons (.int .i64) (.cons .str (.cons .bool (.sl (.cons (.int .i64) (.int .i64)))))))))))))), .one (.int .i64), .one (.int .i64)], []⟩, ⟨[.one (.int .i64)], []⟩, [(4, ref35_Steps_F4)]⟩
def ref35_Steps_l4 (symbol : Int) (at_ : Int) (n : Int) (h0 : TDecl) : (Option ((Int × Unit) × Unit)) := ref35_Steps_D.lab 4 ref35_Steps_F4 ((symbol, (), at_, n, ()), (h0, ()))
theorem ref35_Steps_l4_eq (symbol : Int) (at_ : Int) (n : Int) (h0 : TDecl) : ref35_Steps_l4 symbol at_ n h0 =
  if (decide (n ≤ (h0.2.2.2.length : Int))) = true then
    (ref34_Match h0 at_ symbol).bind fun y1 =>
      if (!y1.1.2.1) = true then
        some ((n, ()), ())
      else
        if (!y1.1.1.2.2.2.1) = true then
          some ((IntKind.i64.wrap (n + 1), ()), ())
        else
          (ref34_Find h0 y1.1.1.2.2.1).bind fun y2 =>
            if (decide (y2.1.1 < 0)) = true then
              some ((IntKind.i64.wrap (n + 1), ()), ())
            else
              ref35_Steps_l4 symbol y2.1.1 (IntKind.i64.wrap (n + 1)) h0
  else
    some (((-1), ()), ()) := (FD.lab_eq _ _ _ _).trans (by kernel_rfl)
def ref35_Steps (d : TDecl) (state : Int) (symbol : Int) : (Option ((Int × Unit) × Unit)) :=
  ref35_Steps_l4 symbol state 0 d
def fc58 : FC := ⟨⟨[.row (.cons .str (.cons (.int .i64) (.cons (.int .i64) (.sl (.cons .str (.cons (.sl (.cons (.int .i64) (.cons (.int .i64) (.cons .str (.cons .bool (.sl (.cons (.int .i64) (.int .i64)))))))) (.cons .bool (.cons (.int .i64) (.cons (.int .i64) (.cons .str (.cons .bool (.sl (.cons (.int .i64) (.int .i64)))))))))))))), .one (.int .i64), .one (.int .i64)], []⟩, ⟨[.one (.int .i64)], []⟩, fun x => ref35_Steps x.1.1 x.1.2.1 x.1.2.2.1⟩
theorem con58 : Contract Try.prog 58 fc58 :=
  ref35_Steps_D.contract tok (cok_of (l := [(41, fc41), (42, fc42)]) ⟨con41, con42, trivial⟩) mixed (fn' := Try.f58) (by kernel_rfl) (by kernel_rfl) rfl (by kernel_rfl) (fun x => (FD.fn_eq _ _).trans (by kernel_rfl))
end
end Go.Proofs.Ytgjimkgehbppbaa
end

section
/-
Ytgjimkgehbppbaa: signalbench.signalbenchref35.Cycle, as one plain function, its equations, its contract. No condition.
-/
set_option maxRecDepth 100000
set_option linter.unusedVariables false
set_option maxHeartbeats 4000000
open Go Go.AM
namespace Go.Proofs.Ytgjimkgehbppbaa
noncomputable section
def ref35_Cycle_F3 : FSh := ⟨[(1, .one (.ptr 0 0)), (5, .one (.int .i64))], [.boxr (.cons .str (.cons (.int .i64) (.cons (.int .i64) (.sl (.cons .str (.cons (.sl (.cons (.int .i64) (.cons (.int .i64) (.cons .str (.cons .bool (.sl (.cons (.int .i64) (.int .i64)))))))) (.cons .bool (.cons (.int .i64) (.cons (.int .i64) (.cons .str (.cons .bool (.sl (.cons (.int .i64) (.int .i64))))))))))))))]⟩
def ref35_Cycle_F8 : FSh := ⟨[(1, .one (.ptr 0 0)), (5, .one (.int .i64)), (6, .one (.int .i64))], [.boxr (.cons .str (.cons (.int .i64) (.cons (.int .i64) (.sl (.cons .str (.cons (.sl (.cons (.int .i64) (.cons (.int .i64) (.cons .str (.cons .bool (.sl (.cons (.int .i64) (.int .i64)))))))) (.cons .bool (.cons (.int .i64) (.cons (.int .i64) (.cons .str (.cons .bool (.sl (.cons (.int .i64) (.int .i64))))))))))))))]⟩
def ref35_Cycle_D : FD := ⟨T, lookC [(52, fc52), (58, fc58)], [], (Try.f22.body.getD .skip), Try.f22.results.toList, ⟨[.row (.cons .str (.cons (.int .i64) (.cons (.int .i64) (.sl (.cons .str (.cons (.sl (.cons (.int .i64) (.cons (.int .i64) (.cons .str (.cons .bool (.sl (.cons (.int .i64) (.int .i64)))))))) (.cons .bool (.cons (.int .i64) (.cons (.int .i64) (.cons .str (.cons .bool (.sl (.cons (.int .i64) (.int .i64))))))))))))))], []⟩, ⟨[.one (.int .i64), .one (.int .i64), .one .bool], []⟩, [(3, ref35_Cycle_F3), (8, ref35_Cycle_F8)]⟩
def ref35_Cycle_l3 (state : Int) (h0 : TDecl) : (Option ((Int × Int × Bool × Unit) × Unit)) := ref35_Cycle_D.lab 3 ref35_Cycle_F3 (((), state, ()), (h0, ()))
def ref35_Cycle_l8 (state : Int) (symbol : Int) (h0 : TDecl) : (Option ((Int × Int × Bool × Unit) × Unit)) := ref35_Cycle_D.lab 8 ref35_Cycle_F8 (((), state, symbol, ()), (h0, ()))
theorem ref35_Cycle_l3_eq (state : Int) (h0 : TDecl) : ref35_Cycle_l3 state h0 =
  if (decide (state < (h0.2.2.2.length : Int))) = true then
    ref35_Cycle_l8 state 0 h0
  else
    some ((0, 0, false, ()), ()) := (FD.lab_eq _ _ _ _).trans (by kernel_rfl)
theorem ref35_Cycle_l8_eq (state : Int) (symbol : Int) (h0 : TDecl) : ref35_Cycle_l8 state symbol h0 =
  (ref35_Most h0).bind fun y1 =>
    if (decide (symbol ≤ y1.1.1)) = true then
      (ref35_Steps h0 state symbol).bind fun y2 =>
        if (decide (y2.1.1 < 0)) = true then
          some ((state, symbol, true, ()), ())
        else
          ref35_Cycle_l8 state (IntKind.i64.wrap (symbol + 1)) h0
    else
      ref35_Cycle_l3 (IntKind.i64.wrap (state + 1)) h0 := (FD.lab_eq _ _ _ _).trans (by kernel_rfl)
def ref35_Cycle (d : TDecl) : (Option ((Int × Int × Bool × Unit) × Unit)) :=
  ref35_Cycle_l3 0 d
def fc22 : FC := ⟨⟨[.row (.cons .str (.cons (.int .i64) (.cons (.int .i64) (.sl (.cons .str (.cons (.sl (.cons (.int .i64) (.cons (.int .i64) (.cons .str (.cons .bool (.sl (.cons (.int .i64) (.int .i64)))))))) (.cons .bool (.cons (.int .i64) (.cons (.int .i64) (.cons .str (.cons .bool (.sl (.cons (.int .i64) (.int .i64))))))))))))))], []⟩, ⟨[.one (.int .i64), .one (.int .i64), .one .bool], []⟩, fun x => ref35_Cycle x.1.1⟩
theorem con22 : Contract Try.prog 22 fc22 :=
  ref35_Cycle_D.contract tok (cok_of (l := [(52, fc52), (58, fc58)]) ⟨con52, con58, trivial⟩) mixed (fn' := Try.f22) (by kernel_rfl) (by kernel_rfl) rfl (by kernel_rfl) (fun x => (FD.fn_eq _ _).trans (by kernel_rfl))
end
end Go.Proofs.Ytgjimkgehbppbaa
end

section
/-
Ytgjimkgehbppbaa: the first ambiguous, missing, endless symbols. No condition.
-/
set_option maxRecDepth 100000
open Go Go.AM
namespace Go.Proofs.Ytgjimkgehbppbaa

theorem top_eq (d : TDecl) : declcheck_top d = some (((topV d : Int), ()), ()) := by
  unfold declcheck_top topV
  by_cases h : d.2.1 = 2
  · rw [if_pos (eT h), if_pos h]; rfl
  · rw [if_neg (eF h), if_neg h]; rfl
theorem rtop_eq (d : TDecl) : ref35_Most d = some (((topV d : Int), ()), ()) := by
  unfold ref35_Most topV
  by_cases h : d.2.1 = 2
  · rw [if_pos (eT h), if_pos h]; rfl
  · rw [if_neg (eF h), if_neg h]; rfl
theorem topV_le (d : DeclT) : topV d ≤ 255 := by unfold topV; split <;> omega

theorem amb_loop (d : TDecl) (i : Nat) (x : Nat) (s : TDeclState) (hl : s.2.1.length ≤ 1048576) : ∀ (rs : List TRule) (k : Nat) (seen : Bool), s.2.1.drop k = rs →
    declcheck_Ambiguous_l16 0 0 false i x seen d.2.2.2 (d.2.2.2.length : Int) i s.2.1 (s.2.1.length : Int) k d s =
      if 1 < rs.countP (hitB x) + seen.toNat then some (((i : Int), (x : Int), true, ()), ()) else declcheck_Ambiguous_l10 0 0 false i (IntKind.i64.wrap ((x : Int) + 1)) d.2.2.2 (d.2.2.2.length : Int) i d s := by
  intro rs
  induction rs with
  | nil =>
    intro k seen hk
    have := drop_nil hk
    rw [declcheck_Ambiguous_l16_eq, if_neg (dF (by omega)), if_neg (by cases seen <;> simp)]
  | cons r rs ih =>
    intro k seen hk
    have h1 := drop_lt hk
    have hr : s.2.1.getD (k : Int).toNat dRule = r := getD_drop hk
    rw [declcheck_Ambiguous_l16_eq, if_pos (dT (by omega)), if_pos ⟨by omega, by omega⟩, hr, w64a k (by omega), ih (k + 1) seen (dropS hk), ih (k + 1) true (dropS hk), List.countP_cons]
    by_cases ha : (x : Int) < r.1
    · rw [if_pos (dT ha), show hitB x r = false from Bool.eq_false_iff.2 fun q => by have := (hit_iff.1 q).1; omega]
      simp
    · rw [if_neg (dF ha)]
      by_cases hb : (x : Int) > r.2.1
      · rw [if_pos (dT hb), show hitB x r = false from Bool.eq_false_iff.2 fun q => by have := (hit_iff.1 q).2; omega]
        simp
      · rw [if_neg (dF hb), hit_iff.2 ⟨by omega, by omega⟩]
        cases seen with
        | true => rw [if_pos rfl, if_pos (by simp)]
        | false => rw [if_neg (by simp)]; simp

theorem amb_eq (d : TDecl) (h : okDecl d) : declcheck_Ambiguous d = resV (firstV d.2.2.2.length (topV d) (ambP d.2.2.2)) := by
  unfold declcheck_Ambiguous
  have htop := topV_le d
  have hd := h.1
  refine first_loop _ _ _ (fun i => declcheck_Ambiguous_l4 0 0 false d.2.2.2 (d.2.2.2.length : Int) i d)
    (fun i x => declcheck_Ambiguous_l10 0 0 false i x d.2.2.2 (d.2.2.2.length : Int) i d (d.2.2.2.getD i dDeclState)) _ (fun i hi => ?_) ?_ (fun i x hi hx => ?_) (fun i hi => ?_)
  · show declcheck_Ambiguous_l4 0 0 false d.2.2.2 (d.2.2.2.length : Int) i d = _
    rw [declcheck_Ambiguous_l4_eq, if_pos (dT (by omega)), if_pos ⟨by omega, by omega⟩]
    rfl
  · show declcheck_Ambiguous_l4 0 0 false d.2.2.2 (d.2.2.2.length : Int) (d.2.2.2.length : Int) d = _
    rw [declcheck_Ambiguous_l4_eq, if_neg (dF (by omega))]
    rfl
  · show declcheck_Ambiguous_l10 0 0 false i x d.2.2.2 (d.2.2.2.length : Int) i d (d.2.2.2.getD i dDeclState) = _
    obtain ⟨a, _, _⟩ := h.2 _ (List.getElem_mem hi)
    rw [declcheck_Ambiguous_l10_eq, top_eq, getD_in _ hi]
    simp only [Option.bind_some]
    have := amb_loop d i x d.2.2.2[i] a _ 0 false rfl
    rw [if_pos (dT (by omega))]
    refine this.trans ?_
    rw [w64a x (by omega)]
    unfold ambP
    rw [List.getElem?_eq_getElem hi]
    simp only [decide_eq_true_eq, Bool.toNat_false, Nat.add_zero]
    rfl
  · show declcheck_Ambiguous_l10 0 0 false i ((topV d + 1 : Nat) : Int) d.2.2.2 (d.2.2.2.length : Int) i d (d.2.2.2.getD i dDeclState) = _
    rw [declcheck_Ambiguous_l10_eq, top_eq]
    simp only [Option.bind_some]
    rw [if_neg (dF (by omega)), w64a i (by omega)]

theorem rules_loop (x : Nat) (l : List TRule) (hl : l.length ≤ 1048576) : ∀ (rs : List TRule) (k n : Nat), l.drop k = rs → n ≤ k → ref35_Rules_l5 x n l k = some ((((rs.countP (hitB x) + n : Nat) : Int), ()), ()) := by
  intro rs
  induction rs with
  | nil =>
    intro k n hk _
    have := drop_nil hk
    rw [ref35_Rules_l5_eq, if_neg (dF (by omega))]
    simp
  | cons r rs ih =>
    intro k n hk hn
    have h1 := drop_lt hk
    have hr : l.getD (k : Int).toNat dRule = r := getD_drop hk
    have hin : (0 : Int) ≤ k ∧ (k : Int) < (l.length : Int) := ⟨by omega, by omega⟩
    rw [ref35_Rules_l5_eq, if_pos (dT (by omega)), if_pos hin, hr, w64a k (by omega), w64a n (by omega), ih (k + 1) n (dropS hk) (by omega), ih (k + 1) (n + 1) (dropS hk) (by omega), List.countP_cons]
    by_cases ha : r.1 ≤ (x : Int)
    · rw [if_pos (dT ha), if_pos hin]
      by_cases hb : (x : Int) ≤ r.2.1
      · rw [if_pos (dT hb), hit_iff.2 ⟨ha, hb⟩]
        simp only [if_true]
        congr 4
        omega
      · rw [if_neg (dF hb), show hitB x r = false from Bool.eq_false_iff.2 fun q => hb (hit_iff.1 q).2]
        simp
    · rw [if_neg (dF ha), show hitB x r = false from Bool.eq_false_iff.2 fun q => ha (hit_iff.1 q).1]
      simp

theorem rules_eq (d : TDecl) (i x : Nat) (h : okDecl d) (hi : i < d.2.2.2.length) : ref35_Rules d i x = some ((((d.2.2.2[i].2.1.countP (hitB x) : Nat) : Int), ()), ()) := by
  unfold ref35_Rules
  obtain ⟨a, _, _⟩ := h.2 _ (List.getElem_mem hi)
  rw [if_pos ⟨by omega, by omega⟩]
  show ref35_Rules_l5 x 0 (d.2.2.2.getD i dDeclState).2.1 0 = _
  rw [getD_in _ hi]
  exact rules_loop x _ a _ 0 0 rfl (Nat.le_refl _)

theorem ramb_eq (d : TDecl) (h : okDecl d) : ref35_Ambiguous d = resV (firstV d.2.2.2.length (topV d) (ambP d.2.2.2)) := by
  unfold ref35_Ambiguous
  have htop := topV_le d
  have hd := h.1
  refine first_loop _ _ _ (fun i => ref35_Ambiguous_l3 i d) (fun i x => ref35_Ambiguous_l8 i x d) _ (fun i hi => ?_) ?_ (fun i x hi hx => ?_) (fun i hi => ?_)
  · show ref35_Ambiguous_l3 i d = _
    rw [ref35_Ambiguous_l3_eq, if_pos (dT (by omega))]
    rfl
  · show ref35_Ambiguous_l3 (d.2.2.2.length : Int) d = _
    rw [ref35_Ambiguous_l3_eq, if_neg (dF (by omega))]
    rfl
  · show ref35_Ambiguous_l8 i x d = _
    rw [ref35_Ambiguous_l8_eq, rtop_eq]
    simp only [Option.bind_some]
    rw [if_pos (dT (by omega)), rules_eq d i x h hi]
    simp only [Option.bind_some]
    rw [w64a x (by omega)]
    unfold ambP
    rw [List.getElem?_eq_getElem hi]
    by_cases q : 1 < d.2.2.2[i].2.1.countP (hitB x)
    · rw [if_pos (dT (by omega)), if_pos (dT q)]; rfl
    · rw [if_neg (dF (by omega)), if_neg (dF q)]
  · show ref35_Ambiguous_l8 i ((topV d + 1 : Nat) : Int) d = _
    rw [ref35_Ambiguous_l8_eq, rtop_eq]
    simp only [Option.bind_some]
    rw [if_neg (dF (by omega)), w64a i (by omega)]

/-! ### missing -/
def resD (d : TDecl) : Option (Nat × Nat) → Option ((Int × Int × Bool × Unit) × (TDecl × Unit))
  | some (i, x) => some (((i : Int), (x : Int), true, ()), (d, ()))
  | none => some ((0, 0, false, ()), (d, ()))

theorem mis_eq (d : TDecl) (h : okDecl d) : declcheck_Missing d = resV (firstV d.2.2.2.length (topV d) (misP d.2.2.2)) := by
  unfold declcheck_Missing declcheck_firstM
  have htop := topV_le d
  have hd := h.1
  have := first_loop d.2.2.2.length (topV d) (misP d.2.2.2) (fun i => declcheck_firstM_l3 (d.2.2.2.length : Int) i d d) (fun i x => declcheck_firstM_l9 i x (d.2.2.2.length : Int) i d d) (resD d) (fun i hi => ?_) ?_ (fun i x hi hx => ?_) (fun i hi => ?_)
  · refine (congrArg (fun z => Option.bind z _) this).trans ?_
    cases firstV d.2.2.2.length (topV d) (misP d.2.2.2) <;> rfl
  · show declcheck_firstM_l3 (d.2.2.2.length : Int) i d d = _
    rw [declcheck_firstM_l3_eq, if_pos (dT (by omega))]
    rfl
  · show declcheck_firstM_l3 (d.2.2.2.length : Int) (d.2.2.2.length : Int) d d = _
    rw [declcheck_firstM_l3_eq, if_neg (dF (by omega))]
    rfl
  · show declcheck_firstM_l9 i x (d.2.2.2.length : Int) i d d = _
    rw [declcheck_firstM_l9_eq, top_eq]
    simp only [Option.bind_some]
    rw [if_pos (dT (by omega)), show declcheck_Missing_1 i x d = some ((!(matchV d.2.2.2 i x).2, ()), (d, ())) from by unfold declcheck_Missing_1; rw [match_eq d i x h]; rfl]
    simp only [Option.bind_some]
    rw [w64a x (by omega)]
    rfl
  · show declcheck_firstM_l9 i ((topV d + 1 : Nat) : Int) (d.2.2.2.length : Int) i d d = _
    rw [declcheck_firstM_l9_eq, top_eq]
    simp only [Option.bind_some]
    rw [if_neg (dF (by omega)), w64a i (by omega)]

theorem rmis_eq (d : TDecl) (h : okDecl d) : ref35_Missing d = resV (firstV d.2.2.2.length (topV d) (misP d.2.2.2)) := by
  unfold ref35_Missing
  have htop := topV_le d
  have hd := h.1
  refine first_loop _ _ _ (fun i => ref35_Missing_l3 i d) (fun i x => ref35_Missing_l8 i x d) _ (fun i hi => ?_) ?_ (fun i x hi hx => ?_) (fun i hi => ?_)
  · show ref35_Missing_l3 i d = _
    rw [ref35_Missing_l3_eq, if_pos (dT (by omega))]
    rfl
  · show ref35_Missing_l3 (d.2.2.2.length : Int) d = _
    rw [ref35_Missing_l3_eq, if_neg (dF (by omega))]
    rfl
  · show ref35_Missing_l8 i x d = _
    rw [ref35_Missing_l8_eq, rtop_eq]
    simp only [Option.bind_some]
    rw [if_pos (dT (by omega)), rmatch_eq d i x h]
    simp only [Option.bind_some]
    rw [w64a x (by omega)]
    rfl
  · show ref35_Missing_l8 i ((topV d + 1 : Nat) : Int) d = _
    rw [ref35_Missing_l8_eq, rtop_eq]
    simp only [Option.bind_some]
    rw [if_neg (dF (by omega)), w64a i (by omega)]

/-! ### walks that do not end -/
theorem endless_loop (d : TDecl) (x : Int) (h : okDecl d) : ∀ (c : Nat) (V : List Bool) (s : Nat), V.length = d.2.2.2.length → falses V = c → s < d.2.2.2.length → (∀ t, V[t]? = some true → ∃ j, 1 ≤ j ∧ iter (stepV d.2.2.2 x) j t = some s) →
    declcheck_endless_l3 s x d V = some (((iter (stepV d.2.2.2 x) (c + 1) s).isSome, ()), ()) := by
  intro c
  induction c with
  | zero =>
    intro V s hl hc hs hinv
    have hv : V[s]? = some true := by
      rw [List.getElem?_eq_getElem (by omega)]
      cases e : V[s]'(by omega) with
      | true => rfl
      | false => have := falses_pos (l := V) (i := s) (by rw [List.getElem?_eq_getElem (by omega), e]); omega
    obtain ⟨j, hj, hjs⟩ := hinv s hv
    have hg : V.getD (s : Int).toNat false = true := by simp [List.getD, hv]
    rw [declcheck_endless_l3_eq, if_pos (dT (by omega)), if_pos ⟨by omega, by omega⟩, hg, if_neg (by simp), iter_cycle hj hjs]
    rw [dT (by omega)]
  | succ c ih =>
    intro V s hl hc hs hinv
    cases hv : V[s]? with
    | none => rw [List.getElem?_eq_getElem (by omega)] at hv; cases hv
    | some b =>
      have hg : V.getD (s : Int).toNat false = b := by simp [List.getD, hv]
      rw [declcheck_endless_l3_eq, if_pos (dT (by omega)), if_pos ⟨by omega, by omega⟩, hg]
      cases b with
      | true =>
        obtain ⟨j, hj, hjs⟩ := hinv s hv
        rw [if_neg (by simp), iter_cycle hj hjs, dT (by omega)]
      | false =>
        rw [if_pos (by simp), if_pos ⟨by omega, by omega⟩, match_eq d s x h]
        simp only [Option.bind_some]
        by_cases h1 : (matchV d.2.2.2 s x).2 = true
        · rw [h1, if_neg (by simp)]
          by_cases h2 : (matchV d.2.2.2 s x).1.2.2.2.1 = true
          · rw [h2, if_neg (by simp), find_eq d _ h.1]
            simp only [Option.bind_some]
            have hst : stepV d.2.2.2 x s = findN d.2.2.2 (matchV d.2.2.2 s x).1.2.2.1 := by unfold stepV; rw [if_pos h1, if_pos h2]
            cases hf : findN d.2.2.2 (matchV d.2.2.2 s x).1.2.2.1 with
            | none =>
              rw [hf] at hst
              show declcheck_endless_l3 (-1) x d _ = _
              rw [declcheck_endless_l3_eq, if_neg (dF (by omega))]
              simp [iter, hst]
            | some j =>
              rw [hf] at hst
              show declcheck_endless_l3 j x d (V.set s true) = _
              have hfs := falses_set V s hv
              rw [ih (V.set s true) j (by simpa using hl) (by omega) (findN_lt hf) (fun t ht => ?_)]
              · simp [iter, hst]
              · have one : iter (stepV d.2.2.2 x) 1 s = some j := by simp [iter, hst]
                rcases set_get ht with rfl | ht
                · exact ⟨1, Nat.le_refl _, one⟩
                · obtain ⟨q, _, hq⟩ := hinv t ht
                  exact ⟨q + 1, by omega, by rw [iter_add, hq]; exact one⟩
          · have h2' : (matchV d.2.2.2 s x).1.2.2.2.1 = false := by simpa using h2
            have hst : stepV d.2.2.2 x s = none := by unfold stepV; rw [if_pos h1, if_neg h2]
            rw [h2', if_pos (by simp)]
            simp [iter, hst]
        · have h1' : (matchV d.2.2.2 s x).2 = false := by simpa using h1
          have hst : stepV d.2.2.2 x s = none := by unfold stepV; rw [if_neg h1]
          rw [h1', if_pos (by simp)]
          simp [iter, hst]

theorem endless_eq (d : TDecl) (i : Nat) (x : Int) (h : okDecl d) (hi : i < d.2.2.2.length) : declcheck_endless d i x = some ((endlessV d.2.2.2 i x, ()), ()) := by
  unfold declcheck_endless
  have hd := h.1
  rw [if_pos ⟨.inr rfl, by omega, by omega, by omega⟩]
  rw [Int.toNat_natCast]
  exact endless_loop d x h _ _ i (by simp) (falses_rep _) hi (fun t ht => by
    rw [List.getElem?_replicate] at ht
    split at ht <;> simp at ht)

theorem steps_loop (d : TDecl) (x : Int) (h : okDecl d) : ∀ (c k s : Nat), c = d.2.2.2.length + 1 - k → k ≤ d.2.2.2.length + 1 → s < d.2.2.2.length →
    ∃ y : Int, ref35_Steps_l4 x s k d = some ((y, ()), ()) ∧ (decide (y < 0) = (iter (stepV d.2.2.2 x) c s).isSome) := by
  have hd := h.1
  intro c
  induction c with
  | zero =>
    intro k s hc hk hs
    refine ⟨-1, ?_, by simp [iter]⟩
    rw [ref35_Steps_l4_eq, if_neg (dF (by omega))]
  | succ c ih =>
    intro k s hc hk hs
    rw [ref35_Steps_l4_eq, if_pos (dT (by omega)), rmatch_eq d s x h]
    simp only [Option.bind_some]
    rw [w64a k (by omega)]
    by_cases h1 : (matchV d.2.2.2 s x).2 = true
    · rw [h1, if_neg (by simp)]
      by_cases h2 : (matchV d.2.2.2 s x).1.2.2.2.1 = true
      · rw [h2, if_neg (by simp), rfind_eq d _ h.1]
        simp only [Option.bind_some]
        have hst : stepV d.2.2.2 x s = findN d.2.2.2 (matchV d.2.2.2 s x).1.2.2.1 := by unfold stepV; rw [if_pos h1, if_pos h2]
        cases hf : findN d.2.2.2 (matchV d.2.2.2 s x).1.2.2.1 with
        | none =>
          rw [hf] at hst
          refine ⟨((k + 1 : Nat) : Int), if_pos (dT (by simp [optI])), ?_⟩
          simp [iter, hst]
          omega
        | some j =>
          rw [hf] at hst
          obtain ⟨y, h3, h4⟩ := ih (k + 1) j (by omega) (by omega) (findN_lt hf)
          refine ⟨y, ?_, ?_⟩
          · rw [if_neg (dF (by simp [optI]))]; exact h3
          · rw [h4]; simp [iter, hst]
      · have h2' : (matchV d.2.2.2 s x).1.2.2.2.1 = false := by simpa using h2
        have hst : stepV d.2.2.2 x s = none := by unfold stepV; rw [if_pos h1, if_neg h2]
        rw [h2', if_pos (by simp)]
        refine ⟨_, rfl, ?_⟩
        simp [iter, hst]
        omega
    · have h1' : (matchV d.2.2.2 s x).2 = false := by simpa using h1
      have hst : stepV d.2.2.2 x s = none := by unfold stepV; rw [if_neg h1]
      rw [h1', if_pos (by simp)]
      refine ⟨_, rfl, ?_⟩
      simp [iter, hst]

theorem cyc_eq (d : TDecl) (h : okDecl d) : declcheck_Cycle d = resV (firstV d.2.2.2.length (topV d) (cycP d.2.2.2)) := by
  unfold declcheck_Cycle declcheck_firstC
  have htop := topV_le d
  have hd := h.1
  have := first_loop d.2.2.2.length (topV d) (cycP d.2.2.2) (fun i => declcheck_firstC_l3 (d.2.2.2.length : Int) i d d) (fun i x => declcheck_firstC_l9 i x (d.2.2.2.length : Int) i d d) (resD d) (fun i hi => ?_) ?_ (fun i x hi hx => ?_) (fun i hi => ?_)
  · refine (congrArg (fun z => Option.bind z _) this).trans ?_
    cases firstV d.2.2.2.length (topV d) (cycP d.2.2.2) <;> rfl
  · show declcheck_firstC_l3 (d.2.2.2.length : Int) i d d = _
    rw [declcheck_firstC_l3_eq, if_pos (dT (by omega))]
    rfl
  · show declcheck_firstC_l3 (d.2.2.2.length : Int) (d.2.2.2.length : Int) d d = _
    rw [declcheck_firstC_l3_eq, if_neg (dF (by omega))]
    rfl
  · show declcheck_firstC_l9 i x (d.2.2.2.length : Int) i d d = _
    rw [declcheck_firstC_l9_eq, top_eq]
    simp only [Option.bind_some]
    rw [if_pos (dT (by omega)), show declcheck_Cycle_1 i x d = some ((endlessV d.2.2.2 i x, ()), (d, ())) from by unfold declcheck_Cycle_1; rw [endless_eq d i x h hi]; rfl]
    simp only [Option.bind_some]
    rw [w64a x (by omega)]
    rfl
  · show declcheck_firstC_l9 i ((topV d + 1 : Nat) : Int) (d.2.2.2.length : Int) i d d = _
    rw [declcheck_firstC_l9_eq, top_eq]
    simp only [Option.bind_some]
    rw [if_neg (dF (by omega)), w64a i (by omega)]

theorem rcyc_eq (d : TDecl) (h : okDecl d) : ref35_Cycle d = resV (firstV d.2.2.2.length (topV d) (cycP d.2.2.2)) := by
  unfold ref35_Cycle
  have htop := topV_le d
  have hd := h.1
  refine first_loop _ _ _ (fun i => ref35_Cycle_l3 i d) (fun i x => ref35_Cycle_l8 i x d) _ (fun i hi => ?_) ?_ (fun i x hi hx => ?_) (fun i hi => ?_)
  · show ref35_Cycle_l3 i d = _
    rw [ref35_Cycle_l3_eq, if_pos (dT (by omega))]
    rfl
  · show ref35_Cycle_l3 (d.2.2.2.length : Int) d = _
    rw [ref35_Cycle_l3_eq, if_neg (dF (by omega))]
    rfl
  · show ref35_Cycle_l8 i x d = _
    rw [ref35_Cycle_l8_eq, rtop_eq]
    simp only [Option.bind_some]
    obtain ⟨y, h1, h2⟩ := steps_loop d x h _ 0 i rfl (by omega) hi
    rw [if_pos (dT (by omega)), show ref35_Steps d i x = some ((y, ()), ()) from h1]
    simp only [Option.bind_some]
    rw [w64a x (by omega), h2]
    rfl
  · show ref35_Cycle_l8 i ((topV d + 1 : Nat) : Int) d = _
    rw [ref35_Cycle_l8_eq, rtop_eq]
    simp only [Option.bind_some]
    rw [if_neg (dF (by omega)), w64a i (by omega)]

end Go.Proofs.Ytgjimkgehbppbaa
end

section
/-
Ytgjimkgehbppbaa: signalbench.declcheck.Reach$1, as one plain function, its equations, its contract. No condition.
-/
set_option maxRecDepth 100000
set_option linter.unusedVariables false
set_option maxHeartbeats 4000000
open Go Go.AM
namespace Go.Proofs.Ytgjimkgehbppbaa
noncomputable section
def declcheck_Reach_1_D : FD := ⟨T, lookC [], [], (Try.f59.body.getD .skip), Try.f59.results.toList, ⟨[.one (.int .i64), .one (.ptr 0 0), .one (.ptr 1 0)], [.box [(.own 2)], .box [(.own 3)], .arr 4 .bool true, .arr 3 (.int .i64) true]⟩, ⟨[], [.box [(.own 4)], .box [(.own 5)], .dead, .dead, .arr 4 .bool true, .arr 3 (.int .i64) true]⟩, []⟩
def declcheck_Reach_1 (state : Int) (l2 : (List Bool)) (l3 : (List Int)) : (Option (Unit × ((Unit × Unit) × (Unit × Unit) × Unit × Unit × (List Bool) × (List Int) × Unit))) :=
  if (decide (state ≥ 0)) = true then
    if 0 ≤ state ∧ state < (l2.length : Int) then
      if (!(l2.getD state.toNat false)) = true then
        if 0 ≤ state ∧ state < (l2.length : Int) then
          if (l3.length + 1) * 8 ≤ 140737488355328 ∧ 0 < 8 then
            some ((), (((), ()), ((), ()), (), (), l2.set state.toNat true, l3 ++ [state], ()))
          else
            none
        else
          none
      else
        some ((), (((), ()), ((), ()), (), (), l2, l3, ()))
    else
      none
  else
    some ((), (((), ()), ((), ()), (), (), l2, l3, ()))
def fc59 : FC := ⟨⟨[.one (.int .i64), .one (.ptr 0 0), .one (.ptr 1 0)], [.box [(.own 2)], .box [(.own 3)], .arr 4 .bool true, .arr 3 (.int .i64) true]⟩, ⟨[], [.box [(.own 4)], .box [(.own 5)], .dead, .dead, .arr 4 .bool true, .arr 3 (.int .i64) true]⟩, fun x => declcheck_Reach_1 x.1.1 x.2.2.2.1 x.2.2.2.2.1⟩
theorem con59 : Contract Try.prog 59 fc59 :=
  declcheck_Reach_1_D.contract tok (cok_of (l := []) trivial) mixed (fn' := Try.f59) (by kernel_rfl) (by kernel_rfl) rfl (by kernel_rfl) (fun x => (FD.fn_eq _ _).trans (by kernel_rfl))
end
end Go.Proofs.Ytgjimkgehbppbaa
end

section
/-
Ytgjimkgehbppbaa: signalbench.declcheck.Reach, as one plain function, its equations, its contract. No condition.
-/
set_option maxRecDepth 100000
set_option linter.unusedVariables false
set_option maxHeartbeats 4000000
open Go Go.AM
namespace Go.Proofs.Ytgjimkgehbppbaa
noncomputable section
def declcheck_Reach_F4 : FSh := ⟨[(1, .one (.ptr 0 0)), (3, .one (.ptr 1 0)), (4, .one (.ptr 2 0)), (5, .one (.fn 59 [1, 2]))], [.boxr (.cons .str (.cons (.int .i64) (.cons (.int .i64) (.sl (.cons .str (.cons (.sl (.cons (.int .i64) (.cons (.int .i64) (.cons .str (.cons .bool (.sl (.cons (.int .i64) (.int .i64)))))))) (.cons .bool (.cons (.int .i64) (.cons (.int .i64) (.cons .str (.cons .bool (.sl (.cons (.int .i64) (.int .i64)))))))))))))), .box [(.own 3)], .box [(.own 4)], .arr 4 .bool true, .arr 3 (.int .i64) true]⟩
def declcheck_Reach_F7 : FSh := ⟨[(1, .one (.ptr 0 0)), (3, .one (.ptr 1 0)), (4, .one (.ptr 2 0)), (5, .one (.fn 59 [1, 2]))], [.boxr (.cons .str (.cons (.int .i64) (.cons (.int .i64) (.sl (.cons .str (.cons (.sl (.cons (.int .i64) (.cons (.int .i64) (.cons .str (.cons .bool (.sl (.cons (.int .i64) (.int .i64)))))))) (.cons .bool (.cons (.int .i64) (.cons (.int .i64) (.cons .str (.cons .bool (.sl (.cons (.int .i64) (.int .i64)))))))))))))), .box [(.own 3)], .box [(.own 4)], .arr 4 .bool true, .arr 3 (.int .i64) true]⟩
def declcheck_Reach_F14 : FSh := ⟨[(1, .one (.ptr 0 0)), (3, .one (.ptr 1 0)), (4, .one (.ptr 2 0)), (5, .one (.fn 59 [1, 2])), (6, .one (.ptr 3 0)), (32, .one (.sl (.cons (.int .i64) (.cons (.int .i64) (.cons .str (.cons .bool (.sl (.cons (.int .i64) (.int .i64))))))))), (33, .one (.int .i64)), (34, .one (.int .i64))], [.boxr (.cons .str (.cons (.int .i64) (.cons (.int .i64) (.sl (.cons .str (.cons (.sl (.cons (.int .i64) (.cons (.int .i64) (.cons .str (.cons .bool (.sl (.cons (.int .i64) (.int .i64)))))))) (.cons .bool (.cons (.int .i64) (.cons (.int .i64) (.cons .str (.cons .bool (.sl (.cons (.int .i64) (.int .i64)))))))))))))), .box [(.own 4)], .box [(.own 5)], .boxr (.cons .str (.cons (.sl (.cons (.int .i64) (.cons (.int .i64) (.cons .str (.cons .bool (.sl (.cons (.int .i64) (.int .i64)))))))) (.cons .bool (.cons (.int .i64) (.cons (.int .i64) (.cons .str (.cons .bool (.sl (.cons (.int .i64) (.int .i64)))))))))), .arr 4 .bool true, .arr 3 (.int .i64) true]⟩
def declcheck_Reach_D : FD := ⟨T, lookC [(28, fc28), (59, fc59), (1000030, fcMark)], [4], (Try.f23.body.getD .skip), Try.f23.results.toList, ⟨[.row (.cons .str (.cons (.int .i64) (.cons (.int .i64) (.sl (.cons .str (.cons (.sl (.cons (.int .i64) (.cons (.int .i64) (.cons .str (.cons .bool (.sl (.cons (.int .i64) (.int .i64)))))))) (.cons .bool (.cons (.int .i64) (.cons (.int .i64) (.cons .str (.cons .bool (.sl (.cons (.int .i64) (.int .i64))))))))))))))], []⟩, ⟨[.one (.sl .bool)], []⟩, [(4, declcheck_Reach_F4), (7, declcheck_Reach_F7), (14, declcheck_Reach_F14)]⟩
def declcheck_Reach_l4 (h0 : TDecl) (l3 : (List Bool)) (l4 : (List Int)) : (Option (((List Bool) × Unit) × Unit)) := declcheck_Reach_D.lab 4 declcheck_Reach_F4 (((), (), (), (), ()), (h0, ((), ()), ((), ()), l3, l4, ()))
def declcheck_Reach_l7 (h0 : TDecl) (l3 : (List Bool)) (l4 : (List Int)) : (Option (((List Bool) × Unit) × Unit)) := declcheck_Reach_D.lab 7 declcheck_Reach_F7 (((), (), (), (), ()), (h0, ((), ()), ((), ()), l3, l4, ()))
def declcheck_Reach_l14 (t32 : (List TRule)) (t33 : Int) (t34 : Int) (h0 : TDecl) (h3 : TDeclState) (l4 : (List Bool)) (l5 : (List Int)) : (Option (((List Bool) × Unit) × Unit)) := declcheck_Reach_D.lab 14 declcheck_Reach_F14 (((), (), (), (), (), t32, t33, t34, ()), (h0, ((), ()), ((), ()), h3, l4, l5, ()))
theorem declcheck_Reach_l4_eq (h0 : TDecl) (l3 : (List Bool)) (l4 : (List Int)) : declcheck_Reach_l4 h0 l3 l4 =
  declcheck_Reach_l7 h0 l3 l4 := (FD.lab_eq _ _ _ _).trans (by kernel_rfl)
theorem declcheck_Reach_l7_eq (h0 : TDecl) (l3 : (List Bool)) (l4 : (List Int)) : declcheck_Reach_l7 h0 l3 l4 =
  if (decide ((l4.length : Int) > 0)) = true then
    if 0 ≤ (0 : Int) ∧ 0 < (l4.length : Int) then
      if 0 ≤ l4.getD 0 0 ∧ l4.getD 0 0 < (h0.2.2.2.length : Int) then
        if 0 ≤ (1 : Int) ∧ 1 ≤ (l4.length : Int) then
          declcheck_Reach_l14 (h0.2.2.2.getD (l4.getD 0 0).toNat dDeclState).2.1 ((h0.2.2.2.getD (l4.getD 0 0).toNat dDeclState).2.1.length : Int) 0 h0 (h0.2.2.2.getD (l4.getD 0 0).toNat dDeclState) l3 (l4.drop 1)
        else
          none
      else
        none
    else
      none
  else
    some ((l3, ()), ()) := (FD.lab_eq _ _ _ _).trans (by kernel_rfl)
theorem declcheck_Reach_l14_eq (t32 : (List TRule)) (t33 : Int) (t34 : Int) (h0 : TDecl) (h3 : TDeclState) (l4 : (List Bool)) (l5 : (List Int)) : declcheck_Reach_l14 t32 t33 t34 h0 h3 l4 l5 =
  if (decide (t34 < t33)) = true then
    if 0 ≤ t34 ∧ t34 < (t32.length : Int) then
      (decl_Find h0 (t32.getD t34.toNat dRule).2.2.1).bind fun y1 =>
        (declcheck_Reach_1 y1.1.1 l4 l5).bind fun y2 =>
          declcheck_Reach_l14 t32 t33 (IntKind.i64.wrap (t34 + 1)) h0 h3 y2.2.2.2.2.2.1 y2.2.2.2.2.2.2.1
    else
      none
  else
    if h3.2.2.1 = true then
      (decl_Find h0 h3.2.2.2.2.2.1).bind fun y3 =>
        (declcheck_Reach_1 y3.1.1 l4 l5).bind fun y4 =>
          declcheck_Reach_l7 h0 y4.2.2.2.2.2.1 y4.2.2.2.2.2.2.1
    else
      declcheck_Reach_l7 h0 l4 l5 := (FD.lab_eq _ _ _ _).trans (by kernel_rfl)
def declcheck_Reach (d : TDecl) : (Option (((List Bool) × Unit) × Unit)) :=
  if ((d.2.2.2.length : Int) = 0 ∨ (d.2.2.2.length : Int) = (d.2.2.2.length : Int)) ∧ 0 ≤ (d.2.2.2.length : Int) ∧ (d.2.2.2.length : Int) * 1 ≤ 140737488355328 ∧ 0 < 1 then
    if (decide (((List.replicate (d.2.2.2.length : Int).toNat false).length : Int) > 0)) = true then
      (declcheck_Reach_1 0 (List.replicate (d.2.2.2.length : Int).toNat false) []).bind fun y1 =>
        declcheck_Reach_l4 d y1.2.2.2.2.2.1 y1.2.2.2.2.2.2.1
    else
      declcheck_Reach_l4 d (List.replicate (d.2.2.2.length : Int).toNat false) []
  else
    none
def fc23 : FC := ⟨⟨[.row (.cons .str (.cons (.int .i64) (.cons (.int .i64) (.sl (.cons .str (.cons (.sl (.cons (.int .i64) (.cons (.int .i64) (.cons .str (.cons .bool (.sl (.cons (.int .i64) (.int .i64)))))))) (.cons .bool (.cons (.int .i64) (.cons (.int .i64) (.cons .str (.cons .bool (.sl (.cons (.int .i64) (.int .i64))))))))))))))], []⟩, ⟨[.one (.sl .bool)], []⟩, fun x => declcheck_Reach x.1.1⟩
theorem con23 : Contract Try.prog 23 fc23 :=
  declcheck_Reach_D.contract tok (cok_of (l := [(28, fc28), (59, fc59), (1000030, fcMark)]) ⟨con28, con59, conMark _ _, trivial⟩) mixed (fn' := Try.f23) (by kernel_rfl) (by kernel_rfl) rfl (by kernel_rfl) (fun x => (FD.fn_eq _ _).trans (by kernel_rfl))
end
end Go.Proofs.Ytgjimkgehbppbaa
end

section
/-
Ytgjimkgehbppbaa: signalbench.signalbenchref35.mark, as one plain function, its equations, its contract. No condition.
-/
set_option maxRecDepth 100000
set_option linter.unusedVariables false
set_option maxHeartbeats 4000000
open Go Go.AM
namespace Go.Proofs.Ytgjimkgehbppbaa
noncomputable section
def ref35_mark_D : FD := ⟨T, lookC [(42, fc42)], [], (Try.f60.body.getD .skip), Try.f60.results.toList, ⟨[.row (.cons .str (.cons (.int .i64) (.cons (.int .i64) (.sl (.cons .str (.cons (.sl (.cons (.int .i64) (.cons (.int .i64) (.cons .str (.cons .bool (.sl (.cons (.int .i64) (.int .i64)))))))) (.cons .bool (.cons (.int .i64) (.cons (.int .i64) (.cons .str (.cons .bool (.sl (.cons (.int .i64) (.int .i64)))))))))))))), .one (.own 0), .row (.cons (.int .i64) (.cons (.int .i64) (.cons .str (.cons .bool (.sl (.cons (.int .i64) (.int .i64)))))))], [.arr 4 .bool true]⟩, ⟨[], [.arr 4 .bool true]⟩, []⟩
def ref35_mark (d : TDecl) (rule : TRule) (l0 : (List Bool)) : (Option (Unit × ((List Bool) × Unit))) :=
  (ref34_Find d rule.2.2.1).bind fun y1 =>
    if (decide (y1.1.1 ≥ 0)) = true then
      if 0 ≤ y1.1.1 ∧ y1.1.1 < (l0.length : Int) then
        some ((), (l0.set y1.1.1.toNat true, ()))
      else
        none
    else
      some ((), (l0, ()))
def fc60 : FC := ⟨⟨[.row (.cons .str (.cons (.int .i64) (.cons (.int .i64) (.sl (.cons .str (.cons (.sl (.cons (.int .i64) (.cons (.int .i64) (.cons .str (.cons .bool (.sl (.cons (.int .i64) (.int .i64)))))))) (.cons .bool (.cons (.int .i64) (.cons (.int .i64) (.cons .str (.cons .bool (.sl (.cons (.int .i64) (.int .i64)))))))))))))), .one (.own 0), .row (.cons (.int .i64) (.cons (.int .i64) (.cons .str (.cons .bool (.sl (.cons (.int .i64) (.int .i64)))))))], [.arr 4 .bool true]⟩, ⟨[], [.arr 4 .bool true]⟩, fun x => ref35_mark x.1.1 x.1.2.2.1 x.2.1⟩
theorem con60 : Contract Try.prog 60 fc60 :=
  ref35_mark_D.contract tok (cok_of (l := [(42, fc42)]) ⟨con42, trivial⟩) mixed (fn' := Try.f60) (by kernel_rfl) (by kernel_rfl) rfl (by kernel_rfl) (fun x => (FD.fn_eq _ _).trans (by kernel_rfl))
end
end Go.Proofs.Ytgjimkgehbppbaa
end

section
/-
Ytgjimkgehbppbaa: signalbench.signalbenchref35.Reach, as one plain function, its equations, its contract. No condition.
-/
set_option maxRecDepth 100000
set_option linter.unusedVariables false
set_option maxHeartbeats 4000000
open Go Go.AM
namespace Go.Proofs.Ytgjimkgehbppbaa
noncomputable section
def ref35_Reach_F2 : FSh := ⟨[(1, .one (.ptr 0 0)), (3, .one (.own 1))], [.boxr (.cons .str (.cons (.int .i64) (.cons (.int .i64) (.sl (.cons .str (.cons (.sl (.cons (.int .i64) (.cons (.int .i64) (.cons .str (.cons .bool (.sl (.cons (.int .i64) (.int .i64)))))))) (.cons .bool (.cons (.int .i64) (.cons (.int .i64) (.cons .str (.cons .bool (.sl (.cons (.int .i64) (.int .i64)))))))))))))), .arr 4 .bool true]⟩
def ref35_Reach_F6 : FSh := ⟨[(1, .one (.ptr 0 0)), (3, .one (.own 1)), (4, .one (.int .i64))], [.boxr (.cons .str (.cons (.int .i64) (.cons (.int .i64) (.sl (.cons .str (.cons (.sl (.cons (.int .i64) (.cons (.int .i64) (.cons .str (.cons .bool (.sl (.cons (.int .i64) (.int .i64)))))))) (.cons .bool (.cons (.int .i64) (.cons (.int .i64) (.cons .str (.cons .bool (.sl (.cons (.int .i64) (.int .i64)))))))))))))), .arr 4 .bool true]⟩
def ref35_Reach_F11 : FSh := ⟨[(1, .one (.ptr 0 0)), (3, .one (.own 1)), (4, .one (.int .i64)), (5, .one (.int .i64))], [.boxr (.cons .str (.cons (.int .i64) (.cons (.int .i64) (.sl (.cons .str (.cons (.sl (.cons (.int .i64) (.cons (.int .i64) (.cons .str (.cons .bool (.sl (.cons (.int .i64) (.int .i64)))))))) (.cons .bool (.cons (.int .i64) (.cons (.int .i64) (.cons .str (.cons .bool (.sl (.cons (.int .i64) (.int .i64)))))))))))))), .arr 4 .bool true]⟩
def ref35_Reach_F20 : FSh := ⟨[(1, .one (.ptr 0 0)), (3, .one (.own 1)), (4, .one (.int .i64)), (5, .one (.int .i64)), (6, .one (.ptr 2 0)), (7, .one (.int .i64))], [.boxr (.cons .str (.cons (.int .i64) (.cons (.int .i64) (.sl (.cons .str (.cons (.sl (.cons (.int .i64) (.cons (.int .i64) (.cons .str (.cons .bool (.sl (.cons (.int .i64) (.int .i64)))))))) (.cons .bool (.cons (.int .i64) (.cons (.int .i64) (.cons .str (.cons .bool (.sl (.cons (.int .i64) (.int .i64)))))))))))))), .arr 4 .bool true, .boxr (.cons .str (.cons (.sl (.cons (.int .i64) (.cons (.int .i64) (.cons .str (.cons .bool (.sl (.cons (.int .i64) (.int .i64)))))))) (.cons .bool (.cons (.int .i64) (.cons (.int .i64) (.cons .str (.cons .bool (.sl (.cons (.int .i64) (.int .i64))))))))))]⟩
def ref35_Reach_D : FD := ⟨T, lookC [(60, fc60)], [2], (Try.f24.body.getD .skip), Try.f24.results.toList, ⟨[.row (.cons .str (.cons (.int .i64) (.cons (.int .i64) (.sl (.cons .str (.cons (.sl (.cons (.int .i64) (.cons (.int .i64) (.cons .str (.cons .bool (.sl (.cons (.int .i64) (.int .i64)))))))) (.cons .bool (.cons (.int .i64) (.cons (.int .i64) (.cons .str (.cons .bool (.sl (.cons (.int .i64) (.int .i64))))))))))))))], []⟩, ⟨[.one (.sl .bool)], []⟩, [(2, ref35_Reach_F2), (6, ref35_Reach_F6), (11, ref35_Reach_F11), (20, ref35_Reach_F20)]⟩
def ref35_Reach_l2 (h0 : TDecl) (l1 : (List Bool)) : (Option (((List Bool) × Unit) × Unit)) := ref35_Reach_D.lab 2 ref35_Reach_F2 (((), (), ()), (h0, l1, ()))
def ref35_Reach_l6 (n : Int) (h0 : TDecl) (l1 : (List Bool)) : (Option (((List Bool) × Unit) × Unit)) := ref35_Reach_D.lab 6 ref35_Reach_F6 (((), (), n, ()), (h0, l1, ()))
def ref35_Reach_l11 (n : Int) (state : Int) (h0 : TDecl) (l1 : (List Bool)) : (Option (((List Bool) × Unit) × Unit)) := ref35_Reach_D.lab 11 ref35_Reach_F11 (((), (), n, state, ()), (h0, l1, ()))
def ref35_Reach_l20 (n : Int) (state : Int) (i : Int) (h0 : TDecl) (l1 : (List Bool)) (h2 : TDeclState) : (Option (((List Bool) × Unit) × Unit)) := ref35_Reach_D.lab 20 ref35_Reach_F20 (((), (), n, state, (), i, ()), (h0, l1, h2, ()))
theorem ref35_Reach_l2_eq (h0 : TDecl) (l1 : (List Bool)) : ref35_Reach_l2 h0 l1 =
  ref35_Reach_l6 0 h0 l1 := (FD.lab_eq _ _ _ _).trans (by kernel_rfl)
theorem ref35_Reach_l6_eq (n : Int) (h0 : TDecl) (l1 : (List Bool)) : ref35_Reach_l6 n h0 l1 =
  if (decide (n < (h0.2.2.2.length : Int))) = true then
    ref35_Reach_l11 n 0 h0 l1
  else
    some ((l1, ()), ()) := (FD.lab_eq _ _ _ _).trans (by kernel_rfl)
theorem ref35_Reach_l11_eq (n : Int) (state : Int) (h0 : TDecl) (l1 : (List Bool)) : ref35_Reach_l11 n state h0 l1 =
  if (decide (state < (h0.2.2.2.length : Int))) = true then
    if 0 ≤ state ∧ state < (l1.length : Int) then
      if (!(l1.getD state.toNat false)) = true then
        ref35_Reach_l11 n (IntKind.i64.wrap (state + 1)) h0 l1
      else
        if 0 ≤ state ∧ state < (h0.2.2.2.length : Int) then
          ref35_Reach_l20 n state 0 h0 l1 (h0.2.2.2.getD state.toNat dDeclState)
        else
          none
    else
      none
  else
    ref35_Reach_l6 (IntKind.i64.wrap (n + 1)) h0 l1 := (FD.lab_eq _ _ _ _).trans (by kernel_rfl)
theorem ref35_Reach_l20_eq (n : Int) (state : Int) (i : Int) (h0 : TDecl) (l1 : (List Bool)) (h2 : TDeclState) : ref35_Reach_l20 n state i h0 l1 h2 =
  if (decide (i < (h2.2.1.length : Int))) = true then
    if 0 ≤ i ∧ i < (h2.2.1.length : Int) then
      (ref35_mark h0 (h2.2.1.getD i.toNat dRule) l1).bind fun y1 =>
        ref35_Reach_l20 n state (IntKind.i64.wrap (i + 1)) h0 y1.2.1 h2
    else
      none
  else
    if h2.2.2.1 = true then
      (ref35_mark h0 h2.2.2.2 l1).bind fun y2 =>
        ref35_Reach_l11 n (IntKind.i64.wrap (state + 1)) h0 y2.2.1
    else
      ref35_Reach_l11 n (IntKind.i64.wrap (state + 1)) h0 l1 := (FD.lab_eq _ _ _ _).trans (by kernel_rfl)
def ref35_Reach (d : TDecl) : (Option (((List Bool) × Unit) × Unit)) :=
  if ((d.2.2.2.length : Int) = 0 ∨ (d.2.2.2.length : Int) = (d.2.2.2.length : Int)) ∧ 0 ≤ (d.2.2.2.length : Int) ∧ (d.2.2.2.length : Int) * 1 ≤ 140737488355328 ∧ 0 < 1 then
    if (decide (((List.replicate (d.2.2.2.length : Int).toNat false).length : Int) > 0)) = true then
      if 0 ≤ (0 : Int) ∧ 0 < ((List.replicate (d.2.2.2.length : Int).toNat false).length : Int) then
        ref35_Reach_l2 d ((List.replicate (d.2.2.2.length : Int).toNat false).set 0 true)
      else
        none
    else
      ref35_Reach_l2 d (List.replicate (d.2.2.2.length : Int).toNat false)
  else
    none
def fc24 : FC := ⟨⟨[.row (.cons .str (.cons (.int .i64) (.cons (.int .i64) (.sl (.cons .str (.cons (.sl (.cons (.int .i64) (.cons (.int .i64) (.cons .str (.cons .bool (.sl (.cons (.int .i64) (.int .i64)))))))) (.cons .bool (.cons (.int .i64) (.cons (.int .i64) (.cons .str (.cons .bool (.sl (.cons (.int .i64) (.int .i64))))))))))))))], []⟩, ⟨[.one (.sl .bool)], []⟩, fun x => ref35_Reach x.1.1⟩
theorem con24 : Contract Try.prog 24 fc24 :=
  ref35_Reach_D.contract tok (cok_of (l := [(60, fc60)]) ⟨con60, trivial⟩) mixed (fn' := Try.f24) (by kernel_rfl) (by kernel_rfl) rfl (by kernel_rfl) (fun x => (FD.fn_eq _ _).trans (by kernel_rfl))
end
end Go.Proofs.Ytgjimkgehbppbaa
end

section
/-
Ytgjimkgehbppbaa: the states that are reached. No condition.
-/
set_option maxRecDepth 100000
open Go Go.AM
namespace Go.Proofs.Ytgjimkgehbppbaa

theorem visit_eq (ss : List StateT) (t : Option Nat) (out : List Bool) (q : List Int) (hn : ss.length ≤ 1048576) (hq : QueueS ss out q) (ht : ∀ j, t = some j → j < ss.length ∧ ReachS ss j) :
    ∃ out' q', declcheck_Reach_1 (optI t) out q = some ((), (((), ()), ((), ()), (), (), out', q', ())) ∧ QueueS ss out' q' ∧ GrowS out q out' q' ∧ (∀ j, t = some j → out'[j]? = some true) := by
  unfold declcheck_Reach_1
  cases t with
  | none =>
    exact ⟨out, q, if_neg (dF (by simp [optI])), hq, GrowS.refl _ _, fun j h => by cases h⟩
  | some j =>
    obtain ⟨hj, hr⟩ := ht j rfl
    have hl := hq.base.len
    have hjo : j < out.length := by omega
    show ∃ out' q', (if decide ((j : Int) ≥ 0) = true then _ else _) = _ ∧ _
    rw [if_pos (dT (by omega)), if_pos ⟨by simp only [optI]; omega, by simp only [optI]; omega⟩]
    show ∃ out' q', (if (!(out.getD j false)) = true then _ else _) = _ ∧ _
    rw [getD_in _ hjo]
    cases e : out[j] with
    | true =>
      refine ⟨out, q, if_neg (by simp), hq, GrowS.refl _ _, fun k hk => ?_⟩
      cases hk
      rw [List.getElem?_eq_getElem hjo, e]
    | false =>
      have hv : out[j]? = some false := by rw [List.getElem?_eq_getElem hjo, e]
      have hf := falses_set out j hv
      have hsz := hq.len
      refine ⟨out.set j true, q ++ [(j : Int)], ?_, ⟨hq.base.set hr, fun o ho => ?_, ?_⟩, ⟨MonoS.set _ _, fun o ho => by simp [ho], fun k hk => ?_, ?_⟩, fun k hk => ?_⟩
      · rw [if_pos (by simp), if_pos ⟨by simp only [optI]; omega, by simp only [optI]; omega⟩, if_pos ⟨by omega, by omega⟩]
        rfl
      · rcases List.mem_append.1 ho with h | h
        · obtain ⟨k, h1, h2⟩ := hq.mem o h
          exact ⟨k, h1, MonoS.set _ _ k h2⟩
        · simp at h
          exact ⟨j, h, by rw [List.getElem?_set_self hjo]⟩
      · simp; omega
      · rcases set_get hk with rfl | h
        · exact .inr (by simp)
        · exact .inl h
      · simp; omega
      · cases hk
        rw [List.getElem?_set_self hjo]

/-- The targets of one state. -/
theorem pop_loop (d : TDecl) (h : okDecl d) (i : Nat) (s : TDeclState) (hs : d.2.2.2[i]? = some s) (hri : ReachS d.2.2.2 i) : ∀ (rs : List TRule) (k : Nat) (out : List Bool) (q : List Int), s.2.1.drop k = rs → QueueS d.2.2.2 out q →
    ∃ out' q', declcheck_Reach_l14 s.2.1 (s.2.1.length : Int) k d s out q = declcheck_Reach_l7 d out' q' ∧ QueueS d.2.2.2 out' q' ∧ GrowS out q out' q' ∧
      (∀ r ∈ rs, ∀ j, findN d.2.2.2 r.2.2.1 = some j → out'[j]? = some true) ∧ (s.2.2.1 = true → ∀ j, findN d.2.2.2 s.2.2.2.2.2.1 = some j → out'[j]? = some true) := by
  have hsm := List.mem_of_getElem? hs
  obtain ⟨hsl, _, _⟩ := h.2 s hsm
  intro rs
  induction rs with
  | nil =>
    intro k out q hk hq
    have := drop_nil hk
    rw [declcheck_Reach_l14_eq, if_neg (dF (by omega))]
    by_cases he : s.2.2.1 = true
    · obtain ⟨out', q', h1, h2, h3, h4⟩ := visit_eq d.2.2.2 (findN d.2.2.2 s.2.2.2.2.2.1) out q h.1 hq (fun j hj => ⟨findN_lt hj, .step hri ⟨s, hs, s.2.2.2, by simp [targets, he], hj⟩⟩)
      refine ⟨out', q', ?_, h2, h3, fun r hr => by simp at hr, fun _ => h4⟩
      rw [if_pos he, find_eq d _ h.1]
      simp only [Option.bind_some]
      rw [h1]
      rfl
    · exact ⟨out, q, by rw [if_neg he], hq, GrowS.refl _ _, fun r hr => by simp at hr, fun h => absurd h he⟩
  | cons r rs ih =>
    intro k out q hk hq
    have h1 := drop_lt hk
    have hr : s.2.1.getD (k : Int).toNat dRule = r := getD_drop hk
    obtain ⟨out1, q1, h2, h3, h4, h5⟩ := visit_eq d.2.2.2 (findN d.2.2.2 r.2.2.1) out q h.1 hq (fun j hj => ⟨findN_lt hj, .step hri ⟨s, hs, r, by simp [targets, mem_drop hk], hj⟩⟩)
    obtain ⟨out2, q2, h6, h7, h8, h9, h10⟩ := ih (k + 1) out1 q1 (dropS hk) h3
    refine ⟨out2, q2, ?_, h7, h4.trans h8, fun r' hr' j hj => ?_, h10⟩
    · rw [declcheck_Reach_l14_eq, if_pos (dT (by omega)), if_pos ⟨by omega, by omega⟩, hr, find_eq d _ h.1]
      simp only [Option.bind_some]
      rw [h2]
      simp only [Option.bind_some]
      rw [w64a k (by omega)]
      exact h6
    · rcases List.mem_cons.1 hr' with rfl | hr'
      · exact h8.mono j (h5 j hj)
      · exact h9 r' hr' j hj

theorem bfs_eq (d : TDecl) (h : okDecl d) : ∀ (c : Nat) (out : List Bool) (q : List Int), 2 * falses out + q.length ≤ c → QueueS d.2.2.2 out q → (0 < d.2.2.2.length → out[0]? = some true) →
    (∀ j : Nat, out[j]? = some true → (j : Int) ∈ q ∨ DoneS d.2.2.2 out j) → declcheck_Reach_l7 d out q = some ((reachV d.2.2.2, ()), ()) := by
  intro c
  induction c with
  | zero =>
    intro out q hc hq h0 hcl
    have : q = [] := List.eq_nil_of_length_eq_zero (by omega)
    subst this
    rw [declcheck_Reach_l7_eq, if_neg (dF (by simp)), reach_closed hq.base h0 (fun i hi => (hcl i hi).resolve_left (by simp))]
  | succ c ih =>
    intro out q hc hq h0 hcl
    cases q with
    | nil => rw [declcheck_Reach_l7_eq, if_neg (dF (by simp)), reach_closed hq.base h0 (fun i hi => (hcl i hi).resolve_left (by simp))]
    | cons o q =>
      obtain ⟨i, rfl, hi⟩ := hq.mem o (by simp)
      have hil : i < d.2.2.2.length := by have := get_true_lt hi; rw [hq.base.len] at this; exact this
      have hs : d.2.2.2[i]? = some d.2.2.2[i] := List.getElem?_eq_getElem hil
      have hq1 : QueueS d.2.2.2 out q := ⟨hq.base, fun o ho => hq.mem o (by simp [ho]), by have := hq.len; simp at this; omega⟩
      obtain ⟨out', q', h1, h2, h3, h4, h5⟩ := pop_loop d h i _ hs (hq.base.sound i hi) _ 0 out q rfl hq1
      have hrun : declcheck_Reach_l7 d out ((i : Int) :: q) = declcheck_Reach_l7 d out' q' := by
        rw [declcheck_Reach_l7_eq, if_pos (dT (by simp)), if_pos ⟨by omega, by simp only [List.length_cons]; omega⟩]
        show (if 0 ≤ (i : Int) ∧ (i : Int) < (d.2.2.2.length : Int) then _ else _) = _
        rw [if_pos ⟨by omega, by omega⟩, if_pos ⟨by omega, by simp only [List.length_cons]; omega⟩]
        show declcheck_Reach_l14 (d.2.2.2.getD i dDeclState).2.1 ((d.2.2.2.getD i dDeclState).2.1.length : Int) 0 d (d.2.2.2.getD i dDeclState) out q = _
        rw [getD_in _ hil]
        exact h1
      rw [hrun]
      refine ih out' q' ?_ h2 (fun hz => h3.mono 0 (h0 hz)) (fun j hj => ?_)
      · have := h3.size
        simp at hc
        omega
      · rcases h3.new j hj with h6 | h6
        · rcases hcl j h6 with h7 | h7
          · rcases List.mem_cons.1 h7 with h8 | h8
            · have : j = i := by omega
              subst this
              refine .inr (fun k hk => ?_)
              obtain ⟨s, e1, r, hr, hrk⟩ := hk
              rw [hs] at e1
              cases e1
              unfold targets at hr
              rcases List.mem_append.1 hr with h9 | h9
              · exact h4 r h9 k hrk
              · split at h9
                · rename_i he
                  simp at h9
                  subst h9
                  exact h5 he k hrk
                · simp at h9
            · exact .inl (h3.keep _ h8)
          · exact .inr (h7.mono h3.mono)
        · exact .inl h6

theorem rep_get {n j : Nat} : ¬ (List.replicate n false)[j]? = some true := by
  rw [List.getElem?_replicate]
  split <;> simp

theorem reach_eq (d : TDecl) (h : okDecl d) : declcheck_Reach d = some ((reachV d.2.2.2, ()), ()) := by
  unfold declcheck_Reach
  have hd := h.1
  have hb0 : BaseS d.2.2.2 (List.replicate d.2.2.2.length false) := ⟨by simp, fun j hj => absurd hj rep_get⟩
  rw [if_pos ⟨.inr rfl, by omega, by omega, by omega⟩, Int.toNat_natCast]
  by_cases h0 : 0 < d.2.2.2.length
  · have hq0 : QueueS d.2.2.2 (List.replicate d.2.2.2.length false) [] := ⟨hb0, fun o ho => by simp at ho, by rw [falses_rep]; simp⟩
    obtain ⟨out', q', h1, h2, h3, h4⟩ := visit_eq d.2.2.2 (some 0) _ [] hd hq0 (fun j hj => by cases hj; exact ⟨h0, .zero h0⟩)
    rw [if_pos (dT (by simp; omega)), show declcheck_Reach_1 0 (List.replicate d.2.2.2.length false) [] = _ from h1]
    simp only [Option.bind_some]
    rw [declcheck_Reach_l4_eq]
    refine bfs_eq d h _ out' q' (Nat.le_refl _) h2 (fun _ => h4 0 rfl) (fun j hj => ?_)
    rcases h3.new j hj with h5 | h5
    · exact absurd h5 rep_get
    · exact .inl h5
  · rw [if_neg (dF (by simp only [List.length_replicate]; omega)), declcheck_Reach_l4_eq]
    exact bfs_eq d h _ _ [] (Nat.le_refl _) ⟨hb0, fun o ho => by simp at ho, by rw [falses_rep]; simp⟩ (fun q => absurd q h0) (fun j hj => absurd hj rep_get)

/-! ### the specification: rounds -/
theorem mark_eq (d : TDecl) (r : TRule) (out : List Bool) (h : okDecl d) (hb : BaseS d.2.2.2 out) (hr : ∀ j, findN d.2.2.2 r.2.2.1 = some j → ReachS d.2.2.2 j) :
    ∃ out', ref35_mark d r out = some ((), (out', ())) ∧ BaseS d.2.2.2 out' ∧ MonoS out out' ∧ ∀ j, findN d.2.2.2 r.2.2.1 = some j → out'[j]? = some true := by
  unfold ref35_mark
  rw [rfind_eq d _ h.1]
  simp only [Option.bind_some]
  cases hf : findN d.2.2.2 r.2.2.1 with
  | none => exact ⟨out, if_neg (dF (by simp [optI])), hb, MonoS.refl _, fun j hj => by cases hj⟩
  | some j =>
    have hj := findN_lt hf
    have hl := hb.len
    refine ⟨out.set j true, ?_, hb.set (hr j hf), MonoS.set _ _, fun k hk => ?_⟩
    · show (if decide ((j : Int) ≥ 0) = true then _ else _) = _
      rw [if_pos (dT (by omega)), if_pos ⟨by simp [optI], by simp [optI]; omega⟩]
      rfl
    · cases hk
      rw [List.getElem?_set_self (by omega)]

theorem round_rules (d : TDecl) (h : okDecl d) (n : Int) (i : Nat) (s : TDeclState) (hs : d.2.2.2[i]? = some s) (hri : ReachS d.2.2.2 i) : ∀ (rs : List TRule) (k : Nat) (out : List Bool), s.2.1.drop k = rs → BaseS d.2.2.2 out →
    ∃ out', ref35_Reach_l20 n i k d out s = ref35_Reach_l11 n ((i + 1 : Nat) : Int) d out' ∧ BaseS d.2.2.2 out' ∧ MonoS out out' ∧
      (∀ r ∈ rs, ∀ j, findN d.2.2.2 r.2.2.1 = some j → out'[j]? = some true) ∧ (s.2.2.1 = true → ∀ j, findN d.2.2.2 s.2.2.2.2.2.1 = some j → out'[j]? = some true) := by
  have hsm := List.mem_of_getElem? hs
  have hil := (List.getElem?_eq_some_iff.1 hs).1
  have hd := h.1
  obtain ⟨hsl, _, _⟩ := h.2 s hsm
  intro rs
  induction rs with
  | nil =>
    intro k out hk hq
    have := drop_nil hk
    rw [ref35_Reach_l20_eq, if_neg (dF (by omega)), w64a i (by omega)]
    by_cases he : s.2.2.1 = true
    · obtain ⟨out', h1, h2, h3, h4⟩ := mark_eq d s.2.2.2 out h hq (fun j hj => .step hri ⟨s, hs, s.2.2.2, by simp [targets, he], hj⟩)
      refine ⟨out', ?_, h2, h3, fun r hr => by simp at hr, fun _ => h4⟩
      rw [if_pos he, h1]
      rfl
    · exact ⟨out, by rw [if_neg he], hq, MonoS.refl _, fun r hr => by simp at hr, fun h => absurd h he⟩
  | cons r rs ih =>
    intro k out hk hq
    have h1 := drop_lt hk
    have hr : s.2.1.getD (k : Int).toNat dRule = r := getD_drop hk
    obtain ⟨out1, h2, h3, h4, h5⟩ := mark_eq d r out h hq (fun j hj => .step hri ⟨s, hs, r, by simp [targets, mem_drop hk], hj⟩)
    obtain ⟨out2, h6, h7, h8, h9, h10⟩ := ih (k + 1) out1 (dropS hk) h3
    refine ⟨out2, ?_, h7, h4.trans h8, fun r' hr' j hj => ?_, h10⟩
    · rw [ref35_Reach_l20_eq, if_pos (dT (by omega)), if_pos ⟨by omega, by omega⟩, hr, h2]
      simp only [Option.bind_some]
      rw [w64a k (by omega)]
      exact h6
    · rcases List.mem_cons.1 hr' with rfl | hr'
      · exact h8 j (h5 j hj)
      · exact h9 r' hr' j hj

theorem round_states (d : TDecl) (h : okDecl d) (n : Int) : ∀ (c i : Nat) (out : List Bool), c = d.2.2.2.length - i → i ≤ d.2.2.2.length → BaseS d.2.2.2 out →
    ∃ out', ref35_Reach_l11 n i d out = ref35_Reach_l6 (IntKind.i64.wrap (n + 1)) d out' ∧ BaseS d.2.2.2 out' ∧ MonoS out out' ∧ (∀ j, i ≤ j → out[j]? = some true → DoneS d.2.2.2 out' j) := by
  have hd := h.1
  intro c
  induction c with
  | zero =>
    intro i out hc hi hb
    refine ⟨out, ?_, hb, MonoS.refl _, fun j hj ho => ?_⟩
    · rw [ref35_Reach_l11_eq, if_neg (dF (by omega))]
    · have := get_true_lt ho; rw [hb.len] at this; omega
  | succ c ih =>
    intro i out hc hi hb
    have hil : i < d.2.2.2.length := by omega
    have hl := hb.len
    have hio : i < out.length := by omega
    rw [ref35_Reach_l11_eq, if_pos (dT (by omega)), if_pos ⟨by omega, by omega⟩, show out.getD (i : Int).toNat false = out[i] from getD_in _ hio, w64a i (by omega)]
    cases e : out[i] with
    | false =>
      obtain ⟨out', h1, h2, h3, h4⟩ := ih (i + 1) out (by omega) (by omega) hb
      refine ⟨out', by rw [if_pos (by simp)]; exact h1, h2, h3, fun j hj ho => ?_⟩
      by_cases q : j = i
      · subst q; rw [List.getElem?_eq_getElem hio, e] at ho; simp at ho
      · exact h4 j (by omega) ho
    | true =>
      have hs : d.2.2.2[i]? = some d.2.2.2[i] := List.getElem?_eq_getElem hil
      have hi1 : out[i]? = some true := by rw [List.getElem?_eq_getElem hio, e]
      obtain ⟨out1, h1, h2, h3, h4, h5⟩ := round_rules d h n i _ hs (hb.sound i hi1) _ 0 out rfl hb
      obtain ⟨out2, h6, h7, h8, h9⟩ := ih (i + 1) out1 (by omega) (by omega) h2
      refine ⟨out2, ?_, h7, h3.trans h8, fun j hj ho => ?_⟩
      · rw [if_neg (by simp), if_pos ⟨by omega, by omega⟩, show d.2.2.2.getD (i : Int).toNat dDeclState = d.2.2.2[i] from getD_in _ hil]
        exact h1.trans h6
      · by_cases q : j = i
        · subst q
          intro k hk
          refine h8 k ?_
          obtain ⟨s, e1, r, hr, hrk⟩ := hk
          rw [hs] at e1
          cases e1
          unfold targets at hr
          rcases List.mem_append.1 hr with h10 | h10
          · exact h4 r h10 k hrk
          · split at h10
            · rename_i he
              simp at h10
              subst h10
              exact h5 he k hrk
            · simp at h10
        · exact h9 j (by omega) (h3 j ho)

theorem rounds_eq (d : TDecl) (h : okDecl d) (hn : 0 < d.2.2.2.length) : ∀ (c k : Nat) (out : List Bool), c = d.2.2.2.length - k → k ≤ d.2.2.2.length → BaseS d.2.2.2 out → out[0]? = some true →
    (falses out + k + 1 ≤ d.2.2.2.length ∨ ∀ i : Nat, out[i]? = some true → DoneS d.2.2.2 out i) → ref35_Reach_l6 k d out = some ((reachV d.2.2.2, ()), ()) := by
  have hd := h.1
  intro c
  induction c with
  | zero =>
    intro k out hc hk hb h0 hcl
    have : k = d.2.2.2.length := by omega
    subst this
    rw [ref35_Reach_l6_eq, if_neg (dF (by omega)), reach_closed hb (fun _ => h0) (hcl.resolve_left (by omega))]
  | succ c ih =>
    intro k out hc hk hb h0 hcl
    obtain ⟨out', h1, h2, h3, h4⟩ := round_states d h k _ 0 out rfl (by omega) hb
    rw [ref35_Reach_l6_eq, if_pos (dT (by omega))]
    refine h1.trans ?_
    rw [w64a k (by omega)]
    refine ih (k + 1) out' (by omega) (by omega) h2 (h3 0 h0) ?_
    obtain ⟨h5, h6⟩ := falses_mono (a := out) (b := out') (by rw [hb.len, h2.len]) h3
    by_cases q : falses out' = falses out
    · have e := h6 q
      subst e
      exact .inr (fun i hi => h4 i (Nat.zero_le _) hi)
    · rcases hcl with h7 | h7
      · exact .inl (by omega)
      · refine .inr (fun i hi => ?_)
        -- closed already: nothing new is marked
        have e : out = reachV d.2.2.2 := reach_closed hb (fun _ => h0) h7
        have hi2 : out[i]? = some true := by
          rw [e, reachV_get]
          exact ⟨by have := get_true_lt hi; rw [h2.len] at this; exact this, h2.sound i hi⟩
        exact (h7 i hi2).mono h3

theorem rreach_eq (d : TDecl) (h : okDecl d) : ref35_Reach d = some ((reachV d.2.2.2, ()), ()) := by
  unfold ref35_Reach
  have hd := h.1
  have hb0 : BaseS d.2.2.2 (List.replicate d.2.2.2.length false) := ⟨by simp, fun j hj => absurd hj rep_get⟩
  rw [if_pos ⟨.inr rfl, by omega, by omega, by omega⟩, Int.toNat_natCast]
  by_cases h0 : 0 < d.2.2.2.length
  · have hget : (List.replicate d.2.2.2.length false)[0]? = some false := by rw [List.getElem?_replicate, if_pos h0]
    have hf := falses_set _ 0 hget
    rw [falses_rep] at hf
    rw [if_pos (dT (by simp; omega)), if_pos ⟨by omega, by simp; omega⟩, ref35_Reach_l2_eq]
    refine rounds_eq d h h0 _ 0 _ rfl (by omega) (hb0.set (.zero h0)) ?_ (.inl (by omega))
    rw [List.getElem?_set_self (by simpa using h0)]
  · have e : d.2.2.2.length = 0 := by omega
    rw [if_neg (dF (by simp only [List.length_replicate]; omega)), ref35_Reach_l2_eq, ref35_Reach_l6_eq, if_neg (dF (by omega)), reach_closed hb0 (fun q => absurd q h0) (fun j hj => absurd hj rep_get)]

end Go.Proofs.Ytgjimkgehbppbaa
end

section
/-
Ytgjimkgehbppbaa: signalbench.decl.most, as one plain function, its equations, its contract. No condition.
-/
set_option maxRecDepth 100000
set_option linter.unusedVariables false
set_option maxHeartbeats 4000000
open Go Go.AM
namespace Go.Proofs.Ytgjimkgehbppbaa
noncomputable section
def decl_most_D : FD := ⟨T, lookC [], [], (Try.f101.body.getD .skip), Try.f101.results.toList, ⟨[.row (.cons .str (.cons (.int .i64) (.cons (.int .i64) (.sl (.cons .str (.cons (.sl (.cons (.int .i64) (.cons (.int .i64) (.cons .str (.cons .bool (.sl (.cons (.int .i64) (.int .i64)))))))) (.cons .bool (.cons (.int .i64) (.cons (.int .i64) (.cons .str (.cons .bool (.sl (.cons (.int .i64) (.int .i64))))))))))))))], []⟩, ⟨[.one (.int .i64)], []⟩, []⟩
def decl_most (d : TDecl) : (Option ((Int × Unit) × Unit)) :=
  if (d.2.1 == 2) = true then
    some ((1, ()), ())
  else
    some ((255, ()), ())
def fc101 : FC := ⟨⟨[.row (.cons .str (.cons (.int .i64) (.cons (.int .i64) (.sl (.cons .str (.cons (.sl (.cons (.int .i64) (.cons (.int .i64) (.cons .str (.cons .bool (.sl (.cons (.int .i64) (.int .i64)))))))) (.cons .bool (.cons (.int .i64) (.cons (.int .i64) (.cons .str (.cons .bool (.sl (.cons (.int .i64) (.int .i64))))))))))))))], []⟩, ⟨[.one (.int .i64)], []⟩, fun x => decl_most x.1.1⟩
theorem con101 : Contract Try.prog 101 fc101 :=
  decl_most_D.contract tok (cok_of (l := []) trivial) mixed (fn' := Try.f101) (by kernel_rfl) (by kernel_rfl) rfl (by kernel_rfl) (fun x => (FD.fn_eq _ _).trans (by kernel_rfl))
end
end Go.Proofs.Ytgjimkgehbppbaa
end

section
/-
Ytgjimkgehbppbaa: signalbench.decl.act, as one plain function, its equations, its contract. No condition.
-/
set_option maxRecDepth 100000
set_option linter.unusedVariables false
set_option maxHeartbeats 4000000
open Go Go.AM
namespace Go.Proofs.Ytgjimkgehbppbaa
noncomputable section
def decl_act_F3 : FSh := ⟨[(1, .one (.ptr 0 0)), (4, .one (.int .i64)), (5, .one .bool)], [.boxr (.cons (.int .i64) (.int .i64))]⟩
def decl_act_F7 : FSh := ⟨[(1, .one (.ptr 0 0)), (4, .one (.int .i64)), (11, .one .bool)], [.boxr (.cons (.int .i64) (.int .i64))]⟩
def decl_act_D : FD := ⟨T, lookC [], [7, 3], (Try.f118.body.getD .skip), Try.f118.results.toList, ⟨[.row (.cons (.int .i64) (.int .i64))], []⟩, ⟨[.one (.int .i64)], []⟩, [(3, decl_act_F3), (7, decl_act_F7)]⟩
def decl_act_l3 (t4 : Int) (t5 : Bool) (h0 : TAct) : (Option ((Int × Unit) × Unit)) := decl_act_D.lab 3 decl_act_F3 (((), t4, t5, ()), (h0, ()))
def decl_act_l7 (t4 : Int) (t11 : Bool) (h0 : TAct) : (Option ((Int × Unit) × Unit)) := decl_act_D.lab 7 decl_act_F7 (((), t4, t11, ()), (h0, ()))
theorem decl_act_l3_eq (t4 : Int) (t5 : Bool) (h0 : TAct) : decl_act_l3 t4 t5 h0 =
  if t5 = true then
    if (h0.2 != 0) = true then
      some ((1, ()), ())
    else
      some ((0, ()), ())
  else
    if (t4 == 3) = true then
      decl_act_l7 t4 true h0
    else
      if (t4 == 4) = true then
        decl_act_l7 t4 true h0
      else
        decl_act_l7 t4 (t4 == 5) h0 := (FD.lab_eq _ _ _ _).trans (by kernel_rfl)
theorem decl_act_l7_eq (t4 : Int) (t11 : Bool) (h0 : TAct) : decl_act_l7 t4 t11 h0 =
  if t11 = true then
    if (decide (h0.2 < 0)) = true then
      some ((2, ()), ())
    else
      if (decide (h0.2 > 255)) = true then
        some ((2, ()), ())
      else
        some ((0, ()), ())
  else
    if (t4 == 6) = true then
      if (decide (h0.2 < 1)) = true then
        some ((2, ()), ())
      else
        if (decide (h0.2 > 12)) = true then
          some ((2, ()), ())
        else
          some ((0, ()), ())
    else
      some ((1, ()), ()) := (FD.lab_eq _ _ _ _).trans (by kernel_rfl)
def decl_act (a : TAct) : (Option ((Int × Unit) × Unit)) :=
  if (a.1 == 1) = true then
    decl_act_l3 a.1 true a
  else
    decl_act_l3 a.1 (a.1 == 2) a
def fc118 : FC := ⟨⟨[.row (.cons (.int .i64) (.int .i64))], []⟩, ⟨[.one (.int .i64)], []⟩, fun x => decl_act x.1.1⟩
theorem con118 : Contract Try.prog 118 fc118 :=
  decl_act_D.contract tok (cok_of (l := []) trivial) mixed (fn' := Try.f118) (by kernel_rfl) (by kernel_rfl) rfl (by kernel_rfl) (fun x => (FD.fn_eq _ _).trans (by kernel_rfl))
end
end Go.Proofs.Ytgjimkgehbppbaa
end

section
/-
Ytgjimkgehbppbaa: signalbench.decl.target, as one plain function, its equations, its contract. No condition.
-/
set_option maxRecDepth 100000
set_option linter.unusedVariables false
set_option maxHeartbeats 4000000
open Go Go.AM
namespace Go.Proofs.Ytgjimkgehbppbaa
noncomputable section
def decl_target_F9 : FSh := ⟨[(18, .one (.sl (.cons (.int .i64) (.int .i64)))), (19, .one (.int .i64)), (20, .one (.int .i64))], []⟩
def decl_target_D : FD := ⟨T, lookC [(28, fc28), (118, fc118)], [], (Try.f102.body.getD .skip), Try.f102.results.toList, ⟨[.row (.cons .str (.cons (.int .i64) (.cons (.int .i64) (.sl (.cons .str (.cons (.sl (.cons (.int .i64) (.cons (.int .i64) (.cons .str (.cons .bool (.sl (.cons (.int .i64) (.int .i64)))))))) (.cons .bool (.cons (.int .i64) (.cons (.int .i64) (.cons .str (.cons .bool (.sl (.cons (.int .i64) (.int .i64)))))))))))))), .row (.cons (.int .i64) (.cons (.int .i64) (.cons .str (.cons .bool (.sl (.cons (.int .i64) (.int .i64)))))))], []⟩, ⟨[.one (.int .i64)], []⟩, [(9, decl_target_F9)]⟩
def decl_target_l9 (t18 : (List TAct)) (t19 : Int) (t20 : Int) : (Option ((Int × Unit) × Unit)) := decl_target_D.lab 9 decl_target_F9 ((t18, t19, t20, ()), ())
theorem decl_target_l9_eq (t18 : (List TAct)) (t19 : Int) (t20 : Int) : decl_target_l9 t18 t19 t20 =
  if (decide (t20 < t19)) = true then
    if 0 ≤ t20 ∧ t20 < (t18.length : Int) then
      (decl_act (t18.getD t20.toNat dAct)).bind fun y1 =>
        if (y1.1.1 != 0) = true then
          some ((y1.1.1, ()), ())
        else
          decl_target_l9 t18 t19 (IntKind.i64.wrap (t20 + 1))
    else
      none
  else
    some ((0, ()), ()) := (FD.lab_eq _ _ _ _).trans (by kernel_rfl)
def decl_target (d : TDecl) (r : TRule) : (Option ((Int × Unit) × Unit)) :=
  (decl_Find d r.2.2.1).bind fun y1 =>
    if (decide (y1.1.1 < 0)) = true then
      some ((8, ()), ())
    else
      if (decide ((r.2.2.2.2.length : Int) > 8)) = true then
        some ((6, ()), ())
      else
        decl_target_l9 r.2.2.2.2 (r.2.2.2.2.length : Int) 0
def fc102 : FC := ⟨⟨[.row (.cons .str (.cons (.int .i64) (.cons (.int .i64) (.sl (.cons .str (.cons (.sl (.cons (.int .i64) (.cons (.int .i64) (.cons .str (.cons .bool (.sl (.cons (.int .i64) (.int .i64)))))))) (.cons .bool (.cons (.int .i64) (.cons (.int .i64) (.cons .str (.cons .bool (.sl (.cons (.int .i64) (.int .i64)))))))))))))), .row (.cons (.int .i64) (.cons (.int .i64) (.cons .str (.cons .bool (.sl (.cons (.int .i64) (.int .i64)))))))], []⟩, ⟨[.one (.int .i64)], []⟩, fun x => decl_target x.1.1 x.1.2.1⟩
theorem con102 : Contract Try.prog 102 fc102 :=
  decl_target_D.contract tok (cok_of (l := [(28, fc28), (118, fc118)]) ⟨con28, con118, trivial⟩) mixed (fn' := Try.f102) (by kernel_rfl) (by kernel_rfl) rfl (by kernel_rfl) (fun x => (FD.fn_eq _ _).trans (by kernel_rfl))
end
end Go.Proofs.Ytgjimkgehbppbaa
end

section
/-
Ytgjimkgehbppbaa: signalbench.decl.rules, as one plain function, its equations, its contract. No condition.
-/
set_option maxRecDepth 100000
set_option linter.unusedVariables false
set_option maxHeartbeats 4000000
open Go Go.AM
namespace Go.Proofs.Ytgjimkgehbppbaa
noncomputable section
def decl_rules_F3 : FSh := ⟨[(2, .one (.ptr 0 0)), (3, .one (.ptr 1 0)), (10, .one (.sl (.cons (.int .i64) (.cons (.int .i64) (.cons .str (.cons .bool (.sl (.cons (.int .i64) (.int .i64))))))))), (11, .one (.int .i64)), (12, .one (.int .i64))], [.boxr (.cons .str (.cons (.int .i64) (.cons (.int .i64) (.sl (.cons .str (.cons (.sl (.cons (.int .i64) (.cons (.int .i64) (.cons .str (.cons .bool (.sl (.cons (.int .i64) (.int .i64)))))))) (.cons .bool (.cons (.int .i64) (.cons (.int .i64) (.cons .str (.cons .bool (.sl (.cons (.int .i64) (.int .i64)))))))))))))), .boxr (.cons .str (.cons (.sl (.cons (.int .i64) (.cons (.int .i64) (.cons .str (.cons .bool (.sl (.cons (.int .i64) (.int .i64)))))))) (.cons .bool (.cons (.int .i64) (.cons (.int .i64) (.cons .str (.cons .bool (.sl (.cons (.int .i64) (.int .i64))))))))))]⟩
def decl_rules_D : FD := ⟨T, lookC [(101, fc101), (102, fc102)], [], (Try.f85.body.getD .skip), Try.f85.results.toList, ⟨[.row (.cons .str (.cons (.int .i64) (.cons (.int .i64) (.sl (.cons .str (.cons (.sl (.cons (.int .i64) (.cons (.int .i64) (.cons .str (.cons .bool (.sl (.cons (.int .i64) (.int .i64)))))))) (.cons .bool (.cons (.int .i64) (.cons (.int .i64) (.cons .str (.cons .bool (.sl (.cons (.int .i64) (.int .i64)))))))))))))), .row (.cons .str (.cons (.sl (.cons (.int .i64) (.cons (.int .i64) (.cons .str (.cons .bool (.sl (.cons (.int .i64) (.int .i64)))))))) (.cons .bool (.cons (.int .i64) (.cons (.int .i64) (.cons .str (.cons .bool (.sl (.cons (.int .i64) (.int .i64))))))))))], []⟩, ⟨[.one (.int .i64)], []⟩, [(3, decl_rules_F3)]⟩
def decl_rules_l3 (t10 : (List TRule)) (t11 : Int) (t12 : Int) (h0 : TDecl) (h1 : TDeclState) : (Option ((Int × Unit) × Unit)) := decl_rules_D.lab 3 decl_rules_F3 (((), (), t10, t11, t12, ()), (h0, h1, ()))
theorem decl_rules_l3_eq (t10 : (List TRule)) (t11 : Int) (t12 : Int) (h0 : TDecl) (h1 : TDeclState) : decl_rules_l3 t10 t11 t12 h0 h1 =
  if (decide (t12 < t11)) = true then
    if 0 ≤ t12 ∧ t12 < (t10.length : Int) then
      if (decide ((t10.getD t12.toNat dRule).1 < 0)) = true then
        some ((2, ()), ())
      else
        if (decide ((t10.getD t12.toNat dRule).1 > (t10.getD t12.toNat dRule).2.1)) = true then
          some ((2, ()), ())
        else
          (decl_most h0).bind fun y1 =>
            if (decide ((t10.getD t12.toNat dRule).2.1 > y1.1.1)) = true then
              some ((2, ()), ())
            else
              (decl_target h0 (t10.getD t12.toNat dRule)).bind fun y2 =>
                if (y2.1.1 != 0) = true then
                  some ((y2.1.1, ()), ())
                else
                  decl_rules_l3 t10 t11 (IntKind.i64.wrap (t12 + 1)) h0 h1
    else
      none
  else
    if h1.2.2.1 = true then
      if (h1.2.2.2.1 != 0) = true then
        some ((1, ()), ())
      else
        if (h1.2.2.2.2.1 != 0) = true then
          some ((1, ()), ())
        else
          (decl_target h0 h1.2.2.2).bind fun y3 =>
            some ((y3.1.1, ()), ())
    else
      if (h1.2.2.2.1 != 0) = true then
        some ((1, ()), ())
      else
        if (h1.2.2.2.2.1 != 0) = true then
          some ((1, ()), ())
        else
          if (!(h1.2.2.2.2.2.1.toList == (strB []).toList)) = true then
            some ((1, ()), ())
          else
            if h1.2.2.2.2.2.2.1 = true then
              some ((1, ()), ())
            else
              if (decide ((h1.2.2.2.2.2.2.2.length : Int) > 0)) = true then
                some ((1, ()), ())
              else
                some ((0, ()), ()) := (FD.lab_eq _ _ _ _).trans (by kernel_rfl)
def decl_rules (d : TDecl) (s : TDeclState) : (Option ((Int × Unit) × Unit)) :=
  decl_rules_l3 s.2.1 (s.2.1.length : Int) 0 d s
def fc85 : FC := ⟨⟨[.row (.cons .str (.cons (.int .i64) (.cons (.int .i64) (.sl (.cons .str (.cons (.sl (.cons (.int .i64) (.cons (.int .i64) (.cons .str (.cons .bool (.sl (.cons (.int .i64) (.int .i64)))))))) (.cons .bool (.cons (.int .i64) (.cons (.int .i64) (.cons .str (.cons .bool (.sl (.cons (.int .i64) (.int .i64)))))))))))))), .row (.cons .str (.cons (.sl (.cons (.int .i64) (.cons (.int .i64) (.cons .str (.cons .bool (.sl (.cons (.int .i64) (.int .i64)))))))) (.cons .bool (.cons (.int .i64) (.cons (.int .i64) (.cons .str (.cons .bool (.sl (.cons (.int .i64) (.int .i64))))))))))], []⟩, ⟨[.one (.int .i64)], []⟩, fun x => decl_rules x.1.1 x.1.2.1⟩
theorem con85 : Contract Try.prog 85 fc85 :=
  decl_rules_D.contract tok (cok_of (l := [(101, fc101), (102, fc102)]) ⟨con101, con102, trivial⟩) mixed (fn' := Try.f85) (by kernel_rfl) (by kernel_rfl) rfl (by kernel_rfl) (fun x => (FD.fn_eq _ _).trans (by kernel_rfl))
end
end Go.Proofs.Ytgjimkgehbppbaa
end

section
/-
Ytgjimkgehbppbaa: decl.name, by a walk: it tells whether a string is a name; the iterator is new memory. No condition.
-/
open Go Go.AM Go.RowKit
namespace Go.Proofs.Ytgjimkgehbppbaa

/-- The bytes up to here may begin a name. -/
def NameTo (s : ByteArray) (pos : Nat) : Prop := pos ≤ s.size ∧ ((L s).take pos).all wordB = true ∧ (pos = 0 ∨ ∃ c r, L s = c :: r ∧ letterB c = true)

theorem rune_at (s : ByteArray) (pos : Nat) (hp : pos < s.size) : ∃ (b : UInt8) (r wd : Nat), (L s)[pos]? = some b ∧ Utf8.decode s pos = (r, wd) ∧ 1 ≤ wd ∧ ((b.toNat < 128 ∧ r = b.toNat ∧ wd = 1) ∨ (128 ≤ b.toNat ∧ 128 ≤ r)) := by
  refine ⟨s[pos]'hp, (Utf8.decode s pos).1, (Utf8.decode s pos).2, ?_, rfl, ?_, ?_⟩
  · have : pos < (L s).length := by rw [L_len]; exact hp
    rw [List.getElem?_eq_getElem this]
    rfl
  · by_cases ha : (s[pos]'hp).toNat < 128
    · rw [decode_ascii s pos hp ha]; exact Nat.le_refl _
    · exact (decode_high s pos hp (by omega)).2
  · by_cases ha : (s[pos]'hp).toNat < 128
    · rw [decode_ascii s pos hp ha]; exact .inl ⟨ha, rfl, rfl⟩
    · exact .inr ⟨by omega, (decode_high s pos hp (by omega)).1⟩

theorem wordB_num {b : UInt8} : wordB b = true ↔ ((97 ≤ b.toNat ∧ b.toNat ≤ 122) ∨ (48 ≤ b.toNat ∧ b.toNat ≤ 57) ∨ b.toNat = 95) := by
  have : b = 95 ↔ b.toNat = 95 := by rw [← UInt8.toNat_inj]; rfl
  simp [wordB, letterB, digitB, this, or_assoc]

theorem letterB_num {b : UInt8} : letterB b = true ↔ (97 ≤ b.toNat ∧ b.toNat ≤ 122) := by simp [letterB]

theorem name_needs {s : ByteArray} {pos : Nat} {b : UInt8} (h : nameB (L s) = true) (hb : (L s)[pos]? = some b) : (97 ≤ b.toNat ∧ b.toNat ≤ 122) ∨ (pos ≠ 0 ∧ ((48 ≤ b.toNat ∧ b.toNat ≤ 57) ∨ b.toNat = 95)) := by
  cases hL : L s with
  | nil => rw [hL] at hb; simp at hb
  | cons c r =>
    rw [hL, nameB_cons] at h
    simp only [Bool.and_eq_true] at h
    have h1 := List.all_eq_true.1 h.2 b (by rw [hL] at hb; exact List.mem_of_getElem? hb)
    rcases wordB_num.1 h1 with h2 | h2
    · exact .inl h2
    · by_cases hp : pos = 0
      · subst hp
        rw [hL] at hb
        simp only [List.getElem?_cons_zero, Option.some.injEq] at hb
        subst hb
        exact .inl (letterB_num.1 h.1.2)
      · exact .inr ⟨hp, h2⟩

theorem NameTo.step {s : ByteArray} {pos : Nat} {b : UInt8} (h : NameTo s pos) (hb : (L s)[pos]? = some b) (hk : (97 ≤ b.toNat ∧ b.toNat ≤ 122) ∨ (pos ≠ 0 ∧ ((48 ≤ b.toNat ∧ b.toNat ≤ 57) ∨ b.toNat = 95))) : NameTo s (pos + 1) := by
  have hlt : pos < (L s).length := (List.getElem?_eq_some_iff.1 hb).1
  have hlt' := hlt
  rw [L_len] at hlt'
  refine ⟨by omega, ?_, .inr ?_⟩
  · rw [List.take_add_one, hb, List.all_append, h.2.1]
    simp only [Option.toList_some, Bool.true_and, List.all_cons, List.all_nil, Bool.and_true]
    refine wordB_num.2 ?_
    omega
  · rcases h.2.2 with h0 | h0
    · subst h0
      cases hL : L s with
      | nil => rw [hL] at hb; simp at hb
      | cons c r =>
        rw [hL] at hb
        simp only [List.getElem?_cons_zero, Option.some.injEq] at hb
        subst hb
        exact ⟨c, r, rfl, letterB_num.2 (by omega)⟩
    · exact h0

theorem NameTo.whole {s : ByteArray} (h : NameTo s s.size) (h0 : s.size ≠ 0) (h16 : s.size ≤ 16) : nameB (L s) = true := by
  obtain ⟨_, h2, h3⟩ := h
  rcases h3 with h3 | ⟨c, r, hL, hc⟩
  · exact absurd h3 h0
  · rw [← L_len, List.take_length, hL] at h2
    have hl := size_of hL
    simp only [List.length_cons] at hl
    rw [hL, nameB_cons, hc, h2, decide_eq_true (by omega : r.length + 1 ≤ 16)]
    rfl

theorem iter_below (s : ByteArray) (w : World) (pos : Nat) : Below w.heap.size w (w.iter s pos) := (Below.refl _ _).alloc (Nat.le_refl _) _

theorem name_false {s : ByteArray} (h : nameB (L s) ≠ true) : nameB (L s) = false := by
  cases e : nameB (L s)
  · rfl
  · exact absurd e h

set_option maxRecDepth 1000000 in
theorem name_loop (s : ByteArray) (w : World) (h1 : ¬ s.toList = []) (h1' : s.toList.isEmpty = false) (h0 : s.size ≠ 0) (h2 : ¬ (16 : Int) < s.size) :
    Calls Try.prog 84 #[.string s] w fun e w' => e = .returned (.bool (nameB (L s))) ∧ Below w.heap.size w w' := by
  go_enter Try.func84, Try.ntmps84
  go_wp2
  go_loopw [] (fun w' => ∃ pos : Nat, w' = w.iter s pos ∧ NameTo s pos) (fun w' => s.size - w'.iterPos w.heap.size)
  case atStart => exact ⟨0, rfl, by omega, rfl, .inl rfl⟩
  case round =>
    obtain ⟨pos, rfl, hg⟩ := hrel
    by_cases hp : pos < s.size
    · obtain ⟨b, r, wd, hb, hd, hwd, hcase⟩ := rune_at s pos hp
      have hnx : ∀ ty, (Instr.next (.pointer (some ⟨w.heap.size, 0, none⟩)) true ty).run Try.prog (w.iter s pos) = .ok (.tuple #[.bool true, .int .i64 pos, .int .i32 r]) (w.iter s (pos + wd)) := fun ty => by
        rw [run_next_any w s pos ty hp, hd]
      clear hd
      go_wp2
      all_goals try simp only [beq_iff_eq, bne_iff_ne, ne_eq, Bool.not_eq_true', decide_eq_false_iff_not, decide_eq_true_eq, Bool.not_eq_false', beq_eq_false_iff_ne, bne_eq_false_iff_eq, Int.natCast_eq_zero] at *
      all_goals first
        | (go_ret
           refine ⟨?_, iter_below _ _ _⟩
           rw [name_false (fun hn => by have := name_needs hn hb; omega)]
           rfl)
        | (have hk : (97 ≤ b.toNat ∧ b.toNat ≤ 122) ∨ (pos ≠ 0 ∧ ((48 ≤ b.toNat ∧ b.toNat ≤ 57) ∨ b.toNat = 95)) := by omega
           have hw1 : wd = 1 := by omega
           subst hw1
           refine ⟨⟨pos + 1, ?_, hg.step hb hk⟩, ?_⟩
           · first | rfl | (subst_vars; rfl)
           · simp; omega)
    · have hnx : ∀ ty, (Instr.next (.pointer (some ⟨w.heap.size, 0, none⟩)) true ty).run Try.prog (w.iter s pos) = _ := fun ty => run_next_end w s pos ty hp
      go_wp2
      go_ret
      have hps : pos = s.size := by have := hg.1; omega
      subst hps
      rw [hg.whole h0 (by omega)]
      exact ⟨rfl, iter_below _ _ _⟩

set_option maxRecDepth 1000000 in
theorem name_none (s : ByteArray) (w : World) (h1 : s.toList = []) :
    Calls Try.prog 84 #[.string s] w fun e w' => e = .returned (.bool false) ∧ w' = w := by
  go_enter Try.func84, Try.ntmps84
  go_wp2
  all_goals first
    | (go_ret; exact ⟨rfl, rfl⟩)
    | (rename_i q; exact absurd h1 q)

set_option maxRecDepth 1000000 in
theorem name_long (s : ByteArray) (w : World) (h1 : ¬ s.toList = []) (h1' : s.toList.isEmpty = false) (h2 : (16 : Int) < s.size) :
    Calls Try.prog 84 #[.string s] w fun e w' => e = .returned (.bool false) ∧ w' = w := by
  go_enter Try.func84, Try.ntmps84
  go_wp2
  go_ret
  exact ⟨rfl, rfl⟩

theorem name_any (s : ByteArray) (w : World) : Calls Try.prog 84 #[.string s] w fun e w' => e = .returned (.bool (nameB (L s))) ∧ Below w.heap.size w w' := by
  cases hL : L s with
  | nil =>
    refine (name_none s w (by rw [toL]; exact hL)).mono ?_
    rintro e w' ⟨rfl, rfl⟩
    exact ⟨rfl, Below.refl _ _⟩
  | cons c r =>
    have hl := size_of hL
    simp only [List.length_cons] at hl
    have h1 : ¬ s.toList = [] := by rw [toL, hL]; simp
    have h1' : s.toList.isEmpty = false := by rw [toL, hL]; rfl
    by_cases h2 : s.size ≤ 16
    · rw [← hL]
      exact name_loop s w h1 h1' (by omega) (by omega)
    · refine (name_long s w h1 h1' (by omega)).mono ?_
      rintro e w' ⟨rfl, rfl⟩
      rw [nameB_cons, decide_eq_false (by omega : ¬ r.length + 1 ≤ 16)]
      exact ⟨rfl, Below.refl _ _⟩

def decl_name (s : ByteArray) : Option ((Bool × Unit) × Unit) := some ((nameB (L s), ()), ())
def fc84 : FC := ⟨⟨[.one .str], []⟩, ⟨[.one .bool], []⟩, fun x => decl_name x.1.1⟩
theorem con84 : Contract Try.prog 84 fc84 :=
  Contract.below (P := Try.prog) (f := 84) (sa := [.one .str]) (sr := [.one .bool]) (fn := Try.f84) (c := Try.f84.body.getD .skip) (by kernel_rfl) (by kernel_rfl) (by kernel_rfl) (g := fun x => some (nameB (L x.1), ())) (fun w M G x y vals hI hv hg => by
    obtain ⟨s, u⟩ := x
    obtain ⟨vs⟩ := vals
    match vs, hv with
    | [v1], hv =>
      obtain ⟨⟨rfl, _⟩, _⟩ := hv
      cases hg
      refine (name_any s w).mono ?_
      rintro e w' ⟨rfl, hb⟩
      exact ⟨_, rfl, hb, rfl, rfl⟩)

end Go.Proofs.Ytgjimkgehbppbaa
end

section
/-
Ytgjimkgehbppbaa: signalbench.decl.Check, as one plain function, its equations, its contract. No condition.
-/
set_option maxRecDepth 100000
set_option linter.unusedVariables false
set_option maxHeartbeats 4000000
open Go Go.AM
namespace Go.Proofs.Ytgjimkgehbppbaa
noncomputable section
def decl_Check_F4 : FSh := ⟨[(1, .one (.ptr 0 0)), (11, .one .bool)], [.boxr (.cons .str (.cons (.int .i64) (.cons (.int .i64) (.sl (.cons .str (.cons (.sl (.cons (.int .i64) (.cons (.int .i64) (.cons .str (.cons .bool (.sl (.cons (.int .i64) (.int .i64)))))))) (.cons .bool (.cons (.int .i64) (.cons (.int .i64) (.cons .str (.cons .bool (.sl (.cons (.int .i64) (.int .i64))))))))))))))]⟩
def decl_Check_F12 : FSh := ⟨[(1, .one (.ptr 0 0)), (38, .one (.sl (.cons .str (.cons (.sl (.cons (.int .i64) (.cons (.int .i64) (.cons .str (.cons .bool (.sl (.cons (.int .i64) (.int .i64)))))))) (.cons .bool (.cons (.int .i64) (.cons (.int .i64) (.cons .str (.cons .bool (.sl (.cons (.int .i64) (.int .i64)))))))))))), (39, .one (.int .i64)), (40, .one (.int .i64))], [.boxr (.cons .str (.cons (.int .i64) (.cons (.int .i64) (.sl (.cons .str (.cons (.sl (.cons (.int .i64) (.cons (.int .i64) (.cons .str (.cons .bool (.sl (.cons (.int .i64) (.int .i64)))))))) (.cons .bool (.cons (.int .i64) (.cons (.int .i64) (.cons .str (.cons .bool (.sl (.cons (.int .i64) (.int .i64))))))))))))))]⟩
def decl_Check_D : FD := ⟨T, lookC [(28, fc28), (84, fc84), (85, fc85)], [4], (Try.f61.body.getD .skip), Try.f61.results.toList, ⟨[.row (.cons .str (.cons (.int .i64) (.cons (.int .i64) (.sl (.cons .str (.cons (.sl (.cons (.int .i64) (.cons (.int .i64) (.cons .str (.cons .bool (.sl (.cons (.int .i64) (.int .i64)))))))) (.cons .bool (.cons (.int .i64) (.cons (.int .i64) (.cons .str (.cons .bool (.sl (.cons (.int .i64) (.int .i64))))))))))))))], []⟩, ⟨[.one (.int .i64)], []⟩, [(4, decl_Check_F4), (12, decl_Check_F12)]⟩
def decl_Check_l4 (t11 : Bool) (h0 : TDecl) : (Option ((Int × Unit) × Unit)) := decl_Check_D.lab 4 decl_Check_F4 (((), t11, ()), (h0, ()))
def decl_Check_l12 (t38 : (List TDeclState)) (t39 : Int) (t40 : Int) (h0 : TDecl) : (Option ((Int × Unit) × Unit)) := decl_Check_D.lab 12 decl_Check_F12 (((), t38, t39, t40, ()), (h0, ()))
theorem decl_Check_l4_eq (t11 : Bool) (h0 : TDecl) : decl_Check_l4 t11 h0 =
  if t11 = true then
    some ((1, ()), ())
  else
    if (decide ((h0.2.2.2.length : Int) > 32)) = true then
      some ((6, ()), ())
    else
      decl_Check_l12 h0.2.2.2 (h0.2.2.2.length : Int) 0 h0 := (FD.lab_eq _ _ _ _).trans (by kernel_rfl)
theorem decl_Check_l12_eq (t38 : (List TDeclState)) (t39 : Int) (t40 : Int) (h0 : TDecl) : decl_Check_l12 t38 t39 t40 h0 =
  if (decide (t40 < t39)) = true then
    if 0 ≤ t40 ∧ t40 < (t38.length : Int) then
      (decl_name (t38.getD t40.toNat dDeclState).1).bind fun y1 =>
        if (!y1.1.1) = true then
          some ((4, ()), ())
        else
          (decl_Find h0 (t38.getD t40.toNat dDeclState).1).bind fun y2 =>
            if (decide (y2.1.1 < t40)) = true then
              some ((9, ()), ())
            else
              if (decide (((t38.getD t40.toNat dDeclState).2.1.length : Int) > 64)) = true then
                some ((6, ()), ())
              else
                (decl_rules h0 (t38.getD t40.toNat dDeclState)).bind fun y3 =>
                  if (y3.1.1 != 0) = true then
                    some ((y3.1.1, ()), ())
                  else
                    decl_Check_l12 t38 t39 (IntKind.i64.wrap (t40 + 1)) h0
    else
      none
  else
    some ((0, ()), ()) := (FD.lab_eq _ _ _ _).trans (by kernel_rfl)
def decl_Check (d : TDecl) : (Option ((Int × Unit) × Unit)) :=
  (decl_name d.1).bind fun y1 =>
    if (!y1.1.1) = true then
      some ((4, ()), ())
    else
      if (d.2.1 != 2) = true then
        if (d.2.1 != 3) = true then
          decl_Check_l4 true d
        else
          if (d.2.2.1 != 5) = true then
            if (d.2.2.1 != 6) = true then
              decl_Check_l4 true d
            else
              decl_Check_l4 ((d.2.2.2.length : Int) == 0) d
          else
            decl_Check_l4 ((d.2.2.2.length : Int) == 0) d
      else
        if (d.2.2.1 != 5) = true then
          if (d.2.2.1 != 6) = true then
            decl_Check_l4 true d
          else
            decl_Check_l4 ((d.2.2.2.length : Int) == 0) d
        else
          decl_Check_l4 ((d.2.2.2.length : Int) == 0) d
def fc61 : FC := ⟨⟨[.row (.cons .str (.cons (.int .i64) (.cons (.int .i64) (.sl (.cons .str (.cons (.sl (.cons (.int .i64) (.cons (.int .i64) (.cons .str (.cons .bool (.sl (.cons (.int .i64) (.int .i64)))))))) (.cons .bool (.cons (.int .i64) (.cons (.int .i64) (.cons .str (.cons .bool (.sl (.cons (.int .i64) (.int .i64))))))))))))))], []⟩, ⟨[.one (.int .i64)], []⟩, fun x => decl_Check x.1.1⟩
theorem con61 : Contract Try.prog 61 fc61 :=
  decl_Check_D.contract tok (cok_of (l := [(28, fc28), (84, fc84), (85, fc85)]) ⟨con28, con84, con85, trivial⟩) mixed (fn' := Try.f61) (by kernel_rfl) (by kernel_rfl) rfl (by kernel_rfl) (fun x => (FD.fn_eq _ _).trans (by kernel_rfl))
end
end Go.Proofs.Ytgjimkgehbppbaa
end

section
/-
Ytgjimkgehbppbaa: signalbench.signalbenchref34.wrongAct, as one plain function, its equations, its contract. No condition.
-/
set_option maxRecDepth 100000
set_option linter.unusedVariables false
set_option maxHeartbeats 4000000
open Go Go.AM
namespace Go.Proofs.Ytgjimkgehbppbaa
noncomputable section
def ref34_wrongAct_D : FD := ⟨T, lookC [], [], (Try.f119.body.getD .skip), Try.f119.results.toList, ⟨[.row (.cons (.int .i64) (.int .i64))], []⟩, ⟨[.one (.int .i64)], []⟩, []⟩
def ref34_wrongAct (a : TAct) : (Option ((Int × Unit) × Unit)) :=
  if (decide (a.1 < 1)) = true then
    some ((1, ()), ())
  else
    if (decide (a.1 > 6)) = true then
      some ((1, ()), ())
    else
      if (decide (a.1 ≤ 2)) = true then
        if (a.2 != 0) = true then
          some ((1, ()), ())
        else
          if (decide (a.1 ≥ 3)) = true then
            if (decide (a.1 ≤ 5)) = true then
              if (decide (a.2 < 0)) = true then
                some ((2, ()), ())
              else
                if (decide (a.2 > 255)) = true then
                  some ((2, ()), ())
                else
                  if (a.1 == 6) = true then
                    if (decide (a.2 < 1)) = true then
                      some ((2, ()), ())
                    else
                      if (decide (a.2 > 12)) = true then
                        some ((2, ()), ())
                      else
                        some ((0, ()), ())
                  else
                    some ((0, ()), ())
            else
              if (a.1 == 6) = true then
                if (decide (a.2 < 1)) = true then
                  some ((2, ()), ())
                else
                  if (decide (a.2 > 12)) = true then
                    some ((2, ()), ())
                  else
                    some ((0, ()), ())
              else
                some ((0, ()), ())
          else
            if (a.1 == 6) = true then
              if (decide (a.2 < 1)) = true then
                some ((2, ()), ())
              else
                if (decide (a.2 > 12)) = true then
                  some ((2, ()), ())
                else
                  some ((0, ()), ())
            else
              some ((0, ()), ())
      else
        if (decide (a.1 ≥ 3)) = true then
          if (decide (a.1 ≤ 5)) = true then
            if (decide (a.2 < 0)) = true then
              some ((2, ()), ())
            else
              if (decide (a.2 > 255)) = true then
                some ((2, ()), ())
              else
                if (a.1 == 6) = true then
                  if (decide (a.2 < 1)) = true then
                    some ((2, ()), ())
                  else
                    if (decide (a.2 > 12)) = true then
                      some ((2, ()), ())
                    else
                      some ((0, ()), ())
                else
                  some ((0, ()), ())
          else
            if (a.1 == 6) = true then
              if (decide (a.2 < 1)) = true then
                some ((2, ()), ())
              else
                if (decide (a.2 > 12)) = true then
                  some ((2, ()), ())
                else
                  some ((0, ()), ())
            else
              some ((0, ()), ())
        else
          if (a.1 == 6) = true then
            if (decide (a.2 < 1)) = true then
              some ((2, ()), ())
            else
              if (decide (a.2 > 12)) = true then
                some ((2, ()), ())
              else
                some ((0, ()), ())
          else
            some ((0, ()), ())
def fc119 : FC := ⟨⟨[.row (.cons (.int .i64) (.int .i64))], []⟩, ⟨[.one (.int .i64)], []⟩, fun x => ref34_wrongAct x.1.1⟩
theorem con119 : Contract Try.prog 119 fc119 :=
  ref34_wrongAct_D.contract tok (cok_of (l := []) trivial) mixed (fn' := Try.f119) (by kernel_rfl) (by kernel_rfl) rfl (by kernel_rfl) (fun x => (FD.fn_eq _ _).trans (by kernel_rfl))
end
end Go.Proofs.Ytgjimkgehbppbaa
end
